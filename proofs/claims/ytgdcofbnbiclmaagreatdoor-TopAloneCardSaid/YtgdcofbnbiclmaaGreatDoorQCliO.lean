import Derived.Test.YtgdcofbnbiclmaaGreatDoorQValsP
import Derived.Test.YtgdcofbnbiclmaaGreatDoorQHold
import Derived.BigQuiet
namespace Go.Proofs.YtgdcofbnbiclmaaGreatDoor
set_option linter.all false
set_option maxHeartbeats 32000000
open Go.RowKit
theorem whole_mach {w2:World} {b:Nat} {x0 x1 x2 x3:Value} (u0 u1 u2 u3:Value) (R:Blk w2 b 49 #[x0,x1,x2,x3]) :
  Blk ((((w2.setCell ⟨b,0,none⟩ (u0)).setCell ⟨b,1,none⟩ (u1)).setCell ⟨b,2,none⟩ (u2)).setCell ⟨b,3,none⟩ (u3)) b 49 #[u0,u1,u2,u3]∧w2.grownBy ((((w2.setCell ⟨b,0,none⟩ (u0)).setCell ⟨b,1,none⟩ (u1)).setCell ⟨b,2,none⟩ (u2)).setCell ⟨b,3,none⟩ (u3)) (some b)∧((((w2.setCell ⟨b,0,none⟩ (u0)).setCell ⟨b,1,none⟩ (u1)).setCell ⟨b,2,none⟩ (u2)).setCell ⟨b,3,none⟩ (u3)).heap.size=w2.heap.size:=by
 have R0:=R.set' (i:=0) (u:=u0) rfl
 have R1:=R0.set' (i:=1) (u:=u1) rfl
 have R2:=R1.set' (i:=2) (u:=u2) rfl
 have R3:=R2.set' (i:=3) (u:=u3) rfl
 exact ⟨R3,grown_trans (grown_trans (grown_trans (grown_setRow_cell w2 b 0 u0) (grown_setRow_cell _ b 1 u1)) (grown_setRow_cell _ b 2 u2)) (grown_setRow_cell _ b 3 u3),by simp⟩
theorem idBad_at {l:List Cl} {j:Nat} {x:Cl} (hj:j<l.length):idBad l (j+1) x=decide (x.id≤l[j].id):=by
 simp only [idBad,List.getElem?_eq_getElem hj]
set_option maxRecDepth 100000 in
theorem CheckM_any (m:Mach) (A B:Option Addr) (na ca nb cb:Nat) (w:World) (hE:StSl w A na ca m.ents) (hC:ClSl w B nb cb m.clis) (hna:na≤1048576) (hnb:nb≤1048576) (hsm:∀ x∈m.ents,small x.val 1048576) (hcl:∀ x∈m.clis,x.rep.text.size≤1048576∧x.rep.list.length≤1048576) :
  Calls Tryz.prog 56 #[.agg #[.int .i64 m.now,.slice A na ca,.int .i64 m.next,.slice B nb cb]] w fun e w'=>e = .returned (.int .i64 (checkMach m))∧Below w.heap.size w w':=by
 have KS:=hide (fun w' (hb:Below w.heap.size w w')=>CheckS_any m.now A na ca m.ents w' (hE.bl hb) hna hsm)
 have hln:=hC.len
 have HCL:=hide hcl
 have HG:=hide (@mach_good m)
 have HB:=hide (fun k hk h=>@mach_bad m k hk h)
 obtain ⟨R,hR⟩:∃ R,R=checkMach m:=⟨_,rfl⟩
 have h13:checkStore m.now m.ents≠0∨m.next<1∨1048577<m.next∨4<m.clis.length→R=13:=fun h=>by rw [hR];unfold checkMach;rw [if_pos h]
 have H13:=hide h13
 rw [←hR]
 rw [←hR] at HG HB
 obtain ⟨now,ents,next,clis⟩:=m
 simp only at KS hln HCL HG HB H13 hC ⊢
 generalize checkStore now ents=cs at *
 clear hR h13 hcl hE hsm
 have T0:=Blk.new w 49 #[.int .i64 now,.slice A na ca,.int .i64 next,.slice B nb cb]
 have q0:Below w.heap.size w (w.alloc (.cells #[.int .i64 now,.slice A na ca,.int .i64 next,.slice B nb cb] 49)):=below_by
 go_enter Tryz.func56,Tryz.ntmps56
 go_wp2_with fail
 refine (KS.out _ q0).mono ?_
 rintro e w1 ⟨rfl,hb1⟩
 replace T0:=T0.bl hb1
 have q:Below w.heap.size w w1:=below_by
 clear hb1 q0 KS
 have lt0:=T0.lt
 by_cases hcs:cs=0
 ·subst hcs
  (try clear cT0 fT0);have cT0:=T0.cell;have fT0:=T0.frozen
  by_cases hn1:next<1
  ·have hr:=H13.out (.inr (.inl hn1))
   subst hr
   go_wp2_with fail
   go_ret
   exact ⟨rfl,below_by⟩
  ·by_cases hn2:1048577<next
   ·have hr:=H13.out (.inr (.inr (.inl hn2)))
    subst hr
    go_wp2_with fail
    go_ret
    exact ⟨rfl,below_by⟩
   ·by_cases hn4:4<clis.length
    ·have hr:=H13.out (.inr (.inr (.inr hn4)))
     subst hr
     have hn4':(4:Int)<(nb:Int):=by omega
     go_wp2_with fail
     go_ret
     exact ⟨rfl,below_by⟩
    ·have hn4':¬ (4:Int)<(nb:Int):=by omega
     have HG2:=hide (HG.out (by simp;omega))
     clear HG H13
     go_wp2_with fail
     go_loopw [28] (fun s28 wr=>∃ k:Nat,k≤nb∧s28 = .int .i64 (k:Int)∧Hid (∀ j<k,cliBad now next clis j=false)∧Below w1.heap.size w1 wr) (fun s28 _=>nb - (intOf s28).toNat)
     case atStart=>exact ⟨0,by omega,rfl,hide (fun j hj=>by omega),Below.refl _ _⟩
     case round=>
      obtain ⟨k,hk,rfl,HQ,hbr⟩:=hrel
      have Tr:=T0.below' hbr
      have ltr:=Tr.lt
      by_cases hlt:k<nb
      ·have hkl:k<clis.length:=by omega
       obtain ⟨b,off,Y,m,d,rfl,hbb,⟨i0,i1,i2,i3,i4,i5,i6⟩,T⟩:=(hC.bl (q.trans (hbr.mono q.size))).at_ hkl
       have hcat:=cliBad_at (now:=now) (next:=next) hkl
       have hbk:=fun h=>HB.out k hkl h
       have hrl:=HCL.out _ (List.getElem_mem hkl)
       have hprev:∀ j,k=j+1→∃ yi:Int,wr.cell? ⟨b,off+j*7,none⟩=some (.int .i64 yi)∧idBad clis k clis[k]=decide (clis[k].id≤yi):=by
        intro j hj
        subst hj
        obtain ⟨b',off',_,_,_,e1,_,⟨u0,_,_,_,_,_,_⟩,_⟩:=(hC.bl (q.trans (hbr.mono q.size))).at_ (k:=j) (by omega)
        injection e1 with e1
        injection e1 with e1 e2
        subst e1;subst e2
        exact ⟨_,u0,idBad_at (by omega)⟩
       have hnext:cliBad now next clis k=false→∀ j<k+1,cliBad now next clis j=false:=fun hf j hj=>by
        rcases Nat.lt_or_ge j k with h'|h'
        ·exact HQ.out j h'
        ·obtain rfl:j=k:=by omega
         exact hf
       generalize hcb:cliBad now next clis k=cb' at *
       obtain ⟨ib,hib⟩:∃ ib,ib=idBad clis k clis[k]:=⟨_,rfl⟩
       have hz:k=0→ib=false:=fun h=>by subst h;rw [hib];rfl
       rw [←hib] at hcat hprev
       generalize clis[k]=x at T i0 i1 i2 i3 i4 i5 hcat hprev hrl hib
       obtain ⟨xi,xs,xt,⟨rc,rt,rn,rl⟩⟩:=x
       simp only at i0 i1 i2 i3 i4 i5 T hcat hprev hrl
       have hml:=T.len
       have hck:=fun w' (hb:Below wr.heap.size wr w')=>CheckReply_any rc rt rn Y m d rl w' (by unfold maxLen;omega) hml (by unfold maxLen;omega) ((T.bl hb).sl.seg)
       have hrk:repOk ⟨rc,rt,rn,rl⟩=checkReply rc rt rn rl:=rfl
       rw [hrk] at hcat
       generalize checkReply rc rt rn rl=rk at *
       have HC:=hide hck;have HAT:=hide hcat;have HBK:=hide hbk;have HNX:=hide hnext;have HPV:=hide hprev;have HZ:=hide hz
       clear hck hcat hbk hnext hprev hib T HCL HB HQ hz hcb hrl hrk
       have hz1:(0:Int)≤(k:Int):=by omega
       have hz2:(k:Int)<(nb:Int):=by omega
       have hw0:IntKind.i64.wrap (k:Int)=(k:Int):=IntWalk.i64_in _ (by omega)
       have X:=Blk.new wr 142 #[.int .i64 xi,.int .i64 xs,.int .i64 xt,.int .i64 rc,.string rt,.int .i64 rn,.slice Y m d]
       have bX:Below wr.heap.size wr (wr.alloc (.cells #[.int .i64 xi,.int .i64 xs,.int .i64 xt,.int .i64 rc,.string rt,.int .i64 rn,.slice Y m d] 142)):=below_by
       have T1:=Tr.alloc (.cells #[.int .i64 xi,.int .i64 xs,.int .i64 xt,.int .i64 rc,.string rt,.int .i64 rn,.slice Y m d] 142)
       go_upto_region 6 with fail
       have j0:∀ j,k=j+1→∃ yi:Int,(wr.alloc (.cells #[.int .i64 xi,.int .i64 xs,.int .i64 xt,.int .i64 rc,.string rt,.int .i64 rn,.slice Y m d] 142)).cell? ⟨b,off+j*7,none⟩=some (.int .i64 yi)∧ib=decide (xi≤yi):=fun j hj=>by
        obtain ⟨yi,u0,u1⟩:=HPV.out j hj
        exact ⟨yi,(bX.cell (p:=⟨b,off+j*7,none⟩) hbb).trans u0,u1⟩
       obtain ⟨W,hW⟩:∃ W,W=(wr.alloc (.cells #[.int .i64 xi,.int .i64 xs,.int .i64 xt,.int .i64 rc,.string rt,.int .i64 rn,.slice Y m d] 142)):=⟨_,rfl⟩
       rw [←hW] at bX X T1 j0 ⊢
       have HJ:=hide j0
       clear hW i0 i1 i2 i3 i4 i5 i6 HPV j0 Tr ltr
       have hxl:=X.lt
       have htl1:=T1.lt
       have hbW:b<W.heap.size:=by have:=bX.size;omega
       go_cut [58] (fun s wx=>s = .bool (decide (xi<1) || decide (next≤xi) || ib)∧Below W.heap.size W wx)
       case first=>
        (try clear cX fX);have cX:=X.cell;have fX:=X.frozen;(try clear cT1 fT1);have cT1:=T1.cell;have fT1:=T1.frozen
        by_cases ha:xi<1
        ·have hd1:decide (xi<1)=true:=by simpa using ha
         go_quiet (fail)
         go_wp2_with fail
         go_meet
         exact ⟨by simp [ha],below_by⟩
        ·have hd1:decide (xi<1)=false:=by simpa using ha
         by_cases hb:next≤xi
         ·have hd2:decide (next≤xi)=true:=by simpa using hb
          go_quiet (fail)
          go_wp2_with fail
          go_meet
          exact ⟨by simp [hb],below_by⟩
         ·have hd2:decide (next≤xi)=false:=by simpa using hb
          by_cases hk0:k=0
          ·have hi0:=HZ.out hk0
           subst hi0
           have hz6:decide ((0:Int)<(k:Int))=false:=by simp;omega
           have hz6':decide (0<k)=false:=by simp;omega
           have HK0:=hide hk0
           clear hk0
           go_quiet (fail)
           go_wp2_with fail
           go_meet
           exact ⟨by simp [ha,hb],below_by⟩
          ·obtain ⟨j,rfl⟩:∃ j,k=j+1:=⟨k - 1,by omega⟩
           obtain ⟨yi,u1,hi⟩:=HJ.out j rfl
           have hw1:IntKind.i64.wrap ((j:Int)+1 - 1)=(j:Int):=by rw [IntWalk.i64_in _ (by omega)];omega
           have hw2:IntKind.i64.wrap (j:Int)=(j:Int):=IntWalk.i64_in _ (by omega)
           have hz3:(0:Int)≤(j:Int):=by omega
           have hz4:(j:Int)<(nb:Int):=by omega
           have hz5:(0:Int)<(j:Int)+1:=by omega
           have hz6:decide ((0:Int)<(j:Int)+1)=true:=decide_eq_true hz5
           have hz6':decide (0<j+1)=true:=by simp
           by_cases hc:xi≤yi
           ·have hd3:decide (xi≤yi)=true:=by simpa using hc
            rw [hd3] at hi
            subst hi
            go_quiet (fail)
            go_wp2_with fail
            go_meet
            exact ⟨by simp,below_by⟩
           ·have hd3:decide (xi≤yi)=false:=by simpa using hc
            rw [hd3] at hi
            subst hi
            go_quiet (fail)
            go_wp2_with fail
            go_meet
            exact ⟨by simp [ha,hb],below_by⟩
       case rest=>
        obtain ⟨rfl,hbc⟩:=hcut
        clear HJ HZ
        have X2:=X.below' hbc
        have T2:=T1.below' hbc
        have hbx:Below w1.heap.size w1 wc:=bstep hbr (bstep bX hbc)
        (try clear cX2 fX2);have cX2:=X2.cell;have fX2:=X2.frozen;(try clear cT2 fT2);have cT2:=T2.cell;have fT2:=T2.frozen
        cases hfirst:(decide (xi<1) || decide (next≤xi) || ib)
        ·rw [hfirst] at HAT
         by_cases h1:xs<0
         ·have hr:=HBK.out (by rw [HAT.out];simp [h1])
          subst hr
          go_wp2_with fail
          go_ret
          exact ⟨rfl,below_by⟩
         ·by_cases h2:1048576<xs
          ·have hr:=HBK.out (by rw [HAT.out];simp [h2])
           subst hr
           go_wp2_with fail
           go_ret
           exact ⟨rfl,below_by⟩
          ·by_cases h3:xt<0
           ·have hr:=HBK.out (by rw [HAT.out];simp [h3])
            subst hr
            go_wp2_with fail
            go_ret
            exact ⟨rfl,below_by⟩
           ·by_cases h4:now<xt
            ·have hr:=HBK.out (by rw [HAT.out];simp [h4])
             subst hr
             go_wp2_with fail
             go_ret
             exact ⟨rfl,below_by⟩
            ·go_wp2_with fail
             refine (HC.out _ (bstep bX hbc)).mono ?_
             rintro e w4 ⟨rfl,hb4⟩
             by_cases hr0:rk=0
             ·subst hr0
              have hn:=HNX.out (by rw [HAT.out];simp [h1,h2,h3,h4])
              have HN:=hide hn
              clear hn HNX HBK HAT
              replace hbx:Below w1.heap.size w1 w4:=bstep hbx hb4
              go_wp2_with fail
              go_roundw
              case rel=>exact ⟨k+1,by omega,by go_num,HN,hbx⟩
              case measure=>simp [intOf];omega
             ·have hr:=HBK.out (by rw [HAT.out];simp [hr0])
              subst hr
              have hr1:(rk == 0)=false:=by simpa using hr0
              have hr2:(rk != 0)=true:=by simpa using hr0
              go_wp2_with fail
              go_ret
              exact ⟨rfl,below_by⟩
        ·rw [hfirst] at HAT
         have hr:=HBK.out (by rw [HAT.out];simp)
         subst hr
         go_wp2_with fail
         go_ret
         exact ⟨rfl,below_by⟩
      ·obtain rfl:k=nb:=by omega
       have hr:=HG2.out (fun j hj=>HQ.out j (by omega))
       subst hr
       (try clear cTr fTr);have cTr:=Tr.cell;have fTr:=Tr.frozen
       go_wp2_with fail
       go_ret
       exact ⟨rfl,below_by⟩
 ·have hr:=H13.out (.inl hcs)
  subst hr
  have h1:(cs == 0)=false:=by simpa using hcs
  have h2:(cs != 0)=true:=by simpa using hcs
  go_wp2_with fail
  go_ret
  exact ⟨rfl,below_by⟩
end Go.Proofs.YtgdcofbnbiclmaaGreatDoor

