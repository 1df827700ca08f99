import Derived.Test.YtgmojjclobkpjaaGreatDoorQCli
import Derived.Test.YtgmojjclobkpjaaGreatDoorQEntD
import Derived.BigQuiet
namespace Go.Proofs.YtgmojjclobkpjaaGreatDoor
set_option linter.all false
set_option maxHeartbeats 32000000
open Go.RowKit
set_option maxRecDepth 100000 in
theorem ownReply_any (r:Re) (Y:Option Addr) (m d:Nat) (w:World) (h:TxSl w Y m d r.list) (hm:m≤1048576) :
  Calls Tryz.prog 69 #[.agg #[.int .i64 r.code,.string r.text,.int .i64 r.n,.slice Y m d]] w fun e w'=>∃ Y' m' d',e = .returned (.agg #[.int .i64 r.code,.string r.text,.int .i64 r.n,.slice Y' m' d'])∧TxSl w' Y' m' d' r.list∧Below w.heap.size w w':=by
 obtain ⟨code,text,n,list⟩:=r
 simp only at h ⊢
 have X:=(Blk.new w 102 #[.int .i64 code,.string text,.int .i64 n,.slice Y m d]).alloc (.cells #[.int .i64 0,.string { data:=#[] },.int .i64 0,.slice none 0 0] 102)
 have Z:Blk ((w.alloc (.cells #[.int .i64 code,.string text,.int .i64 n,.slice Y m d] 102)).alloc (.cells #[.int .i64 0,.string { data:=#[] },.int .i64 0,.slice none 0 0] 102)) (w.heap.size+1) 102 #[.int .i64 0,.string { data:=#[] },.int .i64 0,.slice none 0 0]:=Blk.new' _ _ _ (by simp)
 have q:Below w.heap.size w ((w.alloc (.cells #[.int .i64 code,.string text,.int .i64 n,.slice Y m d] 102)).alloc (.cells #[.int .i64 0,.string { data:=#[] },.int .i64 0,.slice none 0 0] 102)):=below_by
 have h2:=h.bl q
 go_enter Tryz.func69,Tryz.ntmps69
 go_wp2_with fail
 refine (Clone_text _ _ _ _ _ h2.sl (str_one _) (by omega)).mono ?_
 rintro e w1 ⟨s1,rfl,o1,b1⟩
 obtain ⟨Y',m',d',rfl⟩:=own_slice o1
 replace X:=X.bl b1;replace Z:=Z.bl b1
 replace q:Below w.heap.size w w1:=below_by
 have T1:TxSl w1 Y' m' d' list:=⟨o1.sl',own_tp o1⟩
 have X1:=X.set' (i:=3) (u:=.slice Y' m' d') rfl
 have gr1:=grown_setRow_cell w1 w.heap.size 3 (.slice Y' m' d')
 have Z1:=grown_blk Z gr1 (by omega)
 obtain ⟨Z2,gr2,sz2⟩:=whole_reply (.int .i64 code) (.string text) (.int .i64 n) (.slice Y' m' d') Z1
 have T2:=(T1.grown X gr1).grown Z1 gr2
 have q2:=below_grow (below_grow q gr1 q.size (Nat.le_refl _)) gr2 (by simpa using q.size) (by omega)
 have HT:=hide T2;have HQ:=hide q2
 have cZ2:=hide Z2.cell
 have lx:=X.lt
 have lz:=Z.lt
 clear h h2 o1 b1 T1 gr1 gr2 sz2 T2 q2 Z2 X1 Z1
 (try clear cX fX);have cX:=X.cell;have fX:=X.frozen;(try clear cZ fZ);have cZ:=Z.cell;have fZ:=Z.frozen
 go_wp2_with fail
 have cZ2:=cZ2.out
 refine bodyPost_ret (v:=.agg #[.int .i64 code,.string text,.int .i64 n,.slice Y' m' d']) ?_ rfl ⟨Y',m',d',rfl,HT.out,HQ.out⟩
 simp [results,Tryz.results69,go_sem,cZ2]
set_option maxRecDepth 100000 in
theorem ownClients_any (A:Option Addr) (n c:Nat) (l:List Cl) (w:World) (h:ClSl w A n c l) (hn:n≤1048576) (hsm:∀ x∈l,x.rep.list.length≤1048576) :
  Calls Tryz.prog 64 #[.slice A n c] w fun e w'=>∃ A' n' c',e = .returned (.slice A' n' c')∧ClOwn w' w.heap.size A' n' c' l∧Below w.heap.size w w':=by
 have hln:=h.len
 have HSM:=hide hsm
 clear hsm
 go_enter Tryz.func64,Tryz.ntmps64
 go_wp2_with fail
 go_loopw [3,8] (fun s3 s8 wr=>∃ k:Nat,k≤n∧s8 = .int .i64 (k:Int)∧∃ A' n' c',s3 = .slice A' n' c'∧ClOwn wr w.heap.size A' n' c' (l.take k)∧Below w.heap.size w wr) (fun _ s8 _=>n - (intOf s8).toNat)
 case atStart=>exact ⟨0,by omega,rfl,none,0,0,rfl,⟨[],Own.nil,trivial⟩,Below.refl _ _⟩
 case round=>
  obtain ⟨k,hk,rfl,A',n',c',rfl,O,q⟩:=hrel
  have hqs:=q.size
  by_cases hlt:k<n
  ·have hkl:k<l.length:=by omega
   obtain ⟨b,off,Y,m,d,rfl,hb,⟨i0,i1,i2,i3,i4,i5,i6⟩,T⟩:=(h.bl q).at_ hkl
   have hsx:=HSM.out _ (List.getElem_mem hkl)
   have hnext:l.take (k+1)=l.take k ++ [l[k]]:=List.take_succ_eq_append_getElem hkl
   generalize l[k]=x at T i0 i1 i2 i3 i4 i5 hsx hnext
   obtain ⟨xi,xs,xt,⟨rc,rt,rn,rl⟩⟩:=x
   simp only at i0 i1 i2 i3 i4 i5 T hsx
   have hm:m≤1048576:=by have:=T.len;omega
   have HN:=hide hnext
   clear hnext hsx
   have hz1:(0:Int)≤(k:Int):=by omega
   have hz2:(k:Int)<(n:Int):=by omega
   have X:=Blk.new wr 104 #[.int .i64 xi,.int .i64 xs,.int .i64 xt,.int .i64 rc,.string rt,.int .i64 rn,.slice Y m d]
   have q1:Below wr.heap.size wr (wr.alloc (.cells #[.int .i64 xi,.int .i64 xs,.int .i64 xt,.int .i64 rc,.string rt,.int .i64 rn,.slice Y m d] 104)):=below_by
   have T1:=T.bl q1
   go_wp2_with fail
   refine (ownReply_any ⟨rc,rt,rn,rl⟩ Y m d _ T1 hm).mono ?_
   rintro e w2 ⟨Y',m',d',rfl,T2,b2⟩
   replace X:=X.bl b2
   replace q1:Below wr.heap.size wr w2:=below_by
   clear b2 T1 T i0 i1 i2 i3 i4 i5 i6
   have gr:=grown_trans (grown_trans (grown_trans (grown_setRow_cell w2 wr.heap.size 3 (.int .i64 rc)) (grown_setRow_cell _ wr.heap.size 4 (.string rt))) (grown_setRow_cell _ wr.heap.size 5 (.int .i64 rn))) (grown_setRow_cell _ wr.heap.size 6 (.slice Y' m' d'))
   have X6:=((((X.set' (i:=3) (u:=.int .i64 rc) rfl).set' (i:=4) (u:=.string rt) rfl).set' (i:=5) (u:=.int .i64 rn) rfl).set' (i:=6) (u:=.slice Y' m' d') rfl)
   have T6:=T2.grown X gr
   have q6:=below_grow q1 gr q1.size (Nat.le_refl _)
   have lx:=X.lt
   (try clear cX fX);have cX:=X.cell;have fX:=X.frozen
   go_upto_region 6 with fail
   obtain ⟨w6,hw6⟩:∃ w6,w6=((((w2.setCell ⟨wr.heap.size,3,none⟩ (.int .i64 rc)).setCell ⟨wr.heap.size,4,none⟩ (.string rt)).setCell ⟨wr.heap.size,5,none⟩ (.int .i64 rn)).setCell ⟨wr.heap.size,6,none⟩ (.slice Y' m' d')):=⟨_,rfl⟩
   rw [←hw6] at X6 T6 q6 ⊢
   clear hw6 gr T2 q1 X cX fX lx
   have O6:=O.bl q6
   clear O
   obtain ⟨rows,O6,E6⟩:=O6
   have hrl:=E6.len
   rw [List.length_take,Nat.min_eq_left (by omega)] at hrl
   have hq6:w.heap.size≤w6.heap.size:=by have:=q6.size;omega
   (try clear cX6 fX6);have cX6:=X6.cell;have fX6:=X6.frozen
   go_wp2_with (at_builtin;refine wpList_push_g rfl _ _ _ rfl Tryz.underlying39 cli_info rfl (by omega) (by rfl) O6 (H:=w6.heap.size) rfl (by rfl) (row:=#[.int .i64 xi,.int .i64 xs,.int .i64 xt,.int .i64 rc,.string rt,.int .i64 rn,.slice Y' m' d']) rfl (all_one rfl) ?p1 ?p2 ?p3 ?p4)
   case p1=>unfold maxLen;omega
   case p2=>omega
   case p3=>exact hq6
   case p4=>
    intro A9 n9 c9 w9 O9 gr9
    have ba:Below w6.heap.size w6 (w6.alloc (.cells #[.int .i64 xi,.int .i64 xs,.int .i64 xt,.int .i64 rc,.string rt,.int .i64 rn,.slice Y' m' d'] 104)):=below_by
    have O7:=O6.below ba
    have f9:=(Fr.of ba).trans (Fr.own O7 gr9)
    have q9:=(bstep (bstep q q6) ba).trans (below_grown O7 gr9 (by simp;omega))
    have S9:ClOwn w9 w.heap.size A9 n9 c9 (l.take (k+1)):=by
     refine ⟨_,O9,?_⟩
     rw [HN.out]
     exact (E6.fr f9).app (Cls.one_ ⟨Y',m',d',rfl,T6.fr f9⟩)
    clear cX6 fX6 O6 O9 gr9 ba O7 f9 X6 T6 E6
    go_wp2_with fail
    go_roundw
    case rel=>exact ⟨k+1,by omega,by go_num,A9,n9,c9,rfl,S9,q9⟩
    case measure=>simp [intOf];omega
  ·obtain rfl:k=n:=by omega
   have hfull:l.take k=l:=List.take_of_length_le (by omega)
   rw [hfull] at O
   go_wp2_with fail
   go_ret
   exact ⟨A',n',c',rfl,O,q⟩
theorem byId_ (x:Cl) (s:Value) (kb:Nat) (n:Int) (w:World) (hkl:kb<w.heap.size) (hk:w.cell? ⟨kb,0,none⟩=some (.int .i64 n)) :
  Calls Tryz.prog 68 #[.agg (x.cells s).toArray,.pointer (some ⟨kb,0,none⟩)] w fun e w'=>e = .returned (.bool (x.id == n))∧Below w.heap.size w w':=by
 obtain ⟨xi,xs,xt,⟨rc,rt,rn,rl⟩⟩:=x
 simp only [Cl.cells]
 have hgl1:kb<w.heap.size+1:=by omega
 go_enter Tryz.func68,Tryz.ntmps68
 go_wp2_with fail
 go_ret
 exact ⟨rfl,below_by⟩
theorem FindCli (f:FuncId) (hf:∀ args w,(callFunc f args).run Tryz.prog w = .ok (.enter f args) w) (p:Cl→Bool) (w0:World) (g:Nat)
  (hp:∀ (x:Cl) (s:Value) (w:World),Below w0.heap.size w0 w→Calls Tryz.prog f #[.agg (x.cells s).toArray,.pointer (some ⟨g,0,none⟩)] w fun e w'=>e = .returned (.bool (p x))∧Below w.heap.size w w')
  (A:Option Addr) (ln c:Nat) (l:List Cl) (hl:l.length≤1048576) (h:ClSl w0 A ln c l) :
  Calls Tryz.prog 67 #[.slice A ln c,.func (.func f) #[] #[.pointer (some ⟨g,0,none⟩)]] w0 fun e w'=>e = .returned (.int .i64 (idxFn (l.findIdx? p)))∧Below w0.heap.size w0 w':=by
 have hln:=h.len
 subst hln
 have HP:=hide hp
 clear hp
 go_enter Tryz.func67,Tryz.ntmps67
 go_wp2
 go_loopw [5,8] (fun _ i wr=>∃ k:Nat,k≤l.length∧i = .int .i64 k∧Hid (∀ j,j<k→∀ s,l[j]?=some s→p s=false)∧Below w0.heap.size w0 wr) (fun _ i _=>l.length - (intOf i).toNat)
 case atStart=>exact ⟨0,by omega,rfl,fun j hj=>by omega,below_by⟩
 case round=>
  obtain ⟨k,hk,rfl,HQ,hbr⟩:=hrel
  by_cases hlt:k<l.length
  ·obtain ⟨b,off,Y,m,d,rfl,hb,⟨i0,i1,i2,i3,i4,i5,i6⟩,-⟩:=(h.bl hbr).at_ hlt
   have hps:=HP.out l[k] (.slice Y m d)
   simp only [Cl.cells] at hps
   have HPS:=hide hps
   clear hps
   go_wp2_with fail
   by_cases hps:p l[k]=true
   ·refine (HPS.out _ hbr).mono ?_
    rintro e w' ⟨rfl,hb2⟩
    go_wp2_with fail
    go_ret
    exact ⟨by rw [idx_hit hlt hps HQ];rfl,bstep hbr hb2⟩
   ·have hps':p l[k]=false:=by simpa using hps
    refine (HPS.out _ hbr).mono ?_
    rintro e w' ⟨rfl,hb2⟩
    go_wp2_with fail
    go_round
    case rel=>exact ⟨k+1,by omega,by go_num,idx_next hlt hps' HQ,bstep hbr hb2⟩
    case measure=>simp [intOf];omega
  ·obtain rfl:k=l.length:=by omega
   go_wp2_with fail
   go_ret
   exact ⟨by rw [idx_miss HQ];rfl,hbr⟩
theorem whole_mach {w2:World} {b:Nat} {x0 x1 x2 x3:Value} (u0 u1 u2 u3:Value) (R:Blk w2 b 41 #[x0,x1,x2,x3]) :
  Blk ((((w2.setCell ⟨b,0,none⟩ (u0)).setCell ⟨b,1,none⟩ (u1)).setCell ⟨b,2,none⟩ (u2)).setCell ⟨b,3,none⟩ (u3)) b 41 #[u0,u1,u2,u3]∧w2.grownBy ((((w2.setCell ⟨b,0,none⟩ (u0)).setCell ⟨b,1,none⟩ (u1)).setCell ⟨b,2,none⟩ (u2)).setCell ⟨b,3,none⟩ (u3)) (some b)∧((((w2.setCell ⟨b,0,none⟩ (u0)).setCell ⟨b,1,none⟩ (u1)).setCell ⟨b,2,none⟩ (u2)).setCell ⟨b,3,none⟩ (u3)).heap.size=w2.heap.size:=by
 have R0:=R.set' (i:=0) (u:=u0) rfl
 have R1:=R0.set' (i:=1) (u:=u1) rfl
 have R2:=R1.set' (i:=2) (u:=u2) rfl
 have R3:=R2.set' (i:=3) (u:=u3) rfl
 exact ⟨R3,grown_trans (grown_trans (grown_trans (grown_setRow_cell w2 b 0 u0) (grown_setRow_cell _ b 1 u1)) (grown_setRow_cell _ b 2 u2)) (grown_setRow_cell _ b 3 u3),by simp⟩
structure Noth (w:World):Prop where
 lt:0<w.heap.size
 c0:w.cell? ⟨0,0,none⟩=some (.int .i64 22)
 c1:w.cell? ⟨0,1,none⟩=some (.string { data:=#[] })
 c2:w.cell? ⟨0,2,none⟩=some (.string { data:=#[] })
 c3:w.cell? ⟨0,3,none⟩=some (.string { data:=#[] })
 c4:w.cell? ⟨0,4,none⟩=some (.int .i64 0)
theorem Noth.bl {w w':World} (h:Noth w) (hb:Below w.heap.size w w'):Noth w':=
 ⟨Nat.lt_of_lt_of_le h.lt hb.size,(hb.cell (p:=⟨0,0,none⟩) h.lt).trans h.c0,(hb.cell (p:=⟨0,1,none⟩) h.lt).trans h.c1,(hb.cell (p:=⟨0,2,none⟩) h.lt).trans h.c2,(hb.cell (p:=⟨0,3,none⟩) h.lt).trans h.c3,(hb.cell (p:=⟨0,4,none⟩) h.lt).trans h.c4⟩
theorem Noth.bl0 {w w':World} (h:Noth w) (hb:Below 1 w w'):Noth w':=
 ⟨Nat.lt_of_lt_of_le h.lt hb.size,(hb.cell (p:=⟨0,0,none⟩) (by simp)).trans h.c0,(hb.cell (p:=⟨0,1,none⟩) (by simp)).trans h.c1,(hb.cell (p:=⟨0,2,none⟩) (by simp)).trans h.c2,(hb.cell (p:=⟨0,3,none⟩) (by simp)).trans h.c3,(hb.cell (p:=⟨0,4,none⟩) (by simp)).trans h.c4⟩
theorem Noth.far {w w':World} {g:Nat} (h:Noth w) (hg:w.grownBy w' (some g)) (h0:0<g):Noth w':=
 h.bl0 (below_grow (Below.refl 1 w) hg h.lt h0)
theorem idBad_at {l:List Cl} {j:Nat} {x:Cl} (hj:j<l.length):idBad l (j+1) x=decide (x.id≤l[j].id):=by
 simp only [idBad,List.getElem?_eq_getElem hj]
set_option maxRecDepth 100000 in
theorem CheckM_any (m:Mach) (A B:Option Addr) (na ca nb cb:Nat) (w:World) (hE:StSl w A na ca m.ents) (hC:ClSl w B nb cb m.clis) (hna:na≤1048576) (hnb:nb≤1048576) (hsm:∀ x∈m.ents,small x.val 1048576) (hcl:∀ x∈m.clis,x.rep.text.size≤1048576∧x.rep.list.length≤1048576) :
  Calls Tryz.prog 31 #[.agg #[.int .i64 m.now,.slice A na ca,.int .i64 m.next,.slice B nb cb]] w fun e w'=>e = .returned (.int .i64 (checkMach m))∧Below w.heap.size w w':=by
 have KS:=hide (fun w' (hb:Below w.heap.size w w')=>CheckS_any m.now A na ca m.ents w' (hE.bl hb) hna hsm)
 have hln:=hC.len
 have HCL:=hide hcl
 have HG:=hide (@mach_good m)
 have HB:=hide (fun k hk h=>@mach_bad m k hk h)
 obtain ⟨R,hR⟩:∃ R,R=checkMach m:=⟨_,rfl⟩
 have h13:checkStore m.now m.ents≠0∨m.next<1∨1048577<m.next∨4<m.clis.length→R=13:=fun h=>by rw [hR];unfold checkMach;rw [if_pos h]
 have H13:=hide h13
 rw [←hR]
 rw [←hR] at HG HB
 obtain ⟨now,ents,next,clis⟩:=m
 simp only at KS hln HCL HG HB H13 hC ⊢
 generalize checkStore now ents=cs at *
 clear hR h13 hcl hE hsm
 have T0:=Blk.new w 41 #[.int .i64 now,.slice A na ca,.int .i64 next,.slice B nb cb]
 have q0:Below w.heap.size w (w.alloc (.cells #[.int .i64 now,.slice A na ca,.int .i64 next,.slice B nb cb] 41)):=below_by
 go_enter Tryz.func31,Tryz.ntmps31
 go_wp2_with fail
 refine (KS.out _ q0).mono ?_
 rintro e w1 ⟨rfl,hb1⟩
 replace T0:=T0.bl hb1
 have q:Below w.heap.size w w1:=below_by
 clear hb1 q0 KS
 have lt0:=T0.lt
 by_cases hcs:cs=0
 ·subst hcs
  (try clear cT0 fT0);have cT0:=T0.cell;have fT0:=T0.frozen
  by_cases hn1:next<1
  ·have hr:=H13.out (.inr (.inl hn1))
   subst hr
   go_wp2_with fail
   go_ret
   exact ⟨rfl,below_by⟩
  ·by_cases hn2:1048577<next
   ·have hr:=H13.out (.inr (.inr (.inl hn2)))
    subst hr
    go_wp2_with fail
    go_ret
    exact ⟨rfl,below_by⟩
   ·by_cases hn4:4<clis.length
    ·have hr:=H13.out (.inr (.inr (.inr hn4)))
     subst hr
     have hn4':(4:Int)<(nb:Int):=by omega
     go_wp2_with fail
     go_ret
     exact ⟨rfl,below_by⟩
    ·have hn4':¬ (4:Int)<(nb:Int):=by omega
     have HG2:=hide (HG.out (by simp;omega))
     clear HG H13
     go_wp2_with fail
     go_loopw [28] (fun s28 wr=>∃ k:Nat,k≤nb∧s28 = .int .i64 (k:Int)∧Hid (∀ j<k,cliBad now next clis j=false)∧Below w1.heap.size w1 wr) (fun s28 _=>nb - (intOf s28).toNat)
     case atStart=>exact ⟨0,by omega,rfl,hide (fun j hj=>by omega),Below.refl _ _⟩
     case round=>
      obtain ⟨k,hk,rfl,HQ,hbr⟩:=hrel
      have Tr:=T0.below' hbr
      have ltr:=Tr.lt
      by_cases hlt:k<nb
      ·have hkl:k<clis.length:=by omega
       obtain ⟨b,off,Y,m,d,rfl,hbb,⟨i0,i1,i2,i3,i4,i5,i6⟩,T⟩:=(hC.bl (q.trans (hbr.mono q.size))).at_ hkl
       have hcat:=cliBad_at (now:=now) (next:=next) hkl
       have hbk:=fun h=>HB.out k hkl h
       have hrl:=HCL.out _ (List.getElem_mem hkl)
       have hprev:∀ j,k=j+1→∃ yi:Int,wr.cell? ⟨b,off+j*7,none⟩=some (.int .i64 yi)∧idBad clis k clis[k]=decide (clis[k].id≤yi):=by
        intro j hj
        subst hj
        obtain ⟨b',off',_,_,_,e1,_,⟨u0,_,_,_,_,_,_⟩,_⟩:=(hC.bl (q.trans (hbr.mono q.size))).at_ (k:=j) (by omega)
        injection e1 with e1
        injection e1 with e1 e2
        subst e1;subst e2
        exact ⟨_,u0,idBad_at (by omega)⟩
       have hnext:cliBad now next clis k=false→∀ j<k+1,cliBad now next clis j=false:=fun hf j hj=>by
        rcases Nat.lt_or_ge j k with h'|h'
        ·exact HQ.out j h'
        ·obtain rfl:j=k:=by omega
         exact hf
       generalize hcb:cliBad now next clis k=cb' at *
       obtain ⟨ib,hib⟩:∃ ib,ib=idBad clis k clis[k]:=⟨_,rfl⟩
       have hz:k=0→ib=false:=fun h=>by subst h;rw [hib];rfl
       rw [←hib] at hcat hprev
       generalize clis[k]=x at T i0 i1 i2 i3 i4 i5 hcat hprev hrl hib
       obtain ⟨xi,xs,xt,⟨rc,rt,rn,rl⟩⟩:=x
       simp only at i0 i1 i2 i3 i4 i5 T hcat hprev hrl
       have hml:=T.len
       have hck:=fun w' (hb:Below wr.heap.size wr w')=>CheckReply_any rc rt rn Y m d rl w' (by unfold maxLen;omega) hml (by unfold maxLen;omega) ((T.bl hb).sl.seg)
       have hrk:repOk ⟨rc,rt,rn,rl⟩=checkReply rc rt rn rl:=rfl
       rw [hrk] at hcat
       generalize checkReply rc rt rn rl=rk at *
       have HC:=hide hck;have HAT:=hide hcat;have HBK:=hide hbk;have HNX:=hide hnext;have HPV:=hide hprev;have HZ:=hide hz
       clear hck hcat hbk hnext hprev hib T HCL HB HQ hz hcb hrl hrk
       have hz1:(0:Int)≤(k:Int):=by omega
       have hz2:(k:Int)<(nb:Int):=by omega
       have hw0:IntKind.i64.wrap (k:Int)=(k:Int):=IntWalk.i64_in _ (by omega)
       have X:=Blk.new wr 104 #[.int .i64 xi,.int .i64 xs,.int .i64 xt,.int .i64 rc,.string rt,.int .i64 rn,.slice Y m d]
       have bX:Below wr.heap.size wr (wr.alloc (.cells #[.int .i64 xi,.int .i64 xs,.int .i64 xt,.int .i64 rc,.string rt,.int .i64 rn,.slice Y m d] 104)):=below_by
       have T1:=Tr.alloc (.cells #[.int .i64 xi,.int .i64 xs,.int .i64 xt,.int .i64 rc,.string rt,.int .i64 rn,.slice Y m d] 104)
       go_upto_region 6 with fail
       have j0:∀ j,k=j+1→∃ yi:Int,(wr.alloc (.cells #[.int .i64 xi,.int .i64 xs,.int .i64 xt,.int .i64 rc,.string rt,.int .i64 rn,.slice Y m d] 104)).cell? ⟨b,off+j*7,none⟩=some (.int .i64 yi)∧ib=decide (xi≤yi):=fun j hj=>by
        obtain ⟨yi,u0,u1⟩:=HPV.out j hj
        exact ⟨yi,(bX.cell (p:=⟨b,off+j*7,none⟩) hbb).trans u0,u1⟩
       obtain ⟨W,hW⟩:∃ W,W=(wr.alloc (.cells #[.int .i64 xi,.int .i64 xs,.int .i64 xt,.int .i64 rc,.string rt,.int .i64 rn,.slice Y m d] 104)):=⟨_,rfl⟩
       rw [←hW] at bX X T1 j0 ⊢
       have HJ:=hide j0
       clear hW i0 i1 i2 i3 i4 i5 i6 HPV j0 Tr ltr
       have hxl:=X.lt
       have htl1:=T1.lt
       have hbW:b<W.heap.size:=by have:=bX.size;omega
       go_cut [58] (fun s wx=>s = .bool (decide (xi<1) || decide (next≤xi) || ib)∧Below W.heap.size W wx)
       case first=>
        (try clear cX fX);have cX:=X.cell;have fX:=X.frozen;(try clear cT1 fT1);have cT1:=T1.cell;have fT1:=T1.frozen
        by_cases ha:xi<1
        ·have hd1:decide (xi<1)=true:=by simpa using ha
         go_quiet (fail)
         go_wp2_with fail
         go_meet
         exact ⟨by simp [ha],below_by⟩
        ·have hd1:decide (xi<1)=false:=by simpa using ha
         by_cases hb:next≤xi
         ·have hd2:decide (next≤xi)=true:=by simpa using hb
          go_quiet (fail)
          go_wp2_with fail
          go_meet
          exact ⟨by simp [hb],below_by⟩
         ·have hd2:decide (next≤xi)=false:=by simpa using hb
          by_cases hk0:k=0
          ·have hi0:=HZ.out hk0
           subst hi0
           have hz6:decide ((0:Int)<(k:Int))=false:=by simp;omega
           have hz6':decide (0<k)=false:=by simp;omega
           have HK0:=hide hk0
           clear hk0
           go_quiet (fail)
           go_wp2_with fail
           go_meet
           exact ⟨by simp [ha,hb],below_by⟩
          ·obtain ⟨j,rfl⟩:∃ j,k=j+1:=⟨k - 1,by omega⟩
           obtain ⟨yi,u1,hi⟩:=HJ.out j rfl
           have hw1:IntKind.i64.wrap ((j:Int)+1 - 1)=(j:Int):=by rw [IntWalk.i64_in _ (by omega)];omega
           have hw2:IntKind.i64.wrap (j:Int)=(j:Int):=IntWalk.i64_in _ (by omega)
           have hz3:(0:Int)≤(j:Int):=by omega
           have hz4:(j:Int)<(nb:Int):=by omega
           have hz5:(0:Int)<(j:Int)+1:=by omega
           have hz6:decide ((0:Int)<(j:Int)+1)=true:=decide_eq_true hz5
           have hz6':decide (0<j+1)=true:=by simp
           by_cases hc:xi≤yi
           ·have hd3:decide (xi≤yi)=true:=by simpa using hc
            rw [hd3] at hi
            subst hi
            go_quiet (fail)
            go_wp2_with fail
            go_meet
            exact ⟨by simp,below_by⟩
           ·have hd3:decide (xi≤yi)=false:=by simpa using hc
            rw [hd3] at hi
            subst hi
            go_quiet (fail)
            go_wp2_with fail
            go_meet
            exact ⟨by simp [ha,hb],below_by⟩
       case rest=>
        obtain ⟨rfl,hbc⟩:=hcut
        clear HJ HZ
        have X2:=X.below' hbc
        have T2:=T1.below' hbc
        have hbx:Below w1.heap.size w1 wc:=bstep hbr (bstep bX hbc)
        (try clear cX2 fX2);have cX2:=X2.cell;have fX2:=X2.frozen;(try clear cT2 fT2);have cT2:=T2.cell;have fT2:=T2.frozen
        cases hfirst:(decide (xi<1) || decide (next≤xi) || ib)
        ·rw [hfirst] at HAT
         by_cases h1:xs<0
         ·have hr:=HBK.out (by rw [HAT.out];simp [h1])
          subst hr
          go_wp2_with fail
          go_ret
          exact ⟨rfl,below_by⟩
         ·by_cases h2:1048576<xs
          ·have hr:=HBK.out (by rw [HAT.out];simp [h2])
           subst hr
           go_wp2_with fail
           go_ret
           exact ⟨rfl,below_by⟩
          ·by_cases h3:xt<0
           ·have hr:=HBK.out (by rw [HAT.out];simp [h3])
            subst hr
            go_wp2_with fail
            go_ret
            exact ⟨rfl,below_by⟩
           ·by_cases h4:now<xt
            ·have hr:=HBK.out (by rw [HAT.out];simp [h4])
             subst hr
             go_wp2_with fail
             go_ret
             exact ⟨rfl,below_by⟩
            ·go_wp2_with fail
             refine (HC.out _ (bstep bX hbc)).mono ?_
             rintro e w4 ⟨rfl,hb4⟩
             by_cases hr0:rk=0
             ·subst hr0
              have hn:=HNX.out (by rw [HAT.out];simp [h1,h2,h3,h4])
              have HN:=hide hn
              clear hn HNX HBK HAT
              replace hbx:Below w1.heap.size w1 w4:=bstep hbx hb4
              go_wp2_with fail
              go_roundw
              case rel=>exact ⟨k+1,by omega,by go_num,HN,hbx⟩
              case measure=>simp [intOf];omega
             ·have hr:=HBK.out (by rw [HAT.out];simp [hr0])
              subst hr
              have hr1:(rk == 0)=false:=by simpa using hr0
              have hr2:(rk != 0)=true:=by simpa using hr0
              go_wp2_with fail
              go_ret
              exact ⟨rfl,below_by⟩
        ·rw [hfirst] at HAT
         have hr:=HBK.out (by rw [HAT.out];simp)
         subst hr
         go_wp2_with fail
         go_ret
         exact ⟨rfl,below_by⟩
      ·obtain rfl:k=nb:=by omega
       have hr:=HG2.out (fun j hj=>HQ.out j (by omega))
       subst hr
       (try clear cTr fTr);have cTr:=Tr.cell;have fTr:=Tr.frozen
       go_wp2_with fail
       go_ret
       exact ⟨rfl,below_by⟩
 ·have hr:=H13.out (.inl hcs)
  subst hr
  have h1:(cs == 0)=false:=by simpa using hcs
  have h2:(cs != 0)=true:=by simpa using hcs
  go_wp2_with fail
  go_ret
  exact ⟨rfl,below_by⟩
end Go.Proofs.YtgmojjclobkpjaaGreatDoor

