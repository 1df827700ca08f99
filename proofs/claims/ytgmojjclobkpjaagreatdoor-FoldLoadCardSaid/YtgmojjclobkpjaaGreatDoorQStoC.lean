import Derived.Test.YtgmojjclobkpjaaGreatDoorQEntD
import Derived.Test.YtgmojjclobkpjaaGreatDoorQDonP
import Derived.Deep.RegionHeld3
import Derived.Test.YtgmojjclobkpjaaGreatDoorQHeldX
import Derived.BigQuiet
namespace Go.Proofs.YtgmojjclobkpjaaGreatDoor
set_option linter.all false
set_option maxHeartbeats 32000000
open Go.RowKit
def keyBad (x:En):Bool:=decide (x.key.size<1) || decide (12<x.key.size)
def orderBad (l:List En):Nat→En→Bool
 | 0,_=>false
 | j+1,x=>match l[j]? with|none=>false|some y=>decide (0≤cmpB y.key x.key)
def tillBad (now:Int) (x:En):Bool:=x.till != 0 && (decide (x.till≤now) || decide (1073741824<x.till))
def entBad (now:Int) (l:List En) (k:Nat):Bool:=match l[k]? with|none=>false|some x=>keyBad x || checkValue x.val != 0 || orderBad l k x || tillBad now x
def checkStore (now:Int) (l:List En):Int:=if now<0∨1073741824<now∨12<l.length then 13 else if (List.range l.length).any (entBad now l)=true then 13 else 0
theorem store_bad {now:Int} {l:List En} {k:Nat} (hk:k<l.length) (h:entBad now l k=true):checkStore now l=13:=by
 unfold checkStore
 split
 ·rfl
 ·rw [if_pos (List.any_eq_true.2 ⟨k,List.mem_range.2 hk,h⟩)]
theorem store_good {now:Int} {l:List En} (h0:¬ (now<0∨1073741824<now∨12<l.length)) (h:∀ k<l.length,entBad now l k=false):checkStore now l=0:=by
 unfold checkStore
 rw [if_neg h0,if_neg]
 intro hc
 obtain ⟨k,hk,hb⟩:=List.any_eq_true.1 hc
 rw [h k (List.mem_range.1 hk)] at hb
 cases hb
set_option maxRecDepth 100000 in
theorem CheckS_any (now:Int) (A:Option Addr) (n c:Nat) (l:List En) (w:World) (h:StSl w A n c l) (hn:n≤1048576) (hsm:∀ x∈l,small x.val 1048576) :
  Calls Tryz.prog 60 #[.agg #[.int .i64 now,.slice A n c]] w fun e w'=>e = .returned (.int .i64 (checkStore now l))∧Below w.heap.size w w':=by
 have hln:=h.len
 have T0:=Blk.new w 38 #[.int .i64 now,.slice A n c]
 have hb0:Below w.heap.size w (w.alloc (.cells #[.int .i64 now,.slice A n c] 38)):=below_by
 by_cases h0:now<0∨1073741824<now∨12<l.length
 ·have hc:checkStore now l=13:=by unfold checkStore;rw [if_pos h0]
  rw [hc,hln] at *
  clear hc
  by_cases h1:now<0
  ·go_enter Tryz.func60,Tryz.ntmps60
   go_wp2_with fail
   go_ret
   exact ⟨rfl,below_by⟩
  ·by_cases h2:1073741824<now
   ·go_enter Tryz.func60,Tryz.ntmps60
    go_wp2_with fail
    go_ret
    exact ⟨rfl,below_by⟩
   ·have h3:(12:Int)<(n:Int):=by omega
    go_enter Tryz.func60,Tryz.ntmps60
    go_wp2_with fail
    go_ret
    exact ⟨rfl,below_by⟩
 ·have h1:¬ now<0:=by omega
  have h2:¬ 1073741824<now:=by omega
  have h3:¬ (12:Int)<(n:Int):=by omega
  have HSM:=hide hsm
  have H0:=hide h0
  have HLN:=hide hln
  clear hsm h0
  obtain ⟨CS,hCS⟩:∃ CS,CS=checkStore now l:=⟨_,rfl⟩
  rw [←hCS]
  have HCS:=hide hCS
  clear hCS
  go_enter Tryz.func60,Tryz.ntmps60
  go_wp2_with fail
  go_loopw [22] (fun s22 wr=>∃ k:Nat,k≤n∧s22 = .int .i64 k∧Blk wr w.heap.size 38 #[.int .i64 now,.slice A n c]∧Hid (∀ j<k,entBad now l j=false)∧Below w.heap.size w wr) (fun s22 _=>n - (intOf s22).toNat)
  case atStart=>exact ⟨0,by omega,rfl,T0,fun j hj=>by omega,hb0⟩
  case round=>
   obtain ⟨k,hk,rfl,T,HQ,q⟩:=hrel
   clear T0 hb0
   have hqs:=q.size
   have htl:=T.lt
   by_cases hlt:k<n
   ·have hkl:k<l.length:=by omega
    obtain ⟨b,off,A1,n1,c1,A2,n2,c2,A3,n3,c3,rfl,hb,⟨i0,i1,i2,i3,i4,i5,i6,i7⟩,N,-⟩:=(h.bl q).at_ hkl
    have hsx:=HSM.out _ (List.getElem_mem hkl)
    have hbad:entBad now l k=(keyBad l[k] || checkValue l[k].val != 0 || orderBad l k l[k] || tillBad now l[k]):=by unfold entBad;rw [List.getElem?_eq_getElem hkl]
    have hob:∀ j,k=j+1→∃ yk:ByteArray,wr.cell? ⟨b,off+j*8,none⟩=some (.string yk)∧orderBad l k l[k]=decide (0≤cmpB yk l[k].key):=by
     intro j hj
     subst hj
     have hjl:j<l.length:=by omega
     obtain ⟨b',off',_,_,_,_,_,_,_,_,_,e1,_,⟨u0,_,_,_,_,_,_,_⟩,_,_⟩:=(h.bl q).at_ hjl
     injection e1 with e1
     injection e1 with e1 e2
     subst e1;subst e2
     refine ⟨_,u0,?_⟩
     simp only [orderBad,List.getElem?_eq_getElem hjl]
    have hnb:∀ k' ,k'<k+1→entBad now l k=false→entBad now l k'=false:=fun k' hk' hf=>by
     rcases Nat.lt_or_ge k' k with h'|h'
     ·exact HQ.out k' h'
     ·obtain rfl:k'=k:=by omega
      exact hf
    have hsb:=fun hf=>store_bad (now:=now) (l:=l) (k:=k) hkl hf
    generalize l[k]=x at N i0 i1 i2 i3 i7 hsx hbad hob
    obtain ⟨xk,⟨kind,text,count,ps,is_,ss⟩,xt⟩:=x
    simp only at i0 i1 i2 i3 i7 hob
    have l1:n1≤1048576:=by have:=N.n1_;have:=hsx.1;simp only at *;omega
    have l2:n2≤1048576:=by have:=N.n2_;have:=hsx.2.1;simp only at *;omega
    have l3:n3≤1048576:=by have:=N.n3_;have:=hsx.2.2;simp only at *;omega
    have hck:=fun wz (hz:Below wr.heap.size wr wz)=>Check_val ⟨kind,text,count,ps,is_,ss⟩ A1 A2 A3 n1 c1 n2 c2 n3 c3 wz (N.bl hz) l1 l2 l3
    simp only at hck hbad
    generalize checkValue ⟨kind,text,count,ps,is_,ss⟩=cv at hck hbad
    have hkb:keyBad ⟨xk,⟨kind,text,count,ps,is_,ss⟩,xt⟩=(decide (xk.size<1) || decide (12<xk.size)):=rfl
    have htb:tillBad now ⟨xk,⟨kind,text,count,ps,is_,ss⟩,xt⟩=(xt != 0 && (decide (xt≤now) || decide (1073741824<xt))):=rfl
    rw [hkb,htb] at hbad
    obtain ⟨ob,hob1⟩:∃ ob,ob=orderBad l k ⟨xk,⟨kind,text,count,ps,is_,ss⟩,xt⟩:=⟨_,rfl⟩
    rw [←hob1] at hbad hob
    have HCK:=hide hck;have HBAD:=hide hbad;have HNB:=hide hnb;have HSB:=hide hsb;have HOB1:=hide hob1;have HOB:=hide hob
    clear hck hbad hnb hsb hob1 hob hkb htb hsx
    have hz1:(0:Int)≤(k:Int):=by omega
    have hz2:(k:Int)<(n:Int):=by omega
    have hw0:IntKind.i64.wrap (k:Int)=(k:Int):=IntWalk.i64_in _ (by omega)
    have bX:Below wr.heap.size wr (wr.alloc (.cells #[.string xk,.int .i64 kind,.string text,.int .i64 count,.slice A1 n1 c1,.slice A2 n2 c2,.slice A3 n3 c3,.int .i64 xt] 98)):=below_by
    have X:=Blk.new wr 98 #[.string xk,.int .i64 kind,.string text,.int .i64 count,.slice A1 n1 c1,.slice A2 n2 c2,.slice A3 n3 c3,.int .i64 xt]
    have T1:=T.alloc (.cells #[.string xk,.int .i64 kind,.string text,.int .i64 count,.slice A1 n1 c1,.slice A2 n2 c2,.slice A3 n3 c3,.int .i64 xt] 98)
    (try clear cT fT);have cT:=T.cell;have fT:=T.frozen
    go_upto_region 6 with fail
    have j0:=bX.cell (p:=⟨b,off+k*8,none⟩) hb
    obtain ⟨W,hW⟩:∃ W,W=(wr.alloc (.cells #[.string xk,.int .i64 kind,.string text,.int .i64 count,.slice A1 n1 c1,.slice A2 n2 c2,.slice A3 n3 c3,.int .i64 xt] 98)):=⟨_,rfl⟩
    rw [←hW] at bX X T1 ⊢
    clear hW cT fT i0 i1 i2 i3 i4 i5 i6 i7 j0
    have hxl:=X.lt
    have htl1:=T1.lt
    have hbW:b<W.heap.size:=by have:=bX.size;omega
    go_cut [58] (fun s wx=>s = .bool (decide (xk.size<1) || decide (12<xk.size) || cv != 0 || ob)∧Below W.heap.size W wx)
    case first=>
     (try clear cX fX);have cX:=X.cell;have fX:=X.frozen;(try clear cT1 fT1);have cT1:=T1.cell;have fT1:=T1.frozen
     by_cases hk1:xk.size<1
     ·have hk1':(xk.size:Int)<1:=by omega
      have hd1:decide ((xk.size:Int)<1)=true:=by simp;omega
      go_quiet (fail)
      go_wp2_with fail
      go_meet
      exact ⟨by simp [hk1],below_by⟩
     ·have hk1':¬ (xk.size:Int)<1:=by omega
      have hd1:decide ((xk.size:Int)<1)=false:=by simp;omega
      by_cases hk2:12<xk.size
      ·have hk2':(12:Int)<(xk.size:Int):=by omega
       have hd2:decide ((12:Int)<(xk.size:Int))=true:=by simp;omega
       go_quiet (fail)
       go_wp2_with fail
       go_meet
       exact ⟨by simp [hk2],below_by⟩
      ·have hk2':¬ (12:Int)<(xk.size:Int):=by omega
       have hd2:decide ((12:Int)<(xk.size:Int))=false:=by simp;omega
       by_cases hcv:cv=0
       ·have hcv':(cv != 0)=false:=by simp [hcv]
        cases k with
        | zero=>
         have hob0:ob=false:=by rw [HOB1.out];rfl
         subst hob0
         refine wp_region_x (l:=[]) (S:=fun w'=>w'.cell? ⟨wr.heap.size,0,none⟩=some (.string xk)∧w'.cell? ⟨wr.heap.size,1,none⟩=some (.int .i64 kind)∧w'.cell? ⟨wr.heap.size,2,none⟩=some (.string text)∧w'.cell? ⟨wr.heap.size,3,none⟩=some (.int .i64 count)∧w'.cell? ⟨wr.heap.size,4,none⟩=some (.slice A1 n1 c1)∧w'.cell? ⟨wr.heap.size,5,none⟩=some (.slice A2 n2 c2)∧w'.cell? ⟨wr.heap.size,6,none⟩=some (.slice A3 n3 c3)) (by kernel_rfl) ⟨X.cell 0,X.cell 1,X.cell 2,X.cell 3,X.cell 4,X.cell 5,X.cell 6⟩ (fun hS=>?_)
         refine wpAnyX_tq 0 ?_
         refine wpAnyX_tq 1 ?_
         refine wpAnyX_tq 2 ?_
         refine wpAnyX_tq 3 ?_
         (try simp only [hd1])
         refine wpAnyX_tq 4 ?_
         refine wpAnyX_tq 5 ?_
         refine wpAnyX_tq 6 ?_
         refine wpAnyX_tq 7 ?_
         refine wpAnyX_tq 8 ?_
         (try simp only [hd2])
         refine wpAnyX_tq 9 ?_
         refine wpAnyX_tq 10 ?_
         refine wpAnyX_tq 11 ?_
         refine wpAnyX_tq 12 ?_
         refine wpAnyX_onew (i:=13) (by kernel_rfl) rfl (by rfl) (fun K hK=>?_);(try simp only [List.getElem_toArray,List.getElem_cons_zero,List.getElem_cons_succ])
         go_wp2_with fail
         ((with_reducible refine (HCK.out _ ?_).mono ?_);(focus exact bstep bX below_by);rintro e w2 ⟨rfl,hb2⟩)
         go_wp2_with fail
         refine hK.out _ _ (Or.inr ⟨(X.drew.below' hb2).cell 0,(X.drew.below' hb2).cell 1,(X.drew.below' hb2).cell 2,(X.drew.below' hb2).cell 3,(X.drew.below' hb2).cell 4,(X.drew.below' hb2).cell 5,(X.drew.below' hb2).cell 6⟩) (fun hS=>?_)
         replace hS:=hS.resolve_left (by decide)
         clear hK K
         refine wpAnyX_tq 14 ?_
         (try simp only [hcv'])
         refine wpAnyX_tq 15 ?_
         refine wpAnyX_tq 16 ?_
         refine wpAnyX_tq 17 ?_
         refine wpAnyX_tq 18 ?_
         refine wpAnyX_tq 19 ?_
         refine wpAnyX_take (i:=20) (v:=undef) rfl (by kernel_rfl) (by kernel_rfl) (by kernel_rfl) (by kernel_rfl) (fun _ _ _ h=>h) (Or.inr ⟨by rfl,rfl⟩) (by assumption) ?xr20z;(try simp only [Act.put,List.setIfInBounds_toArray,List.set_cons_zero,List.set_cons_succ,List.getElem_toArray,List.getElem_cons_zero,List.getElem_cons_succ])
         refine wpAnyX_take (i:=21) (v:=undef) rfl (by kernel_rfl) (by kernel_rfl) (by kernel_rfl) (by kernel_rfl) (fun _ _ _ h=>h) (Or.inr ⟨by rfl,rfl⟩) (by assumption) ?xr21z;(try simp only [Act.put,List.setIfInBounds_toArray,List.set_cons_zero,List.set_cons_succ,List.getElem_toArray,List.getElem_cons_zero,List.getElem_cons_succ])
         refine wpAnyX_take (i:=22) (v:=undef) rfl (by kernel_rfl) (by kernel_rfl) (by kernel_rfl) (by kernel_rfl) (fun _ _ _ h=>h) (Or.inr ⟨by rfl,rfl⟩) (by assumption) ?xr22z;(try simp only [Act.put,List.setIfInBounds_toArray,List.set_cons_zero,List.set_cons_succ,List.getElem_toArray,List.getElem_cons_zero,List.getElem_cons_succ])
         refine wpAnyX_take (i:=23) (v:=undef) rfl (by kernel_rfl) (by kernel_rfl) (by kernel_rfl) (by kernel_rfl) (fun _ _ _ h=>h) (Or.inr ⟨by rfl,rfl⟩) (by assumption) ?xr23z;(try simp only [Act.put,List.setIfInBounds_toArray,List.set_cons_zero,List.set_cons_succ,List.getElem_toArray,List.getElem_cons_zero,List.getElem_cons_succ])
         refine wpAnyX_take (i:=24) (v:=undef) rfl (by kernel_rfl) (by kernel_rfl) (by kernel_rfl) (by kernel_rfl) (fun _ _ _ h=>h) (Or.inr ⟨by rfl,rfl⟩) (by assumption) ?xr24z;(try simp only [Act.put,List.setIfInBounds_toArray,List.set_cons_zero,List.set_cons_succ,List.getElem_toArray,List.getElem_cons_zero,List.getElem_cons_succ])
         refine wpAnyX_take (i:=25) (v:=undef) rfl (by kernel_rfl) (by kernel_rfl) (by kernel_rfl) (by kernel_rfl) (fun _ _ _ h=>h) (Or.inr ⟨by rfl,rfl⟩) (by assumption) ?xr25z;(try simp only [Act.put,List.setIfInBounds_toArray,List.set_cons_zero,List.set_cons_succ,List.getElem_toArray,List.getElem_cons_zero,List.getElem_cons_succ])
         refine wpAnyX_take (i:=26) (v:=undef) rfl (by kernel_rfl) (by kernel_rfl) (by kernel_rfl) (by kernel_rfl) (fun _ _ _ h=>h) (Or.inr ⟨by rfl,rfl⟩) (by assumption) ?xr26z;(try simp only [Act.put,List.setIfInBounds_toArray,List.set_cons_zero,List.set_cons_succ,List.getElem_toArray,List.getElem_cons_zero,List.getElem_cons_succ])
         refine wpAnyX_take (i:=27) (v:=undef) rfl (by kernel_rfl) (by kernel_rfl) (by kernel_rfl) (by kernel_rfl) (fun _ _ _ h=>h) (Or.inr ⟨by rfl,rfl⟩) (by assumption) ?xr27z;(try simp only [Act.put,List.setIfInBounds_toArray,List.set_cons_zero,List.set_cons_succ,List.getElem_toArray,List.getElem_cons_zero,List.getElem_cons_succ])
         refine wpAnyX_take (i:=28) (v:=undef) rfl (by kernel_rfl) (by kernel_rfl) (by kernel_rfl) (by kernel_rfl) (fun _ _ _ h=>h) (Or.inr ⟨by rfl,rfl⟩) (by assumption) ?xr28z;(try simp only [Act.put,List.setIfInBounds_toArray,List.set_cons_zero,List.set_cons_succ,List.getElem_toArray,List.getElem_cons_zero,List.getElem_cons_succ])
         refine wpAnyX_take (i:=29) (v:=undef) rfl (by kernel_rfl) (by kernel_rfl) (by kernel_rfl) (by kernel_rfl) (fun _ _ _ h=>h) (Or.inr ⟨by rfl,rfl⟩) (by assumption) ?xr29z;(try simp only [Act.put,List.setIfInBounds_toArray,List.set_cons_zero,List.set_cons_succ,List.getElem_toArray,List.getElem_cons_zero,List.getElem_cons_succ])
         refine wpAnyX_tq 30 ?_
         refine wpAnyX_tq 31 ?_
         refine wpAnyX_done (by kernel_rfl) ?_ _
         go_wp2_with fail
         go_meet
         exact ⟨by simp [hk1,hk2,hcv],below_by⟩
        | succ j=>
         obtain ⟨yk,u0,hob⟩:=HOB.out j rfl
         have u1:=(bX.cell (p:=⟨b,off+j*8,none⟩) hb).trans u0
         have hw1:IntKind.i64.wrap ((j:Int)+1 - 1)=(j:Int):=by rw [IntWalk.i64_in _ (by omega)];omega
         have hw2:IntKind.i64.wrap (j:Int)=(j:Int):=IntWalk.i64_in _ (by omega)
         have hz3:(0:Int)≤(j:Int):=by omega
         have hz4:(j:Int)<(n:Int):=by omega
         have hz5:(0:Int)<(j:Int)+1:=by omega
         have hz6:decide ((0:Int)<(j:Int)+1)=true:=decide_eq_true hz5
         have HBL:=hide (cmpB_less yk xk)
         clear u0
         by_cases hc:cmpB yk xk<0
         ·have hbl:Op.bytesLess yk.toList xk.toList=true:=by rw [HBL.out];simp [hc]
          have hob0:ob=false:=by rw [hob];simp;omega
          subst hob0
          clear hob
          refine wp_region_x (l:=[]) (S:=fun w'=>w'.cell? ⟨wr.heap.size,0,none⟩=some (.string xk)∧w'.cell? ⟨wr.heap.size,1,none⟩=some (.int .i64 kind)∧w'.cell? ⟨wr.heap.size,2,none⟩=some (.string text)∧w'.cell? ⟨wr.heap.size,3,none⟩=some (.int .i64 count)∧w'.cell? ⟨wr.heap.size,4,none⟩=some (.slice A1 n1 c1)∧w'.cell? ⟨wr.heap.size,5,none⟩=some (.slice A2 n2 c2)∧w'.cell? ⟨wr.heap.size,6,none⟩=some (.slice A3 n3 c3)∧w'.cell? ⟨w.heap.size,1,none⟩=some (.slice (some ⟨b,off,none⟩) n c)∧w'.cell? ⟨b,off+j*8,none⟩=some (.string yk)) (by kernel_rfl) ⟨X.cell 0,X.cell 1,X.cell 2,X.cell 3,X.cell 4,X.cell 5,X.cell 6,T1.cell 1,u1⟩ (fun hS=>?_)
          refine wpAnyX_tq 0 ?_
          refine wpAnyX_tq 1 ?_
          refine wpAnyX_tq 2 ?_
          refine wpAnyX_tq 3 ?_
          (try simp only [hd1])
          refine wpAnyX_tq 4 ?_
          refine wpAnyX_tq 5 ?_
          refine wpAnyX_tq 6 ?_
          refine wpAnyX_tq 7 ?_
          refine wpAnyX_tq 8 ?_
          (try simp only [hd2])
          refine wpAnyX_tq 9 ?_
          refine wpAnyX_tq 10 ?_
          refine wpAnyX_tq 11 ?_
          refine wpAnyX_tq 12 ?_
          refine wpAnyX_onew (i:=13) (by kernel_rfl) rfl (by rfl) (fun K hK=>?_);(try simp only [List.getElem_toArray,List.getElem_cons_zero,List.getElem_cons_succ])
          go_wp2_with fail
          ((with_reducible refine (HCK.out _ ?_).mono ?_);(focus exact bstep bX below_by);rintro e w2 ⟨rfl,hb2⟩)
          go_wp2_with fail
          refine hK.out _ _ (Or.inr ⟨(X.drew.below' hb2).cell 0,(X.drew.below' hb2).cell 1,(X.drew.below' hb2).cell 2,(X.drew.below' hb2).cell 3,(X.drew.below' hb2).cell 4,(X.drew.below' hb2).cell 5,(X.drew.below' hb2).cell 6,(T1.drew.below' hb2).cell 1,((bcell hb2).1 b (off+j*8) hbW).trans u1⟩) (fun hS=>?_)
          replace hS:=hS.resolve_left (by decide)
          clear hK K
          refine wpAnyX_tq 14 ?_
          (try simp only [hcv'])
          refine wpAnyX_tq 15 ?_
          refine wpAnyX_tq 16 ?_
          refine wpAnyX_tq 17 ?_
          refine wpAnyX_tq 18 ?_
          (try simp only [hz6])
          refine wpAnyX_tq 19 ?_
          refine wpAnyX_tq 20 ?_
          refine wpAnyX_tq 21 ?_
          refine wpAnyX_tq 22 ?_
          refine wpAnyX_tq 23 ?_
          refine wpAnyX_tq 24 ?_
          refine wpAnyX_tq 25 ?_
          refine wpAnyX_tq 26 ?_
          refine wpAnyX_tq 27 ?_
          refine wpAnyX_tq 28 ?_
          refine wpAnyX_tq 29 ?_
          (try simp only [hbl])
          refine wpAnyX_tq 30 ?_
          refine wpAnyX_tq 31 ?_
          refine wpAnyX_done (by kernel_rfl) ?_ _
          go_wp2_with fail
          go_meet
          exact ⟨by simp [hk1,hk2,hcv],below_by⟩
         ·have hbl:Op.bytesLess yk.toList xk.toList=false:=by rw [HBL.out];simp;omega
          have hob0:ob=true:=by rw [hob];simp;omega
          subst hob0
          clear hob
          refine wp_region_x (l:=[]) (S:=fun w'=>w'.cell? ⟨wr.heap.size,0,none⟩=some (.string xk)∧w'.cell? ⟨wr.heap.size,1,none⟩=some (.int .i64 kind)∧w'.cell? ⟨wr.heap.size,2,none⟩=some (.string text)∧w'.cell? ⟨wr.heap.size,3,none⟩=some (.int .i64 count)∧w'.cell? ⟨wr.heap.size,4,none⟩=some (.slice A1 n1 c1)∧w'.cell? ⟨wr.heap.size,5,none⟩=some (.slice A2 n2 c2)∧w'.cell? ⟨wr.heap.size,6,none⟩=some (.slice A3 n3 c3)∧w'.cell? ⟨w.heap.size,1,none⟩=some (.slice (some ⟨b,off,none⟩) n c)∧w'.cell? ⟨b,off+j*8,none⟩=some (.string yk)) (by kernel_rfl) ⟨X.cell 0,X.cell 1,X.cell 2,X.cell 3,X.cell 4,X.cell 5,X.cell 6,T1.cell 1,u1⟩ (fun hS=>?_)
          refine wpAnyX_tq 0 ?_
          refine wpAnyX_tq 1 ?_
          refine wpAnyX_tq 2 ?_
          refine wpAnyX_tq 3 ?_
          (try simp only [hd1])
          refine wpAnyX_tq 4 ?_
          refine wpAnyX_tq 5 ?_
          refine wpAnyX_tq 6 ?_
          refine wpAnyX_tq 7 ?_
          refine wpAnyX_tq 8 ?_
          (try simp only [hd2])
          refine wpAnyX_tq 9 ?_
          refine wpAnyX_tq 10 ?_
          refine wpAnyX_tq 11 ?_
          refine wpAnyX_tq 12 ?_
          refine wpAnyX_onew (i:=13) (by kernel_rfl) rfl (by rfl) (fun K hK=>?_);(try simp only [List.getElem_toArray,List.getElem_cons_zero,List.getElem_cons_succ])
          go_wp2_with fail
          ((with_reducible refine (HCK.out _ ?_).mono ?_);(focus exact bstep bX below_by);rintro e w2 ⟨rfl,hb2⟩)
          go_wp2_with fail
          refine hK.out _ _ (Or.inr ⟨(X.drew.below' hb2).cell 0,(X.drew.below' hb2).cell 1,(X.drew.below' hb2).cell 2,(X.drew.below' hb2).cell 3,(X.drew.below' hb2).cell 4,(X.drew.below' hb2).cell 5,(X.drew.below' hb2).cell 6,(T1.drew.below' hb2).cell 1,((bcell hb2).1 b (off+j*8) hbW).trans u1⟩) (fun hS=>?_)
          replace hS:=hS.resolve_left (by decide)
          clear hK K
          refine wpAnyX_tq 14 ?_
          (try simp only [hcv'])
          refine wpAnyX_tq 15 ?_
          refine wpAnyX_tq 16 ?_
          refine wpAnyX_tq 17 ?_
          refine wpAnyX_tq 18 ?_
          (try simp only [hz6])
          refine wpAnyX_tq 19 ?_
          refine wpAnyX_tq 20 ?_
          refine wpAnyX_tq 21 ?_
          refine wpAnyX_tq 22 ?_
          refine wpAnyX_tq 23 ?_
          refine wpAnyX_tq 24 ?_
          refine wpAnyX_tq 25 ?_
          refine wpAnyX_tq 26 ?_
          refine wpAnyX_tq 27 ?_
          refine wpAnyX_tq 28 ?_
          refine wpAnyX_tq 29 ?_
          (try simp only [hbl])
          refine wpAnyX_tq 30 ?_
          refine wpAnyX_tq 31 ?_
          refine wpAnyX_done (by kernel_rfl) ?_ _
          go_wp2_with fail
          go_meet
          exact ⟨by simp,below_by⟩
       ·have hcv':(cv != 0)=true:=by simp [hcv]
        refine wp_region_x (l:=[]) (S:=fun w'=>w'.cell? ⟨wr.heap.size,0,none⟩=some (.string xk)∧w'.cell? ⟨wr.heap.size,1,none⟩=some (.int .i64 kind)∧w'.cell? ⟨wr.heap.size,2,none⟩=some (.string text)∧w'.cell? ⟨wr.heap.size,3,none⟩=some (.int .i64 count)∧w'.cell? ⟨wr.heap.size,4,none⟩=some (.slice A1 n1 c1)∧w'.cell? ⟨wr.heap.size,5,none⟩=some (.slice A2 n2 c2)∧w'.cell? ⟨wr.heap.size,6,none⟩=some (.slice A3 n3 c3)) (by kernel_rfl) ⟨X.cell 0,X.cell 1,X.cell 2,X.cell 3,X.cell 4,X.cell 5,X.cell 6⟩ (fun hS=>?_)
        refine wpAnyX_tq 0 ?_
        refine wpAnyX_tq 1 ?_
        refine wpAnyX_tq 2 ?_
        refine wpAnyX_tq 3 ?_
        (try simp only [hd1])
        refine wpAnyX_tq 4 ?_
        refine wpAnyX_tq 5 ?_
        refine wpAnyX_tq 6 ?_
        refine wpAnyX_tq 7 ?_
        refine wpAnyX_tq 8 ?_
        (try simp only [hd2])
        refine wpAnyX_tq 9 ?_
        refine wpAnyX_tq 10 ?_
        refine wpAnyX_tq 11 ?_
        refine wpAnyX_tq 12 ?_
        refine wpAnyX_onew (i:=13) (by kernel_rfl) rfl (by rfl) (fun K hK=>?_);(try simp only [List.getElem_toArray,List.getElem_cons_zero,List.getElem_cons_succ])
        go_wp2_with fail
        ((with_reducible refine (HCK.out _ ?_).mono ?_);(focus exact bstep bX below_by);rintro e w2 ⟨rfl,hb2⟩)
        go_wp2_with fail
        refine hK.out _ _ (Or.inr ⟨(X.drew.below' hb2).cell 0,(X.drew.below' hb2).cell 1,(X.drew.below' hb2).cell 2,(X.drew.below' hb2).cell 3,(X.drew.below' hb2).cell 4,(X.drew.below' hb2).cell 5,(X.drew.below' hb2).cell 6⟩) (fun hS=>?_)
        replace hS:=hS.resolve_left (by decide)
        clear hK K
        refine wpAnyX_tq 14 ?_
        (try simp only [hcv'])
        refine wpAnyX_tq 15 ?_
        refine wpAnyX_tq 16 ?_
        refine wpAnyX_take (i:=17) (v:=undef) rfl (by kernel_rfl) (by kernel_rfl) (by kernel_rfl) (by kernel_rfl) (fun _ _ _ h=>h) (Or.inr ⟨by rfl,rfl⟩) (by assumption) ?xr17w;(try simp only [Act.put,List.setIfInBounds_toArray,List.set_cons_zero,List.set_cons_succ,List.getElem_toArray,List.getElem_cons_zero,List.getElem_cons_succ])
        refine wpAnyX_take (i:=18) (v:=undef) rfl (by kernel_rfl) (by kernel_rfl) (by kernel_rfl) (by kernel_rfl) (fun _ _ _ h=>h) (Or.inr ⟨by rfl,rfl⟩) (by assumption) ?xr18w;(try simp only [Act.put,List.setIfInBounds_toArray,List.set_cons_zero,List.set_cons_succ,List.getElem_toArray,List.getElem_cons_zero,List.getElem_cons_succ])
        refine wpAnyX_take (i:=19) (v:=undef) rfl (by kernel_rfl) (by kernel_rfl) (by kernel_rfl) (by kernel_rfl) (fun _ _ _ h=>h) (Or.inr ⟨by rfl,rfl⟩) (by assumption) ?xr19w;(try simp only [Act.put,List.setIfInBounds_toArray,List.set_cons_zero,List.set_cons_succ,List.getElem_toArray,List.getElem_cons_zero,List.getElem_cons_succ])
        refine wpAnyX_take (i:=20) (v:=undef) rfl (by kernel_rfl) (by kernel_rfl) (by kernel_rfl) (by kernel_rfl) (fun _ _ _ h=>h) (Or.inr ⟨by rfl,rfl⟩) (by assumption) ?xr20w;(try simp only [Act.put,List.setIfInBounds_toArray,List.set_cons_zero,List.set_cons_succ,List.getElem_toArray,List.getElem_cons_zero,List.getElem_cons_succ])
        refine wpAnyX_take (i:=21) (v:=undef) rfl (by kernel_rfl) (by kernel_rfl) (by kernel_rfl) (by kernel_rfl) (fun _ _ _ h=>h) (Or.inr ⟨by rfl,rfl⟩) (by assumption) ?xr21w;(try simp only [Act.put,List.setIfInBounds_toArray,List.set_cons_zero,List.set_cons_succ,List.getElem_toArray,List.getElem_cons_zero,List.getElem_cons_succ])
        refine wpAnyX_take (i:=22) (v:=undef) rfl (by kernel_rfl) (by kernel_rfl) (by kernel_rfl) (by kernel_rfl) (fun _ _ _ h=>h) (Or.inr ⟨by rfl,rfl⟩) (by assumption) ?xr22w;(try simp only [Act.put,List.setIfInBounds_toArray,List.set_cons_zero,List.set_cons_succ,List.getElem_toArray,List.getElem_cons_zero,List.getElem_cons_succ])
        refine wpAnyX_take (i:=23) (v:=undef) rfl (by kernel_rfl) (by kernel_rfl) (by kernel_rfl) (by kernel_rfl) (fun _ _ _ h=>h) (Or.inr ⟨by rfl,rfl⟩) (by assumption) ?xr23w;(try simp only [Act.put,List.setIfInBounds_toArray,List.set_cons_zero,List.set_cons_succ,List.getElem_toArray,List.getElem_cons_zero,List.getElem_cons_succ])
        refine wpAnyX_take (i:=24) (v:=undef) rfl (by kernel_rfl) (by kernel_rfl) (by kernel_rfl) (by kernel_rfl) (fun _ _ _ h=>h) (Or.inr ⟨by rfl,rfl⟩) (by assumption) ?xr24w;(try simp only [Act.put,List.setIfInBounds_toArray,List.set_cons_zero,List.set_cons_succ,List.getElem_toArray,List.getElem_cons_zero,List.getElem_cons_succ])
        refine wpAnyX_take (i:=25) (v:=undef) rfl (by kernel_rfl) (by kernel_rfl) (by kernel_rfl) (by kernel_rfl) (fun _ _ _ h=>h) (Or.inr ⟨by rfl,rfl⟩) (by assumption) ?xr25w;(try simp only [Act.put,List.setIfInBounds_toArray,List.set_cons_zero,List.set_cons_succ,List.getElem_toArray,List.getElem_cons_zero,List.getElem_cons_succ])
        refine wpAnyX_take (i:=26) (v:=undef) rfl (by kernel_rfl) (by kernel_rfl) (by kernel_rfl) (by kernel_rfl) (fun _ _ _ h=>h) (Or.inr ⟨by rfl,rfl⟩) (by assumption) ?xr26w;(try simp only [Act.put,List.setIfInBounds_toArray,List.set_cons_zero,List.set_cons_succ,List.getElem_toArray,List.getElem_cons_zero,List.getElem_cons_succ])
        refine wpAnyX_take (i:=27) (v:=undef) rfl (by kernel_rfl) (by kernel_rfl) (by kernel_rfl) (by kernel_rfl) (fun _ _ _ h=>h) (Or.inr ⟨by rfl,rfl⟩) (by assumption) ?xr27w;(try simp only [Act.put,List.setIfInBounds_toArray,List.set_cons_zero,List.set_cons_succ,List.getElem_toArray,List.getElem_cons_zero,List.getElem_cons_succ])
        refine wpAnyX_take (i:=28) (v:=undef) rfl (by kernel_rfl) (by kernel_rfl) (by kernel_rfl) (by kernel_rfl) (fun _ _ _ h=>h) (Or.inr ⟨by rfl,rfl⟩) (by assumption) ?xr28w;(try simp only [Act.put,List.setIfInBounds_toArray,List.set_cons_zero,List.set_cons_succ,List.getElem_toArray,List.getElem_cons_zero,List.getElem_cons_succ])
        refine wpAnyX_take (i:=29) (v:=undef) rfl (by kernel_rfl) (by kernel_rfl) (by kernel_rfl) (by kernel_rfl) (fun _ _ _ h=>h) (Or.inr ⟨by rfl,rfl⟩) (by assumption) ?xr29w;(try simp only [Act.put,List.setIfInBounds_toArray,List.set_cons_zero,List.set_cons_succ,List.getElem_toArray,List.getElem_cons_zero,List.getElem_cons_succ])
        refine wpAnyX_take (i:=30) (v:=undef) rfl (by kernel_rfl) (by kernel_rfl) (by kernel_rfl) (by kernel_rfl) (fun _ _ _ h=>h) (Or.inr ⟨by rfl,rfl⟩) (by assumption) ?xr30w;(try simp only [Act.put,List.setIfInBounds_toArray,List.set_cons_zero,List.set_cons_succ,List.getElem_toArray,List.getElem_cons_zero,List.getElem_cons_succ])
        refine wpAnyX_tq 31 ?_
        refine wpAnyX_done (by kernel_rfl) ?_ _
        go_wp2_with fail
        go_meet
        exact ⟨by simp [hcv],below_by⟩
    case rest=>
     obtain ⟨rfl,hbw⟩:=hcut
     have X2:=X.below' hbw;have T2:=T1.below' hbw
     have q2:Below w.heap.size w wc:=bstep q (bstep bX hbw)
     have hx2:=X2.lt
     have ht2:=T2.lt
     clear X T1 HCK hbw bX T HOB HOB1
     (try clear cX2 fX2);have cX2:=X2.cell;have fX2:=X2.frozen;(try clear cT2 fT2);have cT2:=T2.cell;have fT2:=T2.frozen
     cases hb1:(decide (xk.size<1) || decide (12<xk.size) || cv != 0 || ob) with
     | true=>
      have hD:CS=13:=by rw [HCS.out];exact HSB.out (by rw [HBAD.out,hb1];rfl)
      clear HNB HSB HBAD HCS
      subst hD
      go_wp2_with fail
      go_ret
      exact ⟨rfl,q2⟩
     | false=>
      have hbd:=HBAD.out
      rw [hb1,Bool.false_or] at hbd
      by_cases ht0:xt=0
      ·have hf:entBad now l k=false:=by rw [hbd];simp [ht0]
       have HQ2:Hid (∀ j<k+1,entBad now l j=false):=hide fun j hj=>HNB.out j hj hf
       clear hbd hf HBAD HSB HNB HQ
       subst ht0
       go_wp2_with fail
       go_roundw
       case rel=>exact ⟨k+1,by omega,by go_num,T2,HQ2,q2⟩
       case measure=>simp [intOf];omega
      ·have ht0':(xt == 0)=false:=by rw [beq_eq_false_iff_ne];exact ht0
       by_cases ht1:xt≤now
       ·have hD:CS=13:=by rw [HCS.out];exact HSB.out (by rw [hbd];simp [ht0,ht1])
        clear hbd HNB HSB HBAD HCS
        subst hD
        go_wp2_with fail
        go_ret
        exact ⟨rfl,q2⟩
       ·by_cases ht2:1073741824<xt
        ·have hD:CS=13:=by rw [HCS.out];exact HSB.out (by rw [hbd];simp [ht0,ht2])
         clear hbd HNB HSB HBAD HCS
         subst hD
         go_wp2_with fail
         go_ret
         exact ⟨rfl,q2⟩
        ·have hf:entBad now l k=false:=by rw [hbd];simp [ht0];omega
         have HQ2:Hid (∀ j<k+1,entBad now l j=false):=hide fun j hj=>HNB.out j hj hf
         clear hbd hf HBAD HSB HNB HQ
         go_wp2_with fail
         go_roundw
         case rel=>exact ⟨k+1,by omega,by go_num,T2,HQ2,q2⟩
         case measure=>simp [intOf];omega
   ·obtain rfl:k=n:=by omega
    have hD:CS=0:=by rw [HCS.out];exact store_good H0.out (fun j hj=>HQ.out j (by have:=HLN.out;omega))
    clear HCS HQ
    subst hD
    go_wp2_with fail
    go_ret
    exact ⟨rfl,q⟩
end Go.Proofs.YtgmojjclobkpjaaGreatDoor

