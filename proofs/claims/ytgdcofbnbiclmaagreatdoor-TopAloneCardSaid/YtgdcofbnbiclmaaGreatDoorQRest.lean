import Derived.Test.YtgdcofbnbiclmaaGreatDoorQCliD
import Derived.Test.YtgdcofbnbiclmaaGreatDoorQLed
namespace Go.Proofs.YtgdcofbnbiclmaaGreatDoor
set_option linter.all false
set_option maxHeartbeats 32000000
open Go.RowKit
theorem own_grown {w w':World} {B g size:Nat} {t t':TypeId} {v:Value} {rows:List (List Value)} {cs:Array Value} (h:Own w B t size v rows) (R:Blk w g t' cs) (hg:w.grownBy w' (some g)) (hne:t'≠t):Own w' B t size v rows:=by
 refine ⟨⟨h.1.1,?_⟩,h.2⟩
 rcases h.1.2 with e|⟨b,cap,cur,e1,e2,e3,e4⟩
 ·exact .inl e
 ·exact .inr ⟨b,cap,cur,e1,e2,grown_blk (t:=t) e3 hg (blk_ne (t:=t) e3 R (Ne.symm hne)),e4⟩
def restL (b bt:Int) (L:List Itm) (si st:Int):List Itm:=if termE b bt L si=(st,0) then L.drop (si - b).toNat else []
theorem term_in {b bt si st:Int} {L:List Itm} (h0:0≤si) (h1:si≤1048576) (h:termE b bt L si=(st,0)):∃ k:Nat,k≤L.length∧si=b+k∧(termOf b bt L (b+k)).1=st:=by
 unfold termE at h
 rw [if_neg (by omega)] at h
 by_cases h2:si<b
 ·rw [termOf_lt h2] at h
  injection h with _ h
  omega
 ·by_cases h3:b<si∧(L.length:Int)<si - b
  ·rw [termOf_gt h3.1 h3.2] at h
   injection h with _ h
   omega
  ·obtain ⟨k,hk⟩:=Int.eq_ofNat_of_zero_le (show 0≤si - b by omega)
   have e:si=b+k:=by omega
   subst e
   exact ⟨k,by omega,rfl,by rw [h]⟩
theorem rest_good {b bt si st:Int} {L:List Itm} (hg:checkLog b bt L=0) (h0:1≤si) (h1:si≤1048576) (t0:1≤st) (t1:st≤1048576):checkLog si st (restL b bt L si st)=0:=by
 unfold restL
 by_cases h:termE b bt L si=(st,0)
 ·rw [if_pos h]
  obtain ⟨k,hk,rfl,rfl⟩:=term_in (by omega) (by omega) h
  rw [show (b+(k:Int) - b).toNat=k by omega]
  exact (trim_good hg hk).1
 ·rw [if_neg h]
  exact checkLog_ok (by omega) (by omega) (by omega) (by omega) (by simp) (by simp;omega) rfl
theorem whole_log {w2:World} {b:Nat} {x0 x1 x2:Value} (u0 u1 u2:Value) (R:Blk w2 b 43 #[x0,x1,x2]) :
  Blk (((w2.setCell ⟨b,0,none⟩ (u0)).setCell ⟨b,1,none⟩ (u1)).setCell ⟨b,2,none⟩ (u2)) b 43 #[u0,u1,u2]∧w2.grownBy (((w2.setCell ⟨b,0,none⟩ (u0)).setCell ⟨b,1,none⟩ (u1)).setCell ⟨b,2,none⟩ (u2)) (some b)∧(((w2.setCell ⟨b,0,none⟩ (u0)).setCell ⟨b,1,none⟩ (u1)).setCell ⟨b,2,none⟩ (u2)).heap.size=w2.heap.size:=by
 have R0:=R.set' (i:=0) (u:=u0) rfl
 have R1:=R0.set' (i:=1) (u:=u1) rfl
 have R2:=R1.set' (i:=2) (u:=u2) rfl
 exact ⟨R2,grown_trans (grown_trans (grown_setRow_cell w2 b 0 u0) (grown_setRow_cell _ b 1 u1)) (grown_setRow_cell _ b 2 u2),by simp⟩
set_option maxRecDepth 100000 in
theorem rest_any (b bt si st now next:Int) (A A1 B1:Option Addr) (n c n1 c1 k1 d1:Nat) (L:List Itm) (w:World) (hb1:I64 b) (hb2:I64 bt) (hs0:0≤si) (hs1:si≤1048576) (hS:Sl w 10 A n c (itemRows L)) (hg:checkLog b bt L=0) :
  Calls Tryz.prog 167 #[.agg #[.int .i64 b,.int .i64 bt,.slice A n c],.agg #[.int .i64 si,.int .i64 st,.int .i64 now,.slice A1 n1 c1,.int .i64 next,.slice B1 k1 d1]] w fun e w'=>∃ A' n' c',e = .returned (.agg #[.int .i64 si,.int .i64 st,.slice A' n' c'])∧(∃ B,Own w' B 67 10 (.slice A' n' c') (itemRows (restL b bt L si st)))∧Below w.heap.size w w':=by
 have hT:=fun w' (h:Below w.heap.size w w')=>Term_any b bt A n c L si w' hb1 hb2 ⟨by omega,by omega⟩ (hS.below h) hg
 have hK:termE b bt L si=(st,0)→∃ k:Nat,k≤L.length∧si=b+k∧(termOf b bt L (b+k)).1=st:=term_in hs0 hs1
 have hTr:=fun k w' (hk:k≤L.length) (h:Below w.heap.size w w')=>Trim_ok b bt A n c L k w' hb1 hb2 (hS.below h) hg hk
 obtain ⟨RL,hRL⟩:∃ RL,RL=restL b bt L si st:=⟨_,rfl⟩
 rw [←hRL]
 unfold restL at hRL
 generalize termE b bt L si=te at *
 obtain ⟨tt,te⟩:=te
 have HRL:=hide hRL
 clear hRL
 have HT:=hide hT;have HTR:=hide hTr;have HK:=hide hK
 clear hT hTr hK
 have T0:=(Blk.new w 43 #[.int .i64 b,.int .i64 bt,.slice A n c]).alloc (.cells #[.int .i64 si,.int .i64 st,.int .i64 now,.slice A1 n1 c1,.int .i64 next,.slice B1 k1 d1] 109)
 have T1:Blk ((w.alloc (.cells #[.int .i64 b,.int .i64 bt,.slice A n c] 43)).alloc (.cells #[.int .i64 si,.int .i64 st,.int .i64 now,.slice A1 n1 c1,.int .i64 next,.slice B1 k1 d1] 109)) (w.heap.size+1) 109 #[.int .i64 si,.int .i64 st,.int .i64 now,.slice A1 n1 c1,.int .i64 next,.slice B1 k1 d1]:=Blk.new' _ _ _ (by simp)
 replace T0:=T0.alloc (.cells #[.int .i64 0,.int .i64 0,.slice none 0 0] 43)
 replace T1:=T1.alloc (.cells #[.int .i64 0,.int .i64 0,.slice none 0 0] 43)
 have Z0:Blk (((w.alloc (.cells #[.int .i64 b,.int .i64 bt,.slice A n c] 43)).alloc (.cells #[.int .i64 si,.int .i64 st,.int .i64 now,.slice A1 n1 c1,.int .i64 next,.slice B1 k1 d1] 109)).alloc (.cells #[.int .i64 0,.int .i64 0,.slice none 0 0] 43)) (w.heap.size+1+1) 43 #[.int .i64 0,.int .i64 0,.slice none 0 0]:=Blk.new' _ _ _ (by simp)
 have q0:Below w.heap.size w (((w.alloc (.cells #[.int .i64 b,.int .i64 bt,.slice A n c] 43)).alloc (.cells #[.int .i64 si,.int .i64 st,.int .i64 now,.slice A1 n1 c1,.int .i64 next,.slice B1 k1 d1] 109)).alloc (.cells #[.int .i64 0,.int .i64 0,.slice none 0 0] 43)):=below_by
 go_enter Tryz.func167,Tryz.ntmps167
 (try clear cT0 fT0);have cT0:=T0.cell;have fT0:=T0.frozen;(try clear cT1 fT1);have cT1:=T1.cell;have fT1:=T1.frozen;(try clear cZ0 fZ0);have cZ0:=Z0.cell;have fZ0:=Z0.frozen
 go_wp2_with fail
 refine (HT.out _ q0).mono ?_
 rintro e w1 ⟨rfl,hb1⟩
 have hz:=hide (show w.heap.size≤w.heap.size+1+1 by omega)
 replace T0:=T0.bl hb1;replace T1:=T1.bl hb1;replace Z0:=Z0.bl hb1
 have q1:=bstep q0 hb1
 clear hb1 q0 cT0 fT0 cT1 fT1 cZ0 fZ0
 (try clear cT0 fT0);have cT0:=T0.cell;have fT0:=T0.frozen;(try clear cT1 fT1);have cT1:=T1.cell;have fT1:=T1.frozen;(try clear cZ0 fZ0);have cZ0:=Z0.cell;have fZ0:=Z0.frozen
 by_cases hte:te=0∧tt=st
 ·obtain ⟨rfl,rfl⟩:=hte
  obtain ⟨k,hk,rfl,hst⟩:=HK.out rfl
  have hrl:RL=L.drop k:=by rw [HRL.out,if_pos rfl,show (b+(k:Int) - b).toNat=k by omega]
  have hTR:=HTR.out k w1 hk q1
  rw [hst] at hTR
  have HTR:=hide hTR
  clear hTR hst
  go_wp2_with fail
  refine HTR.out.mono ?_
  rintro e w2 ⟨v,rfl,hown,hb2⟩
  rw [←hrl] at hown
  obtain ⟨A2,c2,rfl,-⟩:=hown.sl
  generalize (itemRows RL).length=n2 at *
  clear hrl HRL HK
  replace Z0:=Z0.bl hb2
  have q2:=bstep q1 hb2
  clear hb2 q1 cT0 fT0 cT1 fT1 cZ0 fZ0 HTR T0 T1
  have D2:=Blk.new w2 43 #[.int .i64 (b+k),.int .i64 tt,.slice A2 n2 c2]
  replace Z0:=Z0.al (.cells #[.int .i64 (b+k),.int .i64 tt,.slice A2 n2 c2] 43)
  replace hown:=hown.below ((Below.refl _ w2).alloc (Nat.le_refl _) (.cells #[.int .i64 (b+k),.int .i64 tt,.slice A2 n2 c2] 43))
  have q3:Below w.heap.size w (w2.alloc (.cells #[.int .i64 (b+k),.int .i64 tt,.slice A2 n2 c2] 43)):=below_by
  obtain ⟨Z9,gr9,sz9⟩:=whole_log (.int .i64 (b+k)) (.int .i64 tt) (.slice A2 n2 c2) Z0
  have HP:=hide (And.intro (own_grown hown Z0 gr9 (by decide)) (below_grow q3 gr9 q3.size hz.out))
  have cZ9:=hide Z9.cell
  clear Z9 gr9 sz9 q3 hown q2
  (try clear cD2 fD2);have cD2:=D2.cell;have fD2:=D2.frozen;(try clear cZ0 fZ0);have cZ0:=Z0.cell;have fZ0:=Z0.frozen
  go_wp2_with fail
  have cZ9:=cZ9.out
  refine bodyPost_ret (v:=.agg #[.int .i64 (b+k),.int .i64 tt,.slice A2 n2 c2]) ?_ rfl ⟨_,_,_,rfl,⟨_,HP.out.1⟩,HP.out.2⟩
  simp [results,Tryz.results167,go_sem,cZ9]
 ·have hne:(tt,te)≠(st,0):=fun h=>hte (by injection h with a b;exact ⟨b,a⟩)
  have hrl:RL=[]:=by rw [HRL.out,if_neg hne]
  subst hrl
  obtain ⟨Z9,gr9,sz9⟩:=whole_log (.int .i64 si) (.int .i64 st) (.slice none 0 0) Z0
  have HP:=hide (below_grow q1 gr9 q1.size hz.out)
  have cZ9:=hide Z9.cell
  clear Z9 gr9 sz9 q1 HTR HK hne
  by_cases h0:te=0
  ·subst h0
   have h1:(tt == st)=false:=by rw [beq_eq_false_iff_ne];exact fun h=>hte ⟨rfl,h⟩
   clear hte
   go_wp2_with fail
   have cZ9:=cZ9.out
   refine bodyPost_ret (v:=.agg #[.int .i64 si,.int .i64 st,.slice none 0 0]) ?_ rfl ⟨_,_,_,rfl,⟨0,Own.nil⟩,HP.out⟩
   simp [results,Tryz.results167,go_sem,cZ9]
  ·have h1:(te == 0)=false:=by rw [beq_eq_false_iff_ne];exact h0
   clear hte
   go_wp2_with fail
   have cZ9:=cZ9.out
   refine bodyPost_ret (v:=.agg #[.int .i64 si,.int .i64 st,.slice none 0 0]) ?_ rfl ⟨_,_,_,rfl,⟨0,Own.nil⟩,HP.out⟩
   simp [results,Tryz.results167,go_sem,cZ9]
end Go.Proofs.YtgdcofbnbiclmaaGreatDoor

