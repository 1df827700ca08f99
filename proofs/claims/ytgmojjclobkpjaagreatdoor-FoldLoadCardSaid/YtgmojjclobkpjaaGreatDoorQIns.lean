import Derived.Test.YtgmojjclobkpjaaGreatDoorQOwn
import Derived.Test.YtgmojjclobkpjaaGreatDoorQVal
import Derived.Lib.Overlaps
import Derived.Deep.RegionLaw
import Derived.Deep.DrawnRows
namespace Go.Proofs.YtgmojjclobkpjaaGreatDoor
set_option linter.all false
set_option maxHeartbeats 32000000
open Go.RowKit
attribute [local go_sem ↓] Go.wp_at_zero Go.wp_at_succ
def insRows {α:Type} (l:List α) (i:Nat) (x:α):List α:=l.take i ++ [x] ++ l.drop i
def delRows {α:Type} (l:List α) (i:Nat):List α:=l.take i ++ l.drop (i+1)
theorem ins_room {α:Type} (l:List α) (r x:α) {n i:Nat} (hn:l.length=n) (hi:i<n) :
  (((l ++ [r]).take (i+1) ++ ((l ++ [r]).drop i).take (n - i) ++ (l ++ [r]).drop (i+1+(n - i))).take i ++ [x].take 1 ++ ((l ++ [r]).take (i+1) ++ ((l ++ [r]).drop i).take (n - i) ++ (l ++ [r]).drop (i+1+(n - i))).drop (i+1))=insRows l i x:=by
 subst hn
 have e1:(l ++ [r]).take (i+1)=l.take (i+1):=by rw [List.take_append_of_le_length (by omega)]
 have e2:((l ++ [r]).drop i).take (l.length - i)=l.drop i:=by
  rw [List.drop_append_of_le_length (by omega),List.take_append_of_le_length (by simp)]
  exact List.take_of_length_le (by simp)
 have e3:(l ++ [r]).drop (i+1+(l.length - i))=[]:=List.drop_eq_nil_of_le (by simp;omega)
 rw [e1,e2,e3,List.append_nil]
 unfold insRows
 have e4:(l.take (i+1) ++ l.drop i).take i=l.take i:=by
  rw [List.take_append_of_le_length (by simp;omega),List.take_take,Nat.min_eq_left (by omega)]
 have e5:(l.take (i+1) ++ l.drop i).drop (i+1)=l.drop i:=by
  rw [List.drop_append,List.drop_eq_nil_of_le (by simp;omega),List.nil_append]
  rw [List.length_take,Nat.min_eq_left (by omega),Nat.sub_self,List.drop_zero]
 rw [e4,e5]
 rfl
theorem ins_zero {α:Type} (l:List α) (z x:α) {n i:Nat} (hn:l.length=n) (hi:i<n) :
  ((l.take i ++ List.replicate (n+1 - i) z).take i ++ [x].take 1 ++ (l.take i ++ List.replicate (n+1 - i) z).drop (i+1)).take (i+1) ++ (l.drop i).take (n - i) ++ ((l.take i ++ List.replicate (n+1 - i) z).take i ++ [x].take 1 ++ (l.take i ++ List.replicate (n+1 - i) z).drop (i+1)).drop (i+1+(n - i))=insRows l i x:=by
 subst hn
 have h1:(l.take i ++ List.replicate (l.length+1 - i) z).take i=l.take i:=by
  rw [List.take_append_of_le_length (by simp;omega),List.take_take,Nat.min_self]
 have h2:(l.take i ++ [x].take 1).length=i+1:=by simp;omega
 rw [h1]
 have h3:∀ r:List α,(l.take i ++ [x].take 1 ++ r).take (i+1)=l.take i ++ [x].take 1:=fun r=>by
  rw [List.take_append_of_le_length (by omega),List.take_of_length_le (by omega)]
 have h4:(l.drop i).take (l.length - i)=l.drop i:=List.take_of_length_le (by simp)
 have h5:(l.take i ++ [x].take 1 ++ (l.take i ++ List.replicate (l.length+1 - i) z).drop (i+1)).drop (i+1+(l.length - i))=[]:=
  List.drop_eq_nil_of_le (by simp;omega)
 rw [h3,h4,h5,List.append_nil]
 rfl
def InsPost (w:World) (base:Nat) (T:TypeId) (size:Nat) (rows:List (List Value)) (blk:Option Nat) (e:Ending) (w':World):Prop:=
 ∃ A' n' c',e = .returned (.slice A' n' c')∧Own w' base T size (.slice A' n' c') rows∧w.grownBy w' blk
theorem Sl.grown {w w':World} {size n c:Nat} {A:Option Addr} {rows:List (List Value)} (h:Sl w size A n c rows) (hg:w.grownBy w' none):Sl w' size A n c rows:=
 h.below ⟨hg.os,hg.tape,hg.output,hg.size,fun k hk=>hg.block k hk (by simp)⟩
theorem Sl.one_ {w:World} {b size:Nat} {T:TypeId} {row:Array Value} (h:Blk w b T row) (hl:row.size=size):Sl w size (some ⟨b,0,none⟩) 1 1 [row.toList]:=by
 refine ⟨rfl,Nat.le_refl _,by simp [maxLen],by simp,fun _=>⟨b,0,rfl,h.lt,fun i r hi j u hu=>?_⟩,by simpa using hl⟩
 have hi0:i=0:=by
  rcases Nat.eq_zero_or_pos i with h'|h'
  ·exact h'
  ·rw [List.getElem?_eq_none (by simp;omega)] at hi;cases hi
 subst hi0
 simp only [List.getElem?_cons_zero,Option.some.injEq] at hi
 subst hi
 rw [h.cell,Nat.zero_mul,Nat.zero_add,Nat.zero_add,←Array.getElem?_toList]
 exact hu
theorem Seg.far {w w':World} {size g:Nat} {A:Option Addr} {rows:List (List Value)} (h:Seg w size A rows) (hg:w.grownBy w' (some g)) (hne:∀ a,A=some a→a.block≠g):Seg w' size A rows:=fun hn=>by
 obtain ⟨b,off,e,hb,hc⟩:=h hn
 refine ⟨b,off,e,Nat.lt_of_lt_of_le hb hg.size,fun i r hr j u hu=>?_⟩
 have hbg:b≠g:=hne _ e
 rw [World.cell?_of_block (a:=⟨b,off+(i*size+j),none⟩) (hg.block b hb (by simpa using hbg))]
 exact hc i r hr j u hu
theorem Sl.far {w w':World} {size n c g:Nat} {A:Option Addr} {rows:List (List Value)} (h:Sl w size A n c rows) (hg:w.grownBy w' (some g)) (hne:∀ a,A=some a→a.block≠g):Sl w' size A n c rows:=
 ⟨h.len,h.nc,h.cm,h.nil,h.seg.far hg hne,h.row⟩
theorem blk_shape {w:World} {b:Nat} {T:TypeId} {cs:Array Value} (h:w.heap[b]?=some (.cells cs T (0,0))):w.shape? b=some (T,cs.size):=by
 simp [World.shape?,h]
theorem pair_sz2:(Tryz.prog.info? 137).map (·.size)=some 2:=by kernel_rfl
theorem pair_sz:(Tryz.prog.info? 137).map (·.size)=some 2:=by kernel_rfl
set_option maxRecDepth 100000 in
theorem Insert_pair (A:Option Addr) (n c base i b:Nat) (rows:List (List Value)) (row:Array Value) (w:World) (h:Own w base 137 2 (.slice A n c) rows) (h1:∀ r∈rows,∀ u∈r,u.oneCell'=true)
  (hi:i≤n) (hn:n≤1048576) (hb:Blk w b 137 row) (hl:row.size=2) (h1r:∀ u∈row.toList,u.oneCell'=true) (hbv:some b≠(Value.slice A n c).ownBlock) (hbase:base≤w.heap.size) :
  Calls Tryz.prog 162 #[.slice A n c,.int .i64 (i:Int),.slice (some ⟨b,0,none⟩) 1 1] w (InsPost w base 137 2 (insRows rows i row.toList) (Value.slice A n c).ownBlock):=by
 have hrn:=h.n_eq
 have hsl:=h.sl'
 have hnc:=hsl.nc
 have hcm:=hsl.cm
 unfold maxLen at hcm
 have srcv:=Sl.one_ hb hl
 have h1v:∀ r∈[row.toList],∀ u∈r,u.oneCell'=true:=by intro r hr;simp at hr;subst hr;exact h1r
 have s1:=run_cut (P:=Tryz.prog) Tryz.underlying92 pair_sz A n c i hi
 have HN:=hide hrn
 by_cases hin:i=n
 ·subst hin
  obtain ⟨A',n',c',w1,hr,ho,hg⟩:=h.join (P:=Tryz.prog) (t:=92) Tryz.underlying92 pair_info rfl (by omega) srcv h1v (by unfold maxLen;omega) (by omega) hbase 92
  have e1:insRows rows i row.toList=rows ++ [row.toList]:=by
   unfold insRows
   rw [List.take_of_length_le (by omega),List.drop_eq_nil_of_le (by omega),List.append_nil]
  rw [e1]
  clear hrn e1
  go_enter Tryz.func162,Tryz.ntmps162
  go_wp2_with (at_builtin;refine Lib.wpList_append_run _ rfl _ _ _ _ rfl _ _ rfl rfl _ _ hr ?_)
  go_ret
  exact ⟨_,_,_,rfl,ho,hg⟩
 ·have hlt:i<n:=by omega
  have hz2:((i:Int) == (n:Int))=false:=by rw [beq_eq_false_iff_ne];omega
  have hw1:IntKind.i64.wrap ((i:Int)+1)=(i:Int)+1:=IntWalk.i64_in _ (by omega)
  obtain ⟨g,cur,rfl,hbg,-,-,-,hcur,hcs,-⟩:=h.whole (by rintro rfl;have:=hsl.nil rfl;omega)
  have hgl:g<w.heap.size:=by
   rcases Nat.lt_or_ge g w.heap.size with hl|hl
   ·exact hl
   ·rw [Array.getElem?_eq_none hl] at hcur;cases hcur
  have hbg2:b≠g:=fun e=>hbv (by simp [Value.ownBlock,e])
  by_cases hroom:n+1≤c
  ·obtain ⟨r0,hm⟩:=h.more (by omega)
   have hlm:(rows ++ [r0]).length=n+1:=by simp;omega
   obtain ⟨d1,hd1⟩:∃ d,d=n+1 - i:=⟨_,rfl⟩
   obtain ⟨d2,hd2⟩:∃ d,d=c - i:=⟨_,rfl⟩
   have s2:∀ w,(Instr.slice 92 (.slice (some ⟨g,0,none⟩) n c) none (some (.int .i64 ((n:Int)+1))) none).run Tryz.prog w = .ok (.slice (some ⟨g,0,none⟩) (n+1) c) w:=by
    have:=run_take (P:=Tryz.prog) Tryz.underlying92 pair_sz (some ⟨g,0,none⟩) n c (n+1) hroom
    rwa [show ((n+1:Nat):Int)=(n:Int)+1 by omega] at this
   have s3:=run_cut (P:=Tryz.prog) Tryz.underlying92 pair_sz (some ⟨g,0,none⟩) (n+1) c i (by omega)
   rw [←hd1,←hd2] at s3
   rw [←hd2] at s1
   have s4:∀ w,(Instr.slice 92 (.slice (some ⟨g,0,none⟩) (n+1) c) (some (.int .i64 ((i:Int)+1))) none none).run Tryz.prog w = .ok (.slice (cutA (some ⟨g,0,none⟩) c (i+1) 2) (n+1 - (i+1)) (c - (i+1))) w:=by
    have:=run_cut (P:=Tryz.prog) Tryz.underlying92 pair_sz (some ⟨g,0,none⟩) (n+1) c (i+1) (by omega)
    rwa [show ((i+1:Nat):Int)=(i:Int)+1 by omega] at this
   have hov:∀ lb cb,(callFunc 172 #[.slice (some ⟨b,0,none⟩) 1 1,.slice (cutA (some ⟨g,0,none⟩) c (i+1) 2) lb cb]).run Tryz.prog w = .ok (.value (.bool false)) w:=fun lb cb=>by
    have hD:cutA (some ⟨g,0,none⟩) c (i+1) 2=some ⟨g,(i+1)*2,none⟩:=by
     unfold cutA
     rw [if_neg (by omega)]
     simp [Addr.add_lit]
    rw [hD,run_callFunc_extern Tryz.func172 (by kernel_rfl) (by kernel_rfl) (by kernel_rfl) (e:=Extern.SlicesOverlaps.overlaps #[92,92] #[4]) (by kernel_rfl),
     Lib.run_overlaps_apart w 92 4 137 Tryz.underlying92 2 (fun w=>by
      obtain ⟨ti,hi1,hi2,hi3,hi4⟩:=info_parts pair_info
      simp [Go.sizeOf,typeInfo,hi1,hi3]) ⟨b,0,none⟩ ⟨g,(i+1)*2,none⟩ 1 1 lb cb hbg2 _ _ _ _ (blk_shape hb) (blk_shape hcur) (by rw [hcs];have:0<c*2:=Nat.mul_pos (by omega) (by omega);omega) (hb.frozen _) (hb.frozen _)]
    rfl
   have hsl2:=hm.sl'.drop i (by omega) c (Nat.le_refl _) (by omega)
   rw [←hd1,←hd2] at hsl2
   have h1m:∀ r∈((rows ++ [r0]).drop i).take (n - i),∀ u∈r,u.oneCell'=true:=by
    rw [List.drop_append_of_le_length (by omega),List.take_append_of_le_length (by simp;omega)]
    exact fun r hr=>h1 r (List.mem_of_mem_drop (List.mem_of_mem_take hr))
   have hsl2':=hsl2.take (n - i) (by omega) d2 (by omega) (Nat.le_refl _)
   obtain ⟨w1,hc1,ho1,hg1⟩:=(Own.drew hm).copy (P:=Tryz.prog) (t:=92) (j:=i+1) (k:=n - i) Tryz.underlying92 pair_sz (by omega) hsl2.drew h1m (by omega) (by omega) (by omega)
   have srcv1:=srcv.drew.far hg1 (by simpa using hbg2)
   obtain ⟨w2,hc2,ho2,hg2⟩:=ho1.copy (P:=Tryz.prog) (t:=92) (j:=i) (k:=1) Tryz.underlying92 pair_sz (by omega) srcv1 (fun r hr=>h1v r (List.mem_of_mem_take hr)) (by omega) (by omega) (by omega)
   have ho3:Own w2 base 137 2 (.slice (some ⟨g,0,none⟩) (n+1) c) (insRows rows i row.toList):=by
    rw [←ins_room rows r0 row.toList hrn.symm hlt];exact ho2
   have hg3:w.grownBy w2 (some g):=grown_trans (grown_drew hg1) hg2
   have hmin1:Nat.min d1 (n - i)=n - i:=by simp only [Nat.min_def];split <;> omega
   have hmin2:Nat.min 1 d1=1:=by simp only [Nat.min_def];split <;> omega
   have HC1:Hid (∀ ty dl dc,Nat.min d1 dl=n - i→_):=hc1
   have hq:=fun ty=>hc2 ty d1 d2 hmin2
   have HM1:=hide hmin1
   have hz1:¬ (c:Int)<(n:Int)+1:=by omega
   clear hc1 hc2 ho2 ho1 hd1 hd2 hmin1 hmin2 hm hlm hrn hcs hcur
   go_enter Tryz.func162,Tryz.ntmps162
   go_wp2_with (simp only [hov])
   go_region_law (refine step_copy_run rfl _ _ 92 92 rfl (.slice (cutA (some ⟨g,0,none⟩) c (i+1) 2) (n - i) (c - (i+1))) (.slice (cutA (some ⟨g,0,none⟩) c i 2) d1 d2) (by simp [Act.eval,Act.put]) (by simp [Act.eval,Act.put]) (HC1.out _ _ _ HM1.out) ?_)
   go_wp2
   go_ret
   exact ⟨_,_,_,rfl,ho3,hg3⟩
  ·obtain rfl:c=n:=by omega
   obtain ⟨c2,w1,hap,ho1,hg1,hnc2⟩:=(h.take i hi).zeros (P:=Tryz.prog) (t:=92) (tn:=3) Tryz.underlying92 Tryz.underlying3 pair_info rfl (by omega) (k:=c+1 - i) (by omega) (by omega) (by unfold maxLen;omega) (by omega) hbase
   rw [show i+(c+1 - i)=c+1 by omega,show ((c+1 - i:Nat):Int)=(c:Int)+1 - (i:Int) by omega] at hap
   rw [show i+(c+1 - i)=c+1 by omega] at ho1 hnc2
   obtain ⟨H,hH⟩:∃ H,H=w.heap.size:=⟨_,rfl⟩
   rw [←hH] at hap ho1
   have srcv1:=srcv.grown hg1
   obtain ⟨w2,hc2,ho2,hg2⟩:=ho1.copy (P:=Tryz.prog) (t:=92) (j:=i) (k:=1) Tryz.underlying92 pair_sz (by omega) srcv1 (fun r hr=>h1v r (List.mem_of_mem_take hr)) (by omega) (by omega) (by omega)
   have hsl1:=(hsl.grown hg1).far hg2 (by simp;omega)
   have hsl2:=hsl1.drop i (by omega) c (Nat.le_refl _) (by omega)
   obtain ⟨w3,hc3,ho3,hg3⟩:=(Own.drew ho2).copy (P:=Tryz.prog) (t:=92) (j:=i+1) (k:=c - i) Tryz.underlying92 pair_sz (by omega) hsl2.drew (fun r hr=>h1 r (List.mem_of_mem_drop (List.mem_of_mem_take hr))) (by omega) (by omega) (by omega)
   have ho4:Own w3 base 137 2 (.slice (some ⟨H,0,none⟩) (c+1) c2) (insRows rows i row.toList):=by
    rw [←ins_zero rows _ row.toList hrn.symm hlt];exact ho3
   have hg4:w.grownBy w3 (some g):=grown_new hg1 (Nat.le_of_eq hH.symm) (grown_trans hg2 (grown_drew hg3))
   obtain ⟨d1,hd1⟩:∃ d,d=c+1 - i:=⟨_,rfl⟩
   obtain ⟨d2,hd2⟩:∃ d,d=c2 - i:=⟨_,rfl⟩
   obtain ⟨d3,hd3⟩:∃ d,d=c2 - (i+1):=⟨_,rfl⟩
   obtain ⟨d4,hd4⟩:∃ d,d=c - i:=⟨_,rfl⟩
   have s2:=run_take (P:=Tryz.prog) Tryz.underlying92 pair_sz (some ⟨g,0,none⟩) c c i hi
   have s3:=run_cut (P:=Tryz.prog) Tryz.underlying92 pair_sz (some ⟨H,0,none⟩) (c+1) c2 i (by omega)
   rw [←hd1,←hd2] at s3
   have s4:∀ w,(Instr.slice 92 (.slice (some ⟨H,0,none⟩) (c+1) c2) (some (.int .i64 ((i:Int)+1))) none none).run Tryz.prog w = .ok (.slice (cutA (some ⟨H,0,none⟩) c2 (i+1) 2) d4 d3) w:=by
    have:=run_cut (P:=Tryz.prog) Tryz.underlying92 pair_sz (some ⟨H,0,none⟩) (c+1) c2 (i+1) (by omega)
    rwa [show ((i+1:Nat):Int)=(i:Int)+1 by omega,←hd3,show c+1 - (i+1)=d4 by omega] at this
   rw [←hd4] at s1
   have hmin1:Nat.min 1 d1=1:=by simp only [Nat.min_def];split <;> omega
   have hmin2:Nat.min d4 d4=d4:=by simp only [Nat.min_def];split <;> omega
   rw [←hd4] at hc3
   have hq:=fun ty=>hc2 ty d1 d2 hmin1
   have HC2:Hid (∀ ty dl dc,Nat.min d4 dl=d4→_):=hc3
   have HM2:=hide hmin2
   have hz1:(c:Int)<(c:Int)+1:=by omega
   clear hc2 hc3 ho2 ho1 ho3 hd1 hd2 hd3 hd4 hmin1 hmin2 hrn hcs hcur hH hsl1 hsl2
   go_enter Tryz.func162,Tryz.ntmps162
   go_wp2_with (at_builtin;refine Lib.wpList_append_run _ rfl _ _ _ _ rfl _ _ rfl rfl _ _ (hap _) ?_)
   go_region_law (refine step_copy_run rfl _ _ 92 92 rfl (.slice (cutA (some ⟨H,0,none⟩) c2 (i+1) 2) d4 d3) (.slice (cutA (some ⟨g,0,none⟩) c i 2) d4 d4) (by simp [Act.eval,Act.put]) (by simp [Act.eval,Act.put]) (HC2.out _ _ _ HM2.out) ?_)
   go_wp2
   go_ret
   exact ⟨_,_,_,rfl,ho4,hg4⟩
set_option maxRecDepth 100000 in
theorem Delete_pair (A:Option Addr) (n c base i:Nat) (rows:List (List Value)) (w:World) (h:Own w base 137 2 (.slice A n c) rows) (h1:∀ r∈rows,∀ u∈r,u.oneCell'=true) (hi:i<n) (hn:n≤1048576) :
  Calls Tryz.prog 163 #[.slice A n c,.int .i64 (i:Int),.int .i64 ((i:Int)+1)] w (InsPost w base 137 2 (delRows rows i) (Value.slice A n c).ownBlock):=by
 have hsl:=h.sl'
 have hnc:=hsl.nc
 have hcm:=hsl.cm
 unfold maxLen at hcm
 obtain ⟨g,cur,rfl,hbg,-,-,-,hcur,hcs,-⟩:=h.whole (by rintro rfl;have:=hsl.nil rfl;omega)
 obtain ⟨w1,hap,ho1,hg1⟩:=(Own.drew h).out_ (P:=Tryz.prog) (t:=92) Tryz.underlying92 pair_info (by omega) h1 hi
 obtain ⟨m,hm⟩:∃ m,n - 1=m:=⟨_,rfl⟩
 rw [hm] at hap ho1
 obtain ⟨w2,hcl,ho2,hg2⟩:=ho1.wipe (P:=Tryz.prog) (t:=92) Tryz.underlying92 pair_info rfl (by omega) (by intro u hu;simp [Value.cells] at hu;first|(subst hu;rfl)|(rcases hu with rfl|rfl <;> rfl)) (by omega)
 have ho3:Own w2 base 137 2 (.slice (some ⟨g,0,none⟩) m c) (delRows rows i):=ho2
 have hg3:w.grownBy w2 (some g):=grown_trans (grown_drew hg1) hg2
 have hne:((i:Int) == (i:Int)+1)=false:=by rw [beq_eq_false_iff_ne];omega
 obtain ⟨d1,hd1⟩:∃ d,d=n - (i+1):=⟨_,rfl⟩
 obtain ⟨d2,hd2⟩:∃ d,d=c - (i+1):=⟨_,rfl⟩
 obtain ⟨d3,hd3⟩:∃ d,d=c - m:=⟨_,rfl⟩
 rw [←hd1,←hd2] at hap
 rw [←hd3] at hcl
 have s1:∀ w,(Instr.slice 92 (.slice (some ⟨g,0,none⟩) n c) (some (.int .i64 (i:Int))) (some (.int .i64 ((i:Int)+1))) (some (.int .i64 (n:Int)))).run Tryz.prog w = .ok (.slice (cutA (some ⟨g,0,none⟩) n i 2) (i+1 - i) (n - i)) w:=by
  have:=run_cut3 (P:=Tryz.prog) Tryz.underlying92 pair_sz2 (some ⟨g,0,none⟩) n c i (i+1) n (by omega) (by omega) hnc
  rwa [show ((i+1:Nat):Int)=(i:Int)+1 by omega] at this
 have s2:=run_take (P:=Tryz.prog) Tryz.underlying92 pair_sz2 (some ⟨g,0,none⟩) n c i (by omega)
 have s3:∀ w,(Instr.slice 92 (.slice (some ⟨g,0,none⟩) n c) (some (.int .i64 ((i:Int)+1))) none none).run Tryz.prog w = .ok (.slice (cutA (some ⟨g,0,none⟩) c (i+1) 2) d1 d2) w:=by
  have:=run_cut (P:=Tryz.prog) Tryz.underlying92 pair_sz2 (some ⟨g,0,none⟩) n c (i+1) (by omega)
  rwa [show ((i+1:Nat):Int)=(i:Int)+1 by omega,←hd1,←hd2] at this
 have s4:=run_cut2 (P:=Tryz.prog) Tryz.underlying92 pair_sz2 (some ⟨g,0,none⟩) m c m n (by omega) hnc
 rw [←hd3,show n - m=1 by omega] at s4
 clear ho1 ho2 hd1 hd2 hd3 hm hcur hcs hsl
 go_enter Tryz.func163,Tryz.ntmps163
 go_wp2
 go_region_law (refine step_append_run rfl _ _ 92 92 rfl (.slice (some ⟨g,0,none⟩) i c) (.slice (cutA (some ⟨g,0,none⟩) c (i+1) 2) d1 d2) (by simp [Act.eval,Act.put]) (by simp [Act.eval,Act.put]) (hap _) ?_)
 go_wp2
 go_ret
 exact ⟨_,_,_,rfl,ho3,hg3⟩
theorem score_sz2:(Tryz.prog.info? 139).map (·.size)=some 2:=by kernel_rfl
theorem score_sz:(Tryz.prog.info? 139).map (·.size)=some 2:=by kernel_rfl
set_option maxRecDepth 100000 in
theorem Insert_score (A:Option Addr) (n c base i b:Nat) (rows:List (List Value)) (row:Array Value) (w:World) (h:Own w base 139 2 (.slice A n c) rows) (h1:∀ r∈rows,∀ u∈r,u.oneCell'=true)
  (hi:i≤n) (hn:n≤1048576) (hb:Blk w b 139 row) (hl:row.size=2) (h1r:∀ u∈row.toList,u.oneCell'=true) (hbv:some b≠(Value.slice A n c).ownBlock) (hbase:base≤w.heap.size) :
  Calls Tryz.prog 170 #[.slice A n c,.int .i64 (i:Int),.slice (some ⟨b,0,none⟩) 1 1] w (InsPost w base 139 2 (insRows rows i row.toList) (Value.slice A n c).ownBlock):=by
 have hrn:=h.n_eq
 have hsl:=h.sl'
 have hnc:=hsl.nc
 have hcm:=hsl.cm
 unfold maxLen at hcm
 have srcv:=Sl.one_ hb hl
 have h1v:∀ r∈[row.toList],∀ u∈r,u.oneCell'=true:=by intro r hr;simp at hr;subst hr;exact h1r
 have s1:=run_cut (P:=Tryz.prog) Tryz.underlying94 score_sz A n c i hi
 have HN:=hide hrn
 by_cases hin:i=n
 ·subst hin
  obtain ⟨A',n',c',w1,hr,ho,hg⟩:=h.join (P:=Tryz.prog) (t:=94) Tryz.underlying94 score_info rfl (by omega) srcv h1v (by unfold maxLen;omega) (by omega) hbase 94
  have e1:insRows rows i row.toList=rows ++ [row.toList]:=by
   unfold insRows
   rw [List.take_of_length_le (by omega),List.drop_eq_nil_of_le (by omega),List.append_nil]
  rw [e1]
  clear hrn e1
  go_enter Tryz.func170,Tryz.ntmps170
  go_wp2_with (at_builtin;refine Lib.wpList_append_run _ rfl _ _ _ _ rfl _ _ rfl rfl _ _ hr ?_)
  go_ret
  exact ⟨_,_,_,rfl,ho,hg⟩
 ·have hlt:i<n:=by omega
  have hz2:((i:Int) == (n:Int))=false:=by rw [beq_eq_false_iff_ne];omega
  have hw1:IntKind.i64.wrap ((i:Int)+1)=(i:Int)+1:=IntWalk.i64_in _ (by omega)
  obtain ⟨g,cur,rfl,hbg,-,-,-,hcur,hcs,-⟩:=h.whole (by rintro rfl;have:=hsl.nil rfl;omega)
  have hgl:g<w.heap.size:=by
   rcases Nat.lt_or_ge g w.heap.size with hl|hl
   ·exact hl
   ·rw [Array.getElem?_eq_none hl] at hcur;cases hcur
  have hbg2:b≠g:=fun e=>hbv (by simp [Value.ownBlock,e])
  by_cases hroom:n+1≤c
  ·obtain ⟨r0,hm⟩:=h.more (by omega)
   have hlm:(rows ++ [r0]).length=n+1:=by simp;omega
   obtain ⟨d1,hd1⟩:∃ d,d=n+1 - i:=⟨_,rfl⟩
   obtain ⟨d2,hd2⟩:∃ d,d=c - i:=⟨_,rfl⟩
   have s2:∀ w,(Instr.slice 94 (.slice (some ⟨g,0,none⟩) n c) none (some (.int .i64 ((n:Int)+1))) none).run Tryz.prog w = .ok (.slice (some ⟨g,0,none⟩) (n+1) c) w:=by
    have:=run_take (P:=Tryz.prog) Tryz.underlying94 score_sz (some ⟨g,0,none⟩) n c (n+1) hroom
    rwa [show ((n+1:Nat):Int)=(n:Int)+1 by omega] at this
   have s3:=run_cut (P:=Tryz.prog) Tryz.underlying94 score_sz (some ⟨g,0,none⟩) (n+1) c i (by omega)
   rw [←hd1,←hd2] at s3
   rw [←hd2] at s1
   have s4:∀ w,(Instr.slice 94 (.slice (some ⟨g,0,none⟩) (n+1) c) (some (.int .i64 ((i:Int)+1))) none none).run Tryz.prog w = .ok (.slice (cutA (some ⟨g,0,none⟩) c (i+1) 2) (n+1 - (i+1)) (c - (i+1))) w:=by
    have:=run_cut (P:=Tryz.prog) Tryz.underlying94 score_sz (some ⟨g,0,none⟩) (n+1) c (i+1) (by omega)
    rwa [show ((i+1:Nat):Int)=(i:Int)+1 by omega] at this
   have hov:∀ lb cb,(callFunc 178 #[.slice (some ⟨b,0,none⟩) 1 1,.slice (cutA (some ⟨g,0,none⟩) c (i+1) 2) lb cb]).run Tryz.prog w = .ok (.value (.bool false)) w:=fun lb cb=>by
    have hD:cutA (some ⟨g,0,none⟩) c (i+1) 2=some ⟨g,(i+1)*2,none⟩:=by
     unfold cutA
     rw [if_neg (by omega)]
     simp [Addr.add_lit]
    rw [hD,run_callFunc_extern Tryz.func178 (by kernel_rfl) (by kernel_rfl) (by kernel_rfl) (e:=Extern.SlicesOverlaps.overlaps #[94,94] #[4]) (by kernel_rfl),
     Lib.run_overlaps_apart w 94 4 139 Tryz.underlying94 2 (fun w=>by
      obtain ⟨ti,hi1,hi2,hi3,hi4⟩:=info_parts score_info
      simp [Go.sizeOf,typeInfo,hi1,hi3]) ⟨b,0,none⟩ ⟨g,(i+1)*2,none⟩ 1 1 lb cb hbg2 _ _ _ _ (blk_shape hb) (blk_shape hcur) (by rw [hcs];have:0<c*2:=Nat.mul_pos (by omega) (by omega);omega) (hb.frozen _) (hb.frozen _)]
    rfl
   have hsl2:=hm.sl'.drop i (by omega) c (Nat.le_refl _) (by omega)
   rw [←hd1,←hd2] at hsl2
   have h1m:∀ r∈((rows ++ [r0]).drop i).take (n - i),∀ u∈r,u.oneCell'=true:=by
    rw [List.drop_append_of_le_length (by omega),List.take_append_of_le_length (by simp;omega)]
    exact fun r hr=>h1 r (List.mem_of_mem_drop (List.mem_of_mem_take hr))
   have hsl2':=hsl2.take (n - i) (by omega) d2 (by omega) (Nat.le_refl _)
   obtain ⟨w1,hc1,ho1,hg1⟩:=(Own.drew hm).copy (P:=Tryz.prog) (t:=94) (j:=i+1) (k:=n - i) Tryz.underlying94 score_sz (by omega) hsl2.drew h1m (by omega) (by omega) (by omega)
   have srcv1:=srcv.drew.far hg1 (by simpa using hbg2)
   obtain ⟨w2,hc2,ho2,hg2⟩:=ho1.copy (P:=Tryz.prog) (t:=94) (j:=i) (k:=1) Tryz.underlying94 score_sz (by omega) srcv1 (fun r hr=>h1v r (List.mem_of_mem_take hr)) (by omega) (by omega) (by omega)
   have ho3:Own w2 base 139 2 (.slice (some ⟨g,0,none⟩) (n+1) c) (insRows rows i row.toList):=by
    rw [←ins_room rows r0 row.toList hrn.symm hlt];exact ho2
   have hg3:w.grownBy w2 (some g):=grown_trans (grown_drew hg1) hg2
   have hmin1:Nat.min d1 (n - i)=n - i:=by simp only [Nat.min_def];split <;> omega
   have hmin2:Nat.min 1 d1=1:=by simp only [Nat.min_def];split <;> omega
   have HC1:Hid (∀ ty dl dc,Nat.min d1 dl=n - i→_):=hc1
   have hq:=fun ty=>hc2 ty d1 d2 hmin2
   have HM1:=hide hmin1
   have hz1:¬ (c:Int)<(n:Int)+1:=by omega
   clear hc1 hc2 ho2 ho1 hd1 hd2 hmin1 hmin2 hm hlm hrn hcs hcur
   go_enter Tryz.func170,Tryz.ntmps170
   go_wp2_with (simp only [hov])
   go_region_law (refine step_copy_run rfl _ _ 94 94 rfl (.slice (cutA (some ⟨g,0,none⟩) c (i+1) 2) (n - i) (c - (i+1))) (.slice (cutA (some ⟨g,0,none⟩) c i 2) d1 d2) (by simp [Act.eval,Act.put]) (by simp [Act.eval,Act.put]) (HC1.out _ _ _ HM1.out) ?_)
   go_wp2
   go_ret
   exact ⟨_,_,_,rfl,ho3,hg3⟩
  ·obtain rfl:c=n:=by omega
   obtain ⟨c2,w1,hap,ho1,hg1,hnc2⟩:=(h.take i hi).zeros (P:=Tryz.prog) (t:=94) (tn:=3) Tryz.underlying94 Tryz.underlying3 score_info rfl (by omega) (k:=c+1 - i) (by omega) (by omega) (by unfold maxLen;omega) (by omega) hbase
   rw [show i+(c+1 - i)=c+1 by omega,show ((c+1 - i:Nat):Int)=(c:Int)+1 - (i:Int) by omega] at hap
   rw [show i+(c+1 - i)=c+1 by omega] at ho1 hnc2
   obtain ⟨H,hH⟩:∃ H,H=w.heap.size:=⟨_,rfl⟩
   rw [←hH] at hap ho1
   have srcv1:=srcv.grown hg1
   obtain ⟨w2,hc2,ho2,hg2⟩:=ho1.copy (P:=Tryz.prog) (t:=94) (j:=i) (k:=1) Tryz.underlying94 score_sz (by omega) srcv1 (fun r hr=>h1v r (List.mem_of_mem_take hr)) (by omega) (by omega) (by omega)
   have hsl1:=(hsl.grown hg1).far hg2 (by simp;omega)
   have hsl2:=hsl1.drop i (by omega) c (Nat.le_refl _) (by omega)
   obtain ⟨w3,hc3,ho3,hg3⟩:=(Own.drew ho2).copy (P:=Tryz.prog) (t:=94) (j:=i+1) (k:=c - i) Tryz.underlying94 score_sz (by omega) hsl2.drew (fun r hr=>h1 r (List.mem_of_mem_drop (List.mem_of_mem_take hr))) (by omega) (by omega) (by omega)
   have ho4:Own w3 base 139 2 (.slice (some ⟨H,0,none⟩) (c+1) c2) (insRows rows i row.toList):=by
    rw [←ins_zero rows _ row.toList hrn.symm hlt];exact ho3
   have hg4:w.grownBy w3 (some g):=grown_new hg1 (Nat.le_of_eq hH.symm) (grown_trans hg2 (grown_drew hg3))
   obtain ⟨d1,hd1⟩:∃ d,d=c+1 - i:=⟨_,rfl⟩
   obtain ⟨d2,hd2⟩:∃ d,d=c2 - i:=⟨_,rfl⟩
   obtain ⟨d3,hd3⟩:∃ d,d=c2 - (i+1):=⟨_,rfl⟩
   obtain ⟨d4,hd4⟩:∃ d,d=c - i:=⟨_,rfl⟩
   have s2:=run_take (P:=Tryz.prog) Tryz.underlying94 score_sz (some ⟨g,0,none⟩) c c i hi
   have s3:=run_cut (P:=Tryz.prog) Tryz.underlying94 score_sz (some ⟨H,0,none⟩) (c+1) c2 i (by omega)
   rw [←hd1,←hd2] at s3
   have s4:∀ w,(Instr.slice 94 (.slice (some ⟨H,0,none⟩) (c+1) c2) (some (.int .i64 ((i:Int)+1))) none none).run Tryz.prog w = .ok (.slice (cutA (some ⟨H,0,none⟩) c2 (i+1) 2) d4 d3) w:=by
    have:=run_cut (P:=Tryz.prog) Tryz.underlying94 score_sz (some ⟨H,0,none⟩) (c+1) c2 (i+1) (by omega)
    rwa [show ((i+1:Nat):Int)=(i:Int)+1 by omega,←hd3,show c+1 - (i+1)=d4 by omega] at this
   rw [←hd4] at s1
   have hmin1:Nat.min 1 d1=1:=by simp only [Nat.min_def];split <;> omega
   have hmin2:Nat.min d4 d4=d4:=by simp only [Nat.min_def];split <;> omega
   rw [←hd4] at hc3
   have hq:=fun ty=>hc2 ty d1 d2 hmin1
   have HC2:Hid (∀ ty dl dc,Nat.min d4 dl=d4→_):=hc3
   have HM2:=hide hmin2
   have hz1:(c:Int)<(c:Int)+1:=by omega
   clear hc2 hc3 ho2 ho1 ho3 hd1 hd2 hd3 hd4 hmin1 hmin2 hrn hcs hcur hH hsl1 hsl2
   go_enter Tryz.func170,Tryz.ntmps170
   go_wp2_with (at_builtin;refine Lib.wpList_append_run _ rfl _ _ _ _ rfl _ _ rfl rfl _ _ (hap _) ?_)
   go_region_law (refine step_copy_run rfl _ _ 94 94 rfl (.slice (cutA (some ⟨H,0,none⟩) c2 (i+1) 2) d4 d3) (.slice (cutA (some ⟨g,0,none⟩) c i 2) d4 d4) (by simp [Act.eval,Act.put]) (by simp [Act.eval,Act.put]) (HC2.out _ _ _ HM2.out) ?_)
   go_wp2
   go_ret
   exact ⟨_,_,_,rfl,ho4,hg4⟩
set_option maxRecDepth 100000 in
theorem Delete_score (A:Option Addr) (n c base i:Nat) (rows:List (List Value)) (w:World) (h:Own w base 139 2 (.slice A n c) rows) (h1:∀ r∈rows,∀ u∈r,u.oneCell'=true) (hi:i<n) (hn:n≤1048576) :
  Calls Tryz.prog 168 #[.slice A n c,.int .i64 (i:Int),.int .i64 ((i:Int)+1)] w (InsPost w base 139 2 (delRows rows i) (Value.slice A n c).ownBlock):=by
 have hsl:=h.sl'
 have hnc:=hsl.nc
 have hcm:=hsl.cm
 unfold maxLen at hcm
 obtain ⟨g,cur,rfl,hbg,-,-,-,hcur,hcs,-⟩:=h.whole (by rintro rfl;have:=hsl.nil rfl;omega)
 obtain ⟨w1,hap,ho1,hg1⟩:=(Own.drew h).out_ (P:=Tryz.prog) (t:=94) Tryz.underlying94 score_info (by omega) h1 hi
 obtain ⟨m,hm⟩:∃ m,n - 1=m:=⟨_,rfl⟩
 rw [hm] at hap ho1
 obtain ⟨w2,hcl,ho2,hg2⟩:=ho1.wipe (P:=Tryz.prog) (t:=94) Tryz.underlying94 score_info rfl (by omega) (by intro u hu;simp [Value.cells] at hu;first|(subst hu;rfl)|(rcases hu with rfl|rfl <;> rfl)) (by omega)
 have ho3:Own w2 base 139 2 (.slice (some ⟨g,0,none⟩) m c) (delRows rows i):=ho2
 have hg3:w.grownBy w2 (some g):=grown_trans (grown_drew hg1) hg2
 have hne:((i:Int) == (i:Int)+1)=false:=by rw [beq_eq_false_iff_ne];omega
 obtain ⟨d1,hd1⟩:∃ d,d=n - (i+1):=⟨_,rfl⟩
 obtain ⟨d2,hd2⟩:∃ d,d=c - (i+1):=⟨_,rfl⟩
 obtain ⟨d3,hd3⟩:∃ d,d=c - m:=⟨_,rfl⟩
 rw [←hd1,←hd2] at hap
 rw [←hd3] at hcl
 have s1:∀ w,(Instr.slice 94 (.slice (some ⟨g,0,none⟩) n c) (some (.int .i64 (i:Int))) (some (.int .i64 ((i:Int)+1))) (some (.int .i64 (n:Int)))).run Tryz.prog w = .ok (.slice (cutA (some ⟨g,0,none⟩) n i 2) (i+1 - i) (n - i)) w:=by
  have:=run_cut3 (P:=Tryz.prog) Tryz.underlying94 score_sz2 (some ⟨g,0,none⟩) n c i (i+1) n (by omega) (by omega) hnc
  rwa [show ((i+1:Nat):Int)=(i:Int)+1 by omega] at this
 have s2:=run_take (P:=Tryz.prog) Tryz.underlying94 score_sz2 (some ⟨g,0,none⟩) n c i (by omega)
 have s3:∀ w,(Instr.slice 94 (.slice (some ⟨g,0,none⟩) n c) (some (.int .i64 ((i:Int)+1))) none none).run Tryz.prog w = .ok (.slice (cutA (some ⟨g,0,none⟩) c (i+1) 2) d1 d2) w:=by
  have:=run_cut (P:=Tryz.prog) Tryz.underlying94 score_sz2 (some ⟨g,0,none⟩) n c (i+1) (by omega)
  rwa [show ((i+1:Nat):Int)=(i:Int)+1 by omega,←hd1,←hd2] at this
 have s4:=run_cut2 (P:=Tryz.prog) Tryz.underlying94 score_sz2 (some ⟨g,0,none⟩) m c m n (by omega) hnc
 rw [←hd3,show n - m=1 by omega] at s4
 clear ho1 ho2 hd1 hd2 hd3 hm hcur hcs hsl
 go_enter Tryz.func168,Tryz.ntmps168
 go_wp2
 go_region_law (refine step_append_run rfl _ _ 94 94 rfl (.slice (some ⟨g,0,none⟩) i c) (.slice (cutA (some ⟨g,0,none⟩) c (i+1) 2) d1 d2) (by simp [Act.eval,Act.put]) (by simp [Act.eval,Act.put]) (hap _) ?_)
 go_wp2
 go_ret
 exact ⟨_,_,_,rfl,ho3,hg3⟩
theorem text_sz2:(Tryz.prog.info? 9).map (·.size)=some 1:=by kernel_rfl
theorem text_sz:(Tryz.prog.info? 9).map (·.size)=some 1:=by kernel_rfl
set_option maxRecDepth 100000 in
theorem Insert_text (A:Option Addr) (n c base i b:Nat) (rows:List (List Value)) (row:Array Value) (w:World) (h:Own w base 9 1 (.slice A n c) rows) (h1:∀ r∈rows,∀ u∈r,u.oneCell'=true)
  (hi:i≤n) (hn:n≤1048576) (hb:Blk w b 9 row) (hl:row.size=1) (h1r:∀ u∈row.toList,u.oneCell'=true) (hbv:some b≠(Value.slice A n c).ownBlock) (hbase:base≤w.heap.size) :
  Calls Tryz.prog 165 #[.slice A n c,.int .i64 (i:Int),.slice (some ⟨b,0,none⟩) 1 1] w (InsPost w base 9 1 (insRows rows i row.toList) (Value.slice A n c).ownBlock):=by
 have hrn:=h.n_eq
 have hsl:=h.sl'
 have hnc:=hsl.nc
 have hcm:=hsl.cm
 unfold maxLen at hcm
 have srcv:=Sl.one_ hb hl
 have h1v:∀ r∈[row.toList],∀ u∈r,u.oneCell'=true:=by intro r hr;simp at hr;subst hr;exact h1r
 have s1:=run_cut (P:=Tryz.prog) Tryz.underlying93 text_sz A n c i hi
 have HN:=hide hrn
 by_cases hin:i=n
 ·subst hin
  obtain ⟨A',n',c',w1,hr,ho,hg⟩:=h.join (P:=Tryz.prog) (t:=93) Tryz.underlying93 text_info rfl (by omega) srcv h1v (by unfold maxLen;omega) (by omega) hbase 93
  have e1:insRows rows i row.toList=rows ++ [row.toList]:=by
   unfold insRows
   rw [List.take_of_length_le (by omega),List.drop_eq_nil_of_le (by omega),List.append_nil]
  rw [e1]
  clear hrn e1
  go_enter Tryz.func165,Tryz.ntmps165
  go_wp2_with (at_builtin;refine Lib.wpList_append_run _ rfl _ _ _ _ rfl _ _ rfl rfl _ _ hr ?_)
  go_ret
  exact ⟨_,_,_,rfl,ho,hg⟩
 ·have hlt:i<n:=by omega
  have hz2:((i:Int) == (n:Int))=false:=by rw [beq_eq_false_iff_ne];omega
  have hw1:IntKind.i64.wrap ((i:Int)+1)=(i:Int)+1:=IntWalk.i64_in _ (by omega)
  obtain ⟨g,cur,rfl,hbg,-,-,-,hcur,hcs,-⟩:=h.whole (by rintro rfl;have:=hsl.nil rfl;omega)
  have hgl:g<w.heap.size:=by
   rcases Nat.lt_or_ge g w.heap.size with hl|hl
   ·exact hl
   ·rw [Array.getElem?_eq_none hl] at hcur;cases hcur
  have hbg2:b≠g:=fun e=>hbv (by simp [Value.ownBlock,e])
  by_cases hroom:n+1≤c
  ·obtain ⟨r0,hm⟩:=h.more (by omega)
   have hlm:(rows ++ [r0]).length=n+1:=by simp;omega
   obtain ⟨d1,hd1⟩:∃ d,d=n+1 - i:=⟨_,rfl⟩
   obtain ⟨d2,hd2⟩:∃ d,d=c - i:=⟨_,rfl⟩
   have s2:∀ w,(Instr.slice 93 (.slice (some ⟨g,0,none⟩) n c) none (some (.int .i64 ((n:Int)+1))) none).run Tryz.prog w = .ok (.slice (some ⟨g,0,none⟩) (n+1) c) w:=by
    have:=run_take (P:=Tryz.prog) Tryz.underlying93 text_sz (some ⟨g,0,none⟩) n c (n+1) hroom
    rwa [show ((n+1:Nat):Int)=(n:Int)+1 by omega] at this
   have s3:=run_cut (P:=Tryz.prog) Tryz.underlying93 text_sz (some ⟨g,0,none⟩) (n+1) c i (by omega)
   rw [←hd1,←hd2] at s3
   rw [←hd2] at s1
   have s4:∀ w,(Instr.slice 93 (.slice (some ⟨g,0,none⟩) (n+1) c) (some (.int .i64 ((i:Int)+1))) none none).run Tryz.prog w = .ok (.slice (cutA (some ⟨g,0,none⟩) c (i+1) 1) (n+1 - (i+1)) (c - (i+1))) w:=by
    have:=run_cut (P:=Tryz.prog) Tryz.underlying93 text_sz (some ⟨g,0,none⟩) (n+1) c (i+1) (by omega)
    rwa [show ((i+1:Nat):Int)=(i:Int)+1 by omega] at this
   have hov:∀ lb cb,(callFunc 174 #[.slice (some ⟨b,0,none⟩) 1 1,.slice (cutA (some ⟨g,0,none⟩) c (i+1) 1) lb cb]).run Tryz.prog w = .ok (.value (.bool false)) w:=fun lb cb=>by
    have hD:cutA (some ⟨g,0,none⟩) c (i+1) 1=some ⟨g,(i+1)*1,none⟩:=by
     unfold cutA
     rw [if_neg (by omega)]
     simp [Addr.add_lit]
    rw [hD,run_callFunc_extern Tryz.func174 (by kernel_rfl) (by kernel_rfl) (by kernel_rfl) (e:=Extern.SlicesOverlaps.overlaps #[93,93] #[4]) (by kernel_rfl),
     Lib.run_overlaps_apart w 93 4 9 Tryz.underlying93 1 (fun w=>by
      obtain ⟨ti,hi1,hi2,hi3,hi4⟩:=info_parts text_info
      simp [Go.sizeOf,typeInfo,hi1,hi3]) ⟨b,0,none⟩ ⟨g,(i+1)*1,none⟩ 1 1 lb cb hbg2 _ _ _ _ (blk_shape hb) (blk_shape hcur) (by rw [hcs];have:0<c*1:=Nat.mul_pos (by omega) (by omega);omega) (hb.frozen _) (hb.frozen _)]
    rfl
   have hsl2:=hm.sl'.drop i (by omega) c (Nat.le_refl _) (by omega)
   rw [←hd1,←hd2] at hsl2
   have h1m:∀ r∈((rows ++ [r0]).drop i).take (n - i),∀ u∈r,u.oneCell'=true:=by
    rw [List.drop_append_of_le_length (by omega),List.take_append_of_le_length (by simp;omega)]
    exact fun r hr=>h1 r (List.mem_of_mem_drop (List.mem_of_mem_take hr))
   have hsl2':=hsl2.take (n - i) (by omega) d2 (by omega) (Nat.le_refl _)
   obtain ⟨w1,hc1,ho1,hg1⟩:=(Own.drew hm).copy (P:=Tryz.prog) (t:=93) (j:=i+1) (k:=n - i) Tryz.underlying93 text_sz (by omega) hsl2.drew h1m (by omega) (by omega) (by omega)
   have srcv1:=srcv.drew.far hg1 (by simpa using hbg2)
   obtain ⟨w2,hc2,ho2,hg2⟩:=ho1.copy (P:=Tryz.prog) (t:=93) (j:=i) (k:=1) Tryz.underlying93 text_sz (by omega) srcv1 (fun r hr=>h1v r (List.mem_of_mem_take hr)) (by omega) (by omega) (by omega)
   have ho3:Own w2 base 9 1 (.slice (some ⟨g,0,none⟩) (n+1) c) (insRows rows i row.toList):=by
    rw [←ins_room rows r0 row.toList hrn.symm hlt];exact ho2
   have hg3:w.grownBy w2 (some g):=grown_trans (grown_drew hg1) hg2
   have hmin1:Nat.min d1 (n - i)=n - i:=by simp only [Nat.min_def];split <;> omega
   have hmin2:Nat.min 1 d1=1:=by simp only [Nat.min_def];split <;> omega
   have HC1:Hid (∀ ty dl dc,Nat.min d1 dl=n - i→_):=hc1
   have hq:=fun ty=>hc2 ty d1 d2 hmin2
   have HM1:=hide hmin1
   have hz1:¬ (c:Int)<(n:Int)+1:=by omega
   clear hc1 hc2 ho2 ho1 hd1 hd2 hmin1 hmin2 hm hlm hrn hcs hcur
   go_enter Tryz.func165,Tryz.ntmps165
   go_wp2_with (simp only [hov])
   go_region_law (refine step_copy_run rfl _ _ 93 93 rfl (.slice (cutA (some ⟨g,0,none⟩) c (i+1) 1) (n - i) (c - (i+1))) (.slice (cutA (some ⟨g,0,none⟩) c i 1) d1 d2) (by simp [Act.eval,Act.put]) (by simp [Act.eval,Act.put]) (HC1.out _ _ _ HM1.out) ?_)
   go_wp2
   go_ret
   exact ⟨_,_,_,rfl,ho3,hg3⟩
  ·obtain rfl:c=n:=by omega
   obtain ⟨c2,w1,hap,ho1,hg1,hnc2⟩:=(h.take i hi).zeros (P:=Tryz.prog) (t:=93) (tn:=3) Tryz.underlying93 Tryz.underlying3 text_info rfl (by omega) (k:=c+1 - i) (by omega) (by omega) (by unfold maxLen;omega) (by omega) hbase
   rw [show i+(c+1 - i)=c+1 by omega,show ((c+1 - i:Nat):Int)=(c:Int)+1 - (i:Int) by omega] at hap
   rw [show i+(c+1 - i)=c+1 by omega] at ho1 hnc2
   obtain ⟨H,hH⟩:∃ H,H=w.heap.size:=⟨_,rfl⟩
   rw [←hH] at hap ho1
   have srcv1:=srcv.grown hg1
   obtain ⟨w2,hc2,ho2,hg2⟩:=ho1.copy (P:=Tryz.prog) (t:=93) (j:=i) (k:=1) Tryz.underlying93 text_sz (by omega) srcv1 (fun r hr=>h1v r (List.mem_of_mem_take hr)) (by omega) (by omega) (by omega)
   have hsl1:=(hsl.grown hg1).far hg2 (by simp;omega)
   have hsl2:=hsl1.drop i (by omega) c (Nat.le_refl _) (by omega)
   obtain ⟨w3,hc3,ho3,hg3⟩:=(Own.drew ho2).copy (P:=Tryz.prog) (t:=93) (j:=i+1) (k:=c - i) Tryz.underlying93 text_sz (by omega) hsl2.drew (fun r hr=>h1 r (List.mem_of_mem_drop (List.mem_of_mem_take hr))) (by omega) (by omega) (by omega)
   have ho4:Own w3 base 9 1 (.slice (some ⟨H,0,none⟩) (c+1) c2) (insRows rows i row.toList):=by
    rw [←ins_zero rows _ row.toList hrn.symm hlt];exact ho3
   have hg4:w.grownBy w3 (some g):=grown_new hg1 (Nat.le_of_eq hH.symm) (grown_trans hg2 (grown_drew hg3))
   obtain ⟨d1,hd1⟩:∃ d,d=c+1 - i:=⟨_,rfl⟩
   obtain ⟨d2,hd2⟩:∃ d,d=c2 - i:=⟨_,rfl⟩
   obtain ⟨d3,hd3⟩:∃ d,d=c2 - (i+1):=⟨_,rfl⟩
   obtain ⟨d4,hd4⟩:∃ d,d=c - i:=⟨_,rfl⟩
   have s2:=run_take (P:=Tryz.prog) Tryz.underlying93 text_sz (some ⟨g,0,none⟩) c c i hi
   have s3:=run_cut (P:=Tryz.prog) Tryz.underlying93 text_sz (some ⟨H,0,none⟩) (c+1) c2 i (by omega)
   rw [←hd1,←hd2] at s3
   have s4:∀ w,(Instr.slice 93 (.slice (some ⟨H,0,none⟩) (c+1) c2) (some (.int .i64 ((i:Int)+1))) none none).run Tryz.prog w = .ok (.slice (cutA (some ⟨H,0,none⟩) c2 (i+1) 1) d4 d3) w:=by
    have:=run_cut (P:=Tryz.prog) Tryz.underlying93 text_sz (some ⟨H,0,none⟩) (c+1) c2 (i+1) (by omega)
    rwa [show ((i+1:Nat):Int)=(i:Int)+1 by omega,←hd3,show c+1 - (i+1)=d4 by omega] at this
   rw [←hd4] at s1
   have hmin1:Nat.min 1 d1=1:=by simp only [Nat.min_def];split <;> omega
   have hmin2:Nat.min d4 d4=d4:=by simp only [Nat.min_def];split <;> omega
   rw [←hd4] at hc3
   have hq:=fun ty=>hc2 ty d1 d2 hmin1
   have HC2:Hid (∀ ty dl dc,Nat.min d4 dl=d4→_):=hc3
   have HM2:=hide hmin2
   have hz1:(c:Int)<(c:Int)+1:=by omega
   clear hc2 hc3 ho2 ho1 ho3 hd1 hd2 hd3 hd4 hmin1 hmin2 hrn hcs hcur hH hsl1 hsl2
   go_enter Tryz.func165,Tryz.ntmps165
   go_wp2_with (at_builtin;refine Lib.wpList_append_run _ rfl _ _ _ _ rfl _ _ rfl rfl _ _ (hap _) ?_)
   go_region_law (refine step_copy_run rfl _ _ 93 93 rfl (.slice (cutA (some ⟨H,0,none⟩) c2 (i+1) 1) d4 d3) (.slice (cutA (some ⟨g,0,none⟩) c i 1) d4 d4) (by simp [Act.eval,Act.put]) (by simp [Act.eval,Act.put]) (HC2.out _ _ _ HM2.out) ?_)
   go_wp2
   go_ret
   exact ⟨_,_,_,rfl,ho4,hg4⟩
set_option maxRecDepth 100000 in
theorem Delete_text (A:Option Addr) (n c base i:Nat) (rows:List (List Value)) (w:World) (h:Own w base 9 1 (.slice A n c) rows) (h1:∀ r∈rows,∀ u∈r,u.oneCell'=true) (hi:i<n) (hn:n≤1048576) :
  Calls Tryz.prog 167 #[.slice A n c,.int .i64 (i:Int),.int .i64 ((i:Int)+1)] w (InsPost w base 9 1 (delRows rows i) (Value.slice A n c).ownBlock):=by
 have hsl:=h.sl'
 have hnc:=hsl.nc
 have hcm:=hsl.cm
 unfold maxLen at hcm
 obtain ⟨g,cur,rfl,hbg,-,-,-,hcur,hcs,-⟩:=h.whole (by rintro rfl;have:=hsl.nil rfl;omega)
 obtain ⟨w1,hap,ho1,hg1⟩:=(Own.drew h).out_ (P:=Tryz.prog) (t:=93) Tryz.underlying93 text_info (by omega) h1 hi
 obtain ⟨m,hm⟩:∃ m,n - 1=m:=⟨_,rfl⟩
 rw [hm] at hap ho1
 obtain ⟨w2,hcl,ho2,hg2⟩:=ho1.wipe (P:=Tryz.prog) (t:=93) Tryz.underlying93 text_info rfl (by omega) (by intro u hu;simp [Value.cells] at hu;first|(subst hu;rfl)|(rcases hu with rfl|rfl <;> rfl)) (by omega)
 have ho3:Own w2 base 9 1 (.slice (some ⟨g,0,none⟩) m c) (delRows rows i):=ho2
 have hg3:w.grownBy w2 (some g):=grown_trans (grown_drew hg1) hg2
 have hne:((i:Int) == (i:Int)+1)=false:=by rw [beq_eq_false_iff_ne];omega
 obtain ⟨d1,hd1⟩:∃ d,d=n - (i+1):=⟨_,rfl⟩
 obtain ⟨d2,hd2⟩:∃ d,d=c - (i+1):=⟨_,rfl⟩
 obtain ⟨d3,hd3⟩:∃ d,d=c - m:=⟨_,rfl⟩
 rw [←hd1,←hd2] at hap
 rw [←hd3] at hcl
 have s1:∀ w,(Instr.slice 93 (.slice (some ⟨g,0,none⟩) n c) (some (.int .i64 (i:Int))) (some (.int .i64 ((i:Int)+1))) (some (.int .i64 (n:Int)))).run Tryz.prog w = .ok (.slice (cutA (some ⟨g,0,none⟩) n i 1) (i+1 - i) (n - i)) w:=by
  have:=run_cut3 (P:=Tryz.prog) Tryz.underlying93 text_sz2 (some ⟨g,0,none⟩) n c i (i+1) n (by omega) (by omega) hnc
  rwa [show ((i+1:Nat):Int)=(i:Int)+1 by omega] at this
 have s2:=run_take (P:=Tryz.prog) Tryz.underlying93 text_sz2 (some ⟨g,0,none⟩) n c i (by omega)
 have s3:∀ w,(Instr.slice 93 (.slice (some ⟨g,0,none⟩) n c) (some (.int .i64 ((i:Int)+1))) none none).run Tryz.prog w = .ok (.slice (cutA (some ⟨g,0,none⟩) c (i+1) 1) d1 d2) w:=by
  have:=run_cut (P:=Tryz.prog) Tryz.underlying93 text_sz2 (some ⟨g,0,none⟩) n c (i+1) (by omega)
  rwa [show ((i+1:Nat):Int)=(i:Int)+1 by omega,←hd1,←hd2] at this
 have s4:=run_cut2 (P:=Tryz.prog) Tryz.underlying93 text_sz2 (some ⟨g,0,none⟩) m c m n (by omega) hnc
 rw [←hd3,show n - m=1 by omega] at s4
 clear ho1 ho2 hd1 hd2 hd3 hm hcur hcs hsl
 go_enter Tryz.func167,Tryz.ntmps167
 go_wp2
 go_region_law (refine step_append_run rfl _ _ 93 93 rfl (.slice (some ⟨g,0,none⟩) i c) (.slice (cutA (some ⟨g,0,none⟩) c (i+1) 1) d1 d2) (by simp [Act.eval,Act.put]) (by simp [Act.eval,Act.put]) (hap _) ?_)
 go_wp2
 go_ret
 exact ⟨_,_,_,rfl,ho3,hg3⟩
end Go.Proofs.YtgmojjclobkpjaaGreatDoor

