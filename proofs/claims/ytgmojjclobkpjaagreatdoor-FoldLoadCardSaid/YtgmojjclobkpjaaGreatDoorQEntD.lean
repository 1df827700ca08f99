import Derived.Test.YtgmojjclobkpjaaGreatDoorQIns
import Derived.Lib.Overlaps
import Derived.Deep.RegionLaw
import Derived.Deep.DrawnRows
import Derived.Test.YtgmojjclobkpjaaGreatDoorQEnt
import Derived.Test.YtgmojjclobkpjaaGreatDoorQOwn
namespace Go.Proofs.YtgmojjclobkpjaaGreatDoor
set_option linter.all false
set_option maxHeartbeats 32000000
open Go.RowKit
attribute [local go_sem ↓] Go.wp_at_zero Go.wp_at_succ
theorem all_one {l:List Value} (h:(l.all fun u=>u.oneCell')=true):∀ u∈l,u.oneCell'=true:=List.all_eq_true.1 h
theorem ent_info:(Tryz.prog.info? 98).map (fun i=>(i.zero,i.size,i.bytes))=some (some (.agg #[.string ByteArray.empty,.int .i64 0,.string ByteArray.empty,.int .i64 0,.slice none 0 0,.slice none 0 0,.slice none 0 0,.int .i64 0]),8,128):=by kernel_rfl
theorem ent_sz2:(Tryz.prog.info? 98).map (·.size)=some 8:=by kernel_rfl
theorem ent_sz:(Tryz.prog.info? 98).map (·.size)=some 8:=by kernel_rfl
set_option maxRecDepth 100000 in
theorem Insert_ent (A:Option Addr) (n c base i b:Nat) (rows:List (List Value)) (row:Array Value) (w:World) (h:Own w base 98 8 (.slice A n c) rows) (h1:∀ r∈rows,∀ u∈r,u.oneCell'=true)
  (hi:i≤n) (hn:n≤1048576) (hb:Blk w b 98 row) (hl:row.size=8) (h1r:∀ u∈row.toList,u.oneCell'=true) (hbv:some b≠(Value.slice A n c).ownBlock) (hbase:base≤w.heap.size) :
  Calls Tryz.prog 149 #[.slice A n c,.int .i64 (i:Int),.slice (some ⟨b,0,none⟩) 1 1] w (InsPost w base 98 8 (insRows rows i row.toList) (Value.slice A n c).ownBlock):=by
 have hrn:=h.n_eq
 have hsl:=h.sl'
 have hnc:=hsl.nc
 have hcm:=hsl.cm
 unfold maxLen at hcm
 have srcv:=Sl.one_ hb hl
 have h1v:∀ r∈[row.toList],∀ u∈r,u.oneCell'=true:=by intro r hr;simp at hr;subst hr;exact h1r
 have s1:=run_cut (P:=Tryz.prog) Tryz.underlying36 ent_sz A n c i hi
 have HN:=hide hrn
 by_cases hin:i=n
 ·subst hin
  obtain ⟨A',n',c',w1,hr,ho,hg⟩:=h.join (P:=Tryz.prog) (t:=36) Tryz.underlying36 ent_info rfl (by omega) srcv h1v (by unfold maxLen;omega) (by omega) hbase 36
  have e1:insRows rows i row.toList=rows ++ [row.toList]:=by
   unfold insRows
   rw [List.take_of_length_le (by omega),List.drop_eq_nil_of_le (by omega),List.append_nil]
  rw [e1]
  clear hrn e1
  go_enter Tryz.func149,Tryz.ntmps149
  go_wp2_with (at_builtin;refine Lib.wpList_append_run _ rfl _ _ _ _ rfl _ _ rfl rfl _ _ hr ?_)
  go_ret
  exact ⟨_,_,_,rfl,ho,hg⟩
 ·have hlt:i<n:=by omega
  have hz2:((i:Int) == (n:Int))=false:=by rw [beq_eq_false_iff_ne];omega
  have hw1:IntKind.i64.wrap ((i:Int)+1)=(i:Int)+1:=IntWalk.i64_in _ (by omega)
  obtain ⟨g,cur,rfl,hbg,-,-,-,hcur,hcs,-⟩:=h.whole (by rintro rfl;have:=hsl.nil rfl;omega)
  have hgl:g<w.heap.size:=by
   rcases Nat.lt_or_ge g w.heap.size with hl|hl
   ·exact hl
   ·rw [Array.getElem?_eq_none hl] at hcur;cases hcur
  have hbg2:b≠g:=fun e=>hbv (by simp [Value.ownBlock,e])
  by_cases hroom:n+1≤c
  ·obtain ⟨r0,hm⟩:=h.more (by omega)
   have hlm:(rows ++ [r0]).length=n+1:=by simp;omega
   obtain ⟨d1,hd1⟩:∃ d,d=n+1 - i:=⟨_,rfl⟩
   obtain ⟨d2,hd2⟩:∃ d,d=c - i:=⟨_,rfl⟩
   have s2:∀ w,(Instr.slice 36 (.slice (some ⟨g,0,none⟩) n c) none (some (.int .i64 ((n:Int)+1))) none).run Tryz.prog w = .ok (.slice (some ⟨g,0,none⟩) (n+1) c) w:=by
    have:=run_take (P:=Tryz.prog) Tryz.underlying36 ent_sz (some ⟨g,0,none⟩) n c (n+1) hroom
    rwa [show ((n+1:Nat):Int)=(n:Int)+1 by omega] at this
   have s3:=run_cut (P:=Tryz.prog) Tryz.underlying36 ent_sz (some ⟨g,0,none⟩) (n+1) c i (by omega)
   rw [←hd1,←hd2] at s3
   rw [←hd2] at s1
   have s4:∀ w,(Instr.slice 36 (.slice (some ⟨g,0,none⟩) (n+1) c) (some (.int .i64 ((i:Int)+1))) none none).run Tryz.prog w = .ok (.slice (cutA (some ⟨g,0,none⟩) c (i+1) 8) (n+1 - (i+1)) (c - (i+1))) w:=by
    have:=run_cut (P:=Tryz.prog) Tryz.underlying36 ent_sz (some ⟨g,0,none⟩) (n+1) c (i+1) (by omega)
    rwa [show ((i+1:Nat):Int)=(i:Int)+1 by omega] at this
   have hov:∀ lb cb,(callFunc 159 #[.slice (some ⟨b,0,none⟩) 1 1,.slice (cutA (some ⟨g,0,none⟩) c (i+1) 8) lb cb]).run Tryz.prog w = .ok (.value (.bool false)) w:=fun lb cb=>by
    have hD:cutA (some ⟨g,0,none⟩) c (i+1) 8=some ⟨g,(i+1)*8,none⟩:=by
     unfold cutA
     rw [if_neg (by omega)]
     simp [Addr.add_lit]
    rw [hD,run_callFunc_extern Tryz.func159 (by kernel_rfl) (by kernel_rfl) (by kernel_rfl) (e:=Extern.SlicesOverlaps.overlaps #[36,36] #[4]) (by kernel_rfl),
     Lib.run_overlaps_apart w 36 4 98 Tryz.underlying36 8 (fun w=>by
      obtain ⟨ti,hi1,hi2,hi3,hi4⟩:=info_parts ent_info
      simp [Go.sizeOf,typeInfo,hi1,hi3]) ⟨b,0,none⟩ ⟨g,(i+1)*8,none⟩ 1 1 lb cb hbg2 _ _ _ _ (blk_shape hb) (blk_shape hcur) (by rw [hcs];have:0<c*8:=Nat.mul_pos (by omega) (by omega);omega) (hb.frozen _) (hb.frozen _)]
    rfl
   have hsl2:=hm.sl'.drop i (by omega) c (Nat.le_refl _) (by omega)
   rw [←hd1,←hd2] at hsl2
   have h1m:∀ r∈((rows ++ [r0]).drop i).take (n - i),∀ u∈r,u.oneCell'=true:=by
    rw [List.drop_append_of_le_length (by omega),List.take_append_of_le_length (by simp;omega)]
    exact fun r hr=>h1 r (List.mem_of_mem_drop (List.mem_of_mem_take hr))
   have hsl2':=hsl2.take (n - i) (by omega) d2 (by omega) (Nat.le_refl _)
   obtain ⟨w1,hc1,ho1,hg1⟩:=(Own.drew hm).copy (P:=Tryz.prog) (t:=36) (j:=i+1) (k:=n - i) Tryz.underlying36 ent_sz (by omega) hsl2.drew h1m (by omega) (by omega) (by omega)
   have srcv1:=srcv.drew.far hg1 (by simpa using hbg2)
   obtain ⟨w2,hc2,ho2,hg2⟩:=ho1.copy (P:=Tryz.prog) (t:=36) (j:=i) (k:=1) Tryz.underlying36 ent_sz (by omega) srcv1 (fun r hr=>h1v r (List.mem_of_mem_take hr)) (by omega) (by omega) (by omega)
   have ho3:Own w2 base 98 8 (.slice (some ⟨g,0,none⟩) (n+1) c) (insRows rows i row.toList):=by
    rw [←ins_room rows r0 row.toList hrn.symm hlt];exact ho2
   have hg3:w.grownBy w2 (some g):=grown_trans (grown_drew hg1) hg2
   have hmin1:Nat.min d1 (n - i)=n - i:=by simp only [Nat.min_def];split <;> omega
   have hmin2:Nat.min 1 d1=1:=by simp only [Nat.min_def];split <;> omega
   have HC1:Hid (∀ ty dl dc,Nat.min d1 dl=n - i→_):=hc1
   have hq:=fun ty=>hc2 ty d1 d2 hmin2
   have HM1:=hide hmin1
   have hz1:¬ (c:Int)<(n:Int)+1:=by omega
   clear hc1 hc2 ho2 ho1 hd1 hd2 hmin1 hmin2 hm hlm hrn hcs hcur
   go_enter Tryz.func149,Tryz.ntmps149
   go_wp2_with (simp only [hov])
   go_region_law (refine step_copy_run rfl _ _ 36 36 rfl (.slice (cutA (some ⟨g,0,none⟩) c (i+1) 8) (n - i) (c - (i+1))) (.slice (cutA (some ⟨g,0,none⟩) c i 8) d1 d2) (by simp [Act.eval,Act.put]) (by simp [Act.eval,Act.put]) (HC1.out _ _ _ HM1.out) ?_)
   go_wp2
   go_ret
   exact ⟨_,_,_,rfl,ho3,hg3⟩
  ·obtain rfl:c=n:=by omega
   obtain ⟨c2,w1,hap,ho1,hg1,hnc2⟩:=(h.take i hi).zeros (P:=Tryz.prog) (t:=36) (tn:=3) Tryz.underlying36 Tryz.underlying3 ent_info rfl (by omega) (k:=c+1 - i) (by omega) (by omega) (by unfold maxLen;omega) (by omega) hbase
   rw [show i+(c+1 - i)=c+1 by omega,show ((c+1 - i:Nat):Int)=(c:Int)+1 - (i:Int) by omega] at hap
   rw [show i+(c+1 - i)=c+1 by omega] at ho1 hnc2
   obtain ⟨H,hH⟩:∃ H,H=w.heap.size:=⟨_,rfl⟩
   rw [←hH] at hap ho1
   have srcv1:=srcv.grown hg1
   obtain ⟨w2,hc2,ho2,hg2⟩:=ho1.copy (P:=Tryz.prog) (t:=36) (j:=i) (k:=1) Tryz.underlying36 ent_sz (by omega) srcv1 (fun r hr=>h1v r (List.mem_of_mem_take hr)) (by omega) (by omega) (by omega)
   have hsl1:=(hsl.grown hg1).far hg2 (by simp;omega)
   have hsl2:=hsl1.drop i (by omega) c (Nat.le_refl _) (by omega)
   obtain ⟨w3,hc3,ho3,hg3⟩:=(Own.drew ho2).copy (P:=Tryz.prog) (t:=36) (j:=i+1) (k:=c - i) Tryz.underlying36 ent_sz (by omega) hsl2.drew (fun r hr=>h1 r (List.mem_of_mem_drop (List.mem_of_mem_take hr))) (by omega) (by omega) (by omega)
   have ho4:Own w3 base 98 8 (.slice (some ⟨H,0,none⟩) (c+1) c2) (insRows rows i row.toList):=by
    rw [←ins_zero rows _ row.toList hrn.symm hlt];exact ho3
   have hg4:w.grownBy w3 (some g):=grown_new hg1 (Nat.le_of_eq hH.symm) (grown_trans hg2 (grown_drew hg3))
   obtain ⟨d1,hd1⟩:∃ d,d=c+1 - i:=⟨_,rfl⟩
   obtain ⟨d2,hd2⟩:∃ d,d=c2 - i:=⟨_,rfl⟩
   obtain ⟨d3,hd3⟩:∃ d,d=c2 - (i+1):=⟨_,rfl⟩
   obtain ⟨d4,hd4⟩:∃ d,d=c - i:=⟨_,rfl⟩
   have s2:=run_take (P:=Tryz.prog) Tryz.underlying36 ent_sz (some ⟨g,0,none⟩) c c i hi
   have s3:=run_cut (P:=Tryz.prog) Tryz.underlying36 ent_sz (some ⟨H,0,none⟩) (c+1) c2 i (by omega)
   rw [←hd1,←hd2] at s3
   have s4:∀ w,(Instr.slice 36 (.slice (some ⟨H,0,none⟩) (c+1) c2) (some (.int .i64 ((i:Int)+1))) none none).run Tryz.prog w = .ok (.slice (cutA (some ⟨H,0,none⟩) c2 (i+1) 8) d4 d3) w:=by
    have:=run_cut (P:=Tryz.prog) Tryz.underlying36 ent_sz (some ⟨H,0,none⟩) (c+1) c2 (i+1) (by omega)
    rwa [show ((i+1:Nat):Int)=(i:Int)+1 by omega,←hd3,show c+1 - (i+1)=d4 by omega] at this
   rw [←hd4] at s1
   have hmin1:Nat.min 1 d1=1:=by simp only [Nat.min_def];split <;> omega
   have hmin2:Nat.min d4 d4=d4:=by simp only [Nat.min_def];split <;> omega
   rw [←hd4] at hc3
   have hq:=fun ty=>hc2 ty d1 d2 hmin1
   have HC2:Hid (∀ ty dl dc,Nat.min d4 dl=d4→_):=hc3
   have HM2:=hide hmin2
   have hz1:(c:Int)<(c:Int)+1:=by omega
   clear hc2 hc3 ho2 ho1 ho3 hd1 hd2 hd3 hd4 hmin1 hmin2 hrn hcs hcur hH hsl1 hsl2
   go_enter Tryz.func149,Tryz.ntmps149
   go_wp2_with (at_builtin;refine Lib.wpList_append_run _ rfl _ _ _ _ rfl _ _ rfl rfl _ _ (hap _) ?_)
   go_region_law (refine step_copy_run rfl _ _ 36 36 rfl (.slice (cutA (some ⟨H,0,none⟩) c2 (i+1) 8) d4 d3) (.slice (cutA (some ⟨g,0,none⟩) c i 8) d4 d4) (by simp [Act.eval,Act.put]) (by simp [Act.eval,Act.put]) (HC2.out _ _ _ HM2.out) ?_)
   go_wp2
   go_ret
   exact ⟨_,_,_,rfl,ho4,hg4⟩
set_option maxRecDepth 100000 in
theorem Delete_ent (A:Option Addr) (n c base i:Nat) (rows:List (List Value)) (w:World) (h:Own w base 98 8 (.slice A n c) rows) (h1:∀ r∈rows,∀ u∈r,u.oneCell'=true) (hi:i<n) (hn:n≤1048576) :
  Calls Tryz.prog 143 #[.slice A n c,.int .i64 (i:Int),.int .i64 ((i:Int)+1)] w (InsPost w base 98 8 (delRows rows i) (Value.slice A n c).ownBlock):=by
 have hsl:=h.sl'
 have hnc:=hsl.nc
 have hcm:=hsl.cm
 unfold maxLen at hcm
 obtain ⟨g,cur,rfl,hbg,-,-,-,hcur,hcs,-⟩:=h.whole (by rintro rfl;have:=hsl.nil rfl;omega)
 obtain ⟨w1,hap,ho1,hg1⟩:=(Own.drew h).out_ (P:=Tryz.prog) (t:=36) Tryz.underlying36 ent_info (by omega) h1 hi
 obtain ⟨m,hm⟩:∃ m,n - 1=m:=⟨_,rfl⟩
 rw [hm] at hap ho1
 obtain ⟨w2,hcl,ho2,hg2⟩:=ho1.wipe (P:=Tryz.prog) (t:=36) Tryz.underlying36 ent_info rfl (by omega) (all_one rfl) (by omega)
 have ho3:Own w2 base 98 8 (.slice (some ⟨g,0,none⟩) m c) (delRows rows i):=ho2
 have hg3:w.grownBy w2 (some g):=grown_trans (grown_drew hg1) hg2
 have hne:((i:Int) == (i:Int)+1)=false:=by rw [beq_eq_false_iff_ne];omega
 obtain ⟨d1,hd1⟩:∃ d,d=n - (i+1):=⟨_,rfl⟩
 obtain ⟨d2,hd2⟩:∃ d,d=c - (i+1):=⟨_,rfl⟩
 obtain ⟨d3,hd3⟩:∃ d,d=c - m:=⟨_,rfl⟩
 rw [←hd1,←hd2] at hap
 rw [←hd3] at hcl
 have s1:∀ w,(Instr.slice 36 (.slice (some ⟨g,0,none⟩) n c) (some (.int .i64 (i:Int))) (some (.int .i64 ((i:Int)+1))) (some (.int .i64 (n:Int)))).run Tryz.prog w = .ok (.slice (cutA (some ⟨g,0,none⟩) n i 8) (i+1 - i) (n - i)) w:=by
  have:=run_cut3 (P:=Tryz.prog) Tryz.underlying36 ent_sz2 (some ⟨g,0,none⟩) n c i (i+1) n (by omega) (by omega) hnc
  rwa [show ((i+1:Nat):Int)=(i:Int)+1 by omega] at this
 have s2:=run_take (P:=Tryz.prog) Tryz.underlying36 ent_sz2 (some ⟨g,0,none⟩) n c i (by omega)
 have s3:∀ w,(Instr.slice 36 (.slice (some ⟨g,0,none⟩) n c) (some (.int .i64 ((i:Int)+1))) none none).run Tryz.prog w = .ok (.slice (cutA (some ⟨g,0,none⟩) c (i+1) 8) d1 d2) w:=by
  have:=run_cut (P:=Tryz.prog) Tryz.underlying36 ent_sz2 (some ⟨g,0,none⟩) n c (i+1) (by omega)
  rwa [show ((i+1:Nat):Int)=(i:Int)+1 by omega,←hd1,←hd2] at this
 have s4:=run_cut2 (P:=Tryz.prog) Tryz.underlying36 ent_sz2 (some ⟨g,0,none⟩) m c m n (by omega) hnc
 rw [←hd3,show n - m=1 by omega] at s4
 clear ho1 ho2 hd1 hd2 hd3 hm hcur hcs hsl
 go_enter Tryz.func143,Tryz.ntmps143
 go_wp2
 go_region_law (refine step_append_run rfl _ _ 36 36 rfl (.slice (some ⟨g,0,none⟩) i c) (.slice (cutA (some ⟨g,0,none⟩) c (i+1) 8) d1 d2) (by simp [Act.eval,Act.put]) (by simp [Act.eval,Act.put]) (hap _) ?_)
 go_wp2
 go_ret
 exact ⟨_,_,_,rfl,ho3,hg3⟩
theorem cli_info:(Tryz.prog.info? 104).map (fun i=>(i.zero,i.size,i.bytes))=some (some (.agg #[.int .i64 0,.int .i64 0,.int .i64 0,.int .i64 0,.string ByteArray.empty,.int .i64 0,.slice none 0 0]),7,80):=by kernel_rfl
theorem cli_sz2:(Tryz.prog.info? 104).map (·.size)=some 7:=by kernel_rfl
set_option maxRecDepth 100000 in
theorem Delete_cli (A:Option Addr) (n c base i:Nat) (rows:List (List Value)) (w:World) (h:Own w base 104 7 (.slice A n c) rows) (h1:∀ r∈rows,∀ u∈r,u.oneCell'=true) (hi:i<n) (hn:n≤1048576) :
  Calls Tryz.prog 99 #[.slice A n c,.int .i64 (i:Int),.int .i64 ((i:Int)+1)] w (InsPost w base 104 7 (delRows rows i) (Value.slice A n c).ownBlock):=by
 have hsl:=h.sl'
 have hnc:=hsl.nc
 have hcm:=hsl.cm
 unfold maxLen at hcm
 obtain ⟨g,cur,rfl,hbg,-,-,-,hcur,hcs,-⟩:=h.whole (by rintro rfl;have:=hsl.nil rfl;omega)
 obtain ⟨w1,hap,ho1,hg1⟩:=(Own.drew h).out_ (P:=Tryz.prog) (t:=39) Tryz.underlying39 cli_info (by omega) h1 hi
 obtain ⟨m,hm⟩:∃ m,n - 1=m:=⟨_,rfl⟩
 rw [hm] at hap ho1
 obtain ⟨w2,hcl,ho2,hg2⟩:=ho1.wipe (P:=Tryz.prog) (t:=39) Tryz.underlying39 cli_info rfl (by omega) (all_one rfl) (by omega)
 have ho3:Own w2 base 104 7 (.slice (some ⟨g,0,none⟩) m c) (delRows rows i):=ho2
 have hg3:w.grownBy w2 (some g):=grown_trans (grown_drew hg1) hg2
 have hne:((i:Int) == (i:Int)+1)=false:=by rw [beq_eq_false_iff_ne];omega
 obtain ⟨d1,hd1⟩:∃ d,d=n - (i+1):=⟨_,rfl⟩
 obtain ⟨d2,hd2⟩:∃ d,d=c - (i+1):=⟨_,rfl⟩
 obtain ⟨d3,hd3⟩:∃ d,d=c - m:=⟨_,rfl⟩
 rw [←hd1,←hd2] at hap
 rw [←hd3] at hcl
 have s1:∀ w,(Instr.slice 39 (.slice (some ⟨g,0,none⟩) n c) (some (.int .i64 (i:Int))) (some (.int .i64 ((i:Int)+1))) (some (.int .i64 (n:Int)))).run Tryz.prog w = .ok (.slice (cutA (some ⟨g,0,none⟩) n i 7) (i+1 - i) (n - i)) w:=by
  have:=run_cut3 (P:=Tryz.prog) Tryz.underlying39 cli_sz2 (some ⟨g,0,none⟩) n c i (i+1) n (by omega) (by omega) hnc
  rwa [show ((i+1:Nat):Int)=(i:Int)+1 by omega] at this
 have s2:=run_take (P:=Tryz.prog) Tryz.underlying39 cli_sz2 (some ⟨g,0,none⟩) n c i (by omega)
 have s3:∀ w,(Instr.slice 39 (.slice (some ⟨g,0,none⟩) n c) (some (.int .i64 ((i:Int)+1))) none none).run Tryz.prog w = .ok (.slice (cutA (some ⟨g,0,none⟩) c (i+1) 7) d1 d2) w:=by
  have:=run_cut (P:=Tryz.prog) Tryz.underlying39 cli_sz2 (some ⟨g,0,none⟩) n c (i+1) (by omega)
  rwa [show ((i+1:Nat):Int)=(i:Int)+1 by omega,←hd1,←hd2] at this
 have s4:=run_cut2 (P:=Tryz.prog) Tryz.underlying39 cli_sz2 (some ⟨g,0,none⟩) m c m n (by omega) hnc
 rw [←hd3,show n - m=1 by omega] at s4
 clear ho1 ho2 hd1 hd2 hd3 hm hcur hcs hsl
 go_enter Tryz.func99,Tryz.ntmps99
 go_wp2
 go_region_law (refine step_append_run rfl _ _ 39 39 rfl (.slice (some ⟨g,0,none⟩) i c) (.slice (cutA (some ⟨g,0,none⟩) c (i+1) 7) d1 d2) (by simp [Act.eval,Act.put]) (by simp [Act.eval,Act.put]) (hap _) ?_)
 go_wp2
 go_ret
 exact ⟨_,_,_,rfl,ho3,hg3⟩
theorem Own.wipes {P:Program} {w:World} {base g n cap size bytes k:Nat} {e t:TypeId} {z:Value} {rows:List (List Value)} (ht:P.underlying t=some (.slice e)) (hi:(P.info? e).map (fun i=>(i.zero,i.size,i.bytes))=some (some z,size,bytes)) (hzs:z.cells.size=size) (hsz:0<size) (hz1:∀ u∈z.cells.toList,u.oneCell'=true)
  (h:Own w base e size (.slice (some ⟨g,0,none⟩) n cap) rows) (hk:0<k) (hin:n+k≤cap) :
  ∃ w',(∀ ty,(Builtin.clear_ #[t] ty #[.slice (cutA (some ⟨g,0,none⟩) cap n size) k (cap - n)]).run P w = .ok (.tuple #[]) w') ∧
   Own w' base e size (.slice (some ⟨g,0,none⟩) n cap) rows∧w.grownBy w' (some g):=by
 obtain ⟨m,rfl⟩:∃ m,k=m+1:=⟨k - 1,by omega⟩
 obtain ⟨ti,hi1,hi2,hi3,hi4⟩:=info_parts hi
 obtain ⟨hb,hn',hnc,hcm,cur,hc,hcs,hct⟩:=h.parts
 have hcl:cur.toList.length=cap*size:=by simpa using hcs
 have hD:cutA (some ⟨g,0,none⟩) cap n size=some ⟨g,n*size,none⟩:=by
  unfold cutA
  rw [if_neg (by omega)]
  simp [Addr.add_lit]
 have hms:(n+(m+1))*size≤cap*size:=Nat.mul_le_mul_right _ hin
 rw [Nat.add_mul] at hms
 have hzl:=zeroCells_flat z.cells (m+1) (by omega)
 have hrl:∀ r∈List.replicate (m+1) z.cells.toList,r.length=size:=fun r hr=>by rw [(List.mem_replicate.1 hr).2];simpa using hzs
 have hfl:(List.replicate (m+1) z.cells.toList).flatten.length=(m+1)*size:=by rw [flatten_length hrl,List.length_replicate]
 have hf1:∀ u∈(List.replicate (m+1) z.cells.toList).flatten,u.oneCell'=true:=by
  intro u hu
  obtain ⟨r,hr,hur⟩:=List.mem_flatten.1 hu
  rw [(List.mem_replicate.1 hr).2] at hur
  exact hz1 u hur
 generalize (List.replicate (m+1) z.cells.toList).flatten=Z at *
 have hst:=run_storeCells_at P g (n*size) e Z 0 cur w hc (by omega) hf1
 refine ⟨_,fun ty=>?_,?_,grown_setRow w g (cur.toList.take (n*size+0) ++ Z ++ cur.toList.drop (n*size+0+Z.length)).toArray⟩
 ·simp [Builtin.clear_,run_underlying ht,hD,zeroValue,typeInfo,hi1,hi2,hzl,hst]
 ·have:=Own.put (e:=e) (cur':=(cur.toList.take (n*size+0) ++ Z ++ cur.toList.drop (n*size+0+Z.length)).toArray) hb hc hcm (by simp only [List.size_toArray,List.length_append,List.length_take,List.length_drop];omega) h.2 (by omega) (by
   rw [←hn',←hct,List.append_assoc,Nat.add_zero,List.take_append,List.take_take,Nat.min_self,List.length_take,Nat.min_eq_left (by omega),Nat.sub_self,List.take_zero,List.append_nil])
  rw [←hn'] at this
  exact this
theorem Own.row8 {w:World} {B g n c i:Nat} {e:TypeId} {rows:List (List Value)} (h:Own w B e 8 (.slice (some ⟨g,0,none⟩) n c) rows) (hi:i<rows.length) (u0 u1 u2 u3 u4 u5 u6 u7:Value) :
  Own ((((((((w.setCell ⟨g,i*8,none⟩ u0).setCell ⟨g,i*8+1,none⟩ u1).setCell ⟨g,i*8+2,none⟩ u2).setCell ⟨g,i*8+3,none⟩ u3).setCell ⟨g,i*8+4,none⟩ u4).setCell ⟨g,i*8+5,none⟩ u5).setCell ⟨g,i*8+6,none⟩ u6).setCell ⟨g,i*8+7,none⟩ u7)
   B e 8 (.slice (some ⟨g,0,none⟩) n c) (rows.set i [u0,u1,u2,u3,u4,u5,u6,u7]):=by
 have hl:=h.2 _ (List.getElem_mem hi)
 have s0:=h.store (i:=i) (j:=0) (u:=u0) hi (by omega)
 have s1:=s0.store (i:=i) (j:=1) (u:=u1) (by simpa using hi) (by omega)
 have s2:=s1.store (i:=i) (j:=2) (u:=u2) (by simpa using hi) (by omega)
 have s3:=s2.store (i:=i) (j:=3) (u:=u3) (by simpa using hi) (by omega)
 have s4:=s3.store (i:=i) (j:=4) (u:=u4) (by simpa using hi) (by omega)
 have s5:=s4.store (i:=i) (j:=5) (u:=u5) (by simpa using hi) (by omega)
 have s6:=s5.store (i:=i) (j:=6) (u:=u6) (by simpa using hi) (by omega)
 have s7:=s6.store (i:=i) (j:=7) (u:=u7) (by simpa using hi) (by omega)
 simp only [List.getElem_set_self,List.set_set] at s7
 generalize rows[i]=r at hl s7
 match r,hl with
 | [y0,y1,y2,y3,y4,y5,y6,y7],_=>exact s7
theorem eight {r:List Value} (h:r.length=8):∃ y0 y1 y2 y3 y4 y5 y6 y7,r=[y0,y1,y2,y3,y4,y5,y6,y7]:=by
 match r,h with
 | [y0,y1,y2,y3,y4,y5,y6,y7],_=>exact ⟨_,_,_,_,_,_,_,_,rfl⟩
theorem take_set_next {α:Type} {l:List α} {i:Nat} (hi:i<l.length) (x:α):(l.set i x).take (i+1)=l.take i ++ [x]:=by
 rw [List.take_succ_eq_append_getElem (by simpa using hi),List.getElem_set_self,List.take_set_of_le (Nat.le_refl _)]
structure EMov (B:Nat) (w w':World):Prop where
 bel:Below B w w'
 frm:∀ k t cs,Blk w k t cs→t≠98→Blk w' k t cs
section
variable {w w' w'':World} {B g:Nat} {t:TypeId} {cs:Array Value}
theorem EMov.of (h:Below w.heap.size w w') (hB:B≤w.heap.size):EMov B w w':=⟨h.mono hB,fun _ _ _ hb _=>hb.below' h⟩
theorem EMov.trans (h:EMov B w w') (k:EMov B w' w''):EMov B w w'':=⟨h.bel.trans k.bel,fun b t cs hb h1=>k.frm b t cs (h.frm b t cs hb h1) h1⟩
theorem EMov.size (h:EMov B w w'):w.heap.size≤w'.heap.size:=h.bel.size
theorem EMov.next (h:EMov B w w') (hB:B≤w.heap.size) (k:Below w'.heap.size w' w''):EMov B w w'':=h.trans (EMov.of k (by have:=h.size;omega))
theorem EMov.own {n c:Nat} {size:Nat} {A:Option Addr} {rows:List (List Value)} (h:Own w B 98 size (.slice A n c) rows) (hg:w.grownBy w' (Value.slice A n c).ownBlock) (hB:B≤w.heap.size):EMov B w w':=
 ⟨below_grown h hg hB,fun _ _ _ hb h1=>blk_other hb h hg h1⟩
theorem EMov.fr (h:EMov B w w'):Fr w w':=⟨h.size,fun k cs hb=>h.frm k _ cs hb (by decide),fun k cs hb=>h.frm k _ cs hb (by decide),fun k cs hb=>h.frm k _ cs hb (by decide)⟩
end
theorem ent_info_z:(Tryz.prog.info? 98).map (fun i=>(i.zero,i.size,i.bytes))=some (some (.agg #[.string ByteArray.empty,.int .i64 0,.string ByteArray.empty,.int .i64 0,.slice none 0 0,.slice none 0 0,.slice none 0 0,.int .i64 0]),8,128):=ent_info
set_option maxRecDepth 100000 in
theorem DelFunc_ent (f:FuncId) (hf:∀ args w,(callFunc f args).run Tryz.prog w = .ok (.enter f args) w) (p:En→Bool) (w:World) (B kg:Nat)
  (hp:∀ (x:En) (s1 s2 s3:Value) (w':World),EMov B w w'→Calls Tryz.prog f #[.agg (x.cells s1 s2 s3).toArray,.pointer (some ⟨kg,0,none⟩)] w' fun e w2=>e = .returned (.bool (p x))∧Below w'.heap.size w' w2)
  (A:Option Addr) (n c:Nat) (l:List En) (hn:n≤1048576) (h:StOwn w B A n c l) (hB:B≤w.heap.size) :
  Calls Tryz.prog 96 #[.slice A n c,.func (.func f) #[] #[.pointer (some ⟨kg,0,none⟩)]] w fun e w'=>
   ∃ A' n' c',e = .returned (.slice A' n' c')∧StOwn w' B A' n' c' (l.filter fun x => !p x)∧EMov B w w':=by
 have hln:=h.sl.len
 have HP:=hide hp
 clear hp
 have hfind:=FindEnt f hf p w kg (fun x s1 s2 s3 w' hb=>HP.out x s1 s2 s3 w' (EMov.of hb hB)) A n c l (by omega) h.sl
 have HF:=hide hfind
 clear hfind
 go_enter Tryz.func96,Tryz.ntmps96
 go_wp2_with fail
 refine HF.out.mono ?_
 rintro e w1 ⟨rfl,hb1⟩
 have q1:EMov B w w1:=EMov.of hb1 hB
 have h1:=h.bl hb1
 have hB1:B≤w1.heap.size:=by have:=hb1.size;omega
 cases hfi:l.findIdx? p with
 | none=>
  have hall:l.filter (fun x => !p x)=l:=by
   rw [List.filter_eq_self]
   intro x hx
   simpa using List.findIdx?_eq_none_iff.1 hfi x hx
  go_wp2_with fail
  go_ret
  exact ⟨A,n,c,rfl,by rw [hall];exact h1,q1⟩
 | some i0=>
  obtain ⟨hi0,hp0,hlt0⟩:=List.findIdx?_eq_some_iff_getElem.1 hfi
  have hne:(((i0:Nat):Int) == -1)=false:=by rw [beq_eq_false_iff_ne];omega
  obtain ⟨rows0,ho0,he0⟩:=h1
  have hrl0:=he0.len
  obtain ⟨g,rfl,hgB,hgl,-,-,-⟩:=ho0.block (by omega)
  have hidx:idxFn (some i0)=(i0:Int):=rfl
  simp only [hidx]
  have hcap:=ho0.sl'.nc
  have hstart:(l.take (i0+1)).filter (fun x => !p x)=l.take i0:=by
   rw [List.take_succ_eq_append_getElem hi0,List.filter_append]
   have e1:(l.take i0).filter (fun x => !p x)=l.take i0:=by
    rw [List.filter_eq_self]
    intro x hx
    obtain ⟨k,hk,rfl⟩:=List.mem_iff_getElem.1 hx
    rw [List.length_take] at hk
    have:=hlt0 k (by omega)
    rw [List.getElem_take]
    simpa using this
   rw [e1]
   simp [hp0]
  go_wp2_with fail
  go_loopw [5,6] (fun s5 s6 wr=>∃ i j:Nat,s5 = .int .i64 i∧s6 = .int .i64 j∧i<j∧j≤n∧∃ rw_,Own wr B 98 8 (.slice (some ⟨g,0,none⟩) n c) rw_∧Ens wr ((l.take j).filter fun x => !p x) (rw_.take i)∧Ens wr (l.drop j) (rw_.drop j)∧EMov B w wr) (fun _ s6 _=>n - (intOf s6).toNat)
  case atStart=>
   refine ⟨i0,i0+1,rfl,by go_num,by omega,by omega,rows0,ho0,?_,he0.drop _,q1⟩
   rw [hstart]
   exact he0.take _
  case round=>
   obtain ⟨i,j,rfl,rfl,hij,hjn,rw_,O,E1,E2,q⟩:=hrel
   have hBr:B≤wr.heap.size:=by have:=q.size;omega
   by_cases hlt:j<n
   ·have hjl:j<l.length:=by omega
    obtain ⟨g',hg',-,hgl',-,hfz,hcell⟩:=O.block (by have:=O.n_eq;omega)
    injection hg' with hg'
    injection hg' with hg'
    subst hg'
    obtain ⟨r,hr0,hat⟩:=E2.at_ (k:=0) (by simp;omega)
    rw [List.getElem?_drop,Nat.add_zero] at hr0
    simp only [List.getElem_drop,Nat.add_zero] at hat
    have hat0:=hat
    obtain ⟨A1,n1,c1,A2,n2,c2,A3,n3,c3,rfl,-,-⟩:=hat
    have hir:i<rw_.length:=by have:=O.n_eq;omega
    obtain ⟨y0,y1,y2,y3,y4,y5,y6,y7,hy⟩:=eight (O.2 _ (List.getElem_mem hir))
    have hy0:rw_[i]?=some [y0,y1,y2,y3,y4,y5,y6,y7]:=by rw [←hy];exact List.getElem?_eq_getElem hir
    have hps:=HP.out l[j] (.slice A1 n1 c1) (.slice A2 n2 c2) (.slice A3 n3 c3)
    have hnext:(l.take (j+1)).filter (fun x => !p x)=(l.take j).filter (fun x => !p x) ++ (if p l[j]=true then [] else [l[j]]):=by
     rw [List.take_succ_eq_append_getElem hjl,List.filter_append]
     congr 1
     by_cases hpj:p l[j]=true <;> simp [hpj]
    have hdr:(l.drop j).drop 1=l.drop (j+1):=by rw [List.drop_drop]
    have hdr2:(rw_.drop j).drop 1=rw_.drop (j+1):=by rw [List.drop_drop]
    have E3:=E2.drop 1
    rw [hdr,hdr2] at E3
    generalize l[j]=x at hat0 hps hnext hr0
    obtain ⟨xk,⟨vk,vt,vc,ps,is_,ss⟩,xt⟩:=x
    simp only [En.cells] at hps hr0
    have k0:=hcell j _ hr0 0 _ rfl;have k1:=hcell j _ hr0 1 _ rfl;have k2:=hcell j _ hr0 2 _ rfl;have k3:=hcell j _ hr0 3 _ rfl
    have k4:=hcell j _ hr0 4 _ rfl;have k5:=hcell j _ hr0 5 _ rfl;have k6:=hcell j _ hr0 6 _ rfl;have k7:=hcell j _ hr0 7 _ rfl
    simp only [Nat.add_zero] at k0
    have hz1:(0:Int)≤(j:Int):=by omega
    have hz2:(j:Int)<(n:Int):=by omega
    have hz3:(0:Int)≤(i:Int):=by omega
    have hz4:(i:Int)<(n:Int):=by omega
    have HPS:=hide hps
    have HX:=hide hnext
    have HAT:=hide hat0
    have V:=Blk.new wr 98 #[.string xk,.int .i64 vk,.string vt,.int .i64 vc,.slice A1 n1 c1,.slice A2 n2 c2,.slice A3 n3 c3,.int .i64 xt]
    have qa:Below wr.heap.size wr (wr.alloc (.cells #[.string xk,.int .i64 vk,.string vt,.int .i64 vc,.slice A1 n1 c1,.slice A2 n2 c2,.slice A3 n3 c3,.int .i64 xt] 98)):=below_by
    clear hps hnext hat0 hr0 hy hcell hdr hdr2
    go_wp2_with fail
    refine (HPS.out _ (q.next hB qa)).mono ?_
    rintro e w2 ⟨rfl,hb2⟩
    have V2:=V.below' hb2
    have q2:=bstep qa hb2
    have O2:=O.below q2
    have hq2:=(q.next hB q2)
    have f2:=Fr.of q2
    have hvl:=V2.lt
    have hvg:wr.heap.size≠g:=by omega
    clear k0 k1 k2 k3 k4 k5 k6 k7 V qa hb2
    cases hpx:p ⟨xk,⟨vk,vt,vc,ps,is_,ss⟩,xt⟩ with
    | true=>
     go_wp2_with fail
     go_roundw
     case rel=>exact ⟨i,j+1,rfl,by go_num,by omega,by omega,rw_,O2,by rw [HX.out,if_pos hpx,List.append_nil];exact E1.fr f2,E3.fr f2,hq2⟩
     case measure=>simp [intOf];omega
    | false=>
     obtain ⟨gg,hgg,-,-,-,hfz3,hcell3⟩:=O2.block (by have:=O2.n_eq;omega)
     injection hgg with hgg
     injection hgg with hgg
     subst hgg
     have z0:=hcell3 i _ hy0 0 _ rfl;have z1:=hcell3 i _ hy0 1 _ rfl;have z2:=hcell3 i _ hy0 2 _ rfl;have z3:=hcell3 i _ hy0 3 _ rfl
     have z4:=hcell3 i _ hy0 4 _ rfl;have z5:=hcell3 i _ hy0 5 _ rfl;have z6:=hcell3 i _ hy0 6 _ rfl;have z7:=hcell3 i _ hy0 7 _ rfl
     simp only [Nat.add_zero] at z0
     have O3:=O2.row8 (i:=i) hir (.string xk) (.int .i64 vk) (.string vt) (.int .i64 vc) (.slice A1 n1 c1) (.slice A2 n2 c2) (.slice A3 n3 c3) (.int .i64 xt)
     have gr:w2.grownBy ((((((((w2.setCell ⟨g,i*8,none⟩ (.string xk)).setCell ⟨g,i*8+1,none⟩ (.int .i64 vk)).setCell ⟨g,i*8+2,none⟩ (.string vt)).setCell ⟨g,i*8+3,none⟩ (.int .i64 vc)).setCell ⟨g,i*8+4,none⟩ (.slice A1 n1 c1)).setCell ⟨g,i*8+5,none⟩ (.slice A2 n2 c2)).setCell ⟨g,i*8+6,none⟩ (.slice A3 n3 c3)).setCell ⟨g,i*8+7,none⟩ (.int .i64 xt)) (some g):=
      grown_trans (grown_trans (grown_trans (grown_trans (grown_trans (grown_trans (grown_trans (grown_setRow_cell w2 g _ _) (grown_setRow_cell _ g _ _)) (grown_setRow_cell _ g _ _)) (grown_setRow_cell _ g _ _)) (grown_setRow_cell _ g _ _)) (grown_setRow_cell _ g _ _)) (grown_setRow_cell _ g _ _)) (grown_setRow_cell _ g _ _)
     have q3:=EMov.own O2 gr (by have:=hq2.size;omega)
     have f3:=f2.trans q3.fr
     clear hcell3 hfz hy0
     (try clear cV2 fV2);have cV2:=V2.cell;have fV2:=V2.frozen
     go_wp2_with fail
     go_roundw
     case rel=>
      refine ⟨i+1,j+1,by go_num,by go_num,by omega,by omega,_,O3,?_,?_,hq2.trans q3⟩
      ·rw [HX.out,if_neg (by rw [hpx];decide),take_set_next hir]
       exact (E1.fr f3).app (Ens.one_ (HAT.out.fr f3))
      ·rw [List.drop_set_of_lt (by omega)]
       exact E3.fr f3
     case measure=>simp [intOf];omega
   ·obtain rfl:j=n:=by omega
    have hfull:l.take j=l:=List.take_of_length_le (by omega)
    rw [hfull] at E1
    have O1:=O.take i (by omega)
    obtain ⟨w9,hcl,O9,gr9⟩:=O1.wipes (P:=Tryz.prog) (t:=36) (k:=j - i) Tryz.underlying36 ent_info_z rfl (by omega) (all_one rfl) (by omega) (by omega)
    have s1:=run_cut (P:=Tryz.prog) Tryz.underlying36 ent_sz (some ⟨g,0,none⟩) j c i (by omega)
    have s2:=run_take (P:=Tryz.prog) Tryz.underlying36 ent_sz (some ⟨g,0,none⟩) j c i (by omega)
    have q9:=q.trans (EMov.own O1 gr9 hBr)
    have E9:=E1.fr (EMov.own O1 gr9 hBr).fr
    obtain ⟨d1,hd1⟩:∃ d,d=j - i:=⟨_,rfl⟩
    obtain ⟨d2,hd2⟩:∃ d,d=c - i:=⟨_,rfl⟩
    rw [←hd1,←hd2] at hcl s1
    have HD1:=hide hd1;have HD2:=hide hd2
    clear hd1 hd2
    go_wp2_with fail
    go_ret
    exact ⟨_,_,_,rfl,⟨_,O9,E9⟩,q9⟩
end Go.Proofs.YtgmojjclobkpjaaGreatDoor

