import Derived.Test.YtgdcofbnbiclmaaGreatDoorQCmd
import Derived.Deep.RegionHeld3
import Derived.Deep.DeepCutAuto
namespace Go.Proofs.YtgdcofbnbiclmaaGreatDoor
set_option linter.all false
set_option maxHeartbeats 32000000
open Go.RowKit
def some_ (n:Int):ByteArray:=strOfNums [97+picked n 9]
def cut_ (s:ByteArray) (most:Nat):ByteArray:=s.extract 0 (min s.size most)
theorem some_size (n:Int):(some_ n).size=1:=by simp [some_,strOfNums_size]
theorem cut_size (s:ByteArray) (most:Nat):(cut_ s most).size≤most:=by simp [cut_,ByteArray.size_extract];omega

theorem one_string (n:Int) (w:World):(convert 113 9 (.slice (some ⟨w.heap.size,0,none⟩) 1 1)).run Tryz.prog (w.alloc (.cells (#[Value.int .u8 n]) 5)) =
  .ok (.string (strOfNums [n])) (w.alloc (.cells (#[Value.int .u8 n]) 5)):=
 run_convert_bytes_arg _ _ _ Tryz.underlying113 Tryz.underlying5 _ 0 1 1 _ rfl (fun i hi=>by
  obtain rfl:i=0:=by omega
  exact World.cell?_alloc_new w _ _ 0) _ Tryz.underlying9
theorem some_any (n:Int) (w:World) (h1 : -9223372036854775808≤n) (h2:n≤9223372036854775807) :
  Calls Tryz.prog 86 #[.int .i64 n] w fun e w'=>e = .returned (.string (some_ n))∧Below w.heap.size w w':=by
 have p1:=picked_lo n 9 (by omega)
 have p2:=picked_hi n 9 (by omega)
 have hcv:=one_string (97+picked n 9)
 go_enter Tryz.func86,Tryz.ntmps86
 go_wp2_with fail
 refine (picked_any _ _ _ h1 h2 (by omega) (by omega)).mono ?_
 rintro e w' ⟨rfl,rfl⟩
 go_wp2_with fail
 go_ret
 exact ⟨rfl,below_by⟩
theorem cut_any (s:ByteArray) (most:Int) (w:World) (hs:s.size≤maxLen) (h0:0≤most) (h:most≤9223372036854775807) :
  Calls Tryz.prog 87 #[.string s,.int .i64 most] w fun e w'=>e = .returned (.string (cut_ s most.toNat))∧w=w':=by
 obtain ⟨most,rfl⟩:=Int.eq_ofNat_of_zero_le h0
 rw [Int.toNat_natCast]
 unfold maxLen at hs
 go_enter Tryz.func87,Tryz.ntmps87
 go_wp2_with fail
 all_goals go_ret
 ·exact ⟨by unfold cut_;rw [Nat.min_eq_right (by omega)];rfl,rfl⟩
 ·exact ⟨by unfold cut_;rw [Nat.min_eq_left (by omega)];simp,rfl⟩
structure Cmd where
 kind:Int
 key:ByteArray
 field:ByteArray
 text:ByteArray
 n:Int
def emp:ByteArray:={ data:=#[] }
def cmdV (c:Cmd):Value:=.agg #[.int .i64 c.kind,.string c.key,.string c.field,.string c.text,.int .i64 c.n]
def cmdOf (kind key field n:Int) (text:ByteArray):Cmd:=
 {kind:=1+picked kind 22,key:=if 1+picked kind 22=22 then emp else some_ key,field:=if cmdField (1+picked kind 22)=true then some_ field else emp,
  text:=if cmdText (1+picked kind 22)=true then (if (picked n 3 == 0)=true then some_ n else cut_ text 6) else emp,
  n:=if 1+picked kind 22=3 then n.tmod 1073741824 else if 1+picked kind 22=20 then picked n 60 else if 1+picked kind 22=14 then picked n 12 - 6 else 0 }
theorem Command_any (kind key field n:Int) (text:ByteArray) (w:World) (k1 : -9223372036854775808≤kind) (k2:kind≤9223372036854775807) (y1 : -9223372036854775808≤key) (y2:key≤9223372036854775807)
  (f1 : -9223372036854775808≤field) (f2:field≤9223372036854775807) (n1 : -9223372036854775808≤n) (n2:n≤9223372036854775807) (ht:text.size≤maxLen) (p:Int) (hp:picked kind 22=p) (hp0:0≤p) (hp1:p<22) :
  Calls Tryz.prog 66 #[.agg #[.int .i64 kind,.int .i64 key,.int .i64 field,.int .i64 n,.string text]] w fun e w'=>e = .returned (cmdV (cmdOf kind key field n text))∧Below w.heap.size w w':=by
 have HP:=hide hp
 have hpk:=fun w=>picked_any kind 22 w k1 k2 (by omega) (by omega)
 rw [hp] at hpk
 have HPK:=hide hpk;clear hpk hp
 have hwr:IntKind.i64.wrap (1+p)=1+p:=IntWalk.i64_in _ (by omega)
 go_enter Tryz.func66,Tryz.ntmps66
 go_upto_region 1 with fail
 go_cut [3] (fun s3 wx=>∃ g:Nat,s3 = .pointer (some ⟨g,0,none⟩)∧w.heap.size+1<g∧Below w.heap.size w wx∧g<wx.heap.size ∧
  Blk wx (w.heap.size) 60 #[.int .i64 kind,.int .i64 key,.int .i64 field,.int .i64 n,.string text] ∧
  Blk wx (w.heap.size+1) 36 #[.int .i64 0,.string { data:=#[] },.string { data:=#[] },.string { data:=#[] },.int .i64 0] ∧
  Blk wx (g) 36 #[.int .i64 (1+p),.string (some_ key),.string { data:=#[] },.string { data:=#[] },.int .i64 0])
 case first=>
  go_region_held3 (fun w'=>w'.cell? ⟨w.heap.size,0,none⟩=some (.int .i64 kind)∧w'.cell? ⟨w.heap.size,1,none⟩=some (.int .i64 key)) (simp [go_sem,World.cell?_alloc_past, *])
   (first
    | (go_at_call 42;refine (HPK.out _).mono ?_;rintro e w' ⟨rfl,rfl⟩)
    | (go_at_call 86;refine (some_any _ _ y1 y2).mono ?_;rintro e w1 ⟨rfl,hb1⟩;obtain ⟨hc1,hf1⟩:=bcell hb1;have hz:=hb1.size;simp at hz;have hz1:w.heap.size+1<w1.heap.size:=(by omega);have hz0:w.heap.size<w1.heap.size:=(by omega)))
  all_goals go_wp2_with fail
  all_goals go_meet
  all_goals refine ⟨_,rfl,?_,below_by,?_,?_,?_,?_⟩
  all_goals try (simp;done)
  all_goals try (simp;omega)
  all_goals try omega
  all_goals ((repeat' (first|(with_reducible assumption)|(with_reducible exact Blk.new _ _ _)|((with_reducible refine Blk.new' _ _ _ ?_);focus (simp;done))|(with_reducible refine Blk.set' (cs:=?_) ?_ ?_)|(with_reducible refine Blk.alloc ?_ _)|(with_reducible refine Blk.drew ?_)|(with_reducible refine Blk.drewN ?_ _)|(with_reducible refine Blk.below' ?_ (by with_reducible assumption))|((with_reducible refine Blk.far ?_ ?_ _);rotate_left;(focus first|(simp;done)|(simp;omega)|omega)))) <;> try rfl)
 case rest=>
  obtain ⟨g,rfl,hg,hb,hl,B0,B1,B2⟩:=hcut
  have c0:=B0.cell
  have c1:=B1.cell
  have c2:=B2.cell
  have g1:=B1.frozen
  have g2:=B2.frozen
  have l1:=B1.lt
  have l0:w.heap.size<wc.heap.size:=by omega
  have q1:=picked_lo n 60 (by omega)
  have q2:=picked_hi n 60 (by omega)
  have q3:=picked_lo n 12 (by omega)
  have q4:=picked_hi n 12 (by omega)
  have hp22:p=0∨p=1∨p=2∨p=3∨p=4∨p=5∨p=6∨p=7∨p=8∨p=9∨p=10∨p=11∨p=12∨p=13∨p=14∨p=15∨p=16∨p=17∨p=18∨p=19∨p=20∨p=21:=by omega
  rcases hp22 with rfl|rfl|rfl|rfl|rfl|rfl|rfl|rfl|rfl|rfl|rfl|rfl|rfl|rfl|rfl|rfl|rfl|rfl|rfl|rfl|rfl|rfl
  all_goals simp only [Int.reduceAdd] at c2
  all_goals go_wp2_with (first
   | (go_at_call 42;refine (picked_any _ _ _ (by omega) (by omega) (by omega) (by omega)).mono ?_;rintro e w' ⟨rfl,rfl⟩)
   | (go_at_call 87;refine (cut_any _ _ _ ht (by omega) (by omega)).mono ?_;rintro e w' ⟨rfl,rfl⟩)
   | (go_at_call 86;refine (some_any _ _ (by omega) (by omega)).mono ?_;rintro e w1 ⟨rfl,hb1⟩;obtain ⟨hc1,hf1⟩:=bcell hb1;have hz:=hb1.size;(try simp at hz);have hz0:w.heap.size<w1.heap.size:=(by omega);have hz1:w.heap.size+1<w1.heap.size:=(by omega);have hz2:g<w1.heap.size:=(by omega)))
  all_goals refine bodyPost_ret (v:=cmdV (cmdOf kind key field n text)) ?_ rfl ⟨rfl,below_by⟩
  all_goals simp [results,Tryz.results66,go_sem,cmdOf,cmdV,HP.out,cmdText,cmdField,emp, *]
end Go.Proofs.YtgdcofbnbiclmaaGreatDoor

