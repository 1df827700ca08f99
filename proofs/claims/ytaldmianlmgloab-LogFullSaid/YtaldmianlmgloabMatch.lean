/- ledger.Match walked. -/
import Derived.Test.YtaldmianlmgloabMatchP
import Derived.StillTailTactics
namespace Go.Proofs.Ytaldmianlmgloab
set_option linter.all false
open Go.RowKit
/-- What Match leaves. -/
def MatchPost (base bt : Int) (r : MRes) (w : World) (e : Ending) (w' : World) : Prop :=
  Below w.heap.size w w' ∧ match r.log with
    | some out => ∃ A n c, e = .returned (.tuple #[.agg #[.int .i64 base, .int .i64 bt, .slice A n c], .bool r.fits, .int .i64 r.fresh, .int .i64 r.err]) ∧ Own w' w.heap.size 29 10 (.slice A n c) (itemRows out)
    | none => e = .returned (.tuple #[.agg #[.int .i64 0, .int .i64 0, .slice none 0 0], .bool r.fits, .int .i64 r.fresh, .int .i64 r.err])
set_option maxRecDepth 100000 in
set_option maxHeartbeats 4000000 in
theorem Match_bad (base bt : Int) (A : Option Addr) (n c : Nat) (L : List Itm) (place of : Int) (B : Option Addr) (m d : Nat) (ms : List Itm) (w : World) (hb1 : I64 base) (hb2 : I64 bt) (hS : Sl w 10 A n c (itemRows L)) (hg : checkLog base bt L = 0)
    (hp : I64 place) (ho : I64 of) (hT : Sl w 10 B m d (itemRows ms)) (hbad : checkLog place of ms ≠ 0) :
    Calls Try.prog 14 #[.agg #[.int .i64 base, .int .i64 bt, .slice A n c], .int .i64 place, .int .i64 of, .slice B m d] w (MatchPost base bt ⟨none, false, 0, 10⟩ w) := by
  have h13 : checkLog place of ms = 13 := (log_01 place of ms).resolve_left hbad
  have hC1 := fun w (h : Sl w 10 A n c (itemRows L)) => Check_any base bt A n c L w hb1 hb2 h
  have hC2 := fun w (h : Sl w 10 B m d (itemRows ms)) => Check_any place of B m d ms w hp ho h
  rw [hg] at hC1
  rw [h13] at hC2
  have HC1 := hide hC1; have HC2 := hide hC2
  clear hC1 hC2 hg h13 hbad
  go_enter Try.func14, Try.ntmps14
  go_wp2_with fail
  refine (HC1.out _ ((hS.alloc _).alloc _)).mono ?_
  rintro e w1 ⟨rfl, hb1⟩
  have hz := hb1.size
  simp at hz
  have hz1 : w.heap.size + 1 < w1.heap.size := by omega
  have B1 := (Blk.new (w.alloc (.cells #[.int .i64 base, .int .i64 bt, .slice A n c] 31)) 31 #[.int .i64 0, .int .i64 0, .slice none 0 0]).below' hb1
  simp only [World.size_alloc] at B1
  go_wp2_with fail
  refine (HC2.out _ (((hT.alloc _).alloc _).below hb1)).mono ?_
  rintro e w2 ⟨rfl, hb2⟩
  have B2 := B1.below' hb2
  have c2 := B2.cell
  have f2 := B2.frozen
  have l2 := B2.lt
  go_wp2_with fail
  refine bodyPost_ret (v := .tuple #[.agg #[.int .i64 0, .int .i64 0, .slice none 0 0], .bool false, .int .i64 0, .int .i64 10]) ?_ rfl ⟨(by repeat (first | (with_reducible exact Below.refl _ _) | (with_reducible assumption) | (with_reducible refine Below.drew ?_) | (with_reducible refine bdrewN ?_ _) | (with_reducible refine balloc ?_ _) | ((with_reducible refine bset ?_ ?_ _); rotate_left; (focus first | exact Nat.le_refl _ | (simp; done) | (simp; omega) | omega)) | (with_reducible refine bstep ?_ (by with_reducible assumption)) | (with_reducible refine Below.trans ?_ (by with_reducible assumption)))), rfl⟩
  simp [results, Try.results14, go_sem, *]
end Go.Proofs.Ytaldmianlmgloab
