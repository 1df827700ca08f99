/- rostrumkeep.ItemsApart returns true for every input and leaves its arguments as they were; no condition. -/
import Derived.Test.YtaldmianlmgloabDecP
import Derived.Test.YtaldmianlmgloabLogPlain
import Derived.Laws.BytesString
import Derived.Test.YtaldmianlmgloabTrack
namespace Go.Proofs.Ytaldmianlmgloab
set_option linter.all false
open Go.ChangeShapes Go.WideShapes Go.ChangeAt Go.RowKit
theorem itemOf_at (d : DeedD) (t m : Int) : itemOf d t m = itemAt d (1 + picked t 1000) (picked m 100000) := by
  unfold itemAt itemOf
  split
  · rfl
  · split <;> rfl
theorem check_itemOf (d : DeedD) (t m : Int) : checkItem (itemOf d t m) = 0 := by
  have p1 := picked_lo t 1000 (by omega)
  have p2 := picked_hi t 1000 (by omega)
  have q1 := picked_lo m 100000 (by omega)
  have q2 := picked_hi m 100000 (by omega)
  rw [itemOf_at]
  exact check_itemAt d _ _ (by omega) (by omega) (by omega) (by omega)
/-- string(b) of a slice of bytes. -/
theorem run_str {P : Program} {w : World} {src dst e : TypeId} {A : Option Addr} {n c : Nat} {bs : List Value} (hs : P.underlying src = some (.slice e)) (he : P.underlying e = some (.int .u8)) (hd : P.underlying dst = some .string)
    (h : Sl w 1 A n c (byteRows bs)) (hb : U8s bs) : (convert src dst (.slice A n c)).run P w = .ok (.string (strOf bs)) w := by
  have hl : bs.length = n := by rw [← h.len, byteRows_length]
  have he2 : strOf bs = strOfNums (bs.map intv) := by simp [strOf, strOfNums, List.map_map]
  by_cases h0 : n = 0
  · have hz : bs = [] := List.eq_nil_of_length_eq_zero (by omega)
    subst hz
    subst h0
    cases A with
    | none => rw [run_convert_bytes_nil w src e hs he 0 c dst hd]; rfl
    | some a => rw [run_convert_bytes_string w src dst e _ 0 c hs he hd, run_bytesToString w a 0 c [] (by simp [loadCells, loadCellsFrom])]; rfl
  · obtain ⟨b, off, rfl, _, hc⟩ := h.seg (by rw [byteRows_length]; omega)
    rw [he2]
    refine run_convert_bytes_arg w src e hs he b off n c (bs.map intv) (by simpa using hl) (fun i hi => ?_) dst hd
    have hi' : i < bs.length := by omega
    have := hc i [bs[i]] (by simp [byteRows, hi']) 0 bs[i] rfl
    rw [Nat.mul_one, Nat.add_zero] at this
    rw [this]
    obtain ⟨m, hm, _⟩ := hb bs[i] (List.getElem_mem hi')
    rw [hm]
    simp [List.getD, hi', hm, intv]
end Go.Proofs.Ytaldmianlmgloab
