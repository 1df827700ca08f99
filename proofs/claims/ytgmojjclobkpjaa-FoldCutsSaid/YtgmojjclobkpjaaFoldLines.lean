/- rostrumkeep.FoldLines returns true for every input and leaves its arguments as they were; no condition. -/
import Derived.Test.YtgmojjclobkpjaaTapG
namespace Go.Proofs.Ytgmojjclobkpjaa
set_option linter.all false
open Go.ChangeShapes Go.WideShapes Go.ChangeAt Go.RowKit
theorem deed_info : (Try.prog.info? 28).map (fun i => (i.zero, i.size, i.bytes)) = some (some (.agg #[.int .i64 0, .int .i64 0, .int .i64 0, .int .i64 0, .int .i64 0, .int .i64 0, .int .i64 0, .string ByteArray.empty]), 8, 72) := by kernel_rfl
theorem deed_size : (Try.prog.info? 28).map (·.size) = some 8 := by kernel_rfl
theorem deed_one : ∀ (l : List DeedD), ∀ r ∈ deedRows l, ∀ u ∈ r, u.oneCell' = true := by
  intro l r hr u hu
  obtain ⟨x, _, rfl⟩ := List.mem_map.1 hr
  simp only [DeedD.cells, List.mem_cons, List.not_mem_nil, or_false] at hu
  rcases hu with rfl | rfl | rfl | rfl | rfl | rfl | rfl | rfl <;> rfl
def zeroDeed : DeedD := ⟨0, 0, 0, ⟨0, 0, 0, 0, emp⟩⟩
theorem zeroDeed_ok : zeroDeed.ok := by
  unfold zeroDeed DeedD.ok RawD.ok I64 emp maxLen
  simp [ByteArray.size]
theorem deedRows_take (l : List DeedD) (k : Nat) : (deedRows l).take k = deedRows (l.take k) := by simp [deedRows]
theorem deedRows_snoc (l : List DeedD) (x : DeedD) : deedRows (l ++ [x]) = deedRows l ++ [x.cells] := by simp [deedRows]
/-- Records of items as memory holds them. -/
def lineRows : Int → List Itm → List (List Value)
  | _, [] => []
  | i, x :: l => lineCells i x :: lineRows (i + 1) l
theorem lineRows_len : ∀ (l : List Itm) (i : Int), (lineRows i l).length = l.length
  | [], _ => rfl
  | x :: l, i => by simp [lineRows, lineRows_len l]
theorem lineRows_snoc : ∀ (l : List Itm) (i : Int) (x : Itm), lineRows i (l ++ [x]) = lineRows i l ++ [lineCells (i + l.length) x]
  | [], i, x => by simp [lineRows]
  | y :: l, i, x => by
    simp only [List.cons_append, lineRows, lineRows_snoc l (i + 1) x, List.length_cons]
    rw [show i + 1 + (l.length : Int) = i + ((l.length + 1 : Nat) : Int) by omega]
theorem lineRows_at : ∀ (l : List Itm) (i : Int) (k : Nat) (hk : k < l.length), (lineRows i l)[k]? = some (lineCells (i + k) l[k])
  | x :: l, i, 0, _ => by simp [lineRows]
  | x :: l, i, k + 1, hk => by
    have := lineRows_at l (i + 1) k (by simpa using hk)
    simp only [lineRows, List.getElem?_cons_succ, this, List.getElem_cons_succ]
    congr 2; push_cast; omega
theorem lineRows_rec (w : World) (l : List Itm) (i : Int) (k : Nat) (h : k < (linesFrom i l).length) (h' : k < (lineRows i l).length) : RecAt w (linesFrom i l)[k] (lineRows i l)[k] := by
  have hk : k < l.length := by rw [← linesFrom_len l i]; exact h
  have e1 := linesFrom_at l i k hk
  have e2 := lineRows_at l i k hk
  rw [List.getElem?_eq_getElem h] at e1
  rw [List.getElem?_eq_getElem h'] at e2
  injection e1 with e1
  injection e2 with e2
  rw [e1, e2]
  rfl
theorem lineRows_recs {w : World} {A : Option Addr} {n c : Nat} {l : List Itm} {i : Int} (h : Sl w 20 A n c (lineRows i l)) : Recs w A n c (linesFrom i l) (lineRows i l) :=
  ⟨h, by rw [lineRows_len, linesFrom_len], fun k h1 h2 => lineRows_rec w l i k h1 h2⟩
theorem linesFrom_ok : ∀ (l : List Itm) (i : Int), 1 ≤ i → i + l.length ≤ 1048577 → (∀ x ∈ l, checkItem x = 0) → ∀ r ∈ linesFrom i l, r.Ok
  | [], _, _, _, _, r, h => by cases h
  | x :: l, i, h1, h2, h3, r, h => by
    simp only [List.length_cons] at h2
    rcases List.mem_cons.1 h with rfl | h
    · exact ⟨number_iff.2 ⟨h1, by push_cast at h2; omega⟩, h3 x (by simp)⟩
    · exact linesFrom_ok l (i + 1) (by omega) (by push_cast at h2; omega) (fun y hy => h3 y (by simp [hy])) r h
theorem chain_each : ∀ (l : List Itm) (t m : Int), chainOk t m l = true → ∀ x ∈ l, checkItem x = 0
  | [], _, _, _, x, h => by cases h
  | y :: l, t, m, h, x, hx => by
    obtain ⟨h1, _, _, h4⟩ := chain_head h
    rcases List.mem_cons.1 hx with rfl | hx
    · exact h1
    · exact chain_each l _ _ h4 x hx
theorem items_good (l : List DeedD) : checkLog 0 0 (itemsOf l 1) = 0 := by
  have hl := itemsOf_length l 1
  have : chainOk 0 0 (itemsOf l 1) = true := chain_items _ _ _ _ _ (by omega) (by omega) (by omega) (by simp; omega) (by omega) (by simp; omega)
  exact checkLog_ok (by omega) (by omega) (by omega) (by simp) (by omega) (by omega) this
theorem rec_infoL : (Try.prog.info? 45).map (fun i => (i.zero, i.size, i.bytes)) = some (some (.agg #[.int .i64 0, .int .i64 0, .int .i64 0, .int .i64 0, .int .i64 0, .int .i64 0, .bool false, .int .i64 0, .int .i64 0, .int .i64 0, .string ByteArray.empty, .string ByteArray.empty, .string ByteArray.empty, .int .i64 0, .int .i64 0, .int .i64 0, .int .i64 0, .slice none 0 0, .int .i64 0, .slice none 0 0]), 20, 216) := by kernel_rfl
end Go.Proofs.Ytgmojjclobkpjaa
