/- A step behind some more: what the laws of all keys, and of time, want. -/
import Derived.Test.YtpdadlofgfdlpaaStoX
import Derived.Test.YtpdadlofgfdlpaaStoS
namespace Go.Proofs.Ytpdadlofgfdlpaa
set_option linter.all false
open Go.ChangeShapes Go.WideShapes Go.ChangeAt Go.RowKit
theorem store_last (l : List StepD) (z : StepD) (hl : l.length ≤ 39) : ∃ s, storeOf (l ++ [z]) = stepS s z ∧ StOk s.1 s.2 ∧ s.1 ≤ 468 := by
  refine ⟨l.foldl stepS (0, []), ?_, ?_⟩
  · unfold storeOf
    rw [List.take_of_length_le (by simp; omega), List.foldl_append]
    rfl
  · have := fold_ok l (0, []) (nil_ok (by omega) (by omega)) (by simp only; omega)
    exact ⟨this.1, by have := this.2; simp only at this; omega⟩
theorem put_left {now : Int} {l : List En} {c : Cmd} (hs : StOk now l) (hc : ccOf c = 0) (h1 : c.kind = 1) : 0 < (doS now l c).1.length := by
  unfold doS
  rw [if_neg (by omega), if_neg (by omega), if_neg (by omega), done_put (old_may hs _ _) hc h1]
  simp only
  rw [if_neg (by simp [toldR]), if_neg (by simp)]
  by_cases hf : keyHas c.key l = false ∧ l.length = 12
  · rw [if_pos hf]; show 0 < l.length; omega
  · rw [if_neg hf, if_pos (by simp)]
    cases hh : keyHas c.key l with
    | true =>
      rw [setS_has (keyHas_lt hh)]
      show 0 < (l.set _ _).length
      rw [List.length_set]; have := keyHas_lt hh; omega
    | false =>
      have hle : keyAt c.key l ≤ l.length := lowB_le _ _
      rw [setS_new hle]
      show 0 < (insRows _ _ _).length
      rw [ins_len]; omega
theorem apply_keys {now time : Int} {l : List En} (hs : StOk now l) (ht : now ≤ time) (h1 : time ≤ 1073741824) : applyS now l time ⟨22, { data := #[] }, { data := #[] }, { data := #[] }, 0⟩ = ((time, alive time l), ⟨0, emp, 0, (alive time l).map En.key⟩, 0) := by
  rw [apply_ok hs ht h1 cc_keys, do_keys rfl]
/-- A step that puts. -/
def putStep : StepD := ⟨⟨0, 0, 0, 0, { data := #[] }⟩, 0⟩
theorem putStep_ok : putStep.ok := ⟨⟨⟨by decide, by decide⟩, ⟨by decide, by decide⟩, ⟨by decide, by decide⟩, ⟨by decide, by decide⟩, by decide⟩, ⟨by decide, by decide⟩⟩
/-- A step that waits. -/
def waitStep : StepD := ⟨⟨0, 0, 0, 0, { data := #[] }⟩, 9⟩
theorem waitStep_ok : waitStep.ok := ⟨⟨⟨by decide, by decide⟩, ⟨by decide, by decide⟩, ⟨by decide, by decide⟩, ⟨by decide, by decide⟩, by decide⟩, ⟨by decide, by decide⟩⟩
theorem store_put (l : List StepD) (hl : l.length ≤ 39) : StOk (storeOf (l ++ [putStep])).1 (storeOf (l ++ [putStep])).2 ∧ (storeOf (l ++ [putStep])).1 ≤ 480 ∧ 0 < (storeOf (l ++ [putStep])).2.length := by
  refine ⟨(storeOf_ok _).1, (storeOf_ok _).2, ?_⟩
  obtain ⟨s, e, ok, hn⟩ := store_last l putStep hl
  rw [e]
  have p0 : picked putStep.wait 12 = 0 := rfl
  unfold stepS
  rw [p0]
  exact put_left (alive_ok ok (by omega) (by have := ok.now1; omega)) (cmd_ok _ _ _ _ _) rfl
theorem store_wait (l : List StepD) (hl : l.length ≤ 39) : StOk (storeOf (l ++ [waitStep])).1 (storeOf (l ++ [waitStep])).2 ∧ (storeOf (l ++ [waitStep])).1 ≤ 480 ∧ 0 < (storeOf (l ++ [waitStep])).1 := by
  refine ⟨(storeOf_ok _).1, (storeOf_ok _).2, ?_⟩
  obtain ⟨s, e, ok, hn⟩ := store_last l waitStep hl
  rw [e]
  have p0 : picked waitStep.wait 12 = 9 := rfl
  show 0 < s.1 + picked waitStep.wait 12
  rw [p0]
  have := ok.now0; omega
theorem step_app (l : List StepD) (z : StepD) : stepRows l ++ [z.cells] = stepRows (l ++ [z]) := by simp [stepRows]
theorem step_info : (Try.prog.info? 57).map (fun i => (i.zero, i.size, i.bytes)) = some (some (.agg #[.int .i64 0, .int .i64 0, .int .i64 0, .int .i64 0, .string ByteArray.empty, .int .i64 0]), 6, 56) := by kernel_rfl
theorem step_size : (Try.prog.info? 57).map (·.size) = some 6 := by kernel_rfl
theorem step_rows (l : List StepD) : ∀ r ∈ stepRows l, r.length = 6 := by
  intro r hr
  obtain ⟨d, _, rfl⟩ := List.mem_map.1 hr
  rfl
theorem step_ones (d : StepD) : ∀ u ∈ d.cells, u.oneCell' = true := by
  intro u hu
  have h : u = .int .i64 d.raw.kind ∨ u = .int .i64 d.raw.key ∨ u = .int .i64 d.raw.field ∨ u = .int .i64 d.raw.n ∨ u = .string d.raw.text ∨ u = .int .i64 d.wait := by
    simpa [StepD.cells, RawD.cells] using hu
  rcases h with rfl | rfl | rfl | rfl | rfl | rfl <;> rfl
theorem step_one (l : List StepD) : ∀ r ∈ stepRows l, ∀ u ∈ r, u.oneCell' = true := by
  intro r hr u hu
  obtain ⟨d, _, rfl⟩ := List.mem_map.1 hr
  exact step_ones d u hu
theorem one_step (d : StepD) : ∀ r ∈ [d.cells], ∀ u ∈ r, u.oneCell' = true := by
  intro r hr u hu
  rw [List.mem_singleton] at hr
  subst hr
  exact step_ones d u hu
end Go.Proofs.Ytpdadlofgfdlpaa
