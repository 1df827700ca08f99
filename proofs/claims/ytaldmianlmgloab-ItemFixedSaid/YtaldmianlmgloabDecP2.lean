/- Reading of bytes, plain: what is torn is short; what is read in form was written so. No walk. -/
import Derived.Test.YtaldmianlmgloabDecode
namespace Go.Proofs.Ytaldmianlmgloab
set_option linter.all false
open Go.RowKit Go.Lib
def bindR {α β : Type} (P : RS → α × RS) (Q : α → RS → β × RS) : RS → β × RS := fun st => Q (P st).1 (P st).2
/-- Who was short stays so; what is enough is as much ahead of any bytes; what is not is short. -/
structure Parse {α : Type} (P : RS → α × RS) : Prop where
  stick : ∀ l, (P (l, true)).2.2 = true
  pre : ∀ p q : List Value, (P (p ++ q, false)).2.2 = false → (P (p, false)).2.2 = true ∨ ∃ r, P (p, false) = ((P (p ++ q, false)).1, (r, false)) ∧ (P (p ++ q, false)).2.1 = r ++ q
theorem Parse.bind {α β : Type} {P : RS → α × RS} {Q : α → RS → β × RS} (hP : Parse P) (hQ : ∀ a, Parse (Q a)) : Parse (bindR P Q) := by
  have key : ∀ (a : α) (st : RS), st.2 = true → (Q a st).2.2 = true := fun a st h => by
    obtain ⟨l, s⟩ := st; simp only at h; subst h; exact (hQ a).stick l
  constructor
  · intro l
    exact key _ _ (hP.stick l)
  · intro p q h
    have h1 : (P (p ++ q, false)).2.2 = false := by
      cases hs : (P (p ++ q, false)).2.2 with
      | false => rfl
      | true => have := key (P (p ++ q, false)).1 _ hs; unfold bindR at h; rw [this] at h; cases h
    rcases hP.pre p q h1 with h2 | ⟨r, h2, h3⟩
    · left; exact key _ _ h2
    · have e : (P (p ++ q, false)).2 = (r ++ q, false) := by
        generalize P (p ++ q, false) = R at h1 h3
        obtain ⟨a, l, s⟩ := R
        simp only at h1 h3
        rw [h1, h3]
      unfold bindR at h ⊢
      rw [e] at h
      rw [h2, e]
      simp only
      exact (hQ _).pre r q h
theorem Parse.map {α β : Type} {P : RS → α × RS} (hP : Parse P) (f : α → β) : Parse (fun st => (f (P st).1, (P st).2)) := by
  constructor
  · intro l; exact hP.stick l
  · intro p q h
    rcases hP.pre p q h with h2 | ⟨r, h2, h3⟩
    · exact .inl h2
    · exact .inr ⟨r, by rw [h2], h3⟩
theorem Parse.pure {α : Type} (a : α) : Parse (fun st => (a, st)) := by
  constructor
  · intro l; rfl
  · intro p q _; exact .inr ⟨p, rfl, rfl⟩
theorem parse_take (n : Int) (h0 : 0 ≤ n) : Parse (takeR n) := by
  constructor
  · intro l; simp [takeR]
  · intro p q h
    have h1 : n ≤ ((p ++ q).length : Int) := by
      unfold takeR at h
      split at h
      · cases h
      · rename_i hh; simp only [Bool.false_eq_true, false_or] at hh; omega
    have e : takeR n (p ++ q, false) = ((p ++ q).take n.toNat, ((p ++ q).drop n.toNat, false)) := by
      unfold takeR; rw [if_neg (by simp only [Bool.false_eq_true, false_or]; omega)]
    rw [e]
    by_cases hp : n ≤ (p.length : Int)
    · right
      refine ⟨p.drop n.toNat, ?_, ?_⟩
      · unfold takeR
        rw [if_neg (by simp only [Bool.false_eq_true, false_or]; omega), List.take_append_of_le_length (by omega)]
      · simp only
        rw [List.drop_append_of_le_length (by omega)]
    · left
      unfold takeR
      rw [if_pos (by right; simp only; omega)]
theorem parse_num : Parse numR := (parse_take 8 (by omega)).map numOf
theorem parse_small : Parse smallR := (parse_take 1 (by omega)).map headV
theorem headV_nn (st : RS) (h : U8s st.1) : 0 ≤ (smallR st).1 := (small_bd h).1
/-- A text: as many bytes as are said, none if that is below nought. -/
theorem parse_takeN (n : Int) : Parse (fun st => if n < 0 then ([], st) else takeR n st) := by
  by_cases h : n < 0
  · simp only [h, if_true]; exact Parse.pure _
  · simp only [h, if_false]; exact parse_take n (by omega)
def textR' (st : RS) : ByteArray × RS := bindR smallR (fun n st => (strOf (if n < 0 then ([], st) else takeR n st).1, (if n < 0 then ([], st) else takeR n st).2)) st
theorem textR_eq {st : RS} (h : U8s st.1) : textR st = textR' st := by
  have h0 := headV_nn st h
  have hn : ¬ (smallR st).1 < 0 := by omega
  unfold textR textR' bindR
  simp only [hn, if_false]
theorem parse_text : Parse textR' := Parse.bind parse_small fun n => (parse_takeN n).map strOf
def cmdRd' : RS → Cmd × RS := bindR smallR fun k => bindR textR' fun key => bindR textR' fun field => bindR textR' fun text => fun st => (⟨k, key, field, text, (numR st).1⟩, (numR st).2)
theorem parse_cmd : Parse cmdRd' := Parse.bind parse_small fun _ => Parse.bind parse_text fun _ => Parse.bind parse_text fun _ => Parse.bind parse_text fun _ => parse_num.map _
theorem text_u8 {st : RS} (h : U8s st.1) : U8s (textR st).2.1 := (takeR_u8 (small_bd h).2.2).2
theorem num_u8 {st : RS} (h : U8s st.1) : U8s (numR st).2.1 := (takeR_u8 h).2
theorem cmdRd_eq {st : RS} (h : U8s st.1) : cmdRd st = cmdRd' st := by
  have h1 := (small_bd h).2.2
  have h2 := text_u8 h1
  have h3 := text_u8 h2
  unfold cmdRd cmdRd' bindR
  simp only
  rw [← textR_eq h1, ← textR_eq h2, ← textR_eq h3]
def callRd' : RS → CallD × RS := bindR numR fun c => if c = 0 then (fun st => (⟨0, 0, zeroCmd⟩, st)) else bindR numR fun s => fun st => (⟨c, s, (cmdRd' st).1⟩, (cmdRd' st).2)
theorem parse_call : Parse callRd' := Parse.bind parse_num fun c => by
  by_cases h : c = 0
  · rw [if_pos h]; exact Parse.pure _
  · rw [if_neg h]; exact Parse.bind parse_num fun _ => parse_cmd.map _
theorem callRd_eq {st : RS} (h : U8s st.1) : callRd st = callRd' st := by
  have h1 := num_u8 h
  unfold callRd callRd' bindR
  by_cases hc : (numR st).1 = 0
  · simp only [hc, if_true]
  · simp only [hc, if_false, cmdRd_eq (num_u8 h1)]
def itemRd' : RS → (Itm × Bool) × RS := bindR numR fun t => bindR numR fun m => bindR smallR fun k =>
  if k = 0 then (fun st => ((⟨t, m, false, (callRd' st).1.client, (callRd' st).1.seq, (callRd' st).1.cmd⟩, true), (callRd' st).2))
  else if k = 1 then (fun st => ((⟨t, m, true, 0, 0, zeroCmd⟩, true), st)) else (fun st => ((⟨t, m, false, 0, 0, zeroCmd⟩, false), st))
theorem parse_item : Parse itemRd' := Parse.bind parse_num fun t => Parse.bind parse_num fun m => Parse.bind parse_small fun k => by
  by_cases h : k = 0
  · rw [if_pos h]; exact parse_call.map fun c => ((⟨t, m, false, c.client, c.seq, c.cmd⟩ : Itm), true)
  · rw [if_neg h]
    by_cases h1 : k = 1
    · rw [if_pos h1]; exact Parse.pure _
    · rw [if_neg h1]; exact Parse.pure _
theorem itemRd_eq {st : RS} (h : U8s st.1) : itemRd st = itemRd' st := by
  have h1 := num_u8 h
  have h2 := num_u8 h1
  have h3 := (small_bd h2).2.2
  unfold itemRd itemRd' bindR
  by_cases hk : (smallR (numR (numR st).2).2).1 = 0
  · simp only [hk, if_true, callRd_eq h3]
  · by_cases hk1 : (smallR (numR (numR st).2).2).1 = 1
    · simp only [hk1, if_true]; simp
    · simp only [hk, hk1, if_false]
/-- What is torn off an item's bytes is short. -/
theorem item_torn {x : Itm} (h : checkItem x = 0) {k : Nat} (hk : k < (itemBytes x).length) : decodeOf ((itemBytes x).take k) = (zeroItm, 9) := by
  have hu := u8s_item h
  have hf := itemRd_bytes h []
  rw [List.append_nil] at hf
  have ht := List.take_append_drop k (itemBytes x)
  have hs : (itemRd ((itemBytes x).take k, false)).2.2 = true := by
    rw [itemRd_eq (hu.take k)]
    rw [itemRd_eq hu] at hf
    rcases parse_item.pre ((itemBytes x).take k) ((itemBytes x).drop k) (by rw [ht, hf]) with h1 | ⟨r, _, h2⟩
    · exact h1
    · rw [ht, hf] at h2
      simp only at h2
      have := congrArg List.length h2
      rw [List.length_append, List.length_drop] at this
      simp at this
      omega
  have he : endOf (itemRd ((itemBytes x).take k, false)).1.2 (itemRd ((itemBytes x).take k, false)).2 = 9 := by unfold endOf; rw [if_pos hs]
  unfold decodeOf
  rw [he, if_pos (by decide)]
theorem decode_back {x : Itm} (h : checkItem x = 0) : decodeOf (itemBytes x) = (x, 0) := by
  have hf := itemRd_bytes h []
  rw [List.append_nil] at hf
  unfold decodeOf
  rw [hf]
  simp [endOf, h]
theorem decode_tail {x : Itm} (h : checkItem x = 0) (v : Value) : decodeOf (itemBytes x ++ [v]) = (zeroItm, 8) := by
  have hf := itemRd_bytes h [v]
  unfold decodeOf
  rw [hf]
  simp [endOf]
theorem one_item : checkItem ⟨1, 0, true, 0, 0, zeroCmd⟩ = 0 := by
  unfold checkItem
  rw [if_neg (by simp)]
  simp [Itm.zero, zeroCmd_call]
theorem decode_none : decodeOf [] = (zeroItm, 9) := by
  have := item_torn one_item (k := 0) (itemBytes_pos _)
  simpa using this
end Go.Proofs.Ytaldmianlmgloab
