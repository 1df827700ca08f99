/- rostrumkeep.ItemsApart returns true for every input and leaves its arguments as they were; no condition. -/
import Derived.Test.YtaldmianlmgloaaDecP
import Derived.Test.YtaldmianlmgloaaLogPlain
import Derived.Laws.BytesString
import Derived.Test.YtaldmianlmgloaaTrack
namespace Go.Proofs.Ytaldmianlmgloaa
set_option linter.all false
open Go.ChangeShapes Go.WideShapes Go.ChangeAt Go.RowKit
theorem itemOf_at (d : DeedD) (t m : Int) : itemOf d t m = itemAt d (1 + picked t 1000) (picked m 100000) := by
  unfold itemAt itemOf
  split
  · rfl
  · split <;> rfl
theorem check_itemOf (d : DeedD) (t m : Int) : checkItem (itemOf d t m) = 0 := by
  have p1 := picked_lo t 1000 (by omega)
  have p2 := picked_hi t 1000 (by omega)
  have q1 := picked_lo m 100000 (by omega)
  have q2 := picked_hi m 100000 (by omega)
  rw [itemOf_at]
  exact check_itemAt d _ _ (by omega) (by omega) (by omega) (by omega)
/-- string(b) of a slice of bytes. -/
theorem run_str {P : Program} {w : World} {src dst e : TypeId} {A : Option Addr} {n c : Nat} {bs : List Value} (hs : P.underlying src = some (.slice e)) (he : P.underlying e = some (.int .u8)) (hd : P.underlying dst = some .string)
    (h : Sl w 1 A n c (byteRows bs)) (hb : U8s bs) : (convert src dst (.slice A n c)).run P w = .ok (.string (strOf bs)) w := by
  have hl : bs.length = n := by rw [← h.len, byteRows_length]
  have he2 : strOf bs = strOfNums (bs.map intv) := by simp [strOf, strOfNums, List.map_map]
  by_cases h0 : n = 0
  · have hz : bs = [] := List.eq_nil_of_length_eq_zero (by omega)
    subst hz
    subst h0
    cases A with
    | none => rw [run_convert_bytes_nil w src e hs he 0 c dst hd]; rfl
    | some a => rw [run_convert_bytes_string w src dst e _ 0 c hs he hd, run_bytesToString w a 0 c [] (by simp [loadCells, loadCellsFrom])]; rfl
  · obtain ⟨b, off, rfl, _, hc⟩ := h.seg (by rw [byteRows_length]; omega)
    rw [he2]
    refine run_convert_bytes_arg w src e hs he b off n c (bs.map intv) (by simpa using hl) (fun i hi => ?_) dst hd
    have hi' : i < bs.length := by omega
    have := hc i [bs[i]] (by simp [byteRows, hi']) 0 bs[i] rfl
    rw [Nat.mul_one, Nat.add_zero] at this
    rw [this]
    obtain ⟨m, hm, _⟩ := hb bs[i] (List.getElem_mem hi')
    rw [hm]
    simp [List.getD, hi', hm, intv]
theorem item_eql (x y : Itm) (w : World) : (binOp .eql 48 (.agg #[.int .i64 x.term, .int .i64 x.time, .bool x.nop, .int .i64 x.client, .int .i64 x.seq, .int .i64 x.cmd.kind, .string x.cmd.key, .string x.cmd.field, .string x.cmd.text, .int .i64 x.cmd.n])
    (.agg #[.int .i64 y.term, .int .i64 y.time, .bool y.nop, .int .i64 y.client, .int .i64 y.seq, .int .i64 y.cmd.kind, .string y.cmd.key, .string y.cmd.field, .string y.cmd.text, .int .i64 y.cmd.n])).run Try.prog w = .ok (.bool (x.eqb y)) w := by
  by_cases h : x.eqb y = true
  · obtain rfl := Itm.eqb_iff.1 h
    rw [h]; simp [go_sem]
  · have h' : x.eqb y = false := by simpa using h
    rw [h']; simp [go_sem]
    intro e1 e2 e3 e4 e5 e6 e7 e8 e9 e10
    exact h (by simp [Itm.eqb, e1, e2, e3, e4, e5, e6, e7, e8, e9, e10])
set_option maxHeartbeats 4000000 in
theorem itemsApart_walk (a b : DeedD) (t u : Int) (w : World) (ha : a.ok) (hb : b.ok) (ht : I64 t) (hu : I64 u) :
    Calls Try.prog 8 #[.agg a.cells.toArray, .agg b.cells.toArray, .int .i64 t, .int .i64 u] w fun e w' => e = .returned (.bool true) ∧ Below w.heap.size w w' := by
  have hX := fun w => Item_any a ha t u w ht hu
  have hY := fun w => Item_any b hb t u w ht hu
  have kx := check_itemOf a t u
  have ky := check_itemOf b t u
  generalize itemOf a t u = x at hX kx
  generalize itemOf b t u = y at hY ky
  have hEx := fun w => EncodeItem_ok x w kx
  have hEy := fun w => EncodeItem_ok y w ky
  have ux := u8s_item kx
  have uy := u8s_item ky
  have hq : (strOf (itemBytes x)).toList = (strOf (itemBytes y)).toList ↔ x = y := by
    constructor
    · intro h
      exact itemBytes_inj kx ky (strOf_inj ux uy (bytes_eq.1 (by rw [h]; simp)))
    · rintro rfl; rfl
  have hp := itemBytes_pos x
  simp only [Itm.cells, DeedD.cells] at hX hY
  have HX := hide hX; have HY := hide hY; have HEx := hide hEx; have HEy := hide hEy; have UX := hide ux; have UY := hide uy; have HQ := hide hq; have HP := hide hp
  clear hX hY hEx hEy ux uy hq hp kx ky ha hb
  obtain ⟨a1, a2, a3, ⟨a4, a5, a6, a7, a8⟩⟩ := a
  obtain ⟨b1, b2, b3, ⟨b4, b5, b6, b7, b8⟩⟩ := b
  simp only [DeedD.cells] at *
  have Y0 := Blk.new (w.alloc (.cells #[.int .i64 a1, .int .i64 a2, .int .i64 a3, .int .i64 a4, .int .i64 a5, .int .i64 a6, .int .i64 a7, .string a8] 56)) 56 #[.int .i64 b1, .int .i64 b2, .int .i64 b3, .int .i64 b4, .int .i64 b5, .int .i64 b6, .int .i64 b7, .string b8]
  simp only [World.size_alloc] at Y0
  go_enter Try.func8, Try.ntmps8
  go_wp2_with fail
  refine (HX.out _).mono ?_
  rintro e w1 ⟨rfl, hb1⟩
  replace Y0 := Y0.bl hb1
  have X1 := Blk.new w1 48 #[.int .i64 x.term, .int .i64 x.time, .bool x.nop, .int .i64 x.client, .int .i64 x.seq, .int .i64 x.cmd.kind, .string x.cmd.key, .string x.cmd.field, .string x.cmd.text, .int .i64 x.cmd.n]
  replace Y0 := Y0.al (.cells #[.int .i64 x.term, .int .i64 x.time, .bool x.nop, .int .i64 x.client, .int .i64 x.seq, .int .i64 x.cmd.kind, .string x.cmd.key, .string x.cmd.field, .string x.cmd.text, .int .i64 x.cmd.n] 48)
  (try clear cY0 fY0); have cY0 := Y0.cell; have fY0 := Y0.frozen
  go_wp2_with fail
  refine (HY.out _).mono ?_
  rintro e w2 ⟨rfl, hb2⟩
  replace X1 := X1.bl hb2
  have Y1 := Blk.new w2 48 #[.int .i64 y.term, .int .i64 y.time, .bool y.nop, .int .i64 y.client, .int .i64 y.seq, .int .i64 y.cmd.kind, .string y.cmd.key, .string y.cmd.field, .string y.cmd.text, .int .i64 y.cmd.n]
  replace X1 := X1.al (.cells #[.int .i64 y.term, .int .i64 y.time, .bool y.nop, .int .i64 y.client, .int .i64 y.seq, .int .i64 y.cmd.kind, .string y.cmd.key, .string y.cmd.field, .string y.cmd.text, .int .i64 y.cmd.n] 48)
  clear cY0 fY0
  (try clear cX1 fX1); have cX1 := X1.cell; have fX1 := X1.frozen; (try clear cY1 fY1); have cY1 := Y1.cell; have fY1 := Y1.frozen
  go_wp2_with fail
  refine (HEx.out _).mono ?_
  rintro e w3 ⟨A, n, c, rfl, hown, hb3⟩
  replace X1 := X1.bl hb3; replace Y1 := Y1.bl hb3
  (try clear cX1 fX1); have cX1 := X1.cell; have fX1 := X1.frozen; (try clear cY1 fY1); have cY1 := Y1.cell; have fY1 := Y1.frozen
  go_wp2_with fail
  refine (HEy.out _).mono ?_
  rintro e w4 ⟨A', n', c', rfl, hown', hb4⟩
  replace X1 := X1.bl hb4; replace Y1 := Y1.bl hb4; replace hown := hown.bl hb4
  (try clear cX1 fX1); have cX1 := X1.cell; have fX1 := X1.frozen; (try clear cY1 fY1); have cY1 := Y1.cell; have fY1 := Y1.frozen
  have cx := fun k => run_str Try.underlying28 Try.underlying5 Try.underlying9 (hown.sl'.drewN k) UX.out
  have cy := fun k => run_str Try.underlying28 Try.underlying5 Try.underlying9 (hown'.sl'.drewN k) UY.out
  have hn : n = (itemBytes x).length := by rw [← hown.sl'.len, byteRows_length]
  have hn0 : 0 < n := by rw [hn]; exact HP.out
  clear hn
  have hE := item_eql x y
  have hB : ∃ B, ((strOf (itemBytes x)).toList == (strOf (itemBytes y)).toList) = B ∧ x.eqb y = B := by
    by_cases h : x = y
    · exact ⟨true, by simpa using HQ.out.2 h, Itm.eqb_iff.2 h⟩
    · refine ⟨false, by simpa using fun e => h (HQ.out.1 e), ?_⟩
      simpa using fun e => h (Itm.eqb_iff.1 e)
  obtain ⟨B, hB1, hB2⟩ := hB
  simp only [hB2] at hE
  clear hB2
  cases B
  all_goals
    go_wp2_with fail
    go_quiet (fail)
    go_wp2_with fail
    go_ret
    exact ⟨rfl, (by repeat (first | (with_reducible exact Below.refl _ _) | (with_reducible assumption) | (with_reducible refine Below.drew ?_) | (with_reducible refine bdrewN ?_ _) | (with_reducible refine balloc ?_ _) | ((with_reducible refine bset ?_ ?_ _); rotate_left; (focus first | exact Nat.le_refl _ | (simp; done) | (simp; omega) | omega)) | (with_reducible refine bstep ?_ (by with_reducible assumption)) | (with_reducible refine Below.trans ?_ (by with_reducible assumption))))⟩
set_option maxRecDepth 100000 in
theorem itemsApart_lifted (os : Os) (started : os.Started) (H : Type) (enc : TypeId × Value → H) :
  ReturnsInHanded {} Try.checked os 8 .any (Rows.itemsApartSpec.pre6 enc Try.prog Try.f8 Rows.itemsApartRow.domain false) (Rows.itemsApartSpec.post enc Try.prog Try.f8 false true false false) := by
  refine returnsInHanded_of_change (C := Try.checked) Try.own started (by kernel_rfl) Try.func8 (ChangeSpec.witness6 (enc := enc) (C := Try.checked) false ⟨#[], #[.agg #[.int .i64 0, .int .i64 0, .int .i64 0, .int .i64 0, .int .i64 0, .int .i64 0, .int .i64 0, .string ByteArray.empty], .agg #[.int .i64 0, .int .i64 0, .int .i64 0, .int .i64 0, .int .i64 0, .int .i64 0, .int .i64 0, .string ByteArray.empty], .int .i64 0, .int .i64 0], []⟩ 8 (by kernel_rfl) (by kernel_rfl) (by kernel_rfl) (by kernel_rfl)) ?_
  intro W base args ds gs before hval0 hW hcnd _
  have hval : ∀ (j : Nat) t v, Try.f8.params[j]? = some t → args[j]? = some v → Value.okWide Try.prog W .any base t v := hval0
  have hW' := hW
  obtain ⟨p, q, hA0, hV, rfl, hfz, hnd⟩ := hW
  have hA : DataW.TrodAll enc Try.prog W 0 (fun _ => true) true Try.f8.params.toList args.toList ds p := hA0
  rw [Try.params8] at hA hval
  obtain ⟨rfl, rfl⟩ := trodVars_none hV
  clear hA0 hval0 hcnd hV hfz hnd
  obtain ⟨v0, v1, v2, v3, d0, d1, d2, d3, p0, p1, p2, p3, rfl, rfl, rfl, h0, h1, h2, h3⟩ := trodAll_four hA
  obtain ⟨a, rfl, ha⟩ := open_deed (hval 0 56 v0 rfl rfl) h0
  obtain ⟨b, rfl, hb⟩ := open_deed (hval 1 56 v1 rfl rfl) h1
  obtain ⟨m1, rfl, rfl, rfl, w1⟩ := open_int Try.underlying3 (hval 2 3 v2 rfl rfl) h2
  obtain ⟨m2, rfl, rfl, rfl, w2⟩ := open_int Try.underlying3 (hval 3 3 v3 rfl rfl) h3
  refine (itemsApart_walk a b m1 m2 W ha hb (i64_bounds w1) (i64_bounds w2)).mono fun e W' ⟨he, hb⟩ => ?_
  subst he
  exact ⟨_, rfl, post_law Try.laidOut hW' rfl (by kernel_rfl) rfl Try.underlying4 (fun _ => rfl) (fun _ => rfl) (fun _ => rfl) hb⟩
theorem itemsApart_holds : Rows.ItemsApartSaid := OpenClaim.holds_of_wide 8 Try.f8 rfl rfl rfl rfl rfl rfl rfl ⟨rfl, rfl, rfl, rfl, rfl⟩ rfl rfl rfl rfl rfl (by kernel_rfl) Try.func8 (by kernel_rfl)
  (of_decide_eq_true (by kernel_rfl)) (by unfold Func.isWrapper; first | (rw [if_pos (by decide +kernel)]; kernel_rfl) | (rw [if_neg (by decide +kernel)]; exact ⟨rfl, rfl⟩))
  (fun os started H enc _ => itemsApart_lifted os started H enc)
#print axioms itemsApart_holds
end Go.Proofs.Ytaldmianlmgloaa
