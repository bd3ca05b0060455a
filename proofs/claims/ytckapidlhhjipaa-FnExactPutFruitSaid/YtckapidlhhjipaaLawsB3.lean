/-
  Putting a fruit into a crate gives what the reference's gives, for every crate and number.
-/
import Derived.Test.YtckapidlhhjipaaLawsB
import Derived.Test.YtckapidlhhjipaaPut
set_option linter.unusedVariables false
set_option linter.unusedSimpArgs false
namespace Go.Proofs.Ytckapidlhhjipaa
open Go.ChangeShapes Go.WideShapes Go.ChangeAt Go.RowKit Go.FV

theorem putL_len {n : Int} {l : List Nat} (hl : l.length = 16) (b : Nat) (V B : Bool) : (putL n l b V B).length = 16 := by
  unfold putL; split
  · simp [hl]
  · rfl
theorem putL_fin {n : Int} {l : List Nat} (hl : l.length = 16) (hb : ∀ i, ix l i < 4294967296) {b : Nat} (h : b < 4294967296) (i : Nat) (hi : i < 16) : FL.fin (ix (putL n l b (validCrate n l) (isPart b)) i) := by
  unfold putL
  split
  case isTrue hc =>
    have hVB : validCrate n l = true ∧ isPart b = true := by
      have := hc.1; revert this; cases validCrate n l <;> cases isPart b <;> simp [told]
    by_cases hk : n.toNat < 16
    · rw [ix_set (by omega)]
      split
      · exact fin_part hVB.2 h
      · exact fin_crate hVB.1 hb i hi
    · rw [List.set_eq_of_length_le (by omega)]
      exact fin_crate hVB.1 hb i hi
  case isFalse => exact fin_zero16 i hi

set_option maxRecDepth 100000 in
set_option maxHeartbeats 1600000 in
theorem FnExactPutFruit_walk (n : Int) (l : List Nat) (hl : l.length = 16) (h1 : -128 ≤ n) (h2 : n ≤ 127) (hlt : ∀ i, ix l i < 4294967296) (b : Nat) (hb : b < 4294967296) (w : World) : Calls Try.prog 9 #[.agg (crateCells n l), .float .f32 b] w (Yes w) := by
  have HL := Lib.hid hl
  have HS := Lib.hid (fun w => spec_PutFruit n l hl b w h1 h2)
  have HI := Lib.hid (fun w => impl_PutFruit n l hl b w h1 h2)
  have HM := Lib.hid (putL_len hl b (validCrate n l) (isPart b) (n := n))
  have HF := Lib.hid (putL_fin hl hlt hb (n := n))
  obtain ⟨m, hm⟩ : ∃ m, putL n l b (validCrate n l) (isPart b) = m := ⟨_, rfl⟩
  obtain ⟨k, hk⟩ : ∃ k, putN n (validCrate n l) (isPart b) = k := ⟨_, rfl⟩
  obtain ⟨c, hc⟩ : ∃ c, putE n (validCrate n l) (isPart b) = c := ⟨_, rfl⟩
  rw [hm] at HM HF
  simp only [hm, hk, hc] at HS HI
  clear hm hk hc hl hlt
  go_enter Try.func9, Try.ntmps9
  go_wp2_with (first
    | ((with_reducible show wpList _ _ _ (⟨some 10, _, _, _, _, _⟩ :: _) _ _); refine wpList_load_row rfl 35 (.tmp 2) rfl w.heap.size rfl 35 (crateCells n l) (0, 0) _ (ha1 _ _) Try.underlying35 rfl (by rw [crateCells_size, HL.out]; kernel_rfl) ?_))
  ((with_reducible refine (toCrate_any n l HL.out _).mono ?_); rintro e w1 ⟨rfl, hb1⟩)
  have G1 : Hid (w1.heap[w.heap.size]? = some (.cells (crateCells n l) 35 (0, 0))) := below_heap hb1 (ha1 _ _)
  have hz1 : w.heap.size < w1.heap.size := by (have := hb1.size; simp at this; omega)
  go_wp2_with fail
  ((with_reducible refine (HS.out _).mono ?_); rintro e w2 ⟨rfl, hb2⟩)
  have G2 : Hid (w2.heap[w.heap.size]? = some (.cells (crateCells n l) 35 (0, 0))) := below_heap hb2 G1.out
  have hz2 : w.heap.size < w2.heap.size := Nat.lt_of_lt_of_le hz1 hb2.size
  have B2 : Hid (Below w.heap.size w w2) := by show Below _ _ _; (repeat (first | exact Below.refl _ _ | assumption | refine below_new ?_ _ | refine below_step ?_ (by assumption) | refine Below.drew ?_ | refine below_dn ?_ _ | refine Below.setCell ?_ (by simp <;> omega) _))
  obtain ⟨N1, N2, N3⟩ := new_row w2 #[.int .i8 0, .float .f32 0, .float .f32 0, .float .f32 0, .float .f32 0, .float .f32 0, .float .f32 0, .float .f32 0, .float .f32 0, .float .f32 0, .float .f32 0, .float .f32 0, .float .f32 0, .float .f32 0, .float .f32 0, .float .f32 0, .float .f32 0] (crateCells k m) 37
  have N1h := Lib.hid N1
  have G3 := Lib.hid (N2 _ _ G2.out)
  have B3 : Hid (Below w.heap.size w ((w2.alloc (.cells #[.int .i8 0, .float .f32 0, .float .f32 0, .float .f32 0, .float .f32 0, .float .f32 0, .float .f32 0, .float .f32 0, .float .f32 0, .float .f32 0, .float .f32 0, .float .f32 0, .float .f32 0, .float .f32 0, .float .f32 0, .float .f32 0, .float .f32 0] 37)).setRow w2.heap.size (crateCells k m))) := below_step B2.out N3
  have hz3 : w.heap.size < ((w2.alloc (.cells #[.int .i8 0, .float .f32 0, .float .f32 0, .float .f32 0, .float .f32 0, .float .f32 0, .float .f32 0, .float .f32 0, .float .f32 0, .float .f32 0, .float .f32 0, .float .f32 0, .float .f32 0, .float .f32 0, .float .f32 0, .float .f32 0, .float .f32 0] 37)).setRow w2.heap.size (crateCells k m)).heap.size := Nat.lt_of_lt_of_le hz2 N3.size
  clear N1 N2 N3 hb2 hb1 G1 hz1
  go_wp2_with (first
    | ((with_reducible show wpList _ _ _ (⟨none, .store _ (.tmp 5) _, _, _, _, _⟩ :: _) _ _); refine wpList_store_row rfl 37 (.tmp 5) _ rfl (w2.heap.size) (crateCells k m) rfl rfl 37 (crateCells 0 zero16) (ha1 _ _) (by rw [crateCells_size, HM.out]; kernel_rfl) (by rw [crateCells_size, crateCells_size, HM.out]; rfl) (crate_oneCell _ _) ?_)
    | ((with_reducible show wpList _ _ _ (⟨some 17, _, _, _, _, _⟩ :: _) _ _); refine wpList_load_row rfl 35 (.tmp 2) rfl (w.heap.size) rfl 35 (crateCells n l) (0, 0) _ (G3.out) Try.underlying35 rfl (by rw [crateCells_size, HL.out]; kernel_rfl) ?_))
  obtain ⟨W3, hW3⟩ : ∃ W3, (w2.alloc (.cells #[.int .i8 0, .float .f32 0, .float .f32 0, .float .f32 0, .float .f32 0, .float .f32 0, .float .f32 0, .float .f32 0, .float .f32 0, .float .f32 0, .float .f32 0, .float .f32 0, .float .f32 0, .float .f32 0, .float .f32 0, .float .f32 0, .float .f32 0] 37)).setRow w2.heap.size (crateCells k m) = W3 := ⟨_, rfl⟩
  obtain ⟨g3, hg3⟩ : ∃ g3, w2.heap.size = g3 := ⟨_, rfl⟩
  rw [hW3] at N1h G3 B3 hz3 ⊢
  rw [hg3] at N1h hz2 ⊢
  clear hW3 hg3
  ((with_reducible refine (toCrate_any n l HL.out _).mono ?_); rintro e w4 ⟨rfl, hb4⟩)
  go_wp2_with fail
  ((with_reducible refine (HI.out _).mono ?_); rintro e w5 ⟨rfl, hb5⟩)
  have hb35 := below_step hb4 hb5
  have G5 := Lib.hid (below_heap hb35 N1h.out)
  have hz5 : w.heap.size < w5.heap.size := Nat.lt_of_lt_of_le hz3 hb35.size
  have B5 : Hid (Below w.heap.size w w5) := below_step B3.out hb35
  clear hb4 hb5 hb35
  obtain ⟨N1, N2, N3⟩ := new_row w5 #[.int .i8 0, .float .f32 0, .float .f32 0, .float .f32 0, .float .f32 0, .float .f32 0, .float .f32 0, .float .f32 0, .float .f32 0, .float .f32 0, .float .f32 0, .float .f32 0, .float .f32 0, .float .f32 0, .float .f32 0, .float .f32 0, .float .f32 0] (crateCells k m) 37
  have N5h := Lib.hid N1
  have N6h := Lib.hid (N2 _ _ G5.out)
  have B6 : Hid (Below w.heap.size w ((w5.alloc (.cells #[.int .i8 0, .float .f32 0, .float .f32 0, .float .f32 0, .float .f32 0, .float .f32 0, .float .f32 0, .float .f32 0, .float .f32 0, .float .f32 0, .float .f32 0, .float .f32 0, .float .f32 0, .float .f32 0, .float .f32 0, .float .f32 0, .float .f32 0] 37)).setRow w5.heap.size (crateCells k m))) := below_step B5.out N3
  have hz6 : w.heap.size < ((w5.alloc (.cells #[.int .i8 0, .float .f32 0, .float .f32 0, .float .f32 0, .float .f32 0, .float .f32 0, .float .f32 0, .float .f32 0, .float .f32 0, .float .f32 0, .float .f32 0, .float .f32 0, .float .f32 0, .float .f32 0, .float .f32 0, .float .f32 0, .float .f32 0] 37)).setRow w5.heap.size (crateCells k m)).heap.size := Nat.lt_of_lt_of_le hz5 N3.size
  clear N1 N2 N3
  go_wp2_with (first
    | ((with_reducible show wpList _ _ _ (⟨none, .store _ (.tmp 7) _, _, _, _, _⟩ :: _) _ _); refine wpList_store_row rfl 37 (.tmp 7) _ rfl (w5.heap.size) (crateCells k m) rfl rfl 37 (crateCells 0 zero16) (ha1 _ _) (by rw [crateCells_size, HM.out]; kernel_rfl) (by rw [crateCells_size, crateCells_size, HM.out]; rfl) (crate_oneCell _ _) ?_)
    | ((with_reducible show wpList _ _ _ (⟨some 23, _, _, _, _, _⟩ :: _) _ _); refine wpList_load_row rfl 37 (.tmp 7) rfl (w5.heap.size) rfl 37 (crateCells k m) (0, 0) _ (N5h.out) Try.underlying37 rfl (by rw [crateCells_size, HM.out]; kernel_rfl) ?_)
    | ((with_reducible show wpList _ _ _ (⟨some 24, _, _, _, _, _⟩ :: _) _ _); refine wpList_load_row rfl 37 (.tmp 5) rfl (g3) rfl 37 (crateCells k m) (0, 0) _ (N6h.out) Try.underlying37 rfl (by rw [crateCells_size, HM.out]; kernel_rfl) ?_))
  ((with_reducible refine (eqCrate_self k m HM.out HF.out _).mono ?_); rintro e w7 ⟨rfl, hb7⟩)
  go_wp2
  go_ret; exact ⟨rfl, below_step B6.out hb7⟩

set_option maxRecDepth 100000 in
theorem FnExactPutFruit_lifted (os : Os) (started : os.Started) (H : Type) (enc : TypeId × Value → H) :
    ReturnsInHanded {} Try.checked os 9 .any (Rows.fnExactPutFruitSpec.pre6 enc Try.prog Try.f9 Rows.fnExactPutFruitRow.domain false) (Rows.fnExactPutFruitSpec.post enc Try.prog Try.f9 false true false false) := by
  refine law_lifted (C := Try.checked) (b4 := 4) (s := Rows.fnExactPutFruitSpec) os started H enc Try.own Try.laidOut (by kernel_rfl) Try.func9
      (ChangeSpec.witness6 (enc := enc) (C := Try.checked) false ⟨#[], #[.agg (crateCells 0 zero16), .float .f32 0], []⟩ 8 (by kernel_rfl) (by kernel_rfl) (by kernel_rfl) (by kernel_rfl))
      (of_decide_eq_true (by kernel_rfl)) (by kernel_rfl) (by kernel_rfl) rfl (fun ds h => by match ds, h with | [_, _], _ => rfl) ?_
  intro W base args ds ps hG
  obtain ⟨hval0, hA0, hlt, hsz0⟩ := hG
  have hval : ∀ (j : Nat) t v, Try.f9.params[j]? = some t → args[j]? = some v → Value.okWide Try.prog W .any base t v := hval0
  have hA : DataW.TrodAll enc Try.prog W 0 (fun _ => true) true Try.f9.params.toList args.toList ds ps := hA0
  have hsz : (DataW.weightsEach Try.prog (Try.f9.params.toList ++ Rows.fnExactPutFruitSpec.plain.varTypes Try.prog) (ds ++ [])).all (· ≤ reachBytes) = true := hsz0
  clear hval0 hA0 hsz0
  rw [Try.params9] at hA hval hsz
  obtain ⟨v0, v1, rfl⟩ := args2 (trodAll_length _ _ _ _ hA).2
  obtain ⟨n, l, rfl, hl, h1, h2, hlt'⟩ := open_crate (hval 0 _ v0 rfl rfl)
  obtain ⟨b, rfl, wb⟩ := v_float Try.underlying22 (hval 1 _ v1 rfl rfl)
  exact FnExactPutFruit_walk n l hl h1 h2 hlt' b (f32_lt wb) W

set_option maxRecDepth 100000 in
theorem FnExactPutFruit_holds : Rows.FnExactPutFruitSaid :=
  OpenClaim.holds_of_wide 9 Try.f9 rfl rfl rfl rfl rfl rfl rfl ⟨rfl, rfl, rfl, rfl, rfl⟩ rfl rfl rfl rfl rfl (by kernel_rfl) Try.func9
    (by unfold joinedFacts
        repeat' (with_reducible refine and_tt ?_ ?_)
        all_goals first | with_reducible exact fact_enter | (rw [fact_lifts]; rfl) | ((with_reducible show (Program.make _ == some _) = true); exact fact_make) | kernel_rfl)
    (of_decide_eq_true (by kernel_rfl)) (by unfold Func.isWrapper; first | (rw [if_pos (by decide +kernel)]; kernel_rfl) | (rw [if_neg (by decide +kernel)]; exact ⟨rfl, rfl⟩))
    (fun os started H enc _ => FnExactPutFruit_lifted os started H enc)

end Go.Proofs.Ytckapidlhhjipaa
