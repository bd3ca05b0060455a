/-
  ONE FRAME FOR ALL LAWS: a law whose call returns true and leaves what was there as it was holds.
-/
import Derived.Test.YtejipgofbefbjaaFacts
import Derived.Test.YtejipgofbefbjaaBase
import Derived.ProofKit
import Derived.SizedLaws
set_option linter.unusedVariables false
set_option linter.unusedSimpArgs false
namespace Go.Proofs.Ytejipgofbefbjaa
open Go.ChangeShapes Go.WideShapes Go.ChangeAt Go.RowKit

theorem Try.own : ownKnob Try.prog.godebug = none := by kernel_rfl
theorem Try.laidOut : laidOutB Try.prog = true := by kernel_rfl

theorem and_tt {a b : Bool} (ha : a = true) (hb : b = true) : (a && b) = true := by rw [ha, hb]; rfl

/-- The end of a law's call: it returned true; below the heap's old size nothing has turned. -/
def Yes (W : World) (e : Ending) (W' : World) : Prop := e = .returned (.bool true) ∧ Below W.heap.size W W'

section
variable {H : Type} {enc : TypeId × Value → H} {P : Program}

theorem trodAll_below (hl : laidOutB P = true) {W W' : World} (hb : Below W.heap.size W W') : ∀ (ts : List TypeId) (vs : List Value) (ds : List (DataW H)) (ps : List MemPlace),
    (∀ t ∈ ts, P.readableRec t = true ∧ t < P.types.size) → DataW.TrodAll enc P W 0 (fun _ => true) true ts vs ds ps → (∀ x ∈ ps, x.block < W.heap.size) →
    DataW.TrodAll enc P W' 0 (fun b => decide (b < W.heap.size)) true ts vs ds ps
  | [], [], [], _, _, h, _ => h
  | t :: ts, v :: vs, d :: ds, ps, hr, h, hlt => by
    obtain ⟨p, q, h1, h2, rfl⟩ := h
    exact ⟨p, q, Below.trod hl (hr t (by simp)).1 (hr t (by simp)).2 h1 hb (fun x hx => hlt x (by simp [hx])),
      trodAll_below hl hb ts vs ds q (fun t ht => hr t (by simp [ht])) h2 (fun x hx => hlt x (by simp [hx])), rfl⟩
  | [], [], _ :: _, _, _, h, _ => h.elim
  | [], _ :: _, _, _, _, h, _ => h.elim
  | _ :: _, [], _, _, _, h, _ => h.elim
  | _ :: _, _ :: _, [], _, _, h, _ => h.elim

theorem trodAll_length {w : World} {b : Nat} {sp : Nat → Bool} {hd : Bool} : ∀ (ts : List TypeId) (vs : List Value) (ds : List (DataW H)) (ps : List MemPlace),
    DataW.TrodAll enc P w b sp hd ts vs ds ps → ds.length = ts.length ∧ vs.length = ts.length
  | [], [], [], _, _ => ⟨rfl, rfl⟩
  | t :: ts, v :: vs, d :: ds, ps, h => by
    obtain ⟨p, q, _, h2, _⟩ := h
    have := trodAll_length ts vs ds q h2
    simp [this.1, this.2]
  | [], [], _ :: _, _, h => h.elim
  | [], _ :: _, _, _, h => h.elim
  | _ :: _, [], _, _, h => h.elim
  | _ :: _, _ :: _, [], _, h => h.elim
end

/-- What a law's walk may take: each argument's shape, its reading, the reach. -/
def Given {H : Type} (enc : TypeId × Value → H) (C : Checked) (fn : Func) (s : ChangeSpec) (W : World) (base : Nat) (args : Array Value) (ds : List (DataW H)) (ps : List MemPlace) : Prop :=
  (∀ (j : Nat) t v, fn.params[j]? = some t → args[j]? = some v → Value.okWide C.prog W .any base t v) ∧
  DataW.TrodAll enc C.prog W 0 (fun _ => true) true fn.params.toList args.toList ds ps ∧
  (∀ x ∈ ps, x.block < W.heap.size) ∧
  (DataW.weightsEach C.prog (fn.params.toList ++ s.plain.varTypes C.prog) (ds ++ [])).all (· ≤ reachBytes) = true

theorem args1 {args : Array Value} (h : args.toList.length = 1) : ∃ v0, args = #[v0] := by
  obtain ⟨l⟩ := args; match l, h with | [a], _ => exact ⟨a, rfl⟩
theorem args2 {args : Array Value} (h : args.toList.length = 2) : ∃ v0 v1, args = #[v0, v1] := by
  obtain ⟨l⟩ := args; match l, h with | [a, b], _ => exact ⟨a, b, rfl⟩
theorem args3 {args : Array Value} (h : args.toList.length = 3) : ∃ v0 v1 v2, args = #[v0, v1, v2] := by
  obtain ⟨l⟩ := args; match l, h with | [a, b, c], _ => exact ⟨a, b, c, rfl⟩
theorem args4 {args : Array Value} (h : args.toList.length = 4) : ∃ v0 v1 v2 v3, args = #[v0, v1, v2, v3] := by
  obtain ⟨l⟩ := args; match l, h with | [a, b, c, d], _ => exact ⟨a, b, c, d, rfl⟩
theorem args5 {args : Array Value} (h : args.toList.length = 5) : ∃ v0 v1 v2 v3 v4, args = #[v0, v1, v2, v3, v4] := by
  obtain ⟨l⟩ := args; match l, h with | [a, b, c, d, e], _ => exact ⟨a, b, c, d, e, rfl⟩
theorem args6 {args : Array Value} (h : args.toList.length = 6) : ∃ v0 v1 v2 v3 v4 v5, args = #[v0, v1, v2, v3, v4, v5] := by
  obtain ⟨l⟩ := args; match l, h with | [a, b, c, d, e, f], _ => exact ⟨a, b, c, d, e, f, rfl⟩
theorem args0 {args : Array Value} (h : args.toList.length = 0) : args = #[] := by
  obtain ⟨l⟩ := args; match l, h with | [], _ => rfl

theorem v_float {P : Program} {W : World} {r : Reach} {base : Nat} {t : TypeId} {k : FloatKind} {v : Value} (ht : P.underlying t = some (.float k)) (h : Value.okWide P W r base t v) : ∃ b, v = .float k b ∧ (Lit.float k b).wf = true := by
  refine FV.cell_float (W := W) (r := r) (base := base) ht ?_
  simpa [Value.okWide, ht] using h
theorem v_int {P : Program} {W : World} {r : Reach} {base : Nat} {t : TypeId} {k : IntKind} {v : Value} (ht : P.underlying t = some (.int k)) (h : Value.okWide P W r base t v) : ∃ n, v = .int k n ∧ (Lit.int k n).wf = true := by
  refine FV.cell_int (W := W) (r := r) (base := base) ht ?_
  simpa [Value.okWide, ht] using h
theorem v_bool {P : Program} {W : World} {r : Reach} {base : Nat} {t : TypeId} {v : Value} (ht : P.underlying t = some .bool) (h : Value.okWide P W r base t v) : ∃ n, v = .bool n := by
  simp only [Value.okWide, ht, Cell.okWide] at h
  cases v <;> simp_all [Cell.ok]
theorem f32_lt {b : Nat} (h : (Lit.float .f32 b).wf = true) : b < 4294967296 := by simpa [Lit.wf] using h

theorem law_lifted {C : Checked} {k : FuncId} {fn : Func} {s : ChangeSpec} {b4 : TypeId} (os : Os) (started : os.Started) (H : Type) (enc : TypeId × Value → H)
    (own : ownKnob C.prog.godebug = none) (hl : laidOutB C.prog = true) (noInit : C.prog.inits.idxOf? k = none) (hfn : C.prog.funcs[k]? = some fn)
    (witness : ∃ (w : World) (tape : Tape) (i : Input), w.os = os ∧ (w.forCall tape i).Shaped C.prog ∧ i.vars = [] ∧ Input.okWide C.prog (w.forCall tape i) .any w.heap.size k i ∧
      s.pre6 enc C.prog fn [] false (w.forCall tape i).memory i.args ∧ ({} : Assume).holds C.prog (lone (Frame.enter C.prog k i.args .normal) [] (w.forCall tape i)))
    (hts : ∀ t ∈ fn.params.toList, C.prog.readableRec t = true ∧ t < C.prog.types.size)
    (hrt : fn.resultTypes = #[b4]) (hb4 : C.prog.underlying b4 = some .bool) (hv : s.vars = [])
    (hspec : ∀ ds : List (DataW H), ds.length = fn.params.size → s.fn H (ds ++ []) = { results := [.lit (.bool true)], args := ds })
    (hcalls : ∀ (W : World) (base : Nat) (args : Array Value) (ds : List (DataW H)) (ps : List MemPlace), Given enc C fn s W base args ds ps → Calls C.prog k args W (Yes W)) :
    ReturnsInHanded {} C os k .any (s.pre6 enc C.prog fn [] false) (s.post enc C.prog fn false true false false) := by
  refine returnsInHanded_of_change_sized own started noInit hfn witness ?_
  intro W base args ds gs before hval hW _ hsz _
  have hW' := hW
  obtain ⟨p, q, hA, hV, hp, _, _⟩ := hW
  rw [hv] at hV
  obtain ⟨rfl, rfl⟩ := trodVars_none hV
  subst hp
  have hlt : ∀ x ∈ p, x.block < W.heap.size := fun x hx => by simpa using hW'.lt x (by simp [hx])
  refine (hcalls W base args ds p ⟨hval, hA, hlt, hsz⟩).mono fun e W' ⟨he, hb⟩ => ?_
  subst he
  have hlen := (trodAll_length _ _ _ _ hA).1
  have hs := hspec ds (by simpa using hlen)
  refine ⟨_, rfl, ds, [], p ++ [], [], p, [], hW', ?_, ?_, ?_, hb.frame _, fun h => by cases h⟩
  · rw [hs, hrt]
    exact trodAll_mk1 (shut_bool hb4 true)
  · rw [hs]
    exact trodAll_below hl hb _ _ _ _ hts hA hlt
  · rw [hs, hv]; rfl

end Go.Proofs.Ytejipgofbefbjaa
