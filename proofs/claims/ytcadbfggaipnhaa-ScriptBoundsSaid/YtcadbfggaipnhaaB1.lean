/- ScriptBounds holds: for every run and every number of aborts it returns true; no condition of ours. -/
import Derived.Test.YtcadbfggaipnhaaRows
import Derived.Test.YtcadbfggaipnhaaL3
import Derived.Test.YtcadbfggaipnhaaO1
import Derived.ChangeOld
import Derived.Below
import Derived.SizedLaws
namespace Go.Proofs.Ytcadbfggaipnhaa.scriptBounds
open Go.ChangeShapes Go.WideShapes Go.ChangeAt Go.RowKit
set_option linter.unusedVariables false
theorem own : ownKnob Try.prog.godebug = none := by kernel_rfl
theorem laidOut : laidOutB Try.prog = true := by kernel_rfl
theorem cells_run : Try.prog.cellsOf 35 = 23 := by kernel_rfl
theorem cells_ent : Try.prog.cellsOf 33 = 1 := by kernel_rfl
set_option maxRecDepth 100000 in
theorem read_run {H : Type} {enc : TypeId × Value → H} {w : World} (n : Nat) (cs : List Value) (y : DataW H × List MemPlace) (h : DataW.trod enc Try.prog w 0 (fun _ => true) true n 35 cs = some y) :
    ∃ (j : Job) (a : JobA) (c : Config) (Al : Option Addr) (ln cl : Nat), cs = runC j a c (.slice Al ln cl) ∧ JobMem w w.heap.size j a ∧ j.ok ∧ j.cells.length ≤ a.cc ∧ ln ≤ 9223372036854775807 := by
  obtain ⟨hl, m, hf⟩ := read_fields Try.underlying35 h
  rw [cells_run] at hl
  obtain ⟨y0, h0⟩ := hf 0 _ rfl
  obtain ⟨y1, h1⟩ := hf 1 _ rfl
  obtain ⟨y2, h2⟩ := hf 2 _ rfl
  simp [cells_job, cells_cfg, cells_ent] at h0 h1 h2
  obtain ⟨j, a, e0, hm, ho, hc, -, -⟩ := read_job _ _ _ h0
  obtain ⟨c, e1⟩ := read_cfg _ _ _ h1
  obtain ⟨Al, ln, cl, e2, hln⟩ : ∃ Al ln cl, List.take 1 (cs.drop 22) = [.slice Al ln cl] ∧ ln ≤ 9223372036854775807 := by
    rcases Go.Deep.open_slice Try.underlying33 h2 with ⟨e, -⟩ | ⟨a, len, cap, m, n, D, Pl, e, hb, hl, hm, -⟩
    · exact ⟨none, 0, 0, e, by omega⟩
    · unfold maxLen at hm; exact ⟨some a, len, cap, e, by omega⟩
  refine ⟨j, a, c, Al, ln, cl, ?_, hm, ho, hc, hln⟩
  have s1 : cs = cs.take 11 ++ ((cs.drop 11).take 11 ++ (cs.drop 22).take 1) := by
    have d : cs.drop 22 = (cs.drop 11).drop 11 := by rw [List.drop_drop]
    have t1 : (cs.drop 22).take 1 = cs.drop 22 := List.take_of_length_le (by simp; omega)
    rw [t1, d, List.take_append_drop, List.take_append_drop]
  rw [s1]
  unfold runC
  rw [e0, e1, e2]
  rfl
set_option maxRecDepth 100000 in
theorem lifted (os : Os) (started : os.Started) (H : Type) (enc : TypeId × Value → H) :
    ReturnsInHanded {} Try.checked os 3 .any (Rows.scriptBoundsSpec.pre6 enc Try.prog Try.f3 Rows.scriptBoundsRow.domain false) (Rows.scriptBoundsSpec.post enc Try.prog Try.f3 false true false false) := by
  refine returnsInHanded_of_change_sized (C := Try.checked) own started (by kernel_rfl) Try.func3
    (ChangeSpec.witness6 (enc := enc) (C := Try.checked) false ⟨#[], #[.agg #[.int .i64 0, .slice none 0 0, .slice none 0 0, .int .i64 0, .int .i64 0, .int .i64 0, .int .i64 0, .int .i64 0, .int .i64 0, .int .i64 0, .slice none 0 0, .int .i64 0, .int .i64 0, .int .i64 0, .int .i64 0, .int .i64 0, .int .i64 0, .int .i64 0, .int .i64 0, .int .i64 0, .int .i64 0, .bool false, .slice none 0 0], .int .i64 0], []⟩ 8 (by kernel_rfl) (by kernel_rfl) (by kernel_rfl) (by kernel_rfl)) ?_
  intro W base args ds gs before hval0 hW hcnd hsz0 _
  have hval : ∀ (j : Nat) t v, Try.f3.params[j]? = some t → args[j]? = some v → Value.okWide Try.prog W .any base t v := hval0
  have hW' := hW
  obtain ⟨p, q, hA0, hV, rfl, hfz, hnd⟩ := hW
  have hA : DataW.TrodAll enc Try.prog W 0 (fun _ => true) true Try.f3.params.toList args.toList ds p := hA0
  rw [Try.params3] at hA hval
  obtain ⟨v0, vs0, d0, ds0, p0, q0, hargs, rfl, rfl, h0, r0⟩ := trodAll_cons hA
  obtain ⟨v1, vs1, d1, ds1, p1, q1, rfl, rfl, rfl, h1, r1⟩ := trodAll_cons r0
  obtain ⟨rfl, rfl, rfl⟩ := trodAll_nil r1
  obtain rfl : args = #[v0, v1] := by cases args; simp_all
  obtain ⟨rfl, rfl⟩ := trodVars_none hV
  obtain ⟨cs, rfl, hcsz⟩ := okWide_struct Try.underlying35 (hval 0 35 v0 rfl rfl)
  have k0 := h0
  have lt0 : ∀ x ∈ p0, x.block < W.heap.size := by obtain ⟨m, hm⟩ := k0; exact DataW.trod_lt m _ _ _ hm
  obtain ⟨fuel, hf⟩ := h0
  obtain ⟨j, a, c, Al, ln, cl, e, hm, ho, hc, hln⟩ := read_run _ _ _ (by simpa [Value.cells] using hf)
  obtain ⟨ab, rfl, rfl, rfl, w1⟩ := open_int Try.underlying3 (hval 1 3 v1 rfl rfl) h1
  obtain ⟨l⟩ := cs
  simp only at e
  subst e
  clear hA0 hval0 hsz0
  refine (bounds_calls j a c Al ln cl ab W W.heap.size (Nat.le_refl _) hm ho hc (bounds_i64 w1) hln).mono fun e W' ⟨he, bel⟩ => ?_
  subst he
  exact ⟨_, rfl, _, _, _, [], _, [], hW', trodAll_mk1 (shut_bool Try.underlying4 _), (trodAll_cons_mk (Below.trod laidOut (by kernel_rfl) (of_decide_eq_true (by kernel_rfl)) k0 bel lt0) (trodAll_cons_mk (shut_int Try.underlying3 w1) trodAll_mk0)), rfl, bel.frame _, fun h => by cases h⟩
theorem over : Rows.scriptBoundsRow.holds Try.pinned (OpenSpec.ofChange Rows.scriptBoundsSpec) :=
  OpenClaim.holds_of_wide 3 Try.f3 rfl rfl rfl rfl rfl rfl rfl ⟨rfl, rfl, rfl, rfl, rfl⟩ rfl rfl rfl rfl rfl (by kernel_rfl) Try.func3 (by kernel_rfl)
    (of_decide_eq_true (by kernel_rfl)) (by unfold Func.isWrapper; first | (rw [if_pos (by decide +kernel)]; kernel_rfl) | (rw [if_neg (by decide +kernel)]; exact ⟨rfl, rfl⟩))
    (fun os started H enc _ => lifted os started H enc)
end Go.Proofs.Ytcadbfggaipnhaa.scriptBounds
namespace Go.Proofs.Ytcadbfggaipnhaa
/-- The row, under a short name, for the claim. -/
theorem scriptBounds_holds : Rows.ScriptBoundsSaid := scriptBounds.over
end Go.Proofs.Ytcadbfggaipnhaa
#print axioms Go.Proofs.Ytcadbfggaipnhaa.scriptBounds_holds
