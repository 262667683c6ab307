/- script.Bound, script.Quick: contracts. -/
import Derived.Test.YtcadbfggaipnhaaS1
import Derived.Test.YtcadbfggaipnhaaC10
namespace Go.Proofs.Ytcadbfggaipnhaa
open Go.RowKit
set_option linter.unusedSimpArgs false
set_option linter.unusedVariables false

def Job.many (j : Job) : Int := (countN j.kind j.lo j.hi j.step j.items j.stages).1
def boundV (n fuel retry aborts : Int) : Int := plus (times (times n (retry + 3)) (plus fuel 3)) (times aborts (plus fuel 3))
def boundN (j : Job) (c : Config) (aborts : Int) : Int × Int :=
  if jobValid j ≠ 0 then (0, jobValid j) else if rightErr c ≠ 0 then (0, rightErr c) else (boundV j.many j.fuel c.retry aborts, 0)
def wideN (c : Config) : Int := if c.window < c.workers then c.window else c.workers
def quickV (n fuel wide : Int) : Int := times ((n + wide - 1) / wide) (plus fuel (2 * wide + 3))
def quickN (j : Job) (c : Config) : Int × Int :=
  if jobValid j ≠ 0 then (0, jobValid j) else if rightErr c ≠ 0 then (0, rightErr c) else (quickV j.many j.fuel (wideN c), 0)
theorem right_lim {c : Config} (h : rightErr c = 0) : out1 c.workers 1 8 = false ∧ out1 c.policy 1 3 = false ∧ out1 c.chunk 1 200 = false ∧ (∀ k, k < 6 → limBad c k = false) ∧ out1 c.retry 0 9 = false := by
  unfold rightErr at h
  cases h1 : out1 c.workers 1 8
  case true => rw [if_pos h1] at h; omega
  rw [if_neg (by simp [h1])] at h
  cases h2 : out1 c.policy 1 3
  case true => rw [if_pos h2] at h; omega
  rw [if_neg (by simp [h2])] at h
  cases h3 : out1 c.chunk 1 200
  case true => rw [if_pos h3] at h; omega
  rw [if_neg (by simp [h3])] at h
  cases h4 : (List.range 6).any (limBad c)
  case true => rw [if_pos h4] at h; omega
  rw [if_neg (by simp [h4])] at h
  cases h5 : out1 c.retry 0 9
  case true => rw [if_pos h5] at h; omega
  refine ⟨rfl, rfl, rfl, fun k hk => ?_, rfl⟩
  rw [List.any_eq_false] at h4
  simpa using h4 k (by simpa using hk)
theorem right_facts {c : Config} (h : rightErr c = 0) : (1 ≤ c.workers ∧ c.workers ≤ 8) ∧ (1 ≤ c.window ∧ c.window ≤ 32) ∧ (0 ≤ c.retry ∧ c.retry ≤ 9) := by
  obtain ⟨h1, -, -, h4, h5⟩ := right_lim h
  exact ⟨out1_no h1, out1_no (h4 0 (by omega)), out1_no h5⟩
theorem valid_fuel {j : Job} (h : jobValid j = 0) : 1 ≤ j.fuel ∧ j.fuel ≤ 4000 ∧ (countN j.kind j.lo j.hi j.step j.items j.stages).2 = 0 := by
  unfold jobValid at h
  by_cases h1 : (memOf j.words j.cells).2 = 0
  case neg => rw [if_pos h1] at h; exact absurd h h1
  rw [if_neg (by simpa using h1)] at h
  by_cases h2 : redErr j.reds = 0
  case neg => rw [if_pos h2] at h; exact absurd h h2
  rw [if_neg (by simpa using h2)] at h
  by_cases h3 : j.fuel < 1 ∨ 4000 < j.fuel
  · rw [if_pos h3] at h; omega
  rw [if_neg h3] at h
  by_cases h4 : (countN j.kind j.lo j.hi j.step j.items j.stages).2 = 0
  case neg => rw [if_pos h4] at h; exact absurd h h4
  exact ⟨by omega, by omega, h4⟩
theorem plus_range {a b : Int} : 0 ≤ plus a b ∧ plus a b ≤ 9223372036854775807 := by unfold plus top; split <;> omega
theorem times_range {a b : Int} : 0 ≤ times a b ∧ times a b ≤ 9223372036854775807 := by
  by_cases h : a ≤ 0 ∨ b ≤ 0
  · rw [times_z h]; omega
  · rw [times_pp (by omega) (by omega)]
    by_cases h2 : 9223372036854775807 / a < b
    · rw [if_pos h2]; omega
    · rw [if_neg h2]; exact times_in (by omega) (by omega) (by omega)
theorem plus_i64 {a b : Int} : I64 (plus a b) := by have := plus_range (a := a) (b := b); unfold I64; omega
theorem times_i64 {a b : Int} : I64 (times a b) := by have := times_range (a := a) (b := b); unfold I64; omega
set_option maxRecDepth 100000 in
set_option maxHeartbeats 1000000 in
theorem bound_calls (j : Job) (a : JobA) (c : Config) (aborts : Int) (w : World) (B : Nat) (hB0 : B ≤ w.heap.size) (hj : JobMem w B j a) (ho : j.ok) (hab : I64 aborts) :
    Calls Try.prog 13 #[.agg #[.int .i64 j.words, .slice a.Ac j.cells.length a.cc, .slice a.Ar j.reds.length a.cr, .int .i64 j.fuel, .int .i64 j.kind, .int .i64 j.lo, .int .i64 j.hi, .int .i64 j.step, .int .i64 j.items, .int .i64 j.stages, .slice a.Ak j.codes.length a.ck], c.val, .int .i64 aborts] w (RetB (.tuple #[.int .i64 (boundN j c aborts).1, .int .i64 (boundN j c aborts).2]) w) := by
  have HV := hid (fun W (hW : Below w.heap.size w W) => jobValid_calls j a W B (Nat.le_trans hB0 hW.size) (hj.below (hW.mono hB0)) ho)
  have HR := hid (fun W => jobRight_calls c W)
  obtain ⟨o1, o2, o3, o4, o5, o6, o7, o8, o9, o10, o11⟩ := ho
  have HC := hid (fun W => count_calls j.kind j.lo j.hi j.step j.items j.stages W o3 o4 o5 o6 o7)
  clear o1 o2 o3 o4 o5 o6 o7 o8 o9 o10 o11 hj
  by_cases h1 : jobValid j = 0
  case neg =>
    have HE : Hid (boundN j c aborts = (0, jobValid j)) := if_pos h1
    generalize jobValid j = er at *
    have h1' := int_eta h1
    clear h1
    unfold Config.val
    go_enter Try.func13, Try.ntmps13
    go_wp2_with (first | (go_at_call 47; (with_reducible refine (HV.out _ (by repeat (first | exact Below.refl _ _ | exact HB.out | apply below_alloc' | apply Below.drew | apply below_drewN'))).mono ?_); rintro e w' ⟨rfl, hb⟩; obtain ⟨hc, hf⟩ := bcell hb; have hz := hb.size; (try simp at hz); (try have hz0 : w.heap.size < w'.heap.size := by omega); (try have hz1 : w.heap.size + 1 < w'.heap.size := by omega); (try have hz2 : w.heap.size + 2 < w'.heap.size := by omega); have HB := hid (below_call (w := w) (by repeat (first | exact Below.refl _ _ | exact HB.out | apply below_alloc' | apply Below.drew | apply below_drewN')) hb); obtain ⟨hcw, hfw⟩ := bcell HB.out; clear hb))
    (repeat' (go_quiet (fail); go_wp2_with (first | (go_at_call 47; (with_reducible refine (HV.out _ (by repeat (first | exact Below.refl _ _ | exact HB.out | apply below_alloc' | apply Below.drew | apply below_drewN'))).mono ?_); rintro e w' ⟨rfl, hb⟩; obtain ⟨hc, hf⟩ := bcell hb; have hz := hb.size; (try simp at hz); (try have hz0 : w.heap.size < w'.heap.size := by omega); (try have hz1 : w.heap.size + 1 < w'.heap.size := by omega); (try have hz2 : w.heap.size + 2 < w'.heap.size := by omega); have HB := hid (below_call (w := w) (by repeat (first | exact Below.refl _ _ | exact HB.out | apply below_alloc' | apply Below.drew | apply below_drewN')) hb); obtain ⟨hcw, hfw⟩ := bcell HB.out; clear hb))))
    all_goals ((try first | go_ret | go_ret2 | go_ret3); try go_simp)
    all_goals ((with_reducible refine retB_ii ?_ (by repeat (first | exact Below.refl _ _ | exact HB.out | (refine Below.setCell ?_ (by simp) _) | apply below_alloc' | apply Below.drew | apply below_drewN'))); rw [HE.out])
  obtain ⟨f1, f2, f3⟩ := valid_fuel h1
  by_cases h2 : rightErr c = 0
  case neg =>
    have HE : Hid (boundN j c aborts = (0, rightErr c)) := (show boundN j c aborts = (0, rightErr c) by unfold boundN; rw [if_neg (by simpa using h1), if_pos h2])
    rw [h1] at HV
    generalize rightErr c = er at *
    have h2' := int_eta h2
    clear h1 h2 f3
    unfold Config.val at *
    go_enter Try.func13, Try.ntmps13
    go_wp2_with (first | (go_at_call 47; (with_reducible refine (HV.out _ (by repeat (first | exact Below.refl _ _ | exact HB.out | apply below_alloc' | apply Below.drew | apply below_drewN'))).mono ?_); rintro e w' ⟨rfl, hb⟩; obtain ⟨hc, hf⟩ := bcell hb; have hz := hb.size; (try simp at hz); (try have hz0 : w.heap.size < w'.heap.size := by omega); (try have hz1 : w.heap.size + 1 < w'.heap.size := by omega); (try have hz2 : w.heap.size + 2 < w'.heap.size := by omega); have HB := hid (below_call (w := w) (by repeat (first | exact Below.refl _ _ | exact HB.out | apply below_alloc' | apply Below.drew | apply below_drewN')) hb); obtain ⟨hcw, hfw⟩ := bcell HB.out; clear hb) | (go_at_call 48; (with_reducible refine (HR.out _).mono ?_); rintro e w' ⟨rfl, hb⟩; obtain ⟨hc, hf⟩ := bcell hb; have hz := hb.size; (try simp at hz); (try have hz0 : w.heap.size < w'.heap.size := by omega); (try have hz1 : w.heap.size + 1 < w'.heap.size := by omega); (try have hz2 : w.heap.size + 2 < w'.heap.size := by omega); have HB := hid (below_call (w := w) (by repeat (first | exact Below.refl _ _ | exact HB.out | apply below_alloc' | apply Below.drew | apply below_drewN')) hb); obtain ⟨hcw, hfw⟩ := bcell HB.out; clear hb))
    (repeat' (go_quiet (fail); go_wp2_with (first | (go_at_call 47; (with_reducible refine (HV.out _ (by repeat (first | exact Below.refl _ _ | exact HB.out | apply below_alloc' | apply Below.drew | apply below_drewN'))).mono ?_); rintro e w' ⟨rfl, hb⟩; obtain ⟨hc, hf⟩ := bcell hb; have hz := hb.size; (try simp at hz); (try have hz0 : w.heap.size < w'.heap.size := by omega); (try have hz1 : w.heap.size + 1 < w'.heap.size := by omega); (try have hz2 : w.heap.size + 2 < w'.heap.size := by omega); have HB := hid (below_call (w := w) (by repeat (first | exact Below.refl _ _ | exact HB.out | apply below_alloc' | apply Below.drew | apply below_drewN')) hb); obtain ⟨hcw, hfw⟩ := bcell HB.out; clear hb) | (go_at_call 48; (with_reducible refine (HR.out _).mono ?_); rintro e w' ⟨rfl, hb⟩; obtain ⟨hc, hf⟩ := bcell hb; have hz := hb.size; (try simp at hz); (try have hz0 : w.heap.size < w'.heap.size := by omega); (try have hz1 : w.heap.size + 1 < w'.heap.size := by omega); (try have hz2 : w.heap.size + 2 < w'.heap.size := by omega); have HB := hid (below_call (w := w) (by repeat (first | exact Below.refl _ _ | exact HB.out | apply below_alloc' | apply Below.drew | apply below_drewN')) hb); obtain ⟨hcw, hfw⟩ := bcell HB.out; clear hb))))
    all_goals ((try first | go_ret | go_ret2 | go_ret3); try go_simp)
    all_goals ((with_reducible refine retB_ii ?_ (by repeat (first | exact Below.refl _ _ | exact HB.out | (refine Below.setCell ?_ (by simp) _) | apply below_alloc' | apply Below.drew | apply below_drewN'))); rw [HE.out])
  obtain ⟨-, -, r1, r2⟩ := right_facts h2
  have HE : Hid (boundN j c aborts = (boundV j.many j.fuel c.retry aborts, 0)) := (show boundN j c aborts = _ by unfold boundN; rw [if_neg (by simpa using h1), if_neg (by simpa using h2)])
  rw [h1] at HV
  rw [h2] at HR
  have hcr := count_range j.kind j.lo j.hi j.step j.items j.stages
  obtain ⟨cn, hcn⟩ : ∃ cn, countN j.kind j.lo j.hi j.step j.items j.stages = (cn, 0) := ⟨_, by rw [← f3]⟩
  have HM : Hid (j.many = cn) := (show j.many = cn by unfold Job.many; rw [hcn])
  rw [hcn] at HC hcr
  obtain ⟨n1, n2, -⟩ := hcr
  simp only at n1 n2
  have HP1 := hid (fun W => plus_calls j.fuel 3 W ⟨by omega, by omega⟩ ⟨by omega, by omega⟩)
  have HT1 := hid (fun W => times_calls cn (c.retry + 3) W ⟨by omega, by omega⟩ ⟨by omega, by omega⟩)
  have HT2 := hid (fun W => times_calls (times cn (c.retry + 3)) (plus j.fuel 3) W times_i64 plus_i64)
  have HT3 := hid (fun W => times_calls aborts (plus j.fuel 3) W hab plus_i64)
  have HP2 := hid (fun W => plus_calls (times (times cn (c.retry + 3)) (plus j.fuel 3)) (times aborts (plus j.fuel 3)) W times_i64 times_i64)
  clear h1 h2 f3 hcn hab
  unfold Config.val at *
  go_enter Try.func13, Try.ntmps13
  go_wp2_with (first | (go_at_call 47; (with_reducible refine (HV.out _ (by repeat (first | exact Below.refl _ _ | exact HB.out | apply below_alloc' | apply Below.drew | apply below_drewN'))).mono ?_); rintro e w' ⟨rfl, hb⟩; obtain ⟨hc, hf⟩ := bcell hb; have hz := hb.size; (try simp at hz); (try have hz0 : w.heap.size < w'.heap.size := by omega); (try have hz1 : w.heap.size + 1 < w'.heap.size := by omega); (try have hz2 : w.heap.size + 2 < w'.heap.size := by omega); have HB := hid (below_call (w := w) (by repeat (first | exact Below.refl _ _ | exact HB.out | apply below_alloc' | apply Below.drew | apply below_drewN')) hb); obtain ⟨hcw, hfw⟩ := bcell HB.out; clear hb) | (go_at_call 48; (with_reducible refine (HR.out _).mono ?_); rintro e w' ⟨rfl, hb⟩; obtain ⟨hc, hf⟩ := bcell hb; have hz := hb.size; (try simp at hz); (try have hz0 : w.heap.size < w'.heap.size := by omega); (try have hz1 : w.heap.size + 1 < w'.heap.size := by omega); (try have hz2 : w.heap.size + 2 < w'.heap.size := by omega); have HB := hid (below_call (w := w) (by repeat (first | exact Below.refl _ _ | exact HB.out | apply below_alloc' | apply Below.drew | apply below_drewN')) hb); obtain ⟨hcw, hfw⟩ := bcell HB.out; clear hb) | (go_at_call 31; (with_reducible refine (HC.out _).mono ?_); rintro e w' ⟨rfl, hb⟩; obtain ⟨hc, hf⟩ := bcell hb; have hz := hb.size; (try simp at hz); (try have hz0 : w.heap.size < w'.heap.size := by omega); (try have hz1 : w.heap.size + 1 < w'.heap.size := by omega); (try have hz2 : w.heap.size + 2 < w'.heap.size := by omega); have HB := hid (below_call (w := w) (by repeat (first | exact Below.refl _ _ | exact HB.out | apply below_alloc' | apply Below.drew | apply below_drewN')) hb); obtain ⟨hcw, hfw⟩ := bcell HB.out; clear hb) | (go_at_call 45; (with_reducible refine (HP1.out _).mono ?_); rintro e w' ⟨rfl, rfl⟩) | (go_at_call 44; (with_reducible refine (HT1.out _).mono ?_); rintro e w' ⟨rfl, rfl⟩) | (go_at_call 44; (with_reducible refine (HT2.out _).mono ?_); rintro e w' ⟨rfl, rfl⟩) | (go_at_call 44; (with_reducible refine (HT3.out _).mono ?_); rintro e w' ⟨rfl, rfl⟩) | (go_at_call 45; (with_reducible refine (HP2.out _).mono ?_); rintro e w' ⟨rfl, rfl⟩))
  (repeat' (go_quiet (fail); go_wp2_with (first | (go_at_call 47; (with_reducible refine (HV.out _ (by repeat (first | exact Below.refl _ _ | exact HB.out | apply below_alloc' | apply Below.drew | apply below_drewN'))).mono ?_); rintro e w' ⟨rfl, hb⟩; obtain ⟨hc, hf⟩ := bcell hb; have hz := hb.size; (try simp at hz); (try have hz0 : w.heap.size < w'.heap.size := by omega); (try have hz1 : w.heap.size + 1 < w'.heap.size := by omega); (try have hz2 : w.heap.size + 2 < w'.heap.size := by omega); have HB := hid (below_call (w := w) (by repeat (first | exact Below.refl _ _ | exact HB.out | apply below_alloc' | apply Below.drew | apply below_drewN')) hb); obtain ⟨hcw, hfw⟩ := bcell HB.out; clear hb) | (go_at_call 48; (with_reducible refine (HR.out _).mono ?_); rintro e w' ⟨rfl, hb⟩; obtain ⟨hc, hf⟩ := bcell hb; have hz := hb.size; (try simp at hz); (try have hz0 : w.heap.size < w'.heap.size := by omega); (try have hz1 : w.heap.size + 1 < w'.heap.size := by omega); (try have hz2 : w.heap.size + 2 < w'.heap.size := by omega); have HB := hid (below_call (w := w) (by repeat (first | exact Below.refl _ _ | exact HB.out | apply below_alloc' | apply Below.drew | apply below_drewN')) hb); obtain ⟨hcw, hfw⟩ := bcell HB.out; clear hb) | (go_at_call 31; (with_reducible refine (HC.out _).mono ?_); rintro e w' ⟨rfl, hb⟩; obtain ⟨hc, hf⟩ := bcell hb; have hz := hb.size; (try simp at hz); (try have hz0 : w.heap.size < w'.heap.size := by omega); (try have hz1 : w.heap.size + 1 < w'.heap.size := by omega); (try have hz2 : w.heap.size + 2 < w'.heap.size := by omega); have HB := hid (below_call (w := w) (by repeat (first | exact Below.refl _ _ | exact HB.out | apply below_alloc' | apply Below.drew | apply below_drewN')) hb); obtain ⟨hcw, hfw⟩ := bcell HB.out; clear hb) | (go_at_call 45; (with_reducible refine (HP1.out _).mono ?_); rintro e w' ⟨rfl, rfl⟩) | (go_at_call 44; (with_reducible refine (HT1.out _).mono ?_); rintro e w' ⟨rfl, rfl⟩) | (go_at_call 44; (with_reducible refine (HT2.out _).mono ?_); rintro e w' ⟨rfl, rfl⟩) | (go_at_call 44; (with_reducible refine (HT3.out _).mono ?_); rintro e w' ⟨rfl, rfl⟩) | (go_at_call 45; (with_reducible refine (HP2.out _).mono ?_); rintro e w' ⟨rfl, rfl⟩))))
  all_goals ((try first | go_ret | go_ret2 | go_ret3); try go_simp)
  all_goals ((with_reducible refine retB_ii ?_ (by repeat (first | exact Below.refl _ _ | exact HB.out | (refine Below.setCell ?_ (by simp) _) | apply below_alloc' | apply Below.drew | apply below_drewN'))); rw [HE.out, HM.out]; rfl)
theorem wide_cases (c : Config) : (c.window < c.workers ∧ wideN c = c.window) ∨ (c.workers ≤ c.window ∧ wideN c = c.workers) := by
  unfold wideN
  by_cases h : c.window < c.workers
  · exact .inl ⟨h, if_pos h⟩
  · exact .inr ⟨by omega, if_neg h⟩
set_option maxRecDepth 100000 in
set_option maxHeartbeats 1000000 in
theorem quick_calls (j : Job) (a : JobA) (c : Config) (w : World) (B : Nat) (hB0 : B ≤ w.heap.size) (hj : JobMem w B j a) (ho : j.ok) :
    Calls Try.prog 11 #[.agg #[.int .i64 j.words, .slice a.Ac j.cells.length a.cc, .slice a.Ar j.reds.length a.cr, .int .i64 j.fuel, .int .i64 j.kind, .int .i64 j.lo, .int .i64 j.hi, .int .i64 j.step, .int .i64 j.items, .int .i64 j.stages, .slice a.Ak j.codes.length a.ck], c.val] w (RetB (.tuple #[.int .i64 (quickN j c).1, .int .i64 (quickN j c).2]) w) := by
  have HB0 := hid (fun W (hW : Below w.heap.size w W) => bound_calls j a c 0 W B (Nat.le_trans hB0 hW.size) (hj.below (hW.mono hB0)) ho ⟨by omega, by omega⟩)
  obtain ⟨o1, o2, o3, o4, o5, o6, o7, o8, o9, o10, o11⟩ := ho
  have HC := hid (fun W => count_calls j.kind j.lo j.hi j.step j.items j.stages W o3 o4 o5 o6 o7)
  clear o1 o2 o3 o4 o5 o6 o7 o8 o9 o10 o11 hj
  by_cases h0 : jobValid j ≠ 0 ∨ rightErr c ≠ 0
  · obtain ⟨er, her, hb, hq⟩ : ∃ er, er ≠ 0 ∧ boundN j c 0 = (0, er) ∧ quickN j c = (0, er) := by
      by_cases h1 : jobValid j = 0
      · have h2 : rightErr c ≠ 0 := by rcases h0 with h | h; exact absurd h1 h; exact h
        exact ⟨_, h2, by unfold boundN; rw [if_neg (by simpa using h1), if_pos h2], by unfold quickN; rw [if_neg (by simpa using h1), if_pos h2]⟩
      · exact ⟨_, h1, if_pos h1, if_pos h1⟩
    have HE := hid hq
    rw [hb] at HB0
    have h1' := int_eta her
    clear h0 her hb hq
    unfold Config.val at *
    go_enter Try.func11, Try.ntmps11
    go_wp2_with (first | (go_at_call 13; (with_reducible refine (HB0.out _ (by repeat (first | exact Below.refl _ _ | exact HB.out | apply below_alloc' | apply Below.drew | apply below_drewN'))).mono ?_); rintro e w' ⟨rfl, hb⟩; obtain ⟨hc, hf⟩ := bcell hb; have hz := hb.size; (try simp at hz); (try have hz0 : w.heap.size < w'.heap.size := by omega); (try have hz1 : w.heap.size + 1 < w'.heap.size := by omega); (try have hz2 : w.heap.size + 2 < w'.heap.size := by omega); have HB := hid (below_call (w := w) (by repeat (first | exact Below.refl _ _ | exact HB.out | apply below_alloc' | apply Below.drew | apply below_drewN')) hb); obtain ⟨hcw, hfw⟩ := bcell HB.out; clear hb))
    (repeat' (go_quiet (fail); go_wp2_with (first | (go_at_call 13; (with_reducible refine (HB0.out _ (by repeat (first | exact Below.refl _ _ | exact HB.out | apply below_alloc' | apply Below.drew | apply below_drewN'))).mono ?_); rintro e w' ⟨rfl, hb⟩; obtain ⟨hc, hf⟩ := bcell hb; have hz := hb.size; (try simp at hz); (try have hz0 : w.heap.size < w'.heap.size := by omega); (try have hz1 : w.heap.size + 1 < w'.heap.size := by omega); (try have hz2 : w.heap.size + 2 < w'.heap.size := by omega); have HB := hid (below_call (w := w) (by repeat (first | exact Below.refl _ _ | exact HB.out | apply below_alloc' | apply Below.drew | apply below_drewN')) hb); obtain ⟨hcw, hfw⟩ := bcell HB.out; clear hb))))
    all_goals ((try first | go_ret | go_ret2 | go_ret3); try go_simp)
    all_goals ((with_reducible refine retB_ii ?_ (by repeat (first | exact Below.refl _ _ | exact HB.out | (refine Below.setCell ?_ (by simp) _) | apply below_alloc' | apply Below.drew | apply below_drewN'))); rw [HE.out])
  have h1 : jobValid j = 0 := by apply Decidable.byContradiction; intro h; exact h0 (.inl h)
  have h2 : rightErr c = 0 := by apply Decidable.byContradiction; intro h; exact h0 (.inr h)
  obtain ⟨f1, f2, f3⟩ := valid_fuel h1
  obtain ⟨⟨p1, p2⟩, ⟨q1, q2⟩, r1, r2⟩ := right_facts h2
  obtain ⟨bv, hb⟩ : ∃ bv, boundN j c 0 = (bv, 0) := ⟨_, by unfold boundN; rw [if_neg (by simpa using h1), if_neg (by simpa using h2)]⟩
  have HE : Hid (quickN j c = (quickV j.many j.fuel (wideN c), 0)) := (show quickN j c = _ by unfold quickN; rw [if_neg (by simpa using h1), if_neg (by simpa using h2)])
  rw [hb] at HB0
  have hcr := count_range j.kind j.lo j.hi j.step j.items j.stages
  obtain ⟨cn, hcn⟩ : ∃ cn, countN j.kind j.lo j.hi j.step j.items j.stages = (cn, 0) := ⟨_, by rw [← f3]⟩
  have HM : Hid (j.many = cn) := (show j.many = cn by unfold Job.many; rw [hcn])
  rw [hcn] at HC hcr
  obtain ⟨n1, n2, -⟩ := hcr
  simp only at n1 n2
  rcases wide_cases c with ⟨hw, hwe⟩ | ⟨hw, hwe⟩
  all_goals
    have HW := hid hwe
    clear h0 h1 h2 f3 hcn hb hwe
  ·
    have hd := ediv_small (a := cn + c.window - 1) (b := c.window) (n := cn + c.window - 1) (by omega) (Int.le_refl _) q1
    have HP := hid (fun W => plus_calls j.fuel (2 * c.window + 3) W ⟨by omega, by omega⟩ ⟨by omega, by omega⟩)
    have HT := hid (fun W => times_calls ((cn + c.window - 1) / c.window) (plus j.fuel (2 * c.window + 3)) W ⟨by omega, by omega⟩ plus_i64)
    have hx0 : (c.window == 0) = false := by simp; omega
    have e1 : IntKind.i64.wrap (2 * c.window) = 2 * c.window := IntWalk.i64_in _ (by omega)
    have e2 : IntKind.i64.wrap (2 * c.window + 3) = 2 * c.window + 3 := IntWalk.i64_in _ (by omega)
    have e3 : IntKind.i64.wrap (cn + c.window) = cn + c.window := IntWalk.i64_in _ (by omega)
    have e4 : IntKind.i64.wrap (cn + c.window - 1) = cn + c.window - 1 := IntWalk.i64_in _ (by omega)
    have e5 : IntKind.i64.wrap ((cn + c.window - 1).tdiv c.window) = (cn + c.window - 1) / c.window := by rw [Int.tdiv_eq_ediv_of_nonneg (by omega)]; exact IntWalk.i64_in _ (by omega)
    obtain ⟨hd1, hd2⟩ := hd
    unfold Config.val at *
    go_enter Try.func11, Try.ntmps11
    go_wp2_with (first | (go_at_call 13; (with_reducible refine (HB0.out _ (by repeat (first | exact Below.refl _ _ | exact HB.out | apply below_alloc' | apply Below.drew | apply below_drewN'))).mono ?_); rintro e w' ⟨rfl, hb⟩; obtain ⟨hc, hf⟩ := bcell hb; have hz := hb.size; (try simp at hz); (try have hz0 : w.heap.size < w'.heap.size := by omega); (try have hz1 : w.heap.size + 1 < w'.heap.size := by omega); (try have hz2 : w.heap.size + 2 < w'.heap.size := by omega); have HB := hid (below_call (w := w) (by repeat (first | exact Below.refl _ _ | exact HB.out | apply below_alloc' | apply Below.drew | apply below_drewN')) hb); obtain ⟨hcw, hfw⟩ := bcell HB.out; clear hb) | (go_at_call 31; (with_reducible refine (HC.out _).mono ?_); rintro e w' ⟨rfl, hb⟩; obtain ⟨hc, hf⟩ := bcell hb; have hz := hb.size; (try simp at hz); (try have hz0 : w.heap.size < w'.heap.size := by omega); (try have hz1 : w.heap.size + 1 < w'.heap.size := by omega); (try have hz2 : w.heap.size + 2 < w'.heap.size := by omega); have HB := hid (below_call (w := w) (by repeat (first | exact Below.refl _ _ | exact HB.out | apply below_alloc' | apply Below.drew | apply below_drewN')) hb); obtain ⟨hcw, hfw⟩ := bcell HB.out; clear hb))
    go_region_with (first | (go_at_call 45; (with_reducible refine (HP.out _).mono ?_); rintro e w' ⟨rfl, rfl⟩) | (go_at_call 44; (with_reducible refine (HT.out _).mono ?_); rintro e w' ⟨rfl, rfl⟩))
    all_goals (try go_wp2_with fail)
    all_goals ((try first | go_ret | go_ret2 | go_ret3); try go_simp)
    all_goals ((with_reducible refine retB_ii ?_ (by repeat (first | exact Below.refl _ _ | exact HB.out | (refine Below.setCell ?_ (by simp) _) | apply below_alloc' | apply Below.drew | apply below_drewN'))); rw [HE.out, HM.out, HW.out]; rfl)
  ·
    have hd := ediv_small (a := cn + c.workers - 1) (b := c.workers) (n := cn + c.workers - 1) (by omega) (Int.le_refl _) p1
    have HP := hid (fun W => plus_calls j.fuel (2 * c.workers + 3) W ⟨by omega, by omega⟩ ⟨by omega, by omega⟩)
    have HT := hid (fun W => times_calls ((cn + c.workers - 1) / c.workers) (plus j.fuel (2 * c.workers + 3)) W ⟨by omega, by omega⟩ plus_i64)
    have hx0 : (c.workers == 0) = false := by simp; omega
    have e1 : IntKind.i64.wrap (2 * c.workers) = 2 * c.workers := IntWalk.i64_in _ (by omega)
    have e2 : IntKind.i64.wrap (2 * c.workers + 3) = 2 * c.workers + 3 := IntWalk.i64_in _ (by omega)
    have e3 : IntKind.i64.wrap (cn + c.workers) = cn + c.workers := IntWalk.i64_in _ (by omega)
    have e4 : IntKind.i64.wrap (cn + c.workers - 1) = cn + c.workers - 1 := IntWalk.i64_in _ (by omega)
    have e5 : IntKind.i64.wrap ((cn + c.workers - 1).tdiv c.workers) = (cn + c.workers - 1) / c.workers := by rw [Int.tdiv_eq_ediv_of_nonneg (by omega)]; exact IntWalk.i64_in _ (by omega)
    obtain ⟨hd1, hd2⟩ := hd
    unfold Config.val at *
    go_enter Try.func11, Try.ntmps11
    go_wp2_with (first | (go_at_call 13; (with_reducible refine (HB0.out _ (by repeat (first | exact Below.refl _ _ | exact HB.out | apply below_alloc' | apply Below.drew | apply below_drewN'))).mono ?_); rintro e w' ⟨rfl, hb⟩; obtain ⟨hc, hf⟩ := bcell hb; have hz := hb.size; (try simp at hz); (try have hz0 : w.heap.size < w'.heap.size := by omega); (try have hz1 : w.heap.size + 1 < w'.heap.size := by omega); (try have hz2 : w.heap.size + 2 < w'.heap.size := by omega); have HB := hid (below_call (w := w) (by repeat (first | exact Below.refl _ _ | exact HB.out | apply below_alloc' | apply Below.drew | apply below_drewN')) hb); obtain ⟨hcw, hfw⟩ := bcell HB.out; clear hb) | (go_at_call 31; (with_reducible refine (HC.out _).mono ?_); rintro e w' ⟨rfl, hb⟩; obtain ⟨hc, hf⟩ := bcell hb; have hz := hb.size; (try simp at hz); (try have hz0 : w.heap.size < w'.heap.size := by omega); (try have hz1 : w.heap.size + 1 < w'.heap.size := by omega); (try have hz2 : w.heap.size + 2 < w'.heap.size := by omega); have HB := hid (below_call (w := w) (by repeat (first | exact Below.refl _ _ | exact HB.out | apply below_alloc' | apply Below.drew | apply below_drewN')) hb); obtain ⟨hcw, hfw⟩ := bcell HB.out; clear hb))
    go_region_with (first | (go_at_call 45; (with_reducible refine (HP.out _).mono ?_); rintro e w' ⟨rfl, rfl⟩) | (go_at_call 44; (with_reducible refine (HT.out _).mono ?_); rintro e w' ⟨rfl, rfl⟩))
    all_goals (try go_wp2_with fail)
    all_goals ((try first | go_ret | go_ret2 | go_ret3); try go_simp)
    all_goals ((with_reducible refine retB_ii ?_ (by repeat (first | exact Below.refl _ _ | exact HB.out | (refine Below.setCell ?_ (by simp) _) | apply below_alloc' | apply Below.drew | apply below_drewN'))); rw [HE.out, HM.out, HW.out]; rfl)
end Go.Proofs.Ytcadbfggaipnhaa
