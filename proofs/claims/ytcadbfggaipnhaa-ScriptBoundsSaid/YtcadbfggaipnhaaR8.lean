/- outriderref25.Bound, Quick. -/
import Derived.Test.YtcadbfggaipnhaaR7
namespace Go.Proofs.Ytcadbfggaipnhaa
open Go.RowKit
set_option linter.unusedSimpArgs false
set_option linter.unusedVariables false
def rboundV (n fuel retry aborts : Int) : Int := (n * (retry + 3) + max aborts 0) * (fuel + 3)
def rboundN (j : Job) (c : Config) (aborts : Int) : Int × Int :=
  if jobValid j ≠ 0 then (0, jobValid j) else if rightErr c ≠ 0 then (0, rightErr c) else (rboundV j.many j.fuel c.retry aborts, 0)
theorem mul_in {a b A B : Int} (ha : 0 ≤ a) (hA : a ≤ A) (hb : 0 ≤ b) (hB : b ≤ B) : 0 ≤ a * b ∧ a * b ≤ A * B :=
  ⟨Int.mul_nonneg ha hb, Int.mul_le_mul hA hB hb (by omega)⟩
set_option maxRecDepth 100000 in
set_option maxHeartbeats 1000000 in
theorem rbound_calls (j : Job) (a : JobA) (c : Config) (aborts : Int) (w : World) (B : Nat) (hB0 : B ≤ w.heap.size) (hj : JobMem w B j a) (ho : j.ok) (hcap : j.cells.length ≤ a.cc) (hab : aborts ≤ 1048576) :
    Calls Try.prog 14 #[.agg #[.int .i64 j.words, .slice a.Ac j.cells.length a.cc, .slice a.Ar j.reds.length a.cr, .int .i64 j.fuel, .int .i64 j.kind, .int .i64 j.lo, .int .i64 j.hi, .int .i64 j.step, .int .i64 j.items, .int .i64 j.stages, .slice a.Ak j.codes.length a.ck], c.val, .int .i64 aborts] w (RetB (.tuple #[.int .i64 (rboundN j c aborts).1, .int .i64 (rboundN j c aborts).2]) w) := by
  have HV := hid (fun W (hW : Below w.heap.size w W) => valid17_calls j a W B (Nat.le_trans hB0 hW.size) (hj.below (hW.mono hB0)) ho hcap)
  have HR := hid (fun W => right17_calls c W)
  obtain ⟨o1, o2, o3, o4, o5, o6, o7, o8, o9, o10, o11⟩ := ho
  by_cases h1 : jobValid j = 0
  case neg =>
    have HE : Hid (rboundN j c aborts = (0, jobValid j)) := if_pos h1
    generalize jobValid j = er at *
    have h1' := int_eta h1
    have h1'' : (er == 0) = false := by simpa using h1
    clear h1 o1 o2 o3 o4 o5 o6 o7 o8 o9 o10 o11 hj
    unfold Config.val
    go_enter Try.func14, Try.ntmps14
    go_wp2_with (first | (go_at_call 49; (with_reducible refine (HV.out _ (by repeat (first | exact Below.refl _ _ | exact HB.out | apply below_alloc' | apply Below.drew | apply below_drewN'))).mono ?_); rintro e w' ⟨rfl, hb⟩; obtain ⟨hc, hf⟩ := bcell hb; have hz := hb.size; (try simp at hz); (try have hz0 : w.heap.size < w'.heap.size := by omega); (try have hz1 : w.heap.size + 1 < w'.heap.size := by omega); (try have hz2 : w.heap.size + 2 < w'.heap.size := by omega); have HB := hid (below_call (w := w) (by repeat (first | exact Below.refl _ _ | exact HB.out | apply below_alloc' | apply Below.drew | apply below_drewN')) hb); obtain ⟨hcw, hfw⟩ := bcell HB.out; clear hb))
    (repeat' (go_quiet (fail); go_wp2_with (first | (go_at_call 49; (with_reducible refine (HV.out _ (by repeat (first | exact Below.refl _ _ | exact HB.out | apply below_alloc' | apply Below.drew | apply below_drewN'))).mono ?_); rintro e w' ⟨rfl, hb⟩; obtain ⟨hc, hf⟩ := bcell hb; have hz := hb.size; (try simp at hz); (try have hz0 : w.heap.size < w'.heap.size := by omega); (try have hz1 : w.heap.size + 1 < w'.heap.size := by omega); (try have hz2 : w.heap.size + 2 < w'.heap.size := by omega); have HB := hid (below_call (w := w) (by repeat (first | exact Below.refl _ _ | exact HB.out | apply below_alloc' | apply Below.drew | apply below_drewN')) hb); obtain ⟨hcw, hfw⟩ := bcell HB.out; clear hb))))
    all_goals ((try first | go_ret | go_ret2 | go_ret3); try go_simp)
    all_goals ((with_reducible refine retB_ii ?_ (by repeat (first | exact Below.refl _ _ | exact HB.out | (refine Below.setCell ?_ (by simp) _) | apply below_alloc' | apply Below.drew | apply below_drewN'))); rw [HE.out])
  obtain ⟨f1, f2, f3⟩ := valid_fuel h1
  by_cases h2 : rightErr c = 0
  case neg =>
    have HE : Hid (rboundN j c aborts = (0, rightErr c)) := (show rboundN j c aborts = (0, rightErr c) by unfold rboundN; rw [if_neg (by simpa using h1), if_pos h2])
    rw [h1] at HV
    generalize rightErr c = er at *
    have h2' := int_eta h2
    clear h1 h2 f3 o1 o2 o3 o4 o5 o6 o7 o8 o9 o10 o11 hj
    unfold Config.val at *
    go_enter Try.func14, Try.ntmps14
    go_wp2_with (first | (go_at_call 49; (with_reducible refine (HV.out _ (by repeat (first | exact Below.refl _ _ | exact HB.out | apply below_alloc' | apply Below.drew | apply below_drewN'))).mono ?_); rintro e w' ⟨rfl, hb⟩; obtain ⟨hc, hf⟩ := bcell hb; have hz := hb.size; (try simp at hz); (try have hz0 : w.heap.size < w'.heap.size := by omega); (try have hz1 : w.heap.size + 1 < w'.heap.size := by omega); (try have hz2 : w.heap.size + 2 < w'.heap.size := by omega); have HB := hid (below_call (w := w) (by repeat (first | exact Below.refl _ _ | exact HB.out | apply below_alloc' | apply Below.drew | apply below_drewN')) hb); obtain ⟨hcw, hfw⟩ := bcell HB.out; clear hb) | (go_at_call 50; (with_reducible refine (HR.out _).mono ?_); rintro e w' ⟨rfl, hb⟩; obtain ⟨hc, hf⟩ := bcell hb; have hz := hb.size; (try simp at hz); (try have hz0 : w.heap.size < w'.heap.size := by omega); (try have hz1 : w.heap.size + 1 < w'.heap.size := by omega); (try have hz2 : w.heap.size + 2 < w'.heap.size := by omega); have HB := hid (below_call (w := w) (by repeat (first | exact Below.refl _ _ | exact HB.out | apply below_alloc' | apply Below.drew | apply below_drewN')) hb); obtain ⟨hcw, hfw⟩ := bcell HB.out; clear hb))
    (repeat' (go_quiet (fail); go_wp2_with (first | (go_at_call 49; (with_reducible refine (HV.out _ (by repeat (first | exact Below.refl _ _ | exact HB.out | apply below_alloc' | apply Below.drew | apply below_drewN'))).mono ?_); rintro e w' ⟨rfl, hb⟩; obtain ⟨hc, hf⟩ := bcell hb; have hz := hb.size; (try simp at hz); (try have hz0 : w.heap.size < w'.heap.size := by omega); (try have hz1 : w.heap.size + 1 < w'.heap.size := by omega); (try have hz2 : w.heap.size + 2 < w'.heap.size := by omega); have HB := hid (below_call (w := w) (by repeat (first | exact Below.refl _ _ | exact HB.out | apply below_alloc' | apply Below.drew | apply below_drewN')) hb); obtain ⟨hcw, hfw⟩ := bcell HB.out; clear hb) | (go_at_call 50; (with_reducible refine (HR.out _).mono ?_); rintro e w' ⟨rfl, hb⟩; obtain ⟨hc, hf⟩ := bcell hb; have hz := hb.size; (try simp at hz); (try have hz0 : w.heap.size < w'.heap.size := by omega); (try have hz1 : w.heap.size + 1 < w'.heap.size := by omega); (try have hz2 : w.heap.size + 2 < w'.heap.size := by omega); have HB := hid (below_call (w := w) (by repeat (first | exact Below.refl _ _ | exact HB.out | apply below_alloc' | apply Below.drew | apply below_drewN')) hb); obtain ⟨hcw, hfw⟩ := bcell HB.out; clear hb))))
    all_goals ((try first | go_ret | go_ret2 | go_ret3); try go_simp)
    all_goals ((with_reducible refine retB_ii ?_ (by repeat (first | exact Below.refl _ _ | exact HB.out | (refine Below.setCell ?_ (by simp) _) | apply below_alloc' | apply Below.drew | apply below_drewN'))); rw [HE.out])
  obtain ⟨-, -, r1, r2⟩ := right_facts h2
  have HE : Hid (rboundN j c aborts = (rboundV j.many j.fuel c.retry aborts, 0)) := (show rboundN j c aborts = _ by unfold rboundN; rw [if_neg (by simpa using h1), if_neg (by simpa using h2)])
  rw [h1] at HV
  rw [h2] at HR
  have HC := hid (fun W => tasks_okc j.kind j.lo j.hi j.step j.items j.stages W o3 o4 o5 o6 o7 f3)
  have hcr := count_range j.kind j.lo j.hi j.step j.items j.stages
  obtain ⟨n, hn⟩ := Int.eq_ofNat_of_zero_le hcr.1
  have HM : Hid (j.many = n) := hn
  rw [hn] at HC hcr
  obtain ⟨n1, n2, -⟩ := hcr
  obtain ⟨p, hp⟩ : ∃ p, (n : Int) * (c.retry + 3) = p := ⟨_, rfl⟩
  have hpr := mul_in (A := 200) (B := 12) (by omega) n2 (show 0 ≤ c.retry + 3 by omega) (by omega)
  rw [hp] at hpr
  obtain ⟨p1, p2⟩ := hpr
  have e1 : wrap64 ((n : Int) * (c.retry + 3)) = p := by rw [hp]; unfold wrap64; omega
  obtain ⟨ab, habe, hab0, hab1, hab2⟩ : ∃ ab, max aborts 0 = ab ∧ 0 ≤ ab ∧ ab ≤ 1048576 ∧ ((aborts < 0 ∧ ab = 0) ∨ (0 ≤ aborts ∧ ab = aborts)) := ⟨_, rfl, by omega, by omega, by omega⟩
  obtain ⟨q, hq⟩ : ∃ q, (p + ab) * (j.fuel + 3) = q := ⟨_, rfl⟩
  have hqr := mul_in (A := 1050976) (B := 4003) (show 0 ≤ p + ab by omega) (by omega) (show 0 ≤ j.fuel + 3 by omega) (by omega)
  rw [hq] at hqr
  have e2 : wrap64 ((p + ab) * (j.fuel + 3)) = q := by rw [hq]; unfold wrap64; omega
  have HQ : Hid (rboundV n j.fuel c.retry aborts = q) := (show rboundV n j.fuel c.retry aborts = q by unfold rboundV; rw [hp, habe, hq])
  clear h1 h2 f3 hn hj o1 o2 o3 o4 o5 o6 o7 o8 o9 o10 o11 hp hq habe hqr hab1 n1
  rcases hab2 with ⟨ha, rfl⟩ | ⟨ha, rfl⟩
  all_goals
    (try simp only [Int.add_zero] at e2)
    unfold Config.val at *
    go_enter Try.func14, Try.ntmps14
    go_wp2_with (first | (go_at_call 49; (with_reducible refine (HV.out _ (by repeat (first | exact Below.refl _ _ | exact HB.out | apply below_alloc' | apply Below.drew | apply below_drewN'))).mono ?_); rintro e w' ⟨rfl, hb⟩; obtain ⟨hc, hf⟩ := bcell hb; have hz := hb.size; (try simp at hz); (try have hz0 : w.heap.size < w'.heap.size := by omega); (try have hz1 : w.heap.size + 1 < w'.heap.size := by omega); (try have hz2 : w.heap.size + 2 < w'.heap.size := by omega); have HB := hid (below_call (w := w) (by repeat (first | exact Below.refl _ _ | exact HB.out | apply below_alloc' | apply Below.drew | apply below_drewN')) hb); obtain ⟨hcw, hfw⟩ := bcell HB.out; clear hb) | (go_at_call 50; (with_reducible refine (HR.out _).mono ?_); rintro e w' ⟨rfl, hb⟩; obtain ⟨hc, hf⟩ := bcell hb; have hz := hb.size; (try simp at hz); (try have hz0 : w.heap.size < w'.heap.size := by omega); (try have hz1 : w.heap.size + 1 < w'.heap.size := by omega); (try have hz2 : w.heap.size + 2 < w'.heap.size := by omega); have HB := hid (below_call (w := w) (by repeat (first | exact Below.refl _ _ | exact HB.out | apply below_alloc' | apply Below.drew | apply below_drewN')) hb); obtain ⟨hcw, hfw⟩ := bcell HB.out; clear hb) | (go_at_call 46; (with_reducible refine (HC.out _).mono ?_); rintro e w' ⟨A, n', c', hn, rfl, hb, ho⟩; obtain rfl : n' = n := (by omega); clear ho hn; obtain ⟨hc, hf⟩ := bcell hb; have hz := hb.size; (try simp at hz); (try have hz0 : w.heap.size < w'.heap.size := by omega); (try have hz1 : w.heap.size + 1 < w'.heap.size := by omega); (try have hz2 : w.heap.size + 2 < w'.heap.size := by omega); have HB := hid (below_call (w := w) (by repeat (first | exact Below.refl _ _ | exact HB.out | apply below_alloc' | apply Below.drew | apply below_drewN')) hb); obtain ⟨hcw, hfw⟩ := bcell HB.out; clear hb))
    (repeat' (go_quiet (fail); go_wp2_with (first | (go_at_call 49; (with_reducible refine (HV.out _ (by repeat (first | exact Below.refl _ _ | exact HB.out | apply below_alloc' | apply Below.drew | apply below_drewN'))).mono ?_); rintro e w' ⟨rfl, hb⟩; obtain ⟨hc, hf⟩ := bcell hb; have hz := hb.size; (try simp at hz); (try have hz0 : w.heap.size < w'.heap.size := by omega); (try have hz1 : w.heap.size + 1 < w'.heap.size := by omega); (try have hz2 : w.heap.size + 2 < w'.heap.size := by omega); have HB := hid (below_call (w := w) (by repeat (first | exact Below.refl _ _ | exact HB.out | apply below_alloc' | apply Below.drew | apply below_drewN')) hb); obtain ⟨hcw, hfw⟩ := bcell HB.out; clear hb) | (go_at_call 50; (with_reducible refine (HR.out _).mono ?_); rintro e w' ⟨rfl, hb⟩; obtain ⟨hc, hf⟩ := bcell hb; have hz := hb.size; (try simp at hz); (try have hz0 : w.heap.size < w'.heap.size := by omega); (try have hz1 : w.heap.size + 1 < w'.heap.size := by omega); (try have hz2 : w.heap.size + 2 < w'.heap.size := by omega); have HB := hid (below_call (w := w) (by repeat (first | exact Below.refl _ _ | exact HB.out | apply below_alloc' | apply Below.drew | apply below_drewN')) hb); obtain ⟨hcw, hfw⟩ := bcell HB.out; clear hb) | (go_at_call 46; (with_reducible refine (HC.out _).mono ?_); rintro e w' ⟨A, n', c', hn, rfl, hb, ho⟩; obtain rfl : n' = n := (by omega); clear ho hn; obtain ⟨hc, hf⟩ := bcell hb; have hz := hb.size; (try simp at hz); (try have hz0 : w.heap.size < w'.heap.size := by omega); (try have hz1 : w.heap.size + 1 < w'.heap.size := by omega); (try have hz2 : w.heap.size + 2 < w'.heap.size := by omega); have HB := hid (below_call (w := w) (by repeat (first | exact Below.refl _ _ | exact HB.out | apply below_alloc' | apply Below.drew | apply below_drewN')) hb); obtain ⟨hcw, hfw⟩ := bcell HB.out; clear hb))))
    all_goals ((try first | go_ret | go_ret2 | go_ret3); try go_simp)
    all_goals ((with_reducible refine retB_ii ?_ (by repeat (first | exact Below.refl _ _ | exact HB.out | (refine Below.setCell ?_ (by simp) _) | apply below_alloc' | apply Below.drew | apply below_drewN'))); rw [HE.out, HM.out, HQ.out])
def rquickV (n fuel p : Int) : Int := ((n + p - 1) / p) * (fuel + 2 * p + 3)
def rquickN (j : Job) (c : Config) : Int × Int :=
  if jobValid j ≠ 0 then (0, jobValid j) else if rightErr c ≠ 0 then (0, rightErr c) else (rquickV j.many j.fuel (wideN c), 0)
theorem times_is {t : Nat} {s p n : Int} (hp : 1 ≤ p) (hs : s = t * p) (h0 : t = 0 ∨ s - p < n) (h1 : n ≤ s) (hn : 0 ≤ n) : (n + p - 1) / p = t := by
  have h0' : s - p < n := by
    rcases h0 with rfl | h0
    · simp at hs; omega
    · exact h0
  have ha : (t : Int) ≤ (n + p - 1) / p := (Int.le_ediv_iff_mul_le (by omega)).2 (by omega)
  have hb : (n + p - 1) / p < (t : Int) + 1 := (Int.ediv_lt_iff_lt_mul (by omega)).2 (by rw [Int.add_mul]; omega)
  omega
set_option maxRecDepth 100000 in
set_option maxHeartbeats 1000000 in
theorem rquick_calls (j : Job) (a : JobA) (c : Config) (w : World) (B : Nat) (hB0 : B ≤ w.heap.size) (hj : JobMem w B j a) (ho : j.ok) (hcap : j.cells.length ≤ a.cc) :
    Calls Try.prog 12 #[.agg #[.int .i64 j.words, .slice a.Ac j.cells.length a.cc, .slice a.Ar j.reds.length a.cr, .int .i64 j.fuel, .int .i64 j.kind, .int .i64 j.lo, .int .i64 j.hi, .int .i64 j.step, .int .i64 j.items, .int .i64 j.stages, .slice a.Ak j.codes.length a.ck], c.val] w (RetB (.tuple #[.int .i64 (rquickN j c).1, .int .i64 (rquickN j c).2]) w) := by
  have HB0 := hid (fun W (hW : Below w.heap.size w W) => rbound_calls j a c 0 W B (Nat.le_trans hB0 hW.size) (hj.below (hW.mono hB0)) ho hcap (by omega))
  obtain ⟨o1, o2, o3, o4, o5, o6, o7, o8, o9, o10, o11⟩ := ho
  by_cases h0 : jobValid j ≠ 0 ∨ rightErr c ≠ 0
  · obtain ⟨er, her, hb, hq⟩ : ∃ er, er ≠ 0 ∧ rboundN j c 0 = (0, er) ∧ rquickN j c = (0, er) := by
      by_cases h1 : jobValid j = 0
      · have h2 : rightErr c ≠ 0 := by rcases h0 with h | h; exact absurd h1 h; exact h
        exact ⟨_, h2, by unfold rboundN; rw [if_neg (by simpa using h1), if_pos h2], by unfold rquickN; rw [if_neg (by simpa using h1), if_pos h2]⟩
      · exact ⟨_, h1, if_pos h1, if_pos h1⟩
    have HE := hid hq
    rw [hb] at HB0
    have h1' := int_eta her
    clear h0 her hb hq o1 o2 o3 o4 o5 o6 o7 o8 o9 o10 o11 hj
    unfold Config.val at *
    go_enter Try.func12, Try.ntmps12
    go_wp2_with (first | (go_at_call 14; (with_reducible refine (HB0.out _ (by repeat (first | exact Below.refl _ _ | exact HB.out | apply below_alloc' | apply Below.drew | apply below_drewN'))).mono ?_); rintro e w' ⟨rfl, hb⟩; obtain ⟨hc, hf⟩ := bcell hb; have hz := hb.size; (try simp at hz); (try have hz0 : w.heap.size < w'.heap.size := by omega); (try have hz1 : w.heap.size + 1 < w'.heap.size := by omega); (try have hz2 : w.heap.size + 2 < w'.heap.size := by omega); have HB := hid (below_call (w := w) (by repeat (first | exact Below.refl _ _ | exact HB.out | apply below_alloc' | apply Below.drew | apply below_drewN')) hb); obtain ⟨hcw, hfw⟩ := bcell HB.out; clear hb))
    (repeat' (go_quiet (fail); go_wp2_with (first | (go_at_call 14; (with_reducible refine (HB0.out _ (by repeat (first | exact Below.refl _ _ | exact HB.out | apply below_alloc' | apply Below.drew | apply below_drewN'))).mono ?_); rintro e w' ⟨rfl, hb⟩; obtain ⟨hc, hf⟩ := bcell hb; have hz := hb.size; (try simp at hz); (try have hz0 : w.heap.size < w'.heap.size := by omega); (try have hz1 : w.heap.size + 1 < w'.heap.size := by omega); (try have hz2 : w.heap.size + 2 < w'.heap.size := by omega); have HB := hid (below_call (w := w) (by repeat (first | exact Below.refl _ _ | exact HB.out | apply below_alloc' | apply Below.drew | apply below_drewN')) hb); obtain ⟨hcw, hfw⟩ := bcell HB.out; clear hb))))
    all_goals ((try first | go_ret | go_ret2 | go_ret3); try go_simp)
    all_goals ((with_reducible refine retB_ii ?_ (by repeat (first | exact Below.refl _ _ | exact HB.out | (refine Below.setCell ?_ (by simp) _) | apply below_alloc' | apply Below.drew | apply below_drewN'))); rw [HE.out])
  have h1 : jobValid j = 0 := by apply Decidable.byContradiction; intro h; exact h0 (.inl h)
  have h2 : rightErr c = 0 := by apply Decidable.byContradiction; intro h; exact h0 (.inr h)
  obtain ⟨f1, f2, f3⟩ := valid_fuel h1
  obtain ⟨⟨p1, p2⟩, ⟨q1, q2⟩, r1, r2⟩ := right_facts h2
  obtain ⟨bv, hb⟩ : ∃ bv, rboundN j c 0 = (bv, 0) := ⟨_, by unfold rboundN; rw [if_neg (by simpa using h1), if_neg (by simpa using h2)]⟩
  have HE : Hid (rquickN j c = (rquickV j.many j.fuel (wideN c), 0)) := (show rquickN j c = _ by unfold rquickN; rw [if_neg (by simpa using h1), if_neg (by simpa using h2)])
  rw [hb] at HB0
  have HC := hid (fun W => tasks_okc j.kind j.lo j.hi j.step j.items j.stages W o3 o4 o5 o6 o7 f3)
  have hcr := count_range j.kind j.lo j.hi j.step j.items j.stages
  obtain ⟨n, hn⟩ := Int.eq_ofNat_of_zero_le hcr.1
  have HM : Hid (j.many = n) := hn
  rw [hn] at HC hcr
  obtain ⟨n1, n2, -⟩ := hcr
  clear o1 o2 o3 o4 o5 o6 o7 o8 o9 o10 o11
  rcases wide_cases c with ⟨hw, hwe⟩ | ⟨hw, hwe⟩
  all_goals
    have HW := hid hwe
    clear hwe
  ·
    have hp1 : 1 ≤ c.window := by omega
    have hp2 : c.window ≤ 8 := by omega
    clear h0 h1 h2 f3 hn hb hj
    unfold Config.val at *
    go_enter Try.func12, Try.ntmps12
    go_wp2_with (first | (go_at_call 14; (with_reducible refine (HB0.out _ (by repeat (first | exact Below.refl _ _ | exact HB.out | apply below_alloc' | apply Below.drew | apply below_drewN'))).mono ?_); rintro e w' ⟨rfl, hb⟩; obtain ⟨hc, hf⟩ := bcell hb; have hz := hb.size; (try simp at hz); (try have hz0 : w.heap.size < w'.heap.size := by omega); (try have hz1 : w.heap.size + 1 < w'.heap.size := by omega); (try have hz2 : w.heap.size + 2 < w'.heap.size := by omega); have HB := hid (below_call (w := w) (by repeat (first | exact Below.refl _ _ | exact HB.out | apply below_alloc' | apply Below.drew | apply below_drewN')) hb); obtain ⟨hcw, hfw⟩ := bcell HB.out; clear hb) | (go_at_call 46; (with_reducible refine (HC.out _).mono ?_); rintro e w' ⟨A, n', c', hn, rfl, hb, ho⟩; obtain rfl : n = n' := (by omega); clear ho hn; obtain ⟨hc, hf⟩ := bcell hb; have hz := hb.size; (try simp at hz); (try have hz0 : w.heap.size < w'.heap.size := by omega); (try have hz1 : w.heap.size + 1 < w'.heap.size := by omega); (try have hz2 : w.heap.size + 2 < w'.heap.size := by omega); have HB := hid (below_call (w := w) (by repeat (first | exact Below.refl _ _ | exact HB.out | apply below_alloc' | apply Below.drew | apply below_drewN')) hb); obtain ⟨hcw, hfw⟩ := bcell HB.out; clear hb))
    (repeat' (go_quiet (fail); go_wp2_with (first | (go_at_call 14; (with_reducible refine (HB0.out _ (by repeat (first | exact Below.refl _ _ | exact HB.out | apply below_alloc' | apply Below.drew | apply below_drewN'))).mono ?_); rintro e w' ⟨rfl, hb⟩; obtain ⟨hc, hf⟩ := bcell hb; have hz := hb.size; (try simp at hz); (try have hz0 : w.heap.size < w'.heap.size := by omega); (try have hz1 : w.heap.size + 1 < w'.heap.size := by omega); (try have hz2 : w.heap.size + 2 < w'.heap.size := by omega); have HB := hid (below_call (w := w) (by repeat (first | exact Below.refl _ _ | exact HB.out | apply below_alloc' | apply Below.drew | apply below_drewN')) hb); obtain ⟨hcw, hfw⟩ := bcell HB.out; clear hb) | (go_at_call 46; (with_reducible refine (HC.out _).mono ?_); rintro e w' ⟨A, n', c', hn, rfl, hb, ho⟩; obtain rfl : n = n' := (by omega); clear ho hn; obtain ⟨hc, hf⟩ := bcell hb; have hz := hb.size; (try simp at hz); (try have hz0 : w.heap.size < w'.heap.size := by omega); (try have hz1 : w.heap.size + 1 < w'.heap.size := by omega); (try have hz2 : w.heap.size + 2 < w'.heap.size := by omega); have HB := hid (below_call (w := w) (by repeat (first | exact Below.refl _ _ | exact HB.out | apply below_alloc' | apply Below.drew | apply below_drewN')) hb); obtain ⟨hcw, hfw⟩ := bcell HB.out; clear hb))))
    go_loop [11] (fun v11 => ∃ (t : Nat) (s : Int), v11 = .int .i64 t ∧ t ≤ 200 ∧ 0 ≤ s ∧ s ≤ 300 ∧ Hid (s = t * c.window) ∧ Hid (t = 0 ∨ s - c.window < n)) (fun v11 => 201 - (intOf v11).toNat)
    case atStart => exact ⟨0, 0, rfl, by omega, by omega, by omega, hid (by simp), hid (.inl rfl)⟩
    case round =>
      obtain ⟨t, s, rfl, ht, hs0, hs1, HS, HT⟩ := hrel
      have e1 : wrap64 ((t : Int) * c.window) = s := by rw [← HS.out]; unfold wrap64; omega
      have hts : (t : Int) ≤ s := by have := Int.mul_le_mul_of_nonneg_left hp1 (by omega : (0 : Int) ≤ t); have := HS.out; omega
      by_cases hlt : s < n
      · go_wp2_with fail
        go_round
        case rel => exact ⟨t + 1, s + c.window, by go_num, by omega, by omega, by omega, hid (by rw [HS.out, Int.natCast_add, Int.add_mul]; omega), hid (.inr (by omega))⟩
        case measure => simp [intOf]; omega
      · have HQ := hid (times_is hp1 HS.out HT.out (by omega) (by omega))
        have hpr := mul_in (A := 200) (B := 4019) (show (0 : Int) ≤ t by omega) (by omega) (show 0 ≤ j.fuel + 2 * c.window + 3 by omega) (by omega)
        have HR : Hid (rquickV n j.fuel c.window = t * (j.fuel + 2 * c.window + 3)) := (show rquickV n j.fuel c.window = _ by unfold rquickV; rw [HQ.out])
        obtain ⟨q, hq⟩ : ∃ q, (t : Int) * (j.fuel + 2 * c.window + 3) = q := ⟨_, rfl⟩
        rw [hq] at hpr HR
        have e3 : wrap64 ((t : Int) * (j.fuel + 2 * c.window + 3)) = q := by rw [hq]; unfold wrap64; omega
        clear hq
        go_wp2_with fail
        all_goals ((try first | go_ret | go_ret2 | go_ret3); try go_simp)
        all_goals ((with_reducible refine retB_ii ?_ (by repeat (first | exact Below.refl _ _ | exact HB.out | (refine Below.setCell ?_ (by simp) _) | apply below_alloc' | apply Below.drew | apply below_drewN'))); rw [HE.out, HM.out, HW.out, HR.out])
  ·
    have hp1 : 1 ≤ c.workers := by omega
    have hp2 : c.workers ≤ 8 := by omega
    clear h0 h1 h2 f3 hn hb hj
    unfold Config.val at *
    go_enter Try.func12, Try.ntmps12
    go_wp2_with (first | (go_at_call 14; (with_reducible refine (HB0.out _ (by repeat (first | exact Below.refl _ _ | exact HB.out | apply below_alloc' | apply Below.drew | apply below_drewN'))).mono ?_); rintro e w' ⟨rfl, hb⟩; obtain ⟨hc, hf⟩ := bcell hb; have hz := hb.size; (try simp at hz); (try have hz0 : w.heap.size < w'.heap.size := by omega); (try have hz1 : w.heap.size + 1 < w'.heap.size := by omega); (try have hz2 : w.heap.size + 2 < w'.heap.size := by omega); have HB := hid (below_call (w := w) (by repeat (first | exact Below.refl _ _ | exact HB.out | apply below_alloc' | apply Below.drew | apply below_drewN')) hb); obtain ⟨hcw, hfw⟩ := bcell HB.out; clear hb) | (go_at_call 46; (with_reducible refine (HC.out _).mono ?_); rintro e w' ⟨A, n', c', hn, rfl, hb, ho⟩; obtain rfl : n = n' := (by omega); clear ho hn; obtain ⟨hc, hf⟩ := bcell hb; have hz := hb.size; (try simp at hz); (try have hz0 : w.heap.size < w'.heap.size := by omega); (try have hz1 : w.heap.size + 1 < w'.heap.size := by omega); (try have hz2 : w.heap.size + 2 < w'.heap.size := by omega); have HB := hid (below_call (w := w) (by repeat (first | exact Below.refl _ _ | exact HB.out | apply below_alloc' | apply Below.drew | apply below_drewN')) hb); obtain ⟨hcw, hfw⟩ := bcell HB.out; clear hb))
    (repeat' (go_quiet (fail); go_wp2_with (first | (go_at_call 14; (with_reducible refine (HB0.out _ (by repeat (first | exact Below.refl _ _ | exact HB.out | apply below_alloc' | apply Below.drew | apply below_drewN'))).mono ?_); rintro e w' ⟨rfl, hb⟩; obtain ⟨hc, hf⟩ := bcell hb; have hz := hb.size; (try simp at hz); (try have hz0 : w.heap.size < w'.heap.size := by omega); (try have hz1 : w.heap.size + 1 < w'.heap.size := by omega); (try have hz2 : w.heap.size + 2 < w'.heap.size := by omega); have HB := hid (below_call (w := w) (by repeat (first | exact Below.refl _ _ | exact HB.out | apply below_alloc' | apply Below.drew | apply below_drewN')) hb); obtain ⟨hcw, hfw⟩ := bcell HB.out; clear hb) | (go_at_call 46; (with_reducible refine (HC.out _).mono ?_); rintro e w' ⟨A, n', c', hn, rfl, hb, ho⟩; obtain rfl : n = n' := (by omega); clear ho hn; obtain ⟨hc, hf⟩ := bcell hb; have hz := hb.size; (try simp at hz); (try have hz0 : w.heap.size < w'.heap.size := by omega); (try have hz1 : w.heap.size + 1 < w'.heap.size := by omega); (try have hz2 : w.heap.size + 2 < w'.heap.size := by omega); have HB := hid (below_call (w := w) (by repeat (first | exact Below.refl _ _ | exact HB.out | apply below_alloc' | apply Below.drew | apply below_drewN')) hb); obtain ⟨hcw, hfw⟩ := bcell HB.out; clear hb))))
    go_loop [11] (fun v11 => ∃ (t : Nat) (s : Int), v11 = .int .i64 t ∧ t ≤ 200 ∧ 0 ≤ s ∧ s ≤ 300 ∧ Hid (s = t * c.workers) ∧ Hid (t = 0 ∨ s - c.workers < n)) (fun v11 => 201 - (intOf v11).toNat)
    case atStart => exact ⟨0, 0, rfl, by omega, by omega, by omega, hid (by simp), hid (.inl rfl)⟩
    case round =>
      obtain ⟨t, s, rfl, ht, hs0, hs1, HS, HT⟩ := hrel
      have e1 : wrap64 ((t : Int) * c.workers) = s := by rw [← HS.out]; unfold wrap64; omega
      have hts : (t : Int) ≤ s := by have := Int.mul_le_mul_of_nonneg_left hp1 (by omega : (0 : Int) ≤ t); have := HS.out; omega
      by_cases hlt : s < n
      · go_wp2_with fail
        go_round
        case rel => exact ⟨t + 1, s + c.workers, by go_num, by omega, by omega, by omega, hid (by rw [HS.out, Int.natCast_add, Int.add_mul]; omega), hid (.inr (by omega))⟩
        case measure => simp [intOf]; omega
      · have HQ := hid (times_is hp1 HS.out HT.out (by omega) (by omega))
        have hpr := mul_in (A := 200) (B := 4019) (show (0 : Int) ≤ t by omega) (by omega) (show 0 ≤ j.fuel + 2 * c.workers + 3 by omega) (by omega)
        have HR : Hid (rquickV n j.fuel c.workers = t * (j.fuel + 2 * c.workers + 3)) := (show rquickV n j.fuel c.workers = _ by unfold rquickV; rw [HQ.out])
        obtain ⟨q, hq⟩ : ∃ q, (t : Int) * (j.fuel + 2 * c.workers + 3) = q := ⟨_, rfl⟩
        rw [hq] at hpr HR
        have e3 : wrap64 ((t : Int) * (j.fuel + 2 * c.workers + 3)) = q := by rw [hq]; unfold wrap64; omega
        clear hq
        go_wp2_with fail
        all_goals ((try first | go_ret | go_ret2 | go_ret3); try go_simp)
        all_goals ((with_reducible refine retB_ii ?_ (by repeat (first | exact Below.refl _ _ | exact HB.out | (refine Below.setCell ?_ (by simp) _) | apply below_alloc' | apply Below.drew | apply below_drewN'))); rw [HE.out, HM.out, HW.out, HR.out])
end Go.Proofs.Ytcadbfggaipnhaa
