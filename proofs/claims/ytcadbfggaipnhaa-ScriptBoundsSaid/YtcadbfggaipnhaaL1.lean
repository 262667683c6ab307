/- The plain law of ScriptBounds; Great. -/
import Derived.Test.YtcadbfggaipnhaaR8
import Derived.Test.YtcadbfggaipnhaaA10
namespace Go.Proofs.Ytcadbfggaipnhaa
open Go.RowKit
set_option linter.unusedSimpArgs false
set_option linter.unusedVariables false
theorem times_small {a b : Int} (ha : 0 ≤ a) (hb : 0 ≤ b) (h : a * b ≤ 9223372036854775807) : times a b = a * b := by
  rcases Int.lt_or_le 0 a with h0 | h0
  · rw [times_pp h0 hb, if_neg]
    have := (Int.le_ediv_iff_mul_le (a := b) (b := 9223372036854775807) h0).2 (by rw [Int.mul_comm]; exact h)
    omega
  · rw [times_z (.inl h0)]
    obtain rfl : a = 0 := by omega
    simp
theorem plus_small {a b : Int} (ha : 0 ≤ a) (hb : 0 ≤ b) (h : a + b ≤ 9223372036854775807) : plus a b = a + b := by
  rw [plus_pp ha hb, if_neg (by omega)]
theorem many_range (j : Job) : 0 ≤ j.many ∧ j.many ≤ 200 := by
  have := count_range j.kind j.lo j.hi j.step j.items j.stages
  exact ⟨this.1, this.2.1⟩
theorem boundV_eq {n f r ab : Int} (hn : 0 ≤ n ∧ n ≤ 200) (hf : 1 ≤ f ∧ f ≤ 4000) (hr : 0 ≤ r ∧ r ≤ 9) (hab : ab ≤ 1048576) : boundV n f r ab = rboundV n f r ab := by
  unfold boundV rboundV
  have h1 := mul_in (A := 200) (B := 12) hn.1 hn.2 (show 0 ≤ r + 3 by omega) (by omega)
  rw [plus_small (a := f) (b := 3) (by omega) (by omega) (by omega), times_small hn.1 (by omega) (by omega)]
  generalize n * (r + 3) = p at *
  have h2 := mul_in (A := 2400) (B := 4003) h1.1 h1.2 (show 0 ≤ f + 3 by omega) (by omega)
  rw [times_small h1.1 (by omega) (by omega)]
  have h3 := mul_in (A := 1048576) (B := 4003) (show 0 ≤ max ab 0 by omega) (by omega) (show 0 ≤ f + 3 by omega) (by omega)
  have e : times ab (f + 3) = max ab 0 * (f + 3) := by
    rcases Int.le_total ab 0 with h | h
    · rw [times_z (.inl h), Int.max_eq_right h]; simp
    · rw [Int.max_eq_left h] at h3 ⊢
      exact times_small h (by omega) (by omega)
  rw [e, plus_small (by omega) (by omega) (by omega), Int.add_mul]
theorem quickV_eq {n f p : Int} (hn : 0 ≤ n ∧ n ≤ 200) (hf : 1 ≤ f ∧ f ≤ 4000) (hp : 1 ≤ p ∧ p ≤ 8) : quickV n f p = rquickV n f p := by
  unfold quickV rquickV
  have hd := ediv_small (a := n + p - 1) (b := p) (n := n + p - 1) (by omega) (Int.le_refl _) hp.1
  rw [plus_small (by omega) (by omega) (by omega)]
  generalize (n + p - 1) / p = t at *
  have h1 := mul_in (A := 207) (B := 4019) hd.1 (by omega) (show 0 ≤ f + (2 * p + 3) by omega) (by omega)
  rw [times_small hd.1 (by omega) (by omega)]
  congr 1
  omega
theorem wide_range {c : Config} (h : rightErr c = 0) : 1 ≤ wideN c ∧ wideN c ≤ 8 := by
  obtain ⟨h1, h2, h3⟩ := right_facts h
  rcases wide_cases c with ⟨a, e⟩ | ⟨a, e⟩ <;> omega
theorem sel0 {a b : Int} {x y z : Int × Int} (h1 : a = 0) (h2 : b = 0) : (if a ≠ 0 then x else if b ≠ 0 then y else z) = z := by rw [if_neg (not_not_intro h1), if_neg (not_not_intro h2)]
theorem sel1 {a b : Int} {x y z : Int × Int} (h1 : a = 0) (h2 : b ≠ 0) : (if a ≠ 0 then x else if b ≠ 0 then y else z) = y := by rw [if_neg (not_not_intro h1), if_pos h2]
theorem law_quick (j : Job) (c : Config) : quickN j c = rquickN j c := by
  unfold quickN rquickN
  by_cases h1 : jobValid j = 0
  · by_cases h2 : rightErr c = 0
    · rw [sel0 h1 h2, sel0 h1 h2]
      obtain ⟨f1, f2, f3⟩ := valid_fuel h1
      rw [quickV_eq (many_range j) ⟨f1, f2⟩ (wide_range h2)]
    · rw [sel1 h1 h2, sel1 h1 h2]
  · rw [if_pos h1, if_pos h1]
theorem law_bound (j : Job) (c : Config) (ab : Int) (hab : ab ≤ 1048576) : boundN j c ab = rboundN j c ab := by
  unfold boundN rboundN
  by_cases h1 : jobValid j = 0
  · by_cases h2 : rightErr c = 0
    · rw [sel0 h1 h2, sel0 h1 h2]
      obtain ⟨f1, f2, f3⟩ := valid_fuel h1
      obtain ⟨-, -, r1, r2⟩ := right_facts h2
      rw [boundV_eq (many_range j) ⟨f1, f2⟩ ⟨r1, r2⟩ hab]
    · rw [sel1 h1 h2, sel1 h1 h2]
  · rw [if_pos h1, if_pos h1]
/-- more aborts than 2^20: an error of both, or what the law asks -/
theorem law_far (j : Job) (c : Config) (ab : Int) (h0 : 1048576 < ab) (hab : ab ≤ 9223372036854775807) :
    (∃ er, er ≠ 0 ∧ boundN j c ab = (0, er) ∧ rboundN j c 1048576 = (0, er)) ∨
    (∃ a b, boundN j c ab = (a, 0) ∧ rboundN j c 1048576 = (b, 0) ∧ (1099511627776 ≤ ab → b < a) ∧ (4611686018427387904 ≤ ab → a = 9223372036854775807)) := by
  unfold boundN rboundN
  by_cases h1 : jobValid j = 0
  case neg => exact .inl ⟨_, h1, if_pos h1, if_pos h1⟩
  by_cases h2 : rightErr c = 0
  case neg => exact .inl ⟨_, h2, sel1 h1 h2, sel1 h1 h2⟩
  rw [sel0 h1 h2, sel0 h1 h2]
  obtain ⟨f1, f2, f3⟩ := valid_fuel h1
  obtain ⟨-, -, r1, r2⟩ := right_facts h2
  have hn := many_range j
  refine .inr ⟨_, _, rfl, rfl, ?_, ?_⟩
  · intro h
    have hb : rboundV j.many j.fuel c.retry 1048576 ≤ 1050976 * 4003 := by
      unfold rboundV
      have h1 := mul_in (A := 200) (B := 12) hn.1 hn.2 (show 0 ≤ c.retry + 3 by omega) (by omega)
      generalize j.many * (c.retry + 3) = p at *
      exact (mul_in (show 0 ≤ p + max 1048576 0 by omega) (by omega) (show 0 ≤ j.fuel + 3 by omega) (by omega)).2
    have ha : 4398046511104 ≤ boundV j.many j.fuel c.retry ab := by
      unfold boundV
      have ht : 4398046511104 ≤ times ab (plus j.fuel 3) := by
        rw [plus_small (by omega) (by omega) (by omega), times_pp (by omega) (by omega)]
        by_cases hq : 9223372036854775807 / ab < j.fuel + 3
        · rw [if_pos hq]; omega
        · rw [if_neg hq]
          have := Int.mul_le_mul (show 1099511627776 ≤ ab by omega) (show 4 ≤ j.fuel + 3 by omega) (by omega) (by omega)
          omega
      have := times_range (a := times j.many (c.retry + 3)) (b := plus j.fuel 3)
      generalize times (times j.many (c.retry + 3)) (plus j.fuel 3) = x at *
      have h3 := times_range (a := ab) (b := plus j.fuel 3)
      generalize times ab (plus j.fuel 3) = y at *
      rw [plus_pp this.1 (by omega)]
      split <;> omega
    omega
  · intro h
    unfold boundV
    have ht : times ab (plus j.fuel 3) = 9223372036854775807 := by
      rw [plus_small (by omega) (by omega) (by omega), times_pp (by omega) (by omega), if_pos]
      have : 9223372036854775807 / ab < 4 := (Int.ediv_lt_iff_lt_mul (by omega)).2 (by omega)
      omega
    rw [ht]
    have := times_range (a := times j.many (c.retry + 3)) (b := plus j.fuel 3)
    generalize times (times j.many (c.retry + 3)) (plus j.fuel 3) = x at *
    rw [plus_pp this.1 (by omega)]
    split <;> omega
def greatB (j : Job) : Bool := decide (200 < j.cells.length) || decide (50 < j.reds.length) || decide (50 < j.codes.length) || j.codes.any (fun c => decide (700 < c.length))
theorem great_yes {j : Job} (h : 200 < j.cells.length ∨ 50 < j.reds.length ∨ 50 < j.codes.length) : greatB j = true := by
  unfold greatB; simp; omega
theorem great_one {j : Job} {k : Nat} (hk : k < j.codes.length) (h : 700 < (nth j.codes k).length) : greatB j = true := by
  unfold greatB
  rw [Bool.or_eq_true]
  refine .inr ?_
  rw [List.any_eq_true]
  exact ⟨_, List.getElem_mem hk, by rw [← nth_eq hk]; simpa using h⟩
theorem great_no {j : Job} (h1 : j.cells.length ≤ 200) (h2 : j.reds.length ≤ 50) (h3 : j.codes.length ≤ 50) (h : ∀ k, k < j.codes.length → (nth j.codes k).length ≤ 700) : greatB j = false := by
  unfold greatB
  have : j.codes.any (fun c => decide (700 < c.length)) = false := by
    rw [List.any_eq_false]
    intro x hx
    obtain ⟨k, hk, rfl⟩ := List.getElem_of_mem hx
    have := h k hk
    rw [nth_eq hk] at this
    simp; omega
  rw [this]; simp; omega
theorem retB_b' {a b : Bool} {w w' : World} (h : b = a) (hb : Below w.heap.size w w') : RetB (.bool a) w (.returned (.bool b)) w' := by subst h; exact ⟨rfl, hb⟩
set_option maxRecDepth 100000 in
set_option maxHeartbeats 2000000 in
theorem great17_calls (j : Job) (a : JobA) (w : World) (B : Nat) (hB0 : B ≤ w.heap.size) (hj : JobMem w B j a) (ho : j.ok) :
    Calls Try.prog 21 #[.agg #[.int .i64 j.words, .slice a.Ac j.cells.length a.cc, .slice a.Ar j.reds.length a.cr, .int .i64 j.fuel, .int .i64 j.kind, .int .i64 j.lo, .int .i64 j.hi, .int .i64 j.step, .int .i64 j.items, .int .i64 j.stages, .slice a.Ak j.codes.length a.ck]] w (RetB (.bool (greatB j)) w) := by
  obtain ⟨Ac, cc, Ar, cr, Ak, ck, Aq, cq⟩ := a
  dsimp only
  obtain ⟨m1, m2, m3, m4⟩ := hj
  dsimp only at m1 m2 m3 m4
  obtain ⟨-, -, -, -, -, -, -, o8, o9, o10, o11⟩ := ho
  have M3 := hid m3
  have O11 := hid o11
  clear m1 m2 m3 m4 o11
  by_cases hg : 200 < j.cells.length ∨ 50 < j.reds.length ∨ 50 < j.codes.length
  · have HV := hid (great_yes hg)
    rcases hg with h | h | h
    all_goals
      go_enter Try.func21, Try.ntmps21
      go_wp2_with (first | fail)
      (repeat' (go_quiet (fail); go_wp2_with (first | fail)))
      all_goals ((try first | go_ret | go_ret2 | go_ret3); try go_simp)
      all_goals ((with_reducible refine retB_b' ?_ (by repeat (first | exact Below.refl _ _ | exact HB.out | (refine Below.setCell ?_ (by simp) _) | apply below_alloc' | apply Below.drew | apply below_drewN'))); rw [HV.out])
  have h1 : j.cells.length ≤ 200 := by omega
  have h2 : j.reds.length ≤ 50 := by omega
  have h3 : j.codes.length ≤ 50 := by omega
  clear hg
  have HNO := hid (great_no h1 h2 h3)
  have HYES := hid (fun k => great_one (j := j) (k := k))
  go_enter Try.func21, Try.ntmps21
  go_wp2_with (first | fail)
  (repeat' (go_quiet (fail); go_wp2_with (first | fail)))
  go_loopw [2, 3] (fun v2 v3 wr => ∃ k : Nat, k ≤ j.codes.length ∧ v3 = .int .i64 k ∧ v2 = .bool false ∧ Hid (Below w.heap.size w wr) ∧ Hid (wr.heap[w.heap.size]? = some (.cells #[.int .i64 j.words, .slice Ac j.cells.length cc, .slice Ar j.reds.length cr, .int .i64 j.fuel, .int .i64 j.kind, .int .i64 j.lo, .int .i64 j.hi, .int .i64 j.step, .int .i64 j.items, .int .i64 j.stages, .slice Ak j.codes.length ck] 29 (0, 0))) ∧ Hid (∀ i, i < k → (nth j.codes i).length ≤ 700)) (fun _ v3 _ => j.codes.length - (intOf v3).toNat)
  case atStart => exact ⟨0, by omega, rfl, rfl, hid (by repeat (first | exact Below.refl _ _ | exact HB.out | apply below_alloc' | apply Below.drew | apply below_drewN')), hid (blk_new w _), hid (fun i hi => by omega)⟩
  case round =>
    obtain ⟨k, hk, rfl, rfl, HB, HJ, HP⟩ := hrel
    obtain ⟨hcw, hfw⟩ := bcell HB.out
    have hsz := HB.out.size
    have hgl := blk_lt HJ.out
    have hx5 := blk_cell HJ.out 10
    simp at hx5
    by_cases hlt : k < j.codes.length
    · obtain ⟨b, off, rfl, hb, hcc⟩ := M3.out.open_ (by omega)
      have hc0 := hcc k 0 _ hlt rfl
      simp at hc0
      have hbw : b < w.heap.size := by omega
      clear hcc
      have hl7 := O11.out k hlt
      by_cases hq : 700 < (nth j.codes k).length
      · have HV := hid (HYES.out k hlt hq)
        go_wp2_with fail
        all_goals ((try first | go_ret | go_ret2 | go_ret3); try go_simp)
        all_goals ((with_reducible refine retB_b' ?_ (by repeat (first | exact Below.refl _ _ | exact HB.out | (refine Below.setCell ?_ (by simp) _) | apply below_alloc' | apply Below.drew | apply below_drewN'))); rw [HV.out])
      · have HQ := hid (show (nth j.codes k).length ≤ 700 by omega)
        go_wp2_with fail
        all_goals
          go_roundw
          case rel => exact ⟨k + 1, by omega, by go_num, rfl, HB, HJ, hid (fun i hi => (by rcases Nat.lt_or_ge i k with h | h; exact HP.out i h; obtain rfl : i = k := (by omega); exact HQ.out))⟩
          case measure => (simp [intOf]; try omega)
    · have HV := hid (HNO.out (fun i hi => HP.out i (by omega)))
      go_wp2_with fail
      all_goals ((try first | go_ret | go_ret2 | go_ret3); try go_simp)
      all_goals ((with_reducible refine retB_b' ?_ (by repeat (first | exact Below.refl _ _ | exact HB.out | (refine Below.setCell ?_ (by simp) _) | apply below_alloc' | apply Below.drew | apply below_drewN'))); rw [HV.out])
end Go.Proofs.Ytcadbfggaipnhaa
