/- outriderref17.Right, Valid. -/
import Derived.Test.YtcadbfggaipnhaaR2
import Derived.Test.YtcadbfggaipnhaaR5
import Derived.Test.YtcadbfggaipnhaaR6
import Derived.Test.YtcadbfggaipnhaaS2
namespace Go.Proofs.Ytcadbfggaipnhaa
open Go.RowKit
set_option linter.unusedSimpArgs false
set_option linter.unusedVariables false
set_option maxHeartbeats 400000 in
theorem out17_calls (n lo hi : Int) (w : World) : Calls Try.prog 99 #[.int .i64 n, .int .i64 lo, .int .i64 hi] w (Ret (.bool (out1 n lo hi)) w) := by
  by_cases h : n < lo
  · have HV : Hid (out1 n lo hi = true) := (show out1 n lo hi = true by unfold out1; simp [h])
    go_enter Try.func99, Try.ntmps99
    go_wp2_with (first | fail)
    (repeat' (go_quiet (fail); go_wp2_with (first | fail)))
    all_goals ((try first | go_ret | go_ret2 | go_ret3); try go_simp)
    all_goals ((with_reducible refine ret_bool ?_); rw [HV.out]; try simp; try omega)
  · by_cases h2 : hi < n
    · have HV : Hid (out1 n lo hi = true) := (show out1 n lo hi = true by unfold out1; simp [h2])
      go_enter Try.func99, Try.ntmps99
      go_wp2_with (first | fail)
      (repeat' (go_quiet (fail); go_wp2_with (first | fail)))
      all_goals ((try first | go_ret | go_ret2 | go_ret3); try go_simp)
      all_goals ((with_reducible refine ret_bool ?_); rw [HV.out]; try simp; try omega)
    · have HV : Hid (out1 n lo hi = false) := (show out1 n lo hi = false by unfold out1; simp [h, h2]; try omega)
      go_enter Try.func99, Try.ntmps99
      go_wp2_with (first | fail)
      (repeat' (go_quiet (fail); go_wp2_with (first | fail)))
      all_goals ((try first | go_ret | go_ret2 | go_ret3); try go_simp)
      all_goals ((with_reducible refine ret_bool ?_); rw [HV.out]; try simp; try omega)
theorem right_eq (c : Config) : rightErr c = if out1 c.workers 1 8 then 162 else if out1 c.policy 1 3 then 160 else if out1 c.chunk 1 200 then 161
  else if out1 c.window 1 32 then 172 else if out1 c.reads 1 64 then 172 else if out1 c.writes 1 64 then 172 else if out1 c.outs 1 64 then 172 else if out1 c.arena 1 512 then 172 else if out1 c.edges 1 512 then 172 else if out1 c.retry 0 9 then 172 else 0 := by
  have e : (List.range 6).any (limBad c) = (out1 c.window 1 32 || out1 c.reads 1 64 || out1 c.writes 1 64 || out1 c.outs 1 64 || out1 c.arena 1 512 || out1 c.edges 1 512) := by
    simp [List.range, List.range.loop, limBad, limAt, Bool.or_assoc]
  unfold rightErr
  rw [e]
  cases out1 c.workers 1 8 <;> cases out1 c.policy 1 3 <;> cases out1 c.chunk 1 200 <;> (try simp)
  cases out1 c.window 1 32 <;> cases out1 c.reads 1 64 <;> cases out1 c.writes 1 64 <;> cases out1 c.outs 1 64 <;> cases out1 c.arena 1 512 <;> simp
set_option maxRecDepth 100000 in
set_option maxHeartbeats 1000000 in
theorem right17_calls (c : Config) (w : World) : Calls Try.prog 50 #[c.val] w (RetB (.int .i64 (rightErr c)) w) := by
  have HV := hid (right_eq c)
  unfold Config.val
  go_enter Try.func50, Try.ntmps50
  go_wp2_with (first | (go_at_call 99; (with_reducible refine (out17_calls _ _ _ _).mono ?_); rintro e w' ⟨rfl, rfl⟩))
  (repeat' (go_quiet (fail); go_wp2_with (first | (go_at_call 99; (with_reducible refine (out17_calls _ _ _ _).mono ?_); rintro e w' ⟨rfl, rfl⟩))))
  all_goals ((try first | go_ret | go_ret2 | go_ret3); try go_simp)
  all_goals ((with_reducible refine retB_i ?_ (by repeat (first | exact Below.refl _ _ | exact HB.out | (refine Below.setCell ?_ (by simp) _) | apply below_alloc' | apply Below.drew | apply below_drewN'))); rw [HV.out]; simp [*])
theorem of13_okc (words : Int) (A : Option Addr) (c : Nat) (cells : List (Int × Int)) (w : World) (B : Nat) (hB0 : B ≤ w.heap.size) (hr : Row w B A 2 cells.length (fun k => pairC (nth cells k))) (hm : cells.length ≤ 9223372036854775807) (hcap : cells.length ≤ c) (h : (memOf words cells).2 = 0) :
    Calls Try.prog 96 #[.int .i64 words, .slice A cells.length c] w (fun e w' => ∃ v, e = .returned (.tuple #[v, .int .i64 0]) ∧ Below w.heap.size w w') :=
  (of13_calls words A c cells w B hB0 hr hm hcap).mono fun e w' ⟨hb, h1, _⟩ => let ⟨v, he, _⟩ := h1 h; ⟨v, he, hb⟩
theorem of13_badc (words : Int) (A : Option Addr) (c : Nat) (cells : List (Int × Int)) (w : World) (B : Nat) (hB0 : B ≤ w.heap.size) (hr : Row w B A 2 cells.length (fun k => pairC (nth cells k))) (hm : cells.length ≤ 9223372036854775807) (hcap : cells.length ≤ c) (h : (memOf words cells).2 ≠ 0) :
    Calls Try.prog 96 #[.int .i64 words, .slice A cells.length c] w (RetB (.tuple #[.slice none 0 0, .int .i64 (memOf words cells).2]) w) :=
  (of13_calls words A c cells w B hB0 hr hm hcap).mono fun e w' ⟨hb, _, h1⟩ => ⟨h1 h, hb⟩
theorem tasks_okc (kd lo hi st it sg : Int) (w : World) (hl : I64 lo) (hh : I64 hi) (hs : I64 st) (hi1 : I64 it) (hg1 : I64 sg) (h : (countN kd lo hi st it sg).2 = 0) :
    Calls Try.prog 46 #[.agg #[.int .i64 kd, .int .i64 lo, .int .i64 hi, .int .i64 st, .int .i64 it, .int .i64 sg]] w (fun e w' => ∃ A n c, (countN kd lo hi st it sg).1 = (n : Nat) ∧ e = .returned (.tuple #[.slice A n c, .int .i64 0]) ∧ Below w.heap.size w w' ∧ w'.ownsRow w.heap.size 192 2 (.slice A n c) n (pairsV (tasksN kd lo st sg n))) :=
  (tasks_calls kd lo hi st it sg w hl hh hs hi1 hg1).mono fun e w' ⟨hb, h1, _⟩ => by
    obtain ⟨v, n, hn, he, ho⟩ := h1 h
    obtain ⟨A, c, rfl⟩ := own_slice ho
    exact ⟨A, n, c, hn, he, hb, ho⟩
theorem tasks_badc (kd lo hi st it sg : Int) (w : World) (hl : I64 lo) (hh : I64 hi) (hs : I64 st) (hi1 : I64 it) (hg1 : I64 sg) (h : (countN kd lo hi st it sg).2 ≠ 0) :
    Calls Try.prog 46 #[.agg #[.int .i64 kd, .int .i64 lo, .int .i64 hi, .int .i64 st, .int .i64 it, .int .i64 sg]] w (RetB (.tuple #[.slice none 0 0, .int .i64 (countN kd lo hi st it sg).2]) w) :=
  (tasks_calls kd lo hi st it sg w hl hh hs hi1 hg1).mono fun e w' ⟨hb, _, h1⟩ => ⟨h1 h, hb⟩
set_option maxRecDepth 100000 in
set_option maxHeartbeats 2000000 in
theorem valid17_calls (j : Job) (a : JobA) (w : World) (B : Nat) (hB0 : B ≤ w.heap.size) (hj : JobMem w B j a) (ho : j.ok) (hcap : j.cells.length ≤ a.cc) :
    Calls Try.prog 49 #[.agg #[.int .i64 j.words, .slice a.Ac j.cells.length a.cc, .slice a.Ar j.reds.length a.cr, .int .i64 j.fuel, .int .i64 j.kind, .int .i64 j.lo, .int .i64 j.hi, .int .i64 j.step, .int .i64 j.items, .int .i64 j.stages, .slice a.Ak j.codes.length a.ck]] w (RetB (.int .i64 (jobValid j)) w) := by
  obtain ⟨Ac, cc, Ar, cr, Ak, ck, Aq, cq⟩ := a
  dsimp only at hcap ⊢
  obtain ⟨o1, o2, o3, o4, o5, o6, o7, o8, o9, o10, o11⟩ := ho
  obtain ⟨m1, m2, m3, m4⟩ := hj
  dsimp only at m1 m2 m3 m4
  have HO := hid (And.intro o10 o11)
  by_cases h1 : (memOf j.words j.cells).2 = 0
  case neg =>
    have HV := hid (show jobValid j = (memOf j.words j.cells).2 by unfold jobValid; rw [if_pos h1])
    have HM := hid (fun W (hW : Below w.heap.size w W) => of13_badc j.words Ac cc j.cells W B (Nat.le_trans hB0 hW.size) (m1.below (hW.mono hB0)) o8 hcap h1)
    generalize (memOf j.words j.cells).2 = er at *
    have h1' := int_eta h1
    clear h1 m1 m2 m3 m4 o1 o2 o3 o4 o5 o6 o7 o8 o9 o10 o11
    go_enter Try.func49, Try.ntmps49
    go_wp2_with (first | (go_at_call 96; (with_reducible refine (HM.out _ (by repeat (first | exact Below.refl _ _ | exact HB.out | apply below_alloc' | apply Below.drew | apply below_drewN'))).mono ?_); rintro e w' ⟨rfl, hb⟩; obtain ⟨hc, hf⟩ := bcell hb; have hz := hb.size; (try simp at hz); (try have hz0 : w.heap.size < w'.heap.size := by omega); (try have hz1 : w.heap.size + 1 < w'.heap.size := by omega); (try have hz2 : w.heap.size + 2 < w'.heap.size := by omega); have HB := hid (below_call (w := w) (by repeat (first | exact Below.refl _ _ | exact HB.out | apply below_alloc' | apply Below.drew | apply below_drewN')) hb); obtain ⟨hcw, hfw⟩ := bcell HB.out; clear hb))
    (repeat' (go_quiet (fail); go_wp2_with (first | (go_at_call 96; (with_reducible refine (HM.out _ (by repeat (first | exact Below.refl _ _ | exact HB.out | apply below_alloc' | apply Below.drew | apply below_drewN'))).mono ?_); rintro e w' ⟨rfl, hb⟩; obtain ⟨hc, hf⟩ := bcell hb; have hz := hb.size; (try simp at hz); (try have hz0 : w.heap.size < w'.heap.size := by omega); (try have hz1 : w.heap.size + 1 < w'.heap.size := by omega); (try have hz2 : w.heap.size + 2 < w'.heap.size := by omega); have HB := hid (below_call (w := w) (by repeat (first | exact Below.refl _ _ | exact HB.out | apply below_alloc' | apply Below.drew | apply below_drewN')) hb); obtain ⟨hcw, hfw⟩ := bcell HB.out; clear hb))))
    all_goals ((try first | go_ret | go_ret2 | go_ret3); try go_simp)
    all_goals ((with_reducible refine retB_i ?_ (by repeat (first | exact Below.refl _ _ | exact HB.out | (refine Below.setCell ?_ (by simp) _) | apply below_alloc' | apply Below.drew | apply below_drewN'))); rw [HV.out])
  have HM := hid (fun W (hW : Below w.heap.size w W) => of13_okc j.words Ac cc j.cells W B (Nat.le_trans hB0 hW.size) (m1.below (hW.mono hB0)) o8 hcap h1)
  have HR := hid (fun W (hW : Below w.heap.size w W) => check14_calls Ar cr j.reds W B (Nat.le_trans hB0 hW.size) (m2.below (hW.mono hB0)) o9)
  by_cases h2 : redErr j.reds = 0
  case neg =>
    have HV := hid (show jobValid j = redErr j.reds by unfold jobValid; rw [if_neg (by simpa using h1), if_pos h2])
    generalize redErr j.reds = er at *
    have h2' := int_eta h2
    clear h1 h2 m1 m2 m3 m4 o1 o2 o3 o4 o5 o6 o7 o8 o9 o10 o11
    go_enter Try.func49, Try.ntmps49
    go_wp2_with (first | (go_at_call 96; (with_reducible refine (HM.out _ (by repeat (first | exact Below.refl _ _ | exact HB.out | apply below_alloc' | apply Below.drew | apply below_drewN'))).mono ?_); rintro e w' ⟨v, rfl, hb⟩; obtain ⟨hc, hf⟩ := bcell hb; have hz := hb.size; (try simp at hz); (try have hz0 : w.heap.size < w'.heap.size := by omega); (try have hz1 : w.heap.size + 1 < w'.heap.size := by omega); (try have hz2 : w.heap.size + 2 < w'.heap.size := by omega); have HB := hid (below_call (w := w) (by repeat (first | exact Below.refl _ _ | exact HB.out | apply below_alloc' | apply Below.drew | apply below_drewN')) hb); obtain ⟨hcw, hfw⟩ := bcell HB.out; clear hb) | (go_at_call 97; (with_reducible refine (HR.out _ (by repeat (first | exact Below.refl _ _ | exact HB.out | apply below_alloc' | apply Below.drew | apply below_drewN'))).mono ?_); rintro e w' ⟨rfl, rfl⟩))
    (repeat' (go_quiet (fail); go_wp2_with (first | (go_at_call 96; (with_reducible refine (HM.out _ (by repeat (first | exact Below.refl _ _ | exact HB.out | apply below_alloc' | apply Below.drew | apply below_drewN'))).mono ?_); rintro e w' ⟨v, rfl, hb⟩; obtain ⟨hc, hf⟩ := bcell hb; have hz := hb.size; (try simp at hz); (try have hz0 : w.heap.size < w'.heap.size := by omega); (try have hz1 : w.heap.size + 1 < w'.heap.size := by omega); (try have hz2 : w.heap.size + 2 < w'.heap.size := by omega); have HB := hid (below_call (w := w) (by repeat (first | exact Below.refl _ _ | exact HB.out | apply below_alloc' | apply Below.drew | apply below_drewN')) hb); obtain ⟨hcw, hfw⟩ := bcell HB.out; clear hb) | (go_at_call 97; (with_reducible refine (HR.out _ (by repeat (first | exact Below.refl _ _ | exact HB.out | apply below_alloc' | apply Below.drew | apply below_drewN'))).mono ?_); rintro e w' ⟨rfl, rfl⟩))))
    all_goals ((try first | go_ret | go_ret2 | go_ret3); try go_simp)
    all_goals ((with_reducible refine retB_i ?_ (by repeat (first | exact Below.refl _ _ | exact HB.out | (refine Below.setCell ?_ (by simp) _) | apply below_alloc' | apply Below.drew | apply below_drewN'))); rw [HV.out])
  rw [h2] at HR
  by_cases h3 : j.fuel < 1 ∨ 4000 < j.fuel
  · have HV := hid (show jobValid j = 110 by unfold jobValid; rw [if_neg (by simpa using h1), if_neg (by simpa using h2), if_pos h3])
    clear h1 h2 m1 m2 m3 m4 o1 o2 o3 o4 o5 o6 o7 o8 o9 o10 o11
    rcases h3 with h3 | h3
    all_goals
      go_enter Try.func49, Try.ntmps49
      go_wp2_with (first | (go_at_call 96; (with_reducible refine (HM.out _ (by repeat (first | exact Below.refl _ _ | exact HB.out | apply below_alloc' | apply Below.drew | apply below_drewN'))).mono ?_); rintro e w' ⟨v, rfl, hb⟩; obtain ⟨hc, hf⟩ := bcell hb; have hz := hb.size; (try simp at hz); (try have hz0 : w.heap.size < w'.heap.size := by omega); (try have hz1 : w.heap.size + 1 < w'.heap.size := by omega); (try have hz2 : w.heap.size + 2 < w'.heap.size := by omega); have HB := hid (below_call (w := w) (by repeat (first | exact Below.refl _ _ | exact HB.out | apply below_alloc' | apply Below.drew | apply below_drewN')) hb); obtain ⟨hcw, hfw⟩ := bcell HB.out; clear hb) | (go_at_call 97; (with_reducible refine (HR.out _ (by repeat (first | exact Below.refl _ _ | exact HB.out | apply below_alloc' | apply Below.drew | apply below_drewN'))).mono ?_); rintro e w' ⟨rfl, rfl⟩))
      (repeat' (go_quiet (fail); go_wp2_with (first | (go_at_call 96; (with_reducible refine (HM.out _ (by repeat (first | exact Below.refl _ _ | exact HB.out | apply below_alloc' | apply Below.drew | apply below_drewN'))).mono ?_); rintro e w' ⟨v, rfl, hb⟩; obtain ⟨hc, hf⟩ := bcell hb; have hz := hb.size; (try simp at hz); (try have hz0 : w.heap.size < w'.heap.size := by omega); (try have hz1 : w.heap.size + 1 < w'.heap.size := by omega); (try have hz2 : w.heap.size + 2 < w'.heap.size := by omega); have HB := hid (below_call (w := w) (by repeat (first | exact Below.refl _ _ | exact HB.out | apply below_alloc' | apply Below.drew | apply below_drewN')) hb); obtain ⟨hcw, hfw⟩ := bcell HB.out; clear hb) | (go_at_call 97; (with_reducible refine (HR.out _ (by repeat (first | exact Below.refl _ _ | exact HB.out | apply below_alloc' | apply Below.drew | apply below_drewN'))).mono ?_); rintro e w' ⟨rfl, rfl⟩))))
      all_goals ((try first | go_ret | go_ret2 | go_ret3); try go_simp)
      all_goals ((with_reducible refine retB_i ?_ (by repeat (first | exact Below.refl _ _ | exact HB.out | (refine Below.setCell ?_ (by simp) _) | apply below_alloc' | apply Below.drew | apply below_drewN'))); rw [HV.out])
  have h3a : 1 ≤ j.fuel := by omega
  have h3b : j.fuel ≤ 4000 := by omega
  by_cases h4 : (countN j.kind j.lo j.hi j.step j.items j.stages).2 = 0
  case neg =>
    have HC := hid (fun W => tasks_badc j.kind j.lo j.hi j.step j.items j.stages W o3 o4 o5 o6 o7 h4)
    have HV := hid (show jobValid j = (countN j.kind j.lo j.hi j.step j.items j.stages).2 by unfold jobValid; rw [if_neg (by simpa using h1), if_neg (by simpa using h2), if_neg h3, if_pos h4])
    generalize countN j.kind j.lo j.hi j.step j.items j.stages = er at *
    have h4' := int_eta h4
    clear h1 h2 h3 h4 m1 m2 m3 m4 o1 o2 o3 o4 o5 o6 o7 o8 o9 o10 o11
    go_enter Try.func49, Try.ntmps49
    go_wp2_with (first | (go_at_call 96; (with_reducible refine (HM.out _ (by repeat (first | exact Below.refl _ _ | exact HB.out | apply below_alloc' | apply Below.drew | apply below_drewN'))).mono ?_); rintro e w' ⟨v, rfl, hb⟩; obtain ⟨hc, hf⟩ := bcell hb; have hz := hb.size; (try simp at hz); (try have hz0 : w.heap.size < w'.heap.size := by omega); (try have hz1 : w.heap.size + 1 < w'.heap.size := by omega); (try have hz2 : w.heap.size + 2 < w'.heap.size := by omega); have HB := hid (below_call (w := w) (by repeat (first | exact Below.refl _ _ | exact HB.out | apply below_alloc' | apply Below.drew | apply below_drewN')) hb); obtain ⟨hcw, hfw⟩ := bcell HB.out; clear hb) | (go_at_call 97; (with_reducible refine (HR.out _ (by repeat (first | exact Below.refl _ _ | exact HB.out | apply below_alloc' | apply Below.drew | apply below_drewN'))).mono ?_); rintro e w' ⟨rfl, rfl⟩) | (go_at_call 46; (with_reducible refine (HC.out _).mono ?_); rintro e w' ⟨rfl, hb⟩; obtain ⟨hc, hf⟩ := bcell hb; have hz := hb.size; (try simp at hz); (try have hz0 : w.heap.size < w'.heap.size := by omega); (try have hz1 : w.heap.size + 1 < w'.heap.size := by omega); (try have hz2 : w.heap.size + 2 < w'.heap.size := by omega); have HB := hid (below_call (w := w) (by repeat (first | exact Below.refl _ _ | exact HB.out | apply below_alloc' | apply Below.drew | apply below_drewN')) hb); obtain ⟨hcw, hfw⟩ := bcell HB.out; clear hb))
    (repeat' (go_quiet (fail); go_wp2_with (first | (go_at_call 96; (with_reducible refine (HM.out _ (by repeat (first | exact Below.refl _ _ | exact HB.out | apply below_alloc' | apply Below.drew | apply below_drewN'))).mono ?_); rintro e w' ⟨v, rfl, hb⟩; obtain ⟨hc, hf⟩ := bcell hb; have hz := hb.size; (try simp at hz); (try have hz0 : w.heap.size < w'.heap.size := by omega); (try have hz1 : w.heap.size + 1 < w'.heap.size := by omega); (try have hz2 : w.heap.size + 2 < w'.heap.size := by omega); have HB := hid (below_call (w := w) (by repeat (first | exact Below.refl _ _ | exact HB.out | apply below_alloc' | apply Below.drew | apply below_drewN')) hb); obtain ⟨hcw, hfw⟩ := bcell HB.out; clear hb) | (go_at_call 97; (with_reducible refine (HR.out _ (by repeat (first | exact Below.refl _ _ | exact HB.out | apply below_alloc' | apply Below.drew | apply below_drewN'))).mono ?_); rintro e w' ⟨rfl, rfl⟩) | (go_at_call 46; (with_reducible refine (HC.out _).mono ?_); rintro e w' ⟨rfl, hb⟩; obtain ⟨hc, hf⟩ := bcell hb; have hz := hb.size; (try simp at hz); (try have hz0 : w.heap.size < w'.heap.size := by omega); (try have hz1 : w.heap.size + 1 < w'.heap.size := by omega); (try have hz2 : w.heap.size + 2 < w'.heap.size := by omega); have HB := hid (below_call (w := w) (by repeat (first | exact Below.refl _ _ | exact HB.out | apply below_alloc' | apply Below.drew | apply below_drewN')) hb); obtain ⟨hcw, hfw⟩ := bcell HB.out; clear hb))))
    all_goals ((try first | go_ret | go_ret2 | go_ret3); try go_simp)
    all_goals ((with_reducible refine retB_i ?_ (by repeat (first | exact Below.refl _ _ | exact HB.out | (refine Below.setCell ?_ (by simp) _) | apply below_alloc' | apply Below.drew | apply below_drewN'))); rw [HV.out])
  have HV := hid (show jobValid j = if (j.codes.length : Int) ≠ stagesN j.kind j.stages then 170 else codesErr j.reds.length j.codes by
    unfold jobValid; rw [if_neg (by simpa using h1), if_neg (by simpa using h2), if_neg h3, if_neg (by simpa using h4)])
  have HC := hid (fun W => tasks_okc j.kind j.lo j.hi j.step j.items j.stages W o3 o4 o5 o6 o7 h4)
  have M3 := hid m3
  have M4 := hid m4
  clear h1 h2 h3 h4 m1 m2 m3 m4 o1 o2 o3 o4 o5 o6 o7 o8 o9 o10 o11
  have HJ := hid (blk_new w (.cells #[.int .i64 j.words, .slice Ac j.cells.length cc, .slice Ar j.reds.length cr, .int .i64 j.fuel, .int .i64 j.kind, .int .i64 j.lo, .int .i64 j.hi, .int .i64 j.step, .int .i64 j.items, .int .i64 j.stages, .slice Ak j.codes.length ck] 29 (0, 0)))
  have hsg : (j.kind = 2 ∧ stagesN j.kind j.stages = j.stages) ∨ (j.kind ≠ 2 ∧ stagesN j.kind j.stages = 1) := by
    unfold stagesN
    by_cases h : j.kind = 2
    · exact .inl ⟨h, if_pos h⟩
    · exact .inr ⟨h, if_neg h⟩
  by_cases h5 : (j.codes.length : Int) = stagesN j.kind j.stages
  case neg =>
    have HV2 := hid (show jobValid j = 170 by rw [HV.out, if_pos h5])
    clear HV
    rcases hsg with ⟨hk, hs⟩ | ⟨hk, hs⟩
    · have hk' : (j.kind == 2) = true := by simpa using hk
      rw [hs] at h5
      have h5' : ((j.codes.length : Int) != j.stages) = true := by simpa using h5
      clear h5 hk hs
      go_enter Try.func49, Try.ntmps49
      go_wp2_with (first | (go_at_call 96; (with_reducible refine (HM.out _ (by repeat (first | exact Below.refl _ _ | exact HB.out | apply below_alloc' | apply Below.drew | apply below_drewN'))).mono ?_); rintro e w' ⟨v, rfl, hb⟩; obtain ⟨hc, hf⟩ := bcell hb; have hz := hb.size; (try simp at hz); (try have hz0 : w.heap.size < w'.heap.size := by omega); (try have hz1 : w.heap.size + 1 < w'.heap.size := by omega); (try have hz2 : w.heap.size + 2 < w'.heap.size := by omega); have HB := hid (below_call (w := w) (by repeat (first | exact Below.refl _ _ | exact HB.out | apply below_alloc' | apply Below.drew | apply below_drewN')) hb); obtain ⟨hcw, hfw⟩ := bcell HB.out; clear hb) | (go_at_call 97; (with_reducible refine (HR.out _ (by repeat (first | exact Below.refl _ _ | exact HB.out | apply below_alloc' | apply Below.drew | apply below_drewN'))).mono ?_); rintro e w' ⟨rfl, rfl⟩) | (go_at_call 46; (with_reducible refine (HC.out _).mono ?_); rintro e w' ⟨A, n, c, hn, rfl, hb, ho⟩; obtain ⟨hc, hf⟩ := bcell hb; have hz := hb.size; (try simp at hz); (try have hz0 : w.heap.size < w'.heap.size := by omega); (try have hz1 : w.heap.size + 1 < w'.heap.size := by omega); (try have hz2 : w.heap.size + 2 < w'.heap.size := by omega); have HB := hid (below_call (w := w) (by repeat (first | exact Below.refl _ _ | exact HB.out | apply below_alloc' | apply Below.drew | apply below_drewN')) hb); obtain ⟨hcw, hfw⟩ := bcell HB.out; clear hb))
      (repeat' (go_quiet (fail); go_wp2_with (first | (go_at_call 96; (with_reducible refine (HM.out _ (by repeat (first | exact Below.refl _ _ | exact HB.out | apply below_alloc' | apply Below.drew | apply below_drewN'))).mono ?_); rintro e w' ⟨v, rfl, hb⟩; obtain ⟨hc, hf⟩ := bcell hb; have hz := hb.size; (try simp at hz); (try have hz0 : w.heap.size < w'.heap.size := by omega); (try have hz1 : w.heap.size + 1 < w'.heap.size := by omega); (try have hz2 : w.heap.size + 2 < w'.heap.size := by omega); have HB := hid (below_call (w := w) (by repeat (first | exact Below.refl _ _ | exact HB.out | apply below_alloc' | apply Below.drew | apply below_drewN')) hb); obtain ⟨hcw, hfw⟩ := bcell HB.out; clear hb) | (go_at_call 97; (with_reducible refine (HR.out _ (by repeat (first | exact Below.refl _ _ | exact HB.out | apply below_alloc' | apply Below.drew | apply below_drewN'))).mono ?_); rintro e w' ⟨rfl, rfl⟩) | (go_at_call 46; (with_reducible refine (HC.out _).mono ?_); rintro e w' ⟨A, n, c, hn, rfl, hb, ho⟩; obtain ⟨hc, hf⟩ := bcell hb; have hz := hb.size; (try simp at hz); (try have hz0 : w.heap.size < w'.heap.size := by omega); (try have hz1 : w.heap.size + 1 < w'.heap.size := by omega); (try have hz2 : w.heap.size + 2 < w'.heap.size := by omega); have HB := hid (below_call (w := w) (by repeat (first | exact Below.refl _ _ | exact HB.out | apply below_alloc' | apply Below.drew | apply below_drewN')) hb); obtain ⟨hcw, hfw⟩ := bcell HB.out; clear hb))))
      all_goals ((try first | go_ret | go_ret2 | go_ret3); try go_simp)
      all_goals ((with_reducible refine retB_i ?_ (by repeat (first | exact Below.refl _ _ | exact HB.out | (refine Below.setCell ?_ (by simp) _) | apply below_alloc' | apply Below.drew | apply below_drewN'))); rw [HV2.out])
    · have hk' : (j.kind == 2) = false := by simpa using hk
      rw [hs] at h5
      have h5' : ((j.codes.length : Int) != 1) = true := by simpa using h5
      clear h5 hk hs
      go_enter Try.func49, Try.ntmps49
      go_wp2_with (first | (go_at_call 96; (with_reducible refine (HM.out _ (by repeat (first | exact Below.refl _ _ | exact HB.out | apply below_alloc' | apply Below.drew | apply below_drewN'))).mono ?_); rintro e w' ⟨v, rfl, hb⟩; obtain ⟨hc, hf⟩ := bcell hb; have hz := hb.size; (try simp at hz); (try have hz0 : w.heap.size < w'.heap.size := by omega); (try have hz1 : w.heap.size + 1 < w'.heap.size := by omega); (try have hz2 : w.heap.size + 2 < w'.heap.size := by omega); have HB := hid (below_call (w := w) (by repeat (first | exact Below.refl _ _ | exact HB.out | apply below_alloc' | apply Below.drew | apply below_drewN')) hb); obtain ⟨hcw, hfw⟩ := bcell HB.out; clear hb) | (go_at_call 97; (with_reducible refine (HR.out _ (by repeat (first | exact Below.refl _ _ | exact HB.out | apply below_alloc' | apply Below.drew | apply below_drewN'))).mono ?_); rintro e w' ⟨rfl, rfl⟩) | (go_at_call 46; (with_reducible refine (HC.out _).mono ?_); rintro e w' ⟨A, n, c, hn, rfl, hb, ho⟩; obtain ⟨hc, hf⟩ := bcell hb; have hz := hb.size; (try simp at hz); (try have hz0 : w.heap.size < w'.heap.size := by omega); (try have hz1 : w.heap.size + 1 < w'.heap.size := by omega); (try have hz2 : w.heap.size + 2 < w'.heap.size := by omega); have HB := hid (below_call (w := w) (by repeat (first | exact Below.refl _ _ | exact HB.out | apply below_alloc' | apply Below.drew | apply below_drewN')) hb); obtain ⟨hcw, hfw⟩ := bcell HB.out; clear hb))
      (repeat' (go_quiet (fail); go_wp2_with (first | (go_at_call 96; (with_reducible refine (HM.out _ (by repeat (first | exact Below.refl _ _ | exact HB.out | apply below_alloc' | apply Below.drew | apply below_drewN'))).mono ?_); rintro e w' ⟨v, rfl, hb⟩; obtain ⟨hc, hf⟩ := bcell hb; have hz := hb.size; (try simp at hz); (try have hz0 : w.heap.size < w'.heap.size := by omega); (try have hz1 : w.heap.size + 1 < w'.heap.size := by omega); (try have hz2 : w.heap.size + 2 < w'.heap.size := by omega); have HB := hid (below_call (w := w) (by repeat (first | exact Below.refl _ _ | exact HB.out | apply below_alloc' | apply Below.drew | apply below_drewN')) hb); obtain ⟨hcw, hfw⟩ := bcell HB.out; clear hb) | (go_at_call 97; (with_reducible refine (HR.out _ (by repeat (first | exact Below.refl _ _ | exact HB.out | apply below_alloc' | apply Below.drew | apply below_drewN'))).mono ?_); rintro e w' ⟨rfl, rfl⟩) | (go_at_call 46; (with_reducible refine (HC.out _).mono ?_); rintro e w' ⟨A, n, c, hn, rfl, hb, ho⟩; obtain ⟨hc, hf⟩ := bcell hb; have hz := hb.size; (try simp at hz); (try have hz0 : w.heap.size < w'.heap.size := by omega); (try have hz1 : w.heap.size + 1 < w'.heap.size := by omega); (try have hz2 : w.heap.size + 2 < w'.heap.size := by omega); have HB := hid (below_call (w := w) (by repeat (first | exact Below.refl _ _ | exact HB.out | apply below_alloc' | apply Below.drew | apply below_drewN')) hb); obtain ⟨hcw, hfw⟩ := bcell HB.out; clear hb))))
      all_goals ((try first | go_ret | go_ret2 | go_ret3); try go_simp)
      all_goals ((with_reducible refine retB_i ?_ (by repeat (first | exact Below.refl _ _ | exact HB.out | (refine Below.setCell ?_ (by simp) _) | apply below_alloc' | apply Below.drew | apply below_drewN'))); rw [HV2.out])
  have HV2 := hid (show jobValid j = codesErr j.reds.length j.codes by rw [HV.out, if_neg (by simpa using h5)])
  obtain ⟨HO10, HO11⟩ := HO.out
  have O11 := hid HO11
  have hopen : Hid (j.codes.length = 0) ∨ ∃ b off, Hid (Ak = some ⟨b, off, none⟩) ∧ b < B ∧ Hid (∀ k, k < j.codes.length → w.cell? ⟨b, off + k, none⟩ = some (.slice (Aq k) (nth j.codes k).length (cq k))) := by
    rcases M3.out with h0 | ⟨b, off, hA, hb, hcc⟩
    · exact .inl h0
    · exact .inr ⟨b, off, hA, hb, fun k hk => by have := hcc k 0 _ hk rfl; simpa using this⟩
  clear HO HV HO11 M3
  rcases hsg with ⟨hk, hs⟩ | ⟨hk, hs⟩
  · have hk' : (j.kind == 2) = true := by simpa using hk
    rw [hs] at h5
    have h5' : ((j.codes.length : Int) != j.stages) = false := by simpa using h5
    have h6 : j.stages ≤ (j.codes.length : Int) := by omega
    have h7 : (j.codes.length : Int) ≤ j.stages := by omega
    clear h5 hk hs
    rcases hopen with H0 | ⟨b, off, HA, hb, HCC⟩
    all_goals
      (go_enter Try.func49, Try.ntmps49)
      go_wp2_with (first | (go_at_call 96; (with_reducible refine (HM.out _ (by repeat (first | exact Below.refl _ _ | exact HB.out | apply below_alloc' | apply Below.drew | apply below_drewN'))).mono ?_); rintro e w' ⟨v, rfl, hb⟩; have HJ := hid (blk_below hb (by repeat (with_reducible first | exact HJ.out | apply blk_alloc | apply blk_drew | apply blk_drewN)) (by first | (simp; done) | (simp; omega) | omega)); obtain ⟨hc, hf⟩ := bcell hb; have hz := hb.size; (try simp at hz); (try have hz0 : w.heap.size < w'.heap.size := by omega); have HB := hid (below_call (w := w) (by repeat (first | exact Below.refl _ _ | exact HB.out | apply below_alloc' | apply Below.drew | apply below_drewN')) hb); obtain ⟨hcw, hfw⟩ := bcell HB.out; clear hb) | (go_at_call 97; (with_reducible refine (HR.out _ (by repeat (first | exact Below.refl _ _ | exact HB.out | apply below_alloc' | apply Below.drew | apply below_drewN'))).mono ?_); rintro e w' ⟨rfl, rfl⟩) | (go_at_call 46; (with_reducible refine (HC.out _).mono ?_); rintro e w' ⟨A, n, c, hn, rfl, hb, ho⟩; have HJ := hid (blk_below hb (by repeat (with_reducible first | exact HJ.out | apply blk_alloc | apply blk_drew | apply blk_drewN)) (by first | (simp; done) | (simp; omega) | omega)); obtain ⟨hc, hf⟩ := bcell hb; have hz := hb.size; (try simp at hz); (try have hz0 : w.heap.size < w'.heap.size := by omega); have HB := hid (below_call (w := w) (by repeat (first | exact Below.refl _ _ | exact HB.out | apply below_alloc' | apply Below.drew | apply below_drewN')) hb); obtain ⟨hcw, hfw⟩ := bcell HB.out; clear hb))
      (repeat' (go_quiet (fail); go_wp2_with (first | (go_at_call 96; (with_reducible refine (HM.out _ (by repeat (first | exact Below.refl _ _ | exact HB.out | apply below_alloc' | apply Below.drew | apply below_drewN'))).mono ?_); rintro e w' ⟨v, rfl, hb⟩; have HJ := hid (blk_below hb (by repeat (with_reducible first | exact HJ.out | apply blk_alloc | apply blk_drew | apply blk_drewN)) (by first | (simp; done) | (simp; omega) | omega)); obtain ⟨hc, hf⟩ := bcell hb; have hz := hb.size; (try simp at hz); (try have hz0 : w.heap.size < w'.heap.size := by omega); have HB := hid (below_call (w := w) (by repeat (first | exact Below.refl _ _ | exact HB.out | apply below_alloc' | apply Below.drew | apply below_drewN')) hb); obtain ⟨hcw, hfw⟩ := bcell HB.out; clear hb) | (go_at_call 97; (with_reducible refine (HR.out _ (by repeat (first | exact Below.refl _ _ | exact HB.out | apply below_alloc' | apply Below.drew | apply below_drewN'))).mono ?_); rintro e w' ⟨rfl, rfl⟩) | (go_at_call 46; (with_reducible refine (HC.out _).mono ?_); rintro e w' ⟨A, n, c, hn, rfl, hb, ho⟩; have HJ := hid (blk_below hb (by repeat (with_reducible first | exact HJ.out | apply blk_alloc | apply blk_drew | apply blk_drewN)) (by first | (simp; done) | (simp; omega) | omega)); obtain ⟨hc, hf⟩ := bcell hb; have hz := hb.size; (try simp at hz); (try have hz0 : w.heap.size < w'.heap.size := by omega); have HB := hid (below_call (w := w) (by repeat (first | exact Below.refl _ _ | exact HB.out | apply below_alloc' | apply Below.drew | apply below_drewN')) hb); obtain ⟨hcw, hfw⟩ := bcell HB.out; clear hb))))
      go_loopw [2, 4, 6] (fun v2 v4 v6 wr => ∃ k : Nat, k ≤ j.codes.length ∧ v6 = .int .i64 k ∧ v2 = .int .i64 0 ∧ Hid (Below w.heap.size w wr) ∧ Hid (wr.heap[w.heap.size]? = some (.cells #[.int .i64 j.words, .slice Ac j.cells.length cc, .slice Ar j.reds.length cr, .int .i64 j.fuel, .int .i64 j.kind, .int .i64 j.lo, .int .i64 j.hi, .int .i64 j.step, .int .i64 j.items, .int .i64 j.stages, .slice Ak j.codes.length ck] 29 (0, 0))) ∧ Hid (∀ i, i < k → (insCheck (nth j.codes i) j.reds.length).2 = 0)) (fun _ _ v6 _ => j.codes.length - (intOf v6).toNat)
      case atStart => exact ⟨0, by omega, rfl, rfl, (by repeat (first | exact Below.refl _ _ | exact HB.out | apply below_alloc' | apply Below.drew | apply below_drewN')), hid (by repeat (with_reducible first | exact HJ.out | apply blk_alloc | apply blk_drew | apply blk_drewN)), fun i hi => by omega⟩
      case round =>
        obtain ⟨k, hk, rfl, rfl, HB, HJ, HP⟩ := hrel
        obtain ⟨hcw, hfw⟩ := bcell HB.out
        have hsz := HB.out.size
        have hgl := blk_lt HJ.out
        have hx10 := blk_cell HJ.out 10
        have hx2 := blk_cell HJ.out 2
        simp at hx10 hx2
        by_cases hlt : k < j.codes.length
        · first
          | (exfalso; have := H0.out; omega)
          | (rw [HA.out] at *
             have hc0 := HCC.out k hlt
             have hbw : b < w.heap.size := by omega
             have HK := hid (fun W (hW : Below w.heap.size w W) => check8_calls (Aq k) (cq k) (nth j.codes k) j.reds.length W B (Nat.le_trans hB0 hW.size) ((M4.out k hlt).below (hW.mono hB0)) (O11.out k hlt))
             by_cases he : (insCheck (nth j.codes k) j.reds.length).2 = 0
             · have HE := hid he
               rw [he] at HK
               clear he
               go_wp2_with fail
               go_region_with (first | (go_at_call 98; (with_reducible refine (HK.out _ (by repeat (first | exact Below.refl _ _ | exact HB.out | apply below_alloc' | apply Below.drew | apply below_drewN'))).mono ?_); rintro e w' ⟨rfl, hb⟩; have HJ := hid (blk_below hb (by repeat (with_reducible first | exact HJ.out | apply blk_alloc | apply blk_drew | apply blk_drewN)) (by first | (simp; done) | (simp; omega) | omega)); obtain ⟨hc, hf⟩ := bcell hb; have hz := hb.size; (try simp at hz); (try have hz0 : w.heap.size < w'.heap.size := by omega); have HB := hid (below_call (w := w) (by repeat (first | exact Below.refl _ _ | exact HB.out | apply below_alloc' | apply Below.drew | apply below_drewN')) hb); obtain ⟨hcw, hfw⟩ := bcell HB.out; clear hb))
               all_goals (try go_wp2_with fail)
               all_goals
                 go_roundw
                 case rel => exact ⟨k + 1, by omega, by go_num, rfl, (by repeat (first | exact Below.refl _ _ | exact HB.out | apply below_alloc' | apply Below.drew | apply below_drewN')), hid (by repeat (with_reducible first | exact HJ.out | apply blk_alloc | apply blk_drew | apply blk_drewN)), fun i hi => (by rcases Nat.lt_or_ge i k with h | h; exact HP.out i h; obtain rfl : i = k := (by omega); exact HE.out)⟩
                 case measure => simp [intOf]; omega
             · have HV3 := hid (show jobValid j = (insCheck (nth j.codes k) j.reds.length).2 by rw [HV2.out]; exact codesErr_bad hlt HP.out he)
               generalize insCheck (nth j.codes k) j.reds.length = er at *
               have he' := int_eta he
               clear he
               go_wp2_with fail
               go_region_with (first | (go_at_call 98; (with_reducible refine (HK.out _ (by repeat (first | exact Below.refl _ _ | exact HB.out | apply below_alloc' | apply Below.drew | apply below_drewN'))).mono ?_); rintro e w' ⟨rfl, hb⟩; have HJ := hid (blk_below hb (by repeat (with_reducible first | exact HJ.out | apply blk_alloc | apply blk_drew | apply blk_drewN)) (by first | (simp; done) | (simp; omega) | omega)); obtain ⟨hc, hf⟩ := bcell hb; have hz := hb.size; (try simp at hz); (try have hz0 : w.heap.size < w'.heap.size := by omega); have HB := hid (below_call (w := w) (by repeat (first | exact Below.refl _ _ | exact HB.out | apply below_alloc' | apply Below.drew | apply below_drewN')) hb); obtain ⟨hcw, hfw⟩ := bcell HB.out; clear hb))
               all_goals (try go_wp2_with fail)
               all_goals ((try first | go_ret | go_ret2 | go_ret3); try go_simp)
               all_goals ((with_reducible refine retB_i ?_ (by repeat (first | exact Below.refl _ _ | exact HB.out | (refine Below.setCell ?_ (by simp) _) | apply below_alloc' | apply Below.drew | apply below_drewN'))); rw [HV3.out]))
        · have HV3 := hid (show jobValid j = 0 by rw [HV2.out]; exact codesErr_ok (fun i hi => HP.out i (by omega)))
          go_wp2_with fail
          all_goals ((try first | go_ret | go_ret2 | go_ret3); try go_simp)
          all_goals ((with_reducible refine retB_i ?_ (by repeat (first | exact Below.refl _ _ | exact HB.out | (refine Below.setCell ?_ (by simp) _) | apply below_alloc' | apply Below.drew | apply below_drewN'))); rw [HV3.out])
  · have hk' : (j.kind == 2) = false := by simpa using hk
    rw [hs] at h5
    have h5' : ((j.codes.length : Int) != 1) = false := by simpa using h5
    have h6 : (1 : Int) ≤ (j.codes.length : Int) := by omega
    have h7 : (j.codes.length : Int) ≤ 1 := by omega
    clear h5 hk hs
    rcases hopen with H0 | ⟨b, off, HA, hb, HCC⟩
    all_goals
      (go_enter Try.func49, Try.ntmps49)
      go_wp2_with (first | (go_at_call 96; (with_reducible refine (HM.out _ (by repeat (first | exact Below.refl _ _ | exact HB.out | apply below_alloc' | apply Below.drew | apply below_drewN'))).mono ?_); rintro e w' ⟨v, rfl, hb⟩; have HJ := hid (blk_below hb (by repeat (with_reducible first | exact HJ.out | apply blk_alloc | apply blk_drew | apply blk_drewN)) (by first | (simp; done) | (simp; omega) | omega)); obtain ⟨hc, hf⟩ := bcell hb; have hz := hb.size; (try simp at hz); (try have hz0 : w.heap.size < w'.heap.size := by omega); have HB := hid (below_call (w := w) (by repeat (first | exact Below.refl _ _ | exact HB.out | apply below_alloc' | apply Below.drew | apply below_drewN')) hb); obtain ⟨hcw, hfw⟩ := bcell HB.out; clear hb) | (go_at_call 97; (with_reducible refine (HR.out _ (by repeat (first | exact Below.refl _ _ | exact HB.out | apply below_alloc' | apply Below.drew | apply below_drewN'))).mono ?_); rintro e w' ⟨rfl, rfl⟩) | (go_at_call 46; (with_reducible refine (HC.out _).mono ?_); rintro e w' ⟨A, n, c, hn, rfl, hb, ho⟩; have HJ := hid (blk_below hb (by repeat (with_reducible first | exact HJ.out | apply blk_alloc | apply blk_drew | apply blk_drewN)) (by first | (simp; done) | (simp; omega) | omega)); obtain ⟨hc, hf⟩ := bcell hb; have hz := hb.size; (try simp at hz); (try have hz0 : w.heap.size < w'.heap.size := by omega); have HB := hid (below_call (w := w) (by repeat (first | exact Below.refl _ _ | exact HB.out | apply below_alloc' | apply Below.drew | apply below_drewN')) hb); obtain ⟨hcw, hfw⟩ := bcell HB.out; clear hb))
      (repeat' (go_quiet (fail); go_wp2_with (first | (go_at_call 96; (with_reducible refine (HM.out _ (by repeat (first | exact Below.refl _ _ | exact HB.out | apply below_alloc' | apply Below.drew | apply below_drewN'))).mono ?_); rintro e w' ⟨v, rfl, hb⟩; have HJ := hid (blk_below hb (by repeat (with_reducible first | exact HJ.out | apply blk_alloc | apply blk_drew | apply blk_drewN)) (by first | (simp; done) | (simp; omega) | omega)); obtain ⟨hc, hf⟩ := bcell hb; have hz := hb.size; (try simp at hz); (try have hz0 : w.heap.size < w'.heap.size := by omega); have HB := hid (below_call (w := w) (by repeat (first | exact Below.refl _ _ | exact HB.out | apply below_alloc' | apply Below.drew | apply below_drewN')) hb); obtain ⟨hcw, hfw⟩ := bcell HB.out; clear hb) | (go_at_call 97; (with_reducible refine (HR.out _ (by repeat (first | exact Below.refl _ _ | exact HB.out | apply below_alloc' | apply Below.drew | apply below_drewN'))).mono ?_); rintro e w' ⟨rfl, rfl⟩) | (go_at_call 46; (with_reducible refine (HC.out _).mono ?_); rintro e w' ⟨A, n, c, hn, rfl, hb, ho⟩; have HJ := hid (blk_below hb (by repeat (with_reducible first | exact HJ.out | apply blk_alloc | apply blk_drew | apply blk_drewN)) (by first | (simp; done) | (simp; omega) | omega)); obtain ⟨hc, hf⟩ := bcell hb; have hz := hb.size; (try simp at hz); (try have hz0 : w.heap.size < w'.heap.size := by omega); have HB := hid (below_call (w := w) (by repeat (first | exact Below.refl _ _ | exact HB.out | apply below_alloc' | apply Below.drew | apply below_drewN')) hb); obtain ⟨hcw, hfw⟩ := bcell HB.out; clear hb))))
      go_loopw [2, 4, 6] (fun v2 v4 v6 wr => ∃ k : Nat, k ≤ j.codes.length ∧ v6 = .int .i64 k ∧ v2 = .int .i64 0 ∧ Hid (Below w.heap.size w wr) ∧ Hid (wr.heap[w.heap.size]? = some (.cells #[.int .i64 j.words, .slice Ac j.cells.length cc, .slice Ar j.reds.length cr, .int .i64 j.fuel, .int .i64 j.kind, .int .i64 j.lo, .int .i64 j.hi, .int .i64 j.step, .int .i64 j.items, .int .i64 j.stages, .slice Ak j.codes.length ck] 29 (0, 0))) ∧ Hid (∀ i, i < k → (insCheck (nth j.codes i) j.reds.length).2 = 0)) (fun _ _ v6 _ => j.codes.length - (intOf v6).toNat)
      case atStart => exact ⟨0, by omega, rfl, rfl, (by repeat (first | exact Below.refl _ _ | exact HB.out | apply below_alloc' | apply Below.drew | apply below_drewN')), hid (by repeat (with_reducible first | exact HJ.out | apply blk_alloc | apply blk_drew | apply blk_drewN)), fun i hi => by omega⟩
      case round =>
        obtain ⟨k, hk, rfl, rfl, HB, HJ, HP⟩ := hrel
        obtain ⟨hcw, hfw⟩ := bcell HB.out
        have hsz := HB.out.size
        have hgl := blk_lt HJ.out
        have hx10 := blk_cell HJ.out 10
        have hx2 := blk_cell HJ.out 2
        simp at hx10 hx2
        by_cases hlt : k < j.codes.length
        · first
          | (exfalso; have := H0.out; omega)
          | (rw [HA.out] at *
             have hc0 := HCC.out k hlt
             have hbw : b < w.heap.size := by omega
             have HK := hid (fun W (hW : Below w.heap.size w W) => check8_calls (Aq k) (cq k) (nth j.codes k) j.reds.length W B (Nat.le_trans hB0 hW.size) ((M4.out k hlt).below (hW.mono hB0)) (O11.out k hlt))
             by_cases he : (insCheck (nth j.codes k) j.reds.length).2 = 0
             · have HE := hid he
               rw [he] at HK
               clear he
               go_wp2_with fail
               go_region_with (first | (go_at_call 98; (with_reducible refine (HK.out _ (by repeat (first | exact Below.refl _ _ | exact HB.out | apply below_alloc' | apply Below.drew | apply below_drewN'))).mono ?_); rintro e w' ⟨rfl, hb⟩; have HJ := hid (blk_below hb (by repeat (with_reducible first | exact HJ.out | apply blk_alloc | apply blk_drew | apply blk_drewN)) (by first | (simp; done) | (simp; omega) | omega)); obtain ⟨hc, hf⟩ := bcell hb; have hz := hb.size; (try simp at hz); (try have hz0 : w.heap.size < w'.heap.size := by omega); have HB := hid (below_call (w := w) (by repeat (first | exact Below.refl _ _ | exact HB.out | apply below_alloc' | apply Below.drew | apply below_drewN')) hb); obtain ⟨hcw, hfw⟩ := bcell HB.out; clear hb))
               all_goals (try go_wp2_with fail)
               all_goals
                 go_roundw
                 case rel => exact ⟨k + 1, by omega, by go_num, rfl, (by repeat (first | exact Below.refl _ _ | exact HB.out | apply below_alloc' | apply Below.drew | apply below_drewN')), hid (by repeat (with_reducible first | exact HJ.out | apply blk_alloc | apply blk_drew | apply blk_drewN)), fun i hi => (by rcases Nat.lt_or_ge i k with h | h; exact HP.out i h; obtain rfl : i = k := (by omega); exact HE.out)⟩
                 case measure => simp [intOf]; omega
             · have HV3 := hid (show jobValid j = (insCheck (nth j.codes k) j.reds.length).2 by rw [HV2.out]; exact codesErr_bad hlt HP.out he)
               generalize insCheck (nth j.codes k) j.reds.length = er at *
               have he' := int_eta he
               clear he
               go_wp2_with fail
               go_region_with (first | (go_at_call 98; (with_reducible refine (HK.out _ (by repeat (first | exact Below.refl _ _ | exact HB.out | apply below_alloc' | apply Below.drew | apply below_drewN'))).mono ?_); rintro e w' ⟨rfl, hb⟩; have HJ := hid (blk_below hb (by repeat (with_reducible first | exact HJ.out | apply blk_alloc | apply blk_drew | apply blk_drewN)) (by first | (simp; done) | (simp; omega) | omega)); obtain ⟨hc, hf⟩ := bcell hb; have hz := hb.size; (try simp at hz); (try have hz0 : w.heap.size < w'.heap.size := by omega); have HB := hid (below_call (w := w) (by repeat (first | exact Below.refl _ _ | exact HB.out | apply below_alloc' | apply Below.drew | apply below_drewN')) hb); obtain ⟨hcw, hfw⟩ := bcell HB.out; clear hb))
               all_goals (try go_wp2_with fail)
               all_goals ((try first | go_ret | go_ret2 | go_ret3); try go_simp)
               all_goals ((with_reducible refine retB_i ?_ (by repeat (first | exact Below.refl _ _ | exact HB.out | (refine Below.setCell ?_ (by simp) _) | apply below_alloc' | apply Below.drew | apply below_drewN'))); rw [HV3.out]))
        · have HV3 := hid (show jobValid j = 0 by rw [HV2.out]; exact codesErr_ok (fun i hi => HP.out i (by omega)))
          go_wp2_with fail
          all_goals ((try first | go_ret | go_ret2 | go_ret3); try go_simp)
          all_goals ((with_reducible refine retB_i ?_ (by repeat (first | exact Below.refl _ _ | exact HB.out | (refine Below.setCell ?_ (by simp) _) | apply below_alloc' | apply Below.drew | apply below_drewN'))); rw [HV3.out])
end Go.Proofs.Ytcadbfggaipnhaa
