/- outriderref08.One, kinds 1, 2, 3, 6, 7. -/
import Derived.Test.YtcadbfggaipnhaaR3
import Derived.Deep.DeepMust
namespace Go.Proofs.Ytcadbfggaipnhaa
open Go.RowKit
set_option linter.unusedSimpArgs false
set_option linter.unusedVariables false
set_option maxRecDepth 100000 in
set_option maxHeartbeats 2000000 in
theorem one8_1 (op a b c k cells long : Int) (w : World) : Calls Try.prog 136 #[.agg #[.int .i64 1, .int .i64 op, .int .i64 a, .int .i64 b, .int .i64 c, .int .i64 k], .int .i64 cells, .int .i64 long] w (RetB (.int .i64 (insOne 1 op a b c k cells long)) w) := by
  have HP := hid (fun W => parts_is 1 ⟨#[]⟩ W rfl)
  have HA := hid (fun n W => bad8_calls n W)
  go_enter Try.func136, Try.ntmps136
  go_wp2_with (first | (go_at_call 165; (with_reducible refine (HP.out _).mono ?_); rintro e w' ⟨rfl, hb⟩; obtain ⟨hc, hf⟩ := bcell hb; have hz := hb.size; (try simp at hz); (try have hz0 : w.heap.size < w'.heap.size := by omega); (try have hz1 : w.heap.size + 1 < w'.heap.size := by omega); (try have hz2 : w.heap.size + 2 < w'.heap.size := by omega); have HB := hid (below_call (w := w) (by repeat (first | exact Below.refl _ _ | exact HB.out | apply below_alloc' | apply Below.drew | apply below_drewN')) hb); obtain ⟨hcw, hfw⟩ := bcell HB.out; clear hb) | (go_at_call 166; (with_reducible refine (has_is _ _ true _ ?_ ?_).mono ?_); (· decide); (· decide); rintro e w' ⟨rfl, rfl⟩) | (go_at_call 166; (with_reducible refine (has_is _ _ false _ ?_ ?_).mono ?_); (· decide); (· decide); rintro e w' ⟨rfl, rfl⟩) | (go_at_call 167; (with_reducible refine (HA.out _ _).mono ?_); rintro e w' ⟨rfl, rfl⟩))
  all_goals ((try first | go_ret | go_ret2 | go_ret3); try go_simp)
  all_goals ((with_reducible refine retB_i ?_ (by repeat (first | exact Below.refl _ _ | exact HB.out | (refine Below.setCell ?_ (by simp) _) | apply below_alloc' | apply Below.drew | apply below_drewN'))); first | (simp [insOne, *]; done) | (simp [insOne, *]; omega))
set_option maxRecDepth 100000 in
set_option maxHeartbeats 2000000 in
theorem one8_2 (op a b c k cells long : Int) (w : World) : Calls Try.prog 136 #[.agg #[.int .i64 2, .int .i64 op, .int .i64 a, .int .i64 b, .int .i64 c, .int .i64 k], .int .i64 cells, .int .i64 long] w (RetB (.int .i64 (insOne 2 op a b c k cells long)) w) := by
  have HP := hid (fun W => parts_is 2 ⟨#[97, 107]⟩ W rfl)
  have HA := hid (fun n W => bad8_calls n W)
  go_enter Try.func136, Try.ntmps136
  go_wp2_with (first | (go_at_call 165; (with_reducible refine (HP.out _).mono ?_); rintro e w' ⟨rfl, hb⟩; obtain ⟨hc, hf⟩ := bcell hb; have hz := hb.size; (try simp at hz); (try have hz0 : w.heap.size < w'.heap.size := by omega); (try have hz1 : w.heap.size + 1 < w'.heap.size := by omega); (try have hz2 : w.heap.size + 2 < w'.heap.size := by omega); have HB := hid (below_call (w := w) (by repeat (first | exact Below.refl _ _ | exact HB.out | apply below_alloc' | apply Below.drew | apply below_drewN')) hb); obtain ⟨hcw, hfw⟩ := bcell HB.out; clear hb) | (go_at_call 166; (with_reducible refine (has_is _ _ true _ ?_ ?_).mono ?_); (· decide); (· decide); rintro e w' ⟨rfl, rfl⟩) | (go_at_call 166; (with_reducible refine (has_is _ _ false _ ?_ ?_).mono ?_); (· decide); (· decide); rintro e w' ⟨rfl, rfl⟩) | (go_at_call 167; (with_reducible refine (HA.out _ _).mono ?_); rintro e w' ⟨rfl, rfl⟩))
  all_goals ((try first | go_ret | go_ret2 | go_ret3); try go_simp)
  all_goals ((with_reducible refine retB_i ?_ (by repeat (first | exact Below.refl _ _ | exact HB.out | (refine Below.setCell ?_ (by simp) _) | apply below_alloc' | apply Below.drew | apply below_drewN'))); first | (simp [insOne, *]; done) | (simp [insOne, *]; omega))
set_option maxRecDepth 100000 in
set_option maxHeartbeats 2000000 in
theorem one8_3 (op a b c k cells long : Int) (w : World) : Calls Try.prog 136 #[.agg #[.int .i64 3, .int .i64 op, .int .i64 a, .int .i64 b, .int .i64 c, .int .i64 k], .int .i64 cells, .int .i64 long] w (RetB (.int .i64 (insOne 3 op a b c k cells long)) w) := by
  have HP := hid (fun W => parts_is 3 ⟨#[97, 98]⟩ W rfl)
  have HA := hid (fun n W => bad8_calls n W)
  go_enter Try.func136, Try.ntmps136
  go_wp2_with (first | (go_at_call 165; (with_reducible refine (HP.out _).mono ?_); rintro e w' ⟨rfl, hb⟩; obtain ⟨hc, hf⟩ := bcell hb; have hz := hb.size; (try simp at hz); (try have hz0 : w.heap.size < w'.heap.size := by omega); (try have hz1 : w.heap.size + 1 < w'.heap.size := by omega); (try have hz2 : w.heap.size + 2 < w'.heap.size := by omega); have HB := hid (below_call (w := w) (by repeat (first | exact Below.refl _ _ | exact HB.out | apply below_alloc' | apply Below.drew | apply below_drewN')) hb); obtain ⟨hcw, hfw⟩ := bcell HB.out; clear hb) | (go_at_call 166; (with_reducible refine (has_is _ _ true _ ?_ ?_).mono ?_); (· decide); (· decide); rintro e w' ⟨rfl, rfl⟩) | (go_at_call 166; (with_reducible refine (has_is _ _ false _ ?_ ?_).mono ?_); (· decide); (· decide); rintro e w' ⟨rfl, rfl⟩) | (go_at_call 167; (with_reducible refine (HA.out _ _).mono ?_); rintro e w' ⟨rfl, rfl⟩))
  all_goals ((try first | go_ret | go_ret2 | go_ret3); try go_simp)
  all_goals ((with_reducible refine retB_i ?_ (by repeat (first | exact Below.refl _ _ | exact HB.out | (refine Below.setCell ?_ (by simp) _) | apply below_alloc' | apply Below.drew | apply below_drewN'))); first | (simp [insOne, *]; done) | (simp [insOne, *]; omega))
set_option maxRecDepth 100000 in
set_option maxHeartbeats 2000000 in
theorem one8_6 (op a b c k cells long : Int) (w : World) : Calls Try.prog 136 #[.agg #[.int .i64 6, .int .i64 op, .int .i64 a, .int .i64 b, .int .i64 c, .int .i64 k], .int .i64 cells, .int .i64 long] w (RetB (.int .i64 (insOne 6 op a b c k cells long)) w) := by
  have HP := hid (fun W => parts_is 6 ⟨#[97, 98, 107]⟩ W rfl)
  have HA := hid (fun n W => bad8_calls n W)
  go_enter Try.func136, Try.ntmps136
  go_wp2_with (first | (go_at_call 165; (with_reducible refine (HP.out _).mono ?_); rintro e w' ⟨rfl, hb⟩; obtain ⟨hc, hf⟩ := bcell hb; have hz := hb.size; (try simp at hz); (try have hz0 : w.heap.size < w'.heap.size := by omega); (try have hz1 : w.heap.size + 1 < w'.heap.size := by omega); (try have hz2 : w.heap.size + 2 < w'.heap.size := by omega); have HB := hid (below_call (w := w) (by repeat (first | exact Below.refl _ _ | exact HB.out | apply below_alloc' | apply Below.drew | apply below_drewN')) hb); obtain ⟨hcw, hfw⟩ := bcell HB.out; clear hb) | (go_at_call 166; (with_reducible refine (has_is _ _ true _ ?_ ?_).mono ?_); (· decide); (· decide); rintro e w' ⟨rfl, rfl⟩) | (go_at_call 166; (with_reducible refine (has_is _ _ false _ ?_ ?_).mono ?_); (· decide); (· decide); rintro e w' ⟨rfl, rfl⟩) | (go_at_call 167; (with_reducible refine (HA.out _ _).mono ?_); rintro e w' ⟨rfl, rfl⟩))
  all_goals ((try first | go_ret | go_ret2 | go_ret3); try go_simp)
  all_goals ((with_reducible refine retB_i ?_ (by repeat (first | exact Below.refl _ _ | exact HB.out | (refine Below.setCell ?_ (by simp) _) | apply below_alloc' | apply Below.drew | apply below_drewN'))); first | (simp [insOne, *]; done) | (simp [insOne, *]; omega))
set_option maxRecDepth 100000 in
set_option maxHeartbeats 2000000 in
theorem one8_7 (op a b c k cells long : Int) (w : World) : Calls Try.prog 136 #[.agg #[.int .i64 7, .int .i64 op, .int .i64 a, .int .i64 b, .int .i64 c, .int .i64 k], .int .i64 cells, .int .i64 long] w (RetB (.int .i64 (insOne 7 op a b c k cells long)) w) := by
  have HP := hid (fun W => parts_is 7 ⟨#[97, 98, 107]⟩ W rfl)
  have HA := hid (fun n W => bad8_calls n W)
  go_enter Try.func136, Try.ntmps136
  go_wp2_with (first | (go_at_call 165; (with_reducible refine (HP.out _).mono ?_); rintro e w' ⟨rfl, hb⟩; obtain ⟨hc, hf⟩ := bcell hb; have hz := hb.size; (try simp at hz); (try have hz0 : w.heap.size < w'.heap.size := by omega); (try have hz1 : w.heap.size + 1 < w'.heap.size := by omega); (try have hz2 : w.heap.size + 2 < w'.heap.size := by omega); have HB := hid (below_call (w := w) (by repeat (first | exact Below.refl _ _ | exact HB.out | apply below_alloc' | apply Below.drew | apply below_drewN')) hb); obtain ⟨hcw, hfw⟩ := bcell HB.out; clear hb) | (go_at_call 166; (with_reducible refine (has_is _ _ true _ ?_ ?_).mono ?_); (· decide); (· decide); rintro e w' ⟨rfl, rfl⟩) | (go_at_call 166; (with_reducible refine (has_is _ _ false _ ?_ ?_).mono ?_); (· decide); (· decide); rintro e w' ⟨rfl, rfl⟩) | (go_at_call 167; (with_reducible refine (HA.out _ _).mono ?_); rintro e w' ⟨rfl, rfl⟩))
  all_goals ((try first | go_ret | go_ret2 | go_ret3); try go_simp)
  all_goals ((with_reducible refine retB_i ?_ (by repeat (first | exact Below.refl _ _ | exact HB.out | (refine Below.setCell ?_ (by simp) _) | apply below_alloc' | apply Below.drew | apply below_drewN'))); first | (simp [insOne, *]; done) | (simp [insOne, *]; omega))
set_option maxRecDepth 100000 in
set_option maxHeartbeats 2000000 in
theorem one8_none (kd op a b c k cells long : Int) (w : World) (h : kd < 1 ∨ 13 < kd) : Calls Try.prog 136 #[.agg #[.int .i64 kd, .int .i64 op, .int .i64 a, .int .i64 b, .int .i64 c, .int .i64 k], .int .i64 cells, .int .i64 long] w (RetB (.int .i64 (insOne kd op a b c k cells long)) w) := by
  have HP := hid (fun W => parts_is kd ⟨#[63]⟩ W (by unfold partsS; repeat rw [if_neg (by omega)]))
  have HV : Hid (insOne kd op a b c k cells long = 81) := (show insOne kd op a b c k cells long = 81 by unfold insOne; repeat rw [if_neg (by omega)])
  clear h
  go_enter Try.func136, Try.ntmps136
  go_wp2_with (first | (go_at_call 165; (with_reducible refine (HP.out _).mono ?_); rintro e w' ⟨rfl, hb⟩; obtain ⟨hc, hf⟩ := bcell hb; have hz := hb.size; (try simp at hz); (try have hz0 : w.heap.size < w'.heap.size := by omega); (try have hz1 : w.heap.size + 1 < w'.heap.size := by omega); (try have hz2 : w.heap.size + 2 < w'.heap.size := by omega); have HB := hid (below_call (w := w) (by repeat (first | exact Below.refl _ _ | exact HB.out | apply below_alloc' | apply Below.drew | apply below_drewN')) hb); obtain ⟨hcw, hfw⟩ := bcell HB.out; clear hb) | (go_at_call 166; (with_reducible refine (has_is _ _ true _ ?_ ?_).mono ?_); (· decide); (· decide); rintro e w' ⟨rfl, rfl⟩) | (go_at_call 166; (with_reducible refine (has_is _ _ false _ ?_ ?_).mono ?_); (· decide); (· decide); rintro e w' ⟨rfl, rfl⟩))
  all_goals ((try first | go_ret | go_ret2 | go_ret3); try go_simp)
  all_goals ((with_reducible refine retB_i ?_ (by repeat (first | exact Below.refl _ _ | exact HB.out | (refine Below.setCell ?_ (by simp) _) | apply below_alloc' | apply Below.drew | apply below_drewN'))); rw [HV.out])
end Go.Proofs.Ytcadbfggaipnhaa
