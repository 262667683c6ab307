/- outriderref08.One, kinds 4, 5. -/
import Derived.Test.YtcadbfggaipnhaaR3
import Derived.Deep.DeepMust
namespace Go.Proofs.Ytcadbfggaipnhaa
open Go.RowKit
set_option linter.unusedSimpArgs false
set_option linter.unusedVariables false
set_option maxRecDepth 100000 in
set_option maxHeartbeats 2000000 in
theorem one8_4 (op a b c k cells long : Int) (w : World) : Calls Try.prog 136 #[.agg #[.int .i64 4, .int .i64 op, .int .i64 a, .int .i64 b, .int .i64 c, .int .i64 k], .int .i64 cells, .int .i64 long] w (RetB (.int .i64 (insOne 4 op a b c k cells long)) w) := by
  have HP := hid (fun W => parts_is 4 ⟨#[112, 97, 98]⟩ W rfl)
  have HA := hid (fun n W => bad8_calls n W)
  go_enter Try.func136, Try.ntmps136
  go_wp2_with (first | (go_at_call 165; (with_reducible refine (HP.out _).mono ?_); rintro e w' ⟨rfl, hb⟩; obtain ⟨hc, hf⟩ := bcell hb; have hz := hb.size; (try simp at hz); (try have hz0 : w.heap.size < w'.heap.size := by omega); (try have hz1 : w.heap.size + 1 < w'.heap.size := by omega); (try have hz2 : w.heap.size + 2 < w'.heap.size := by omega); have HB := hid (below_call (w := w) (by repeat (first | exact Below.refl _ _ | exact HB.out | apply below_alloc' | apply Below.drew | apply below_drewN')) hb); obtain ⟨hcw, hfw⟩ := bcell HB.out; clear hb) | (go_at_call 166; (with_reducible refine (has_is _ _ true _ ?_ ?_).mono ?_); (· decide); (· decide); rintro e w' ⟨rfl, rfl⟩) | (go_at_call 166; (with_reducible refine (has_is _ _ false _ ?_ ?_).mono ?_); (· decide); (· decide); rintro e w' ⟨rfl, rfl⟩) | (go_at_call 167; (with_reducible refine (HA.out _ _).mono ?_); rintro e w' ⟨rfl, rfl⟩))
  all_goals ((try first | go_ret | go_ret2 | go_ret3); try go_simp)
  all_goals ((with_reducible refine retB_i ?_ (by repeat (first | exact Below.refl _ _ | exact HB.out | (refine Below.setCell ?_ (by simp) _) | apply below_alloc' | apply Below.drew | apply below_drewN'))); first | (simp [insOne, *]; done) | (simp [insOne, *]; omega))
set_option maxRecDepth 100000 in
set_option maxHeartbeats 2000000 in
theorem one8_5 (op a b c k cells long : Int) (w : World) : Calls Try.prog 136 #[.agg #[.int .i64 5, .int .i64 op, .int .i64 a, .int .i64 b, .int .i64 c, .int .i64 k], .int .i64 cells, .int .i64 long] w (RetB (.int .i64 (insOne 5 op a b c k cells long)) w) := by
  have HP := hid (fun W => parts_is 5 ⟨#[111, 97, 98, 99]⟩ W rfl)
  have HA := hid (fun n W => bad8_calls n W)
  go_enter Try.func136, Try.ntmps136
  go_wp2_with (first | (go_at_call 165; (with_reducible refine (HP.out _).mono ?_); rintro e w' ⟨rfl, hb⟩; obtain ⟨hc, hf⟩ := bcell hb; have hz := hb.size; (try simp at hz); (try have hz0 : w.heap.size < w'.heap.size := by omega); (try have hz1 : w.heap.size + 1 < w'.heap.size := by omega); (try have hz2 : w.heap.size + 2 < w'.heap.size := by omega); have HB := hid (below_call (w := w) (by repeat (first | exact Below.refl _ _ | exact HB.out | apply below_alloc' | apply Below.drew | apply below_drewN')) hb); obtain ⟨hcw, hfw⟩ := bcell HB.out; clear hb) | (go_at_call 166; (with_reducible refine (has_is _ _ true _ ?_ ?_).mono ?_); (· decide); (· decide); rintro e w' ⟨rfl, rfl⟩) | (go_at_call 166; (with_reducible refine (has_is _ _ false _ ?_ ?_).mono ?_); (· decide); (· decide); rintro e w' ⟨rfl, rfl⟩) | (go_at_call 167; (with_reducible refine (HA.out _ _).mono ?_); rintro e w' ⟨rfl, rfl⟩))
  all_goals ((try first | go_ret | go_ret2 | go_ret3); try go_simp)
  all_goals ((with_reducible refine retB_i ?_ (by repeat (first | exact Below.refl _ _ | exact HB.out | (refine Below.setCell ?_ (by simp) _) | apply below_alloc' | apply Below.drew | apply below_drewN'))); first | (simp [insOne, *]; done) | (simp [insOne, *]; omega))
end Go.Proofs.Ytcadbfggaipnhaa
