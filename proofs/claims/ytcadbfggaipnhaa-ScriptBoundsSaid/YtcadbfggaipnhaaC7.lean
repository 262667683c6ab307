/- Contracts of red's functions that only reckon. -/
import Derived.Test.YtcadbfggaipnhaaProg
import Derived.Test.YtcadbfggaipnhaaM
import Derived.WalkSpells
import Derived.WalkLawsBesides
import Derived.Outline
import Derived.IntWalk
import Derived.Deep.QuietTactic
import Derived.BigQuiet
namespace Go.Proofs.Ytcadbfggaipnhaa
open Go.RowKit
set_option linter.unusedSimpArgs false
set_option linter.unusedVariables false
set_option maxHeartbeats 400000 in
theorem right_calls (op : Int) (w : World) : Calls Try.prog 130 #[.int .i64 op] w (Ret (.bool (redRight op)) w) := by
  go_enter Try.func130, Try.ntmps130
  go_wp2_with (first | fail)
  (repeat' (go_quiet (fail); go_wp2_with (first | fail)))
  all_goals ((try first | go_ret | go_ret2 | go_ret3); try go_simp)
  all_goals ((with_reducible refine ret_bool ?_); unfold redRight; simp; omega)
theorem right_is (op : Int) (b : Bool) (w : World) (h : redRight op = b) : Calls Try.prog 130 #[.int .i64 op] w (Ret (.bool b) w) := by have := right_calls op w; rwa [h] at this
theorem zero_cases (op : Int) : op = 2 ∨ op = 3 ∨ op = 4 ∨ op = 5 ∨ (op ≠ 2 ∧ op ≠ 3 ∧ op ≠ 4 ∧ op ≠ 5) := by omega
set_option maxHeartbeats 400000 in
theorem zero_calls (op : Int) (w : World) : Calls Try.prog 131 #[.int .i64 op] w (Ret (.int .i64 (redZero op)) w) := by
  rcases zero_cases op with rfl | rfl | rfl | rfl | ⟨h1, h2, h3, h4⟩
  case inr.inr.inr.inr =>
    go_enter Try.func131, Try.ntmps131
    go_wp2_with (first | fail)
    (repeat' (go_quiet (fail); go_wp2_with (first | fail)))
    all_goals ((try first | go_ret | go_ret2 | go_ret3); try go_simp)
    all_goals ((with_reducible refine ret_int ?_); unfold redZero; rw [if_neg h1, if_neg h2, if_neg h3, if_neg h4])
  all_goals
    go_enter Try.func131, Try.ntmps131
    go_wp2_with (first | fail)
    (repeat' (go_quiet (fail); go_wp2_with (first | fail)))
    all_goals ((try first | go_ret | go_ret2 | go_ret3); try go_simp)
    all_goals ((with_reducible refine ret_int ?_); simp [redZero])
theorem join_cases (op : Int) : op = 1 ∨ op = 2 ∨ op = 3 ∨ op = 4 ∨ op = 5 ∨ op = 6 ∨ op = 7 ∨ (op ≠ 1 ∧ op ≠ 2 ∧ op ≠ 3 ∧ op ≠ 4 ∧ op ≠ 5 ∧ op ≠ 6 ∧ op ≠ 7) := by omega
set_option maxHeartbeats 400000 in
theorem join_calls (op a b : Int) (w : World) : Calls Try.prog 150 #[.int .i64 op, .int .i64 a, .int .i64 b] w (Ret (.int .i64 (redJoin op a b)) w) := by
  rcases join_cases op with rfl | rfl | rfl | rfl | rfl | rfl | rfl | ⟨h1, h2, h3, h4, h5, h6, h7⟩
  case inr.inr.inr.inr.inr.inr.inr =>
    go_enter Try.func150, Try.ntmps150
    go_wp2_with (first | fail)
    (repeat' (go_quiet (fail); go_wp2_with (first | fail)))
    all_goals ((try first | go_ret | go_ret2 | go_ret3); try go_simp)
    all_goals ((with_reducible refine ret_int ?_); unfold redJoin; rw [if_neg h1, if_neg h2, if_neg h3, if_neg h4, if_neg h5, if_neg h6, if_neg h7])
  all_goals
    go_enter Try.func150, Try.ntmps150
    go_wp2_with (first | fail)
    (repeat' (go_quiet (fail); go_wp2_with (first | fail)))
    all_goals ((try first | go_ret | go_ret2 | go_ret3); try go_simp)
    all_goals ((with_reducible refine ret_int ?_); first | (simp [redJoin]; done) | (simp [redJoin]; omega))
end Go.Proofs.Ytcadbfggaipnhaa
