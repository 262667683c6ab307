/- num.sum, num.Parse of a text of one digit. -/
import Derived.Test.YtcadbfggaipnhaaS1
namespace Go.Proofs.Ytcadbfggaipnhaa
open Go.RowKit
set_option linter.unusedSimpArgs false
set_option linter.unusedVariables false
set_option maxRecDepth 100000 in
set_option maxHeartbeats 1000000 in
theorem sum_0 (w : World) : Calls Try.prog 175 #[.string ⟨#[48]⟩] w (Ret (.tuple #[.int .u64 0, .bool true]) w) := by
  go_enter Try.func175, Try.ntmps175
  go_wp2_with (first | fail)
  (repeat' (go_quiet (fail); go_wp2_with (first | fail)))
  go_loop [4, 9] (fun v4 v9 => (v4 = .int .u64 0 ∧ v9 = .int .i64 0) ∨ (v4 = .int .u64 0 ∧ v9 = .int .i64 1)) (fun _ v9 => 1 - (intOf v9).toNat)
  case atStart => exact .inl ⟨rfl, rfl⟩
  case round =>
    rcases hrel with ⟨rfl, rfl⟩ | ⟨rfl, rfl⟩
    · go_wp2_with fail
      go_round
      case rel => exact .inr ⟨rfl, rfl⟩
      case measure => simp [intOf]
    · go_wp2_with fail
      all_goals ((try first | go_ret | go_ret2 | go_ret3); try go_simp)
      all_goals exact ⟨rfl, rfl⟩
set_option maxRecDepth 100000 in
set_option maxHeartbeats 1000000 in
theorem parse_0 (w : World) : Calls Try.prog 168 #[.string ⟨#[48]⟩] w (Ret (.tuple #[.int .i64 0, .int .i64 0]) w) := by
  go_enter Try.func168, Try.ntmps168
  go_wp2_with (first | fail)
  (repeat' (go_quiet (fail); go_wp2_with (first | fail)))
  go_loop [2, 3, 36] (fun v2 v3 v36 => v2 = .int .i64 0 ∧ v3 = .int .i64 0 ∧ (v36 = .int .i64 0 ∨ v36 = .int .i64 1)) (fun _ _ v36 => 1 - (intOf v36).toNat)
  case atStart => exact ⟨rfl, rfl, .inl rfl⟩
  case round =>
    obtain ⟨rfl, rfl, rfl | rfl⟩ := hrel
    · go_wp2_with fail
      go_round
      case rel => exact ⟨rfl, rfl, .inr rfl⟩
      case measure => simp [intOf]
    · go_wp2_with (first | (go_at_call 175; (with_reducible refine (sum_0 _).mono ?_); rintro e w' ⟨rfl, rfl⟩))
      all_goals ((try first | go_ret | go_ret2 | go_ret3); try go_simp)
      all_goals exact ⟨rfl, rfl⟩
set_option maxRecDepth 100000 in
set_option maxHeartbeats 1000000 in
theorem sum_1 (w : World) : Calls Try.prog 175 #[.string ⟨#[49]⟩] w (Ret (.tuple #[.int .u64 1, .bool true]) w) := by
  go_enter Try.func175, Try.ntmps175
  go_wp2_with (first | fail)
  (repeat' (go_quiet (fail); go_wp2_with (first | fail)))
  go_loop [4, 9] (fun v4 v9 => (v4 = .int .u64 0 ∧ v9 = .int .i64 0) ∨ (v4 = .int .u64 1 ∧ v9 = .int .i64 1)) (fun _ v9 => 1 - (intOf v9).toNat)
  case atStart => exact .inl ⟨rfl, rfl⟩
  case round =>
    rcases hrel with ⟨rfl, rfl⟩ | ⟨rfl, rfl⟩
    · go_wp2_with fail
      go_round
      case rel => exact .inr ⟨rfl, rfl⟩
      case measure => simp [intOf]
    · go_wp2_with fail
      all_goals ((try first | go_ret | go_ret2 | go_ret3); try go_simp)
      all_goals exact ⟨rfl, rfl⟩
set_option maxRecDepth 100000 in
set_option maxHeartbeats 1000000 in
theorem parse_1 (w : World) : Calls Try.prog 168 #[.string ⟨#[49]⟩] w (Ret (.tuple #[.int .i64 1, .int .i64 0]) w) := by
  go_enter Try.func168, Try.ntmps168
  go_wp2_with (first | fail)
  (repeat' (go_quiet (fail); go_wp2_with (first | fail)))
  go_loop [2, 3, 36] (fun v2 v3 v36 => v2 = .int .i64 0 ∧ v3 = .int .i64 0 ∧ (v36 = .int .i64 0 ∨ v36 = .int .i64 1)) (fun _ _ v36 => 1 - (intOf v36).toNat)
  case atStart => exact ⟨rfl, rfl, .inl rfl⟩
  case round =>
    obtain ⟨rfl, rfl, rfl | rfl⟩ := hrel
    · go_wp2_with fail
      go_round
      case rel => exact ⟨rfl, rfl, .inr rfl⟩
      case measure => simp [intOf]
    · go_wp2_with (first | (go_at_call 175; (with_reducible refine (sum_1 _).mono ?_); rintro e w' ⟨rfl, rfl⟩))
      all_goals ((try first | go_ret | go_ret2 | go_ret3); try go_simp)
      all_goals exact ⟨rfl, rfl⟩
set_option maxRecDepth 100000 in
set_option maxHeartbeats 1000000 in
theorem sum_2 (w : World) : Calls Try.prog 175 #[.string ⟨#[50]⟩] w (Ret (.tuple #[.int .u64 2, .bool true]) w) := by
  go_enter Try.func175, Try.ntmps175
  go_wp2_with (first | fail)
  (repeat' (go_quiet (fail); go_wp2_with (first | fail)))
  go_loop [4, 9] (fun v4 v9 => (v4 = .int .u64 0 ∧ v9 = .int .i64 0) ∨ (v4 = .int .u64 2 ∧ v9 = .int .i64 1)) (fun _ v9 => 1 - (intOf v9).toNat)
  case atStart => exact .inl ⟨rfl, rfl⟩
  case round =>
    rcases hrel with ⟨rfl, rfl⟩ | ⟨rfl, rfl⟩
    · go_wp2_with fail
      go_round
      case rel => exact .inr ⟨rfl, rfl⟩
      case measure => simp [intOf]
    · go_wp2_with fail
      all_goals ((try first | go_ret | go_ret2 | go_ret3); try go_simp)
      all_goals exact ⟨rfl, rfl⟩
set_option maxRecDepth 100000 in
set_option maxHeartbeats 1000000 in
theorem parse_2 (w : World) : Calls Try.prog 168 #[.string ⟨#[50]⟩] w (Ret (.tuple #[.int .i64 2, .int .i64 0]) w) := by
  go_enter Try.func168, Try.ntmps168
  go_wp2_with (first | fail)
  (repeat' (go_quiet (fail); go_wp2_with (first | fail)))
  go_loop [2, 3, 36] (fun v2 v3 v36 => v2 = .int .i64 0 ∧ v3 = .int .i64 0 ∧ (v36 = .int .i64 0 ∨ v36 = .int .i64 1)) (fun _ _ v36 => 1 - (intOf v36).toNat)
  case atStart => exact ⟨rfl, rfl, .inl rfl⟩
  case round =>
    obtain ⟨rfl, rfl, rfl | rfl⟩ := hrel
    · go_wp2_with fail
      go_round
      case rel => exact ⟨rfl, rfl, .inr rfl⟩
      case measure => simp [intOf]
    · go_wp2_with (first | (go_at_call 175; (with_reducible refine (sum_2 _).mono ?_); rintro e w' ⟨rfl, rfl⟩))
      all_goals ((try first | go_ret | go_ret2 | go_ret3); try go_simp)
      all_goals exact ⟨rfl, rfl⟩
end Go.Proofs.Ytcadbfggaipnhaa
