/- Contracts of ins's functions that look at one instruction. -/
import Derived.Test.YtcadbfggaipnhaaProg
import Derived.Test.YtcadbfggaipnhaaP
import Derived.WalkSpells
import Derived.WalkLawsBesides
import Derived.Outline
import Derived.IntWalk
import Derived.Deep.QuietTactic
import Derived.BigQuiet
namespace Go.Proofs.Ytcadbfggaipnhaa
open Go.RowKit
set_option linter.unusedSimpArgs false
set_option linter.unusedVariables false

set_option maxHeartbeats 400000 in
theorem reg_calls (n : Int) (w : World) : Calls Try.prog 164 #[.bool true, .int .i64 n] w (Ret (.bool (regB n)) w) := by
  go_enter Try.func164, Try.ntmps164
  go_wp2_with (first | fail)
  (repeat' (go_quiet (fail); go_wp2_with (first | fail)))
  all_goals ((try first | go_ret | go_ret2 | go_ret3); try go_simp)
  all_goals ((with_reducible refine ret_bool ?_); unfold regB; simp; omega)
theorem reg_yes (n : Int) (w : World) (h : regB n = true) : Calls Try.prog 164 #[.bool true, .int .i64 n] w (Ret (.bool true) w) := by have := reg_calls n w; rwa [h] at this
theorem reg_no (n : Int) (w : World) (h : regB n = false) : Calls Try.prog 164 #[.bool true, .int .i64 n] w (Ret (.bool false) w) := by have := reg_calls n w; rwa [h] at this
set_option maxHeartbeats 400000 in
theorem shape_1 (w : World) : Calls Try.prog 163 #[.int .i64 1] w (RetB (.tuple #[.agg #[.bool false, .bool false, .bool false, .bool false, .bool false, .bool false, .bool false, .bool false], .bool true]) w) := by
  go_enter Try.func163, Try.ntmps163
  go_wp2_with (first | fail)
  (repeat' (go_quiet (fail); go_wp2_with (first | fail)))
  exact bodyPost_ret (v := .tuple #[.agg #[.bool false, .bool false, .bool false, .bool false, .bool false, .bool false, .bool false, .bool false], .bool true]) (by simp [results, Try.results163, go_sem]) rfl ⟨rfl, (by repeat (first | exact Below.refl _ _ | exact HB.out | (refine Below.setCell ?_ (by simp) _) | apply below_alloc' | apply Below.drew | apply below_drewN'))⟩
set_option maxHeartbeats 400000 in
theorem shape_2 (w : World) : Calls Try.prog 163 #[.int .i64 2] w (RetB (.tuple #[.agg #[.bool true, .bool false, .bool false, .bool false, .bool true, .bool false, .bool false, .bool false], .bool true]) w) := by
  go_enter Try.func163, Try.ntmps163
  go_wp2_with (first | fail)
  (repeat' (go_quiet (fail); go_wp2_with (first | fail)))
  exact bodyPost_ret (v := .tuple #[.agg #[.bool true, .bool false, .bool false, .bool false, .bool true, .bool false, .bool false, .bool false], .bool true]) (by simp [results, Try.results163, go_sem]) rfl ⟨rfl, (by repeat (first | exact Below.refl _ _ | exact HB.out | (refine Below.setCell ?_ (by simp) _) | apply below_alloc' | apply Below.drew | apply below_drewN'))⟩
set_option maxHeartbeats 400000 in
theorem shape_3 (w : World) : Calls Try.prog 163 #[.int .i64 3] w (RetB (.tuple #[.agg #[.bool true, .bool true, .bool false, .bool false, .bool false, .bool false, .bool false, .bool false], .bool true]) w) := by
  go_enter Try.func163, Try.ntmps163
  go_wp2_with (first | fail)
  (repeat' (go_quiet (fail); go_wp2_with (first | fail)))
  exact bodyPost_ret (v := .tuple #[.agg #[.bool true, .bool true, .bool false, .bool false, .bool false, .bool false, .bool false, .bool false], .bool true]) (by simp [results, Try.results163, go_sem]) rfl ⟨rfl, (by repeat (first | exact Below.refl _ _ | exact HB.out | (refine Below.setCell ?_ (by simp) _) | apply below_alloc' | apply Below.drew | apply below_drewN'))⟩
set_option maxHeartbeats 400000 in
theorem shape_4 (w : World) : Calls Try.prog 163 #[.int .i64 4] w (RetB (.tuple #[.agg #[.bool true, .bool true, .bool false, .bool false, .bool false, .bool false, .bool true, .bool false], .bool true]) w) := by
  go_enter Try.func163, Try.ntmps163
  go_wp2_with (first | fail)
  (repeat' (go_quiet (fail); go_wp2_with (first | fail)))
  exact bodyPost_ret (v := .tuple #[.agg #[.bool true, .bool true, .bool false, .bool false, .bool false, .bool false, .bool true, .bool false], .bool true]) (by simp [results, Try.results163, go_sem]) rfl ⟨rfl, (by repeat (first | exact Below.refl _ _ | exact HB.out | (refine Below.setCell ?_ (by simp) _) | apply below_alloc' | apply Below.drew | apply below_drewN'))⟩
set_option maxHeartbeats 400000 in
theorem shape_5 (w : World) : Calls Try.prog 163 #[.int .i64 5] w (RetB (.tuple #[.agg #[.bool true, .bool true, .bool true, .bool false, .bool false, .bool false, .bool false, .bool true], .bool true]) w) := by
  go_enter Try.func163, Try.ntmps163
  go_wp2_with (first | fail)
  (repeat' (go_quiet (fail); go_wp2_with (first | fail)))
  exact bodyPost_ret (v := .tuple #[.agg #[.bool true, .bool true, .bool true, .bool false, .bool false, .bool false, .bool false, .bool true], .bool true]) (by simp [results, Try.results163, go_sem]) rfl ⟨rfl, (by repeat (first | exact Below.refl _ _ | exact HB.out | (refine Below.setCell ?_ (by simp) _) | apply below_alloc' | apply Below.drew | apply below_drewN'))⟩
set_option maxHeartbeats 400000 in
theorem shape_6 (w : World) : Calls Try.prog 163 #[.int .i64 6] w (RetB (.tuple #[.agg #[.bool true, .bool true, .bool false, .bool false, .bool true, .bool false, .bool false, .bool false], .bool true]) w) := by
  go_enter Try.func163, Try.ntmps163
  go_wp2_with (first | fail)
  (repeat' (go_quiet (fail); go_wp2_with (first | fail)))
  exact bodyPost_ret (v := .tuple #[.agg #[.bool true, .bool true, .bool false, .bool false, .bool true, .bool false, .bool false, .bool false], .bool true]) (by simp [results, Try.results163, go_sem]) rfl ⟨rfl, (by repeat (first | exact Below.refl _ _ | exact HB.out | (refine Below.setCell ?_ (by simp) _) | apply below_alloc' | apply Below.drew | apply below_drewN'))⟩
set_option maxHeartbeats 400000 in
theorem shape_7 (w : World) : Calls Try.prog 163 #[.int .i64 7] w (RetB (.tuple #[.agg #[.bool true, .bool true, .bool false, .bool false, .bool true, .bool false, .bool false, .bool false], .bool true]) w) := by
  go_enter Try.func163, Try.ntmps163
  go_wp2_with (first | fail)
  (repeat' (go_quiet (fail); go_wp2_with (first | fail)))
  exact bodyPost_ret (v := .tuple #[.agg #[.bool true, .bool true, .bool false, .bool false, .bool true, .bool false, .bool false, .bool false], .bool true]) (by simp [results, Try.results163, go_sem]) rfl ⟨rfl, (by repeat (first | exact Below.refl _ _ | exact HB.out | (refine Below.setCell ?_ (by simp) _) | apply below_alloc' | apply Below.drew | apply below_drewN'))⟩
set_option maxHeartbeats 400000 in
theorem shape_8 (w : World) : Calls Try.prog 163 #[.int .i64 8] w (RetB (.tuple #[.agg #[.bool true, .bool false, .bool false, .bool true, .bool false, .bool false, .bool false, .bool false], .bool true]) w) := by
  go_enter Try.func163, Try.ntmps163
  go_wp2_with (first | fail)
  (repeat' (go_quiet (fail); go_wp2_with (first | fail)))
  exact bodyPost_ret (v := .tuple #[.agg #[.bool true, .bool false, .bool false, .bool true, .bool false, .bool false, .bool false, .bool false], .bool true]) (by simp [results, Try.results163, go_sem]) rfl ⟨rfl, (by repeat (first | exact Below.refl _ _ | exact HB.out | (refine Below.setCell ?_ (by simp) _) | apply below_alloc' | apply Below.drew | apply below_drewN'))⟩
set_option maxHeartbeats 400000 in
theorem shape_9 (w : World) : Calls Try.prog 163 #[.int .i64 9] w (RetB (.tuple #[.agg #[.bool true, .bool false, .bool false, .bool false, .bool false, .bool false, .bool false, .bool false], .bool true]) w) := by
  go_enter Try.func163, Try.ntmps163
  go_wp2_with (first | fail)
  (repeat' (go_quiet (fail); go_wp2_with (first | fail)))
  exact bodyPost_ret (v := .tuple #[.agg #[.bool true, .bool false, .bool false, .bool false, .bool false, .bool false, .bool false, .bool false], .bool true]) (by simp [results, Try.results163, go_sem]) rfl ⟨rfl, (by repeat (first | exact Below.refl _ _ | exact HB.out | (refine Below.setCell ?_ (by simp) _) | apply below_alloc' | apply Below.drew | apply below_drewN'))⟩
set_option maxHeartbeats 400000 in
theorem shape_10 (w : World) : Calls Try.prog 163 #[.int .i64 10] w (RetB (.tuple #[.agg #[.bool false, .bool false, .bool false, .bool false, .bool true, .bool true, .bool false, .bool false], .bool true]) w) := by
  go_enter Try.func163, Try.ntmps163
  go_wp2_with (first | fail)
  (repeat' (go_quiet (fail); go_wp2_with (first | fail)))
  exact bodyPost_ret (v := .tuple #[.agg #[.bool false, .bool false, .bool false, .bool false, .bool true, .bool true, .bool false, .bool false], .bool true]) (by simp [results, Try.results163, go_sem]) rfl ⟨rfl, (by repeat (first | exact Below.refl _ _ | exact HB.out | (refine Below.setCell ?_ (by simp) _) | apply below_alloc' | apply Below.drew | apply below_drewN'))⟩
set_option maxHeartbeats 400000 in
theorem shape_11 (w : World) : Calls Try.prog 163 #[.int .i64 11] w (RetB (.tuple #[.agg #[.bool true, .bool false, .bool false, .bool false, .bool true, .bool true, .bool false, .bool false], .bool true]) w) := by
  go_enter Try.func163, Try.ntmps163
  go_wp2_with (first | fail)
  (repeat' (go_quiet (fail); go_wp2_with (first | fail)))
  exact bodyPost_ret (v := .tuple #[.agg #[.bool true, .bool false, .bool false, .bool false, .bool true, .bool true, .bool false, .bool false], .bool true]) (by simp [results, Try.results163, go_sem]) rfl ⟨rfl, (by repeat (first | exact Below.refl _ _ | exact HB.out | (refine Below.setCell ?_ (by simp) _) | apply below_alloc' | apply Below.drew | apply below_drewN'))⟩
set_option maxHeartbeats 400000 in
theorem shape_12 (w : World) : Calls Try.prog 163 #[.int .i64 12] w (RetB (.tuple #[.agg #[.bool true, .bool false, .bool false, .bool false, .bool true, .bool true, .bool false, .bool false], .bool true]) w) := by
  go_enter Try.func163, Try.ntmps163
  go_wp2_with (first | fail)
  (repeat' (go_quiet (fail); go_wp2_with (first | fail)))
  exact bodyPost_ret (v := .tuple #[.agg #[.bool true, .bool false, .bool false, .bool false, .bool true, .bool true, .bool false, .bool false], .bool true]) (by simp [results, Try.results163, go_sem]) rfl ⟨rfl, (by repeat (first | exact Below.refl _ _ | exact HB.out | (refine Below.setCell ?_ (by simp) _) | apply below_alloc' | apply Below.drew | apply below_drewN'))⟩
set_option maxHeartbeats 400000 in
theorem shape_13 (w : World) : Calls Try.prog 163 #[.int .i64 13] w (RetB (.tuple #[.agg #[.bool true, .bool false, .bool false, .bool false, .bool false, .bool false, .bool false, .bool false], .bool true]) w) := by
  go_enter Try.func163, Try.ntmps163
  go_wp2_with (first | fail)
  (repeat' (go_quiet (fail); go_wp2_with (first | fail)))
  exact bodyPost_ret (v := .tuple #[.agg #[.bool true, .bool false, .bool false, .bool false, .bool false, .bool false, .bool false, .bool false], .bool true]) (by simp [results, Try.results163, go_sem]) rfl ⟨rfl, (by repeat (first | exact Below.refl _ _ | exact HB.out | (refine Below.setCell ?_ (by simp) _) | apply below_alloc' | apply Below.drew | apply below_drewN'))⟩
set_option maxHeartbeats 400000 in
theorem shape_none (k : Int) (w : World) (h : k < 1 ∨ 13 < k) : Calls Try.prog 163 #[.int .i64 k] w (RetB (.tuple #[.agg #[.bool false, .bool false, .bool false, .bool false, .bool false, .bool false, .bool false, .bool false], .bool false]) w) := by
  rcases h with h | h
  all_goals
    go_enter Try.func163, Try.ntmps163
    go_wp2_with (first | fail)
    (repeat' (go_quiet (fail); go_wp2_with (first | fail)))
    all_goals exact bodyPost_ret (v := .tuple #[.agg #[.bool false, .bool false, .bool false, .bool false, .bool false, .bool false, .bool false, .bool false], .bool false]) (by simp [results, Try.results163, go_sem]) rfl ⟨rfl, (by repeat (first | exact Below.refl _ _ | exact HB.out | (refine Below.setCell ?_ (by simp) _) | apply below_alloc' | apply Below.drew | apply below_drewN'))⟩
end Go.Proofs.Ytcadbfggaipnhaa
