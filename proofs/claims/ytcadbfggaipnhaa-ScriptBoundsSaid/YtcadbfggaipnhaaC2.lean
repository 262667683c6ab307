/- Contracts of plan's functions. -/
import Derived.Test.YtcadbfggaipnhaaProg
import Derived.Test.YtcadbfggaipnhaaP
import Derived.WalkSpells
import Derived.WalkLawsBesides
import Derived.Outline
import Derived.IntWalk
import Derived.Deep.QuietTactic
import Derived.BigQuiet
namespace Go.Proofs.Ytcadbfggaipnhaa
open Go.RowKit
set_option linter.unusedSimpArgs false
set_option linter.unusedVariables false

theorem ediv_small {a b n : Int} (h0 : 0 ≤ a) (h : a ≤ n) (hb : 1 ≤ b) : 0 ≤ a / b ∧ a / b ≤ n :=
  ⟨Int.ediv_nonneg h0 (by omega), Int.le_trans (Int.ediv_le_self b h0) h⟩
theorem neg_facts {lo hi st : Int} (hl : I64 lo) (hh : I64 hi) (hs : I64 st) (h : st < 0) (he : hi < lo) :
    IntKind.u64.wrap (-IntKind.u64.wrap (IntKind.u64.wrap hi - IntKind.u64.wrap lo)) = lo - hi ∧ IntKind.u64.wrap (-IntKind.u64.wrap st) = -st ∧
    IntKind.u64.wrap (lo - hi - 1) = lo - hi - 1 ∧ IntKind.u64.wrap (IntKind.u64.wrap (-(lo - hi - 1).tdiv st) + 1) = (lo - hi - 1) / (-st) + 1 := by
  obtain ⟨hl1, hl2⟩ := hl
  obtain ⟨hh1, hh2⟩ := hh
  obtain ⟨hs1, hs2⟩ := hs
  have hd := ediv_small (a := lo - hi - 1) (b := -st) (n := lo - hi - 1) (by omega) (Int.le_refl _) (by omega)
  refine ⟨by simp only [IntKind.wrap_u64]; omega, by simp only [IntKind.wrap_u64]; omega, by simp only [IntKind.wrap_u64]; omega, ?_⟩
  rw [← Int.tdiv_neg, IntWalk.u64_quo _ _ (by omega)]
  simp only [IntKind.wrap_u64]; omega
theorem pos_facts {lo hi st : Int} (hl : I64 lo) (hh : I64 hi) (hs : I64 st) (h : 0 < st) (he : lo < hi) :
    IntKind.u64.wrap (IntKind.u64.wrap hi - IntKind.u64.wrap lo) = hi - lo ∧ IntKind.u64.wrap st = st ∧
    IntKind.u64.wrap (hi - lo - 1) = hi - lo - 1 ∧ IntKind.u64.wrap (IntKind.u64.wrap ((hi - lo - 1).tdiv st) + 1) = (hi - lo - 1) / st + 1 := by
  obtain ⟨hl1, hl2⟩ := hl
  obtain ⟨hh1, hh2⟩ := hh
  obtain ⟨hs1, hs2⟩ := hs
  have hd := ediv_small (a := hi - lo - 1) (b := st) (n := hi - lo - 1) (by omega) (Int.le_refl _) (by omega)
  refine ⟨by simp only [IntKind.wrap_u64]; omega, by simp only [IntKind.wrap_u64]; omega, by simp only [IntKind.wrap_u64]; omega, ?_⟩
  rw [IntWalk.u64_quo _ _ (by omega)]
  simp only [IntKind.wrap_u64]; omega
set_option maxHeartbeats 400000 in
theorem loop_calls (k lo hi st it sg : Int) (w : World) (hl : I64 lo) (hh : I64 hi) (hs : I64 st) :
    Calls Try.prog 83 #[.agg #[.int .i64 k, .int .i64 lo, .int .i64 hi, .int .i64 st, .int .i64 it, .int .i64 sg]] w (RetB (.tuple #[.int .i64 (loopN lo hi st).1, .int .i64 (loopN lo hi st).2]) w) := by
  rcases Int.lt_trichotomy st 0 with h | rfl | h
  · by_cases he : lo ≤ hi
    · clear hl hh hs
      go_enter Try.func83, Try.ntmps83
      go_wp2_with fail
      (repeat' (go_quiet (fail); go_wp2_with fail))
      all_goals ((try first | go_ret | go_ret2 | go_ret3); try go_simp)
      all_goals ((with_reducible refine retB_ii ?_ (by repeat (first | exact Below.refl _ _ | exact HB.out | apply below_alloc' | apply Below.drew | apply below_drewN'))); unfold loopN; rw [if_neg (by omega), if_pos (by omega)])
    · obtain ⟨e1, e2, e3, e4⟩ := neg_facts hl hh hs h (by omega)
      have hd := ediv_small (a := lo - hi - 1) (b := -st) (n := lo - hi - 1) (by omega) (Int.le_refl _) (by omega)
      clear hl hh hs
      generalize hn : (lo - hi - 1) / (-st) = n at e4 hd
      have hn' : loopN lo hi st = if n + 1 > 200 then (0, 151) else (n + 1, 0) := by
        unfold loopN; rw [if_neg (by omega), if_neg (by omega), if_neg (c := 0 < st) (by omega), hn]
      have Hn := hid hn'
      clear hn hn'
      obtain ⟨hd1, hd2⟩ := hd
      go_enter Try.func83, Try.ntmps83
      go_wp2_with fail
      (repeat' (go_quiet (fail); go_wp2_with fail))
      all_goals ((try first | go_ret | go_ret2 | go_ret3); try go_simp)
      all_goals ((with_reducible refine retB_ii ?_ (by repeat (first | exact Below.refl _ _ | exact HB.out | apply below_alloc' | apply Below.drew | apply below_drewN'))); rw [Hn.out]; first | (rw [if_pos (by omega)]; done) | rw [if_neg (by omega)])
  · clear hl hh hs
    go_enter Try.func83, Try.ntmps83
    go_wp2_with fail
    (repeat' (go_quiet (fail); go_wp2_with fail))
    all_goals ((try first | go_ret | go_ret2 | go_ret3); try go_simp)
    all_goals ((with_reducible refine retB_ii ?_ (by repeat (first | exact Below.refl _ _ | exact HB.out | apply below_alloc' | apply Below.drew | apply below_drewN'))); unfold loopN; rw [if_pos rfl])
  · by_cases he : hi ≤ lo
    · clear hl hh hs
      go_enter Try.func83, Try.ntmps83
      go_wp2_with fail
      (repeat' (go_quiet (fail); go_wp2_with fail))
      all_goals ((try first | go_ret | go_ret2 | go_ret3); try go_simp)
      all_goals ((with_reducible refine retB_ii ?_ (by repeat (first | exact Below.refl _ _ | exact HB.out | apply below_alloc' | apply Below.drew | apply below_drewN'))); unfold loopN; rw [if_neg (by omega), if_pos (by omega)])
    · obtain ⟨e1, e2, e3, e4⟩ := pos_facts hl hh hs h (by omega)
      have hd := ediv_small (a := hi - lo - 1) (b := st) (n := hi - lo - 1) (by omega) (Int.le_refl _) (by omega)
      clear hl hh hs
      generalize hn : (hi - lo - 1) / st = n at e4 hd
      have hn' : loopN lo hi st = if n + 1 > 200 then (0, 151) else (n + 1, 0) := by
        unfold loopN; rw [if_neg (by omega), if_neg (by omega), if_pos (c := 0 < st) (by omega), hn]
      have Hn := hid hn'
      clear hn hn'
      obtain ⟨hd1, hd2⟩ := hd
      go_enter Try.func83, Try.ntmps83
      go_wp2_with fail
      (repeat' (go_quiet (fail); go_wp2_with fail))
      all_goals ((try first | go_ret | go_ret2 | go_ret3); try go_simp)
      all_goals ((with_reducible refine retB_ii ?_ (by repeat (first | exact Below.refl _ _ | exact HB.out | apply below_alloc' | apply Below.drew | apply below_drewN'))); rw [Hn.out]; first | (rw [if_pos (by omega)]; done) | rw [if_neg (by omega)])

set_option maxHeartbeats 400000 in
theorem count_calls (k lo hi st it sg : Int) (w : World) (hl : I64 lo) (hh : I64 hi) (hs : I64 st) (hi1 : I64 it) (hg1 : I64 sg) :
    Calls Try.prog 31 #[.agg #[.int .i64 k, .int .i64 lo, .int .i64 hi, .int .i64 st, .int .i64 it, .int .i64 sg]] w (RetB (.tuple #[.int .i64 (countN k lo hi st it sg).1, .int .i64 (countN k lo hi st it sg).2]) w) := by
  by_cases hk : k = 1
  · subst hk
    by_cases h1 : it = 0 ∧ sg = 0
    · obtain ⟨rfl, rfl⟩ := h1
      go_enter Try.func31, Try.ntmps31
      go_wp2_with (first | (go_at_call 83; refine (loop_calls _ _ _ _ _ _ _ hl hh hs).mono ?_; rintro e w' ⟨rfl, hb⟩))
      all_goals ((try first | go_ret | go_ret2 | go_ret3); try go_simp)
      all_goals exact retB_ii (by simp [countN]) ((below_alloc' (Below.refl _ _) _).trans (hb.mono (by simp)))
    · clear hl hh hs hi1 hg1
      by_cases h2 : it = 0
      · subst h2
        have h3 : (sg != 0) = true := by simpa using h1
        go_enter Try.func31, Try.ntmps31
        go_wp2_with fail
        all_goals ((try first | go_ret | go_ret2 | go_ret3); try go_simp)
        all_goals ((with_reducible refine retB_ii ?_ (by repeat (first | exact Below.refl _ _ | exact HB.out | apply below_alloc' | apply Below.drew | apply below_drewN'))); unfold countN; rw [if_pos rfl, if_pos (by simpa using h3)])
      · have h3 : (it != 0) = true := by simpa using h2
        go_enter Try.func31, Try.ntmps31
        go_wp2_with fail
        all_goals ((try first | go_ret | go_ret2 | go_ret3); try go_simp)
        all_goals ((with_reducible refine retB_ii ?_ (by repeat (first | exact Below.refl _ _ | exact HB.out | apply below_alloc' | apply Below.drew | apply below_drewN'))); unfold countN; rw [if_pos rfl, if_pos (by omega)])
  by_cases hk2 : k = 2
  · subst hk2
    clear hl hh hs
    by_cases h0 : lo = 0 ∧ hi = 0 ∧ st = 0
    · obtain ⟨rfl, rfl, rfl⟩ := h0
      obtain ⟨hi1, hi2⟩ := hi1
      have hc : countN 2 0 0 0 it sg = if it < 0 ∨ sg < 1 ∨ 6 < sg then (0, 152) else if it > 200 / sg then (0, 151) else (it * sg, 0) := by simp [countN]
      have Hc := hid hc
      clear hc hk hg1
      go_enter Try.func31, Try.ntmps31
      go_wp2_with fail
      (repeat' (go_quiet (fail); go_wp2_with fail))
      all_goals ((try first | go_ret | go_ret2 | go_ret3); try go_simp)
      all_goals with_reducible refine retB_ii ?_ (by repeat (first | exact Below.refl _ _ | exact HB.out | apply below_alloc' | apply Below.drew | apply below_drewN'))
      all_goals rw [Hc.out]
      · rw [if_pos (by omega)]
      · rw [if_neg (by omega), if_pos (by omega)]
      · rw [if_neg (by omega), if_neg (by omega)]
        have e : sg = 1 ∨ sg = 2 ∨ sg = 3 ∨ sg = 4 ∨ sg = 5 ∨ sg = 6 := by omega
        have e2 : wrap64 (it * sg) = it * sg := by rcases e with rfl | rfl | rfl | rfl | rfl | rfl <;> (unfold wrap64; omega)
        first | (with_reducible rfl) | (with_reducible exact congrArg (fun x => (x, (0 : Int))) e2)
      · rw [if_pos (by omega)]
      · rw [if_pos (by omega)]
    · have hc : countN 2 lo hi st it sg = (0, 152) := by unfold countN; rw [if_neg (by omega), if_pos rfl, if_pos (by omega)]
      have Hc := hid hc
      clear hc hk hg1 hi1
      by_cases h1 : lo = 0
      · by_cases h2 : hi = 0
        · subst h1 h2
          have h3 : (st != 0) = true := by simpa using h0
          clear h0
          go_enter Try.func31, Try.ntmps31
          go_wp2_with fail
          (repeat' (go_quiet (fail); go_wp2_with fail))
          all_goals ((try first | go_ret | go_ret2 | go_ret3); try go_simp)
          all_goals ((with_reducible refine retB_ii ?_ (by repeat (first | exact Below.refl _ _ | exact HB.out | apply below_alloc' | apply Below.drew | apply below_drewN'))); rw [Hc.out])
        · subst h1
          have h3 : (hi != 0) = true := by simpa using h2
          clear h0
          go_enter Try.func31, Try.ntmps31
          go_wp2_with fail
          (repeat' (go_quiet (fail); go_wp2_with fail))
          all_goals ((try first | go_ret | go_ret2 | go_ret3); try go_simp)
          all_goals ((with_reducible refine retB_ii ?_ (by repeat (first | exact Below.refl _ _ | exact HB.out | apply below_alloc' | apply Below.drew | apply below_drewN'))); rw [Hc.out])
      · have h3 : (lo != 0) = true := by simpa using h1
        clear h0
        go_enter Try.func31, Try.ntmps31
        go_wp2_with fail
        (repeat' (go_quiet (fail); go_wp2_with fail))
        all_goals ((try first | go_ret | go_ret2 | go_ret3); try go_simp)
        all_goals ((with_reducible refine retB_ii ?_ (by repeat (first | exact Below.refl _ _ | exact HB.out | apply below_alloc' | apply Below.drew | apply below_drewN'))); rw [Hc.out])
  · clear hl hh hs hi1 hg1
    go_enter Try.func31, Try.ntmps31
    go_wp2_with fail
    all_goals ((try first | go_ret | go_ret2 | go_ret3); try go_simp)
    all_goals ((with_reducible refine retB_ii ?_ (by repeat (first | exact Below.refl _ _ | exact HB.out | apply below_alloc' | apply Below.drew | apply below_drewN'))); unfold countN; rw [if_neg hk, if_neg hk2])

set_option maxHeartbeats 400000 in
theorem stages_calls (k lo hi st it sg : Int) (w : World) :
    Calls Try.prog 94 #[.agg #[.int .i64 k, .int .i64 lo, .int .i64 hi, .int .i64 st, .int .i64 it, .int .i64 sg]] w (RetB (.int .i64 (stagesN k sg)) w) := by
  by_cases hk : k = 2
  · subst hk
    go_enter Try.func94, Try.ntmps94
    go_wp2_with fail
    all_goals ((try first | go_ret | go_ret2 | go_ret3); try go_simp)
    all_goals ((with_reducible refine retB_i ?_ (by repeat (first | exact Below.refl _ _ | exact HB.out | apply below_alloc' | apply Below.drew | apply below_drewN'))); unfold stagesN; rw [if_pos rfl])
  · have h : (k == 2) = false := by simpa using hk
    go_enter Try.func94, Try.ntmps94
    go_wp2_with fail
    all_goals ((try first | go_ret | go_ret2 | go_ret3); try go_simp)
    all_goals ((with_reducible refine retB_i ?_ (by repeat (first | exact Below.refl _ _ | exact HB.out | apply below_alloc' | apply Below.drew | apply below_drewN'))); unfold stagesN; rw [if_neg hk])

theorem count_calls' (k lo hi st it sg n e : Int) (w : World) (hl : I64 lo) (hh : I64 hi) (hs : I64 st) (hi1 : I64 it) (hg1 : I64 sg) (h : countN k lo hi st it sg = (n, e)) :
    Calls Try.prog 31 #[.agg #[.int .i64 k, .int .i64 lo, .int .i64 hi, .int .i64 st, .int .i64 it, .int .i64 sg]] w (RetB (.tuple #[.int .i64 n, .int .i64 e]) w) := by
  have := count_calls k lo hi st it sg w hl hh hs hi1 hg1
  rwa [h] at this
end Go.Proofs.Ytcadbfggaipnhaa
