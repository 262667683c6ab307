/- job.Right, num.Plus, num.Times: contracts. -/
import Derived.Test.YtcadbfggaipnhaaProg
import Derived.Test.YtcadbfggaipnhaaM
import Derived.WalkSpells
import Derived.WalkLawsBesides
import Derived.Outline
import Derived.IntWalk
import Derived.Deep.QuietTactic
import Derived.BigQuiet
import Derived.Deep.DeepCutAuto
namespace Go.Proofs.Ytcadbfggaipnhaa
open Go.RowKit
set_option linter.unusedSimpArgs false
set_option linter.unusedVariables false

structure Config where
  workers : Int
  window : Int
  policy : Int
  chunk : Int
  reads : Int
  writes : Int
  outs : Int
  arena : Int
  edges : Int
  retry : Int
  force : Bool
def Config.val (c : Config) : Value := .agg #[.int .i64 c.workers, .int .i64 c.window, .int .i64 c.policy, .int .i64 c.chunk, .int .i64 c.reads, .int .i64 c.writes, .int .i64 c.outs, .int .i64 c.arena, .int .i64 c.edges, .int .i64 c.retry, .bool c.force]
def out1 (n lo hi : Int) : Bool := decide (n < lo) || decide (hi < n)
/-- the limits of a config, in a row -/
def limAt (c : Config) : Nat → Int × Int
  | 0 => (c.window, 32) | 1 => (c.reads, 64) | 2 => (c.writes, 64) | 3 => (c.outs, 64) | 4 => (c.arena, 512) | _ => (c.edges, 512)
def limBad (c : Config) (j : Nat) : Bool := out1 (limAt c j).1 1 (limAt c j).2
/-- job.Right: a config's first fault -/
def rightErr (c : Config) : Int :=
  if out1 c.workers 1 8 then 162 else if out1 c.policy 1 3 then 160 else if out1 c.chunk 1 200 then 161
  else if (List.range 6).any (limBad c) then 172 else if out1 c.retry 0 9 then 172 else 0
theorem out1_no {n lo hi : Int} (h : out1 n lo hi = false) : lo ≤ n ∧ n ≤ hi := by
  unfold out1 at h; simp at h; omega
theorem out1_yes {n lo hi : Int} (h : out1 n lo hi = true) : n < lo ∨ (lo ≤ n ∧ hi < n) := by
  unfold out1 at h; simp at h; omega
theorem lim_bad {c : Config} {k : Nat} (hk : k < 6) (h : limBad c k = true) : (List.range 6).any (limBad c) = true := by
  rw [List.any_eq_true]; exact ⟨k, by simpa using hk, h⟩
theorem lim_ok {c : Config} (h : ∀ k, k < 6 → limBad c k = false) : (List.range 6).any (limBad c) = false := by
  rw [List.any_eq_false]; intro k hk; rw [h k (by simpa using hk)]; simp
theorem plus_pp {a b : Int} (ha : 0 ≤ a) (hb : 0 ≤ b) : plus a b = if 9223372036854775807 - b < a then 9223372036854775807 else a + b := by
  unfold plus top; rw [Int.max_eq_left ha, Int.max_eq_left hb]
theorem plus_neg {a b : Int} (h : a < 0 ∨ b < 0) (ha : I64 a) (hb : I64 b) : plus a b = max a 0 + max b 0 := by
  unfold plus top; unfold I64 at ha hb; rw [if_neg (by omega)]
theorem times_pp {a b : Int} (ha : 0 < a) (hb : 0 ≤ b) : times a b = if 9223372036854775807 / a < b then 9223372036854775807 else a * b := by
  unfold times top
  rw [Int.max_eq_left (by omega), Int.max_eq_left hb, Int.tdiv_eq_ediv_of_nonneg (by omega)]
  by_cases h : 9223372036854775807 / a < b
  · rw [if_pos h, if_pos ⟨by omega, by omega⟩]
  · rw [if_neg h, if_neg (by omega)]
theorem times_z {a b : Int} (h : a ≤ 0 ∨ b ≤ 0) : times a b = 0 := by
  unfold times top
  rcases Int.le_total a 0 with ha | ha
  · rw [Int.max_eq_right ha, if_neg (by simp)]; simp
  · rcases Int.le_total b 0 with hb | hb
    · rw [Int.max_eq_right hb, if_neg]; simp
      intro ⟨_, h2⟩
      have := Int.tdiv_nonneg (a := 9223372036854775807) (b := max a 0) (by omega) (by omega)
      omega
    · obtain rfl | rfl : a = 0 ∨ b = 0 := by omega
      · rw [if_neg (by simp)]; simp
      · rw [if_neg]; simp
        intro ⟨_, h2⟩
        have := Int.tdiv_nonneg (a := 9223372036854775807) (b := max a 0) (by omega) (by omega)
        omega
theorem times_in {a b : Int} (ha : 0 < a) (hb : 0 ≤ b) (h : b ≤ 9223372036854775807 / a) : 0 ≤ a * b ∧ a * b ≤ 9223372036854775807 :=
  ⟨Int.mul_nonneg (by omega) hb, by have := Int.mul_le_mul_of_nonneg_left h (by omega : 0 ≤ a); have := Int.mul_ediv_self_le (x := 9223372036854775807) (k := a) (by omega); omega⟩
set_option maxHeartbeats 400000 in
theorem plus_calls (a b : Int) (w : World) (ha : I64 a) (hb : I64 b) : Calls Try.prog 45 #[.int .i64 a, .int .i64 b] w (Ret (.int .i64 (plus a b)) w) := by
  by_cases hn : a < 0 ∨ b < 0
  · have HV := hid (plus_neg hn ha hb)
    obtain ⟨ha1, ha2⟩ := ha
    obtain ⟨hb1, hb2⟩ := hb
    have h4 : (a < 0 ∧ b < 0) ∨ (a < 0 ∧ 0 ≤ b) ∨ (0 ≤ a ∧ b < 0) := by omega
    clear hn
    rcases h4 with ⟨h1, h2⟩ | ⟨h1, h2⟩ | ⟨h1, h2⟩
    all_goals
      go_enter Try.func45, Try.ntmps45
      go_wp2_with (first | fail)
      (repeat' (go_quiet (fail); go_wp2_with (first | fail)))
      all_goals ((try first | go_ret | go_ret2 | go_ret3); try go_simp)
      all_goals ((with_reducible refine ret_int ?_); rw [HV.out]; omega)
  · have HV := hid (plus_pp (a := a) (b := b) (by omega) (by omega))
    obtain ⟨ha1, ha2⟩ := ha
    obtain ⟨hb1, hb2⟩ := hb
    have h1 : 0 ≤ a := by omega
    have h2 : 0 ≤ b := by omega
    clear hn
    go_enter Try.func45, Try.ntmps45
    go_wp2_with (first | fail)
    (repeat' (go_quiet (fail); go_wp2_with (first | fail)))
    all_goals ((try first | go_ret | go_ret2 | go_ret3); try go_simp)
    all_goals ((with_reducible refine ret_int ?_); rw [HV.out]; first | rw [if_pos (by omega)] | rw [if_neg (by omega)])
set_option maxHeartbeats 400000 in
theorem times_calls (a b : Int) (w : World) (ha : I64 a) (hb : I64 b) : Calls Try.prog 44 #[.int .i64 a, .int .i64 b] w (Ret (.int .i64 (times a b)) w) := by
  obtain ⟨ha1, ha2⟩ := ha
  obtain ⟨hb1, hb2⟩ := hb
  by_cases h1 : 0 < a
  · have hx : (a != 0) = true := by simp; omega
    by_cases h2 : 0 ≤ b
    · have HV := hid (times_pp h1 h2)
      have HI := hid (times_in h1 h2)
      by_cases h3 : 9223372036854775807 / a < b
      · go_enter Try.func44, Try.ntmps44
        go_wp2_with (first | fail)
        (repeat' (go_quiet (fail); go_wp2_with (first | fail)))
        all_goals ((try first | go_ret | go_ret2 | go_ret3); try go_simp)
        all_goals ((with_reducible refine ret_int ?_); rw [HV.out, if_pos h3])
      · obtain ⟨h4, h5⟩ := HI.out (by omega)
        go_enter Try.func44, Try.ntmps44
        go_wp2_with (first | fail)
        (repeat' (go_quiet (fail); go_wp2_with (first | fail)))
        all_goals ((try first | go_ret | go_ret2 | go_ret3); try go_simp)
        all_goals ((with_reducible refine ret_int ?_); rw [HV.out, if_neg (by omega)]; try (unfold wrap64; omega))
    · have HV := hid (times_z (a := a) (b := b) (.inr (by omega)))
      have h3 : 0 ≤ 9223372036854775807 / a := Int.ediv_nonneg (by omega) (by omega)
      have h4 : b < 0 := by omega
      go_enter Try.func44, Try.ntmps44
      go_wp2_with (first | fail)
      (repeat' (go_quiet (fail); go_wp2_with (first | fail)))
      all_goals ((try first | go_ret | go_ret2 | go_ret3); try go_simp)
      all_goals ((with_reducible refine ret_int ?_); rw [HV.out]; first | rfl | (unfold wrap64; simp) | skip)
  · have HV := hid (times_z (a := a) (b := b) (.inl (by omega)))
    have h4 : ¬ 0 < a := h1
    have h5 : a < 0 ∨ a = 0 := by omega
    rcases h5 with h5 | rfl
    · go_enter Try.func44, Try.ntmps44
      go_wp2_with (first | fail)
      (repeat' (go_quiet (fail); go_wp2_with (first | fail)))
      all_goals ((try first | go_ret | go_ret2 | go_ret3); try go_simp)
      all_goals ((with_reducible refine ret_int ?_); rw [HV.out]; first | rfl | (unfold wrap64; simp) | skip)
    · go_enter Try.func44, Try.ntmps44
      go_wp2_with (first | fail)
      (repeat' (go_quiet (fail); go_wp2_with (first | fail)))
      all_goals ((try first | go_ret | go_ret2 | go_ret3); try go_simp)
      all_goals ((with_reducible refine ret_int ?_); rw [HV.out]; first | rfl | (unfold wrap64; simp) | skip)
set_option maxRecDepth 100000 in
set_option maxHeartbeats 1000000 in
theorem jobRight_calls (c : Config) (w : World) : Calls Try.prog 48 #[c.val] w (RetB (.int .i64 (rightErr c)) w) := by
  obtain ⟨cw, cn, cp, cc, cr, cs, co, ca, ce, cy, cf⟩ := c
  unfold Config.val
  dsimp only
  cases h1 : out1 cw 1 8
  case true =>
    have HV : Hid (rightErr ⟨cw, cn, cp, cc, cr, cs, co, ca, ce, cy, cf⟩ = 162) := (show rightErr ⟨cw, cn, cp, cc, cr, cs, co, ca, ce, cy, cf⟩ = 162 by unfold rightErr; rw [if_pos h1])
    rcases out1_yes h1 with h | ⟨h, h'⟩
    all_goals
      clear h1
      go_enter Try.func48, Try.ntmps48
      go_wp2_with (first | fail)
      (repeat' (go_quiet (fail); go_wp2_with (first | fail)))
      all_goals ((try first | go_ret | go_ret2 | go_ret3); try go_simp)
      all_goals ((with_reducible refine retB_i ?_ (by repeat (first | exact Below.refl _ _ | exact HB.out | (refine Below.setCell ?_ (by simp) _) | apply below_alloc' | apply Below.drew | apply below_drewN'))); rw [HV.out])
  cases h2 : out1 cp 1 3
  case true =>
    have HV : Hid (rightErr ⟨cw, cn, cp, cc, cr, cs, co, ca, ce, cy, cf⟩ = 160) := (show rightErr ⟨cw, cn, cp, cc, cr, cs, co, ca, ce, cy, cf⟩ = 160 by unfold rightErr; rw [if_neg (by simp [h1]), if_pos h2])
    obtain ⟨h1a, h1b⟩ := out1_no h1
    rcases out1_yes h2 with h | ⟨h, h'⟩
    all_goals
      clear h1 h2
      go_enter Try.func48, Try.ntmps48
      go_wp2_with (first | fail)
      (repeat' (go_quiet (fail); go_wp2_with (first | fail)))
      all_goals ((try first | go_ret | go_ret2 | go_ret3); try go_simp)
      all_goals ((with_reducible refine retB_i ?_ (by repeat (first | exact Below.refl _ _ | exact HB.out | (refine Below.setCell ?_ (by simp) _) | apply below_alloc' | apply Below.drew | apply below_drewN'))); rw [HV.out])
  cases h3 : out1 cc 1 200
  case true =>
    have HV : Hid (rightErr ⟨cw, cn, cp, cc, cr, cs, co, ca, ce, cy, cf⟩ = 161) := (show rightErr ⟨cw, cn, cp, cc, cr, cs, co, ca, ce, cy, cf⟩ = 161 by unfold rightErr; rw [if_neg (by simp [h1]), if_neg (by simp [h2]), if_pos h3])
    obtain ⟨h1a, h1b⟩ := out1_no h1
    obtain ⟨h2a, h2b⟩ := out1_no h2
    rcases out1_yes h3 with h | ⟨h, h'⟩
    all_goals
      clear h1 h2 h3
      go_enter Try.func48, Try.ntmps48
      go_wp2_with (first | fail)
      (repeat' (go_quiet (fail); go_wp2_with (first | fail)))
      all_goals ((try first | go_ret | go_ret2 | go_ret3); try go_simp)
      all_goals ((with_reducible refine retB_i ?_ (by repeat (first | exact Below.refl _ _ | exact HB.out | (refine Below.setCell ?_ (by simp) _) | apply below_alloc' | apply Below.drew | apply below_drewN'))); rw [HV.out])
  have HV := hid (show rightErr ⟨cw, cn, cp, cc, cr, cs, co, ca, ce, cy, cf⟩ = if (List.range 6).any (limBad ⟨cw, cn, cp, cc, cr, cs, co, ca, ce, cy, cf⟩) then 172 else if out1 cy 0 9 then 172 else 0 by
    unfold rightErr; rw [if_neg (by simp [h1]), if_neg (by simp [h2]), if_neg (by simp [h3])])
  obtain ⟨h1a, h1b⟩ := out1_no h1
  obtain ⟨h2a, h2b⟩ := out1_no h2
  obtain ⟨h3a, h3b⟩ := out1_no h3
  clear h1 h2 h3
  go_enter Try.func48, Try.ntmps48
  go_wp2_with (first | fail)
  (repeat' (go_quiet (fail); go_wp2_with (first | fail)))
  go_loopw [2, 49] (fun v2 v49 wr => ∃ k : Nat, k ≤ 6 ∧ v49 = .int .i64 k ∧ v2 = .int .i64 0 ∧ Hid (Below w.heap.size w wr) ∧ Hid (wr.heap[w.heap.size]? = some (.cells #[.int .i64 cw, .int .i64 cn, .int .i64 cp, .int .i64 cc, .int .i64 cr, .int .i64 cs, .int .i64 co, .int .i64 ca, .int .i64 ce, .int .i64 cy, .bool cf] 32 (0, 0))) ∧ Hid (wr.heap[w.heap.size + 1]? = some (.cells #[.int .i64 cn, .int .i64 32, .int .i64 cr, .int .i64 64, .int .i64 cs, .int .i64 64, .int .i64 co, .int .i64 64, .int .i64 ca, .int .i64 512, .int .i64 ce, .int .i64 512] 198 (0, 0))) ∧ Hid (∀ j, j < k → limBad ⟨cw, cn, cp, cc, cr, cs, co, ca, ce, cy, cf⟩ j = false)) (fun _ v49 _ => 6 - (intOf v49).toNat)
  case atStart => exact ⟨0, by omega, rfl, rfl, (by repeat (first | exact Below.refl _ _ | exact HB.out | (refine Below.setCell ?_ (by simp) _) | apply below_alloc' | apply Below.drew | apply below_drewN')), blk_alloc (blk_new w _) _, blk_new' (by simp), fun j hj => by omega⟩
  case round =>
    obtain ⟨k, hk, rfl, rfl, HB, HC, HP, HJ⟩ := hrel
    obtain ⟨hcw, hfw⟩ := bcell HB.out
    have hsz := HB.out.size
    have hl1 := blk_lt HC.out
    have hl2 := blk_lt HP.out
    by_cases hlt : k < 6
    · obtain ⟨x, y, hxy, hc0, hc1⟩ : ∃ x y : Int, Hid (limAt ⟨cw, cn, cp, cc, cr, cs, co, ca, ce, cy, cf⟩ k = (x, y)) ∧ wr.cell? ⟨w.heap.size + 1, k * 2, none⟩ = some (.int .i64 x) ∧ wr.cell? ⟨w.heap.size + 1, k * 2 + 1, none⟩ = some (.int .i64 y) := by
        have h6 : k = 0 ∨ k = 1 ∨ k = 2 ∨ k = 3 ∨ k = 4 ∨ k = 5 := by omega
        rcases h6 with rfl | rfl | rfl | rfl | rfl | rfl <;> exact ⟨_, _, rfl, (blk_cell HP.out _).trans rfl, (blk_cell HP.out _).trans rfl⟩
      cases hb : limBad ⟨cw, cn, cp, cc, cr, cs, co, ca, ce, cy, cf⟩ k
      case true =>
        have HV2 : Hid (rightErr ⟨cw, cn, cp, cc, cr, cs, co, ca, ce, cy, cf⟩ = 172) := (HV.out.trans (if_pos (lim_bad hlt hb)))
        have hb' := hb
        unfold limBad at hb'
        rw [hxy.out] at hb'
        rcases out1_yes hb' with h | ⟨h, h'⟩
        all_goals
          clear hb hb'
          go_wp2_with fail
          (repeat' (go_quiet (fail); go_wp2_with fail))
          all_goals ((try first | go_ret | go_ret2 | go_ret3); try go_simp)
          all_goals ((with_reducible refine retB_i ?_ (by repeat (first | exact Below.refl _ _ | exact HB.out | (refine Below.setCell ?_ (by simp) _) | apply below_alloc' | apply Below.drew | apply below_drewN'))); rw [HV2.out])
      case false =>
        have HF := hid hb
        have hb' := hb
        unfold limBad at hb'
        rw [hxy.out] at hb'
        obtain ⟨h, h'⟩ := out1_no hb'
        clear hb hb'
        go_wp2_with fail
        (repeat' (go_quiet (fail); go_wp2_with fail))
        all_goals
          go_roundw
          case rel => exact ⟨k + 1, by omega, by go_num, rfl, (by repeat (first | exact Below.refl _ _ | exact HB.out | (refine Below.setCell ?_ (by simp) _) | apply below_alloc' | apply Below.drew | apply below_drewN')), hid (by repeat (with_reducible first | exact HC.out | apply blk_alloc | apply blk_drew | apply blk_drewN)), hid (by repeat (with_reducible first | exact HP.out | apply blk_alloc | apply blk_drew | apply blk_drewN)), fun j hj => (by rcases Nat.lt_or_ge j k with h | h; exact HJ.out j h; obtain rfl : j = k := (by omega); exact HF.out)⟩
          case measure => simp [intOf]; omega
    · have hx := blk_cell HC.out 9
      simp at hx
      have HV2 : Hid (rightErr ⟨cw, cn, cp, cc, cr, cs, co, ca, ce, cy, cf⟩ = if out1 cy 0 9 then 172 else 0) := (HV.out.trans (if_neg (by rw [lim_ok (fun j hj => HJ.out j (by omega))]; simp)))
      cases hb : out1 cy 0 9
      case true =>
        have HV3 : Hid (rightErr ⟨cw, cn, cp, cc, cr, cs, co, ca, ce, cy, cf⟩ = 172) := (HV2.out.trans (if_pos hb))
        rcases out1_yes hb with h | ⟨h, h'⟩
        all_goals
          clear hb
          go_wp2_with fail
          (repeat' (go_quiet (fail); go_wp2_with fail))
          all_goals ((try first | go_ret | go_ret2 | go_ret3); try go_simp)
          all_goals ((with_reducible refine retB_i ?_ (by repeat (first | exact Below.refl _ _ | exact HB.out | (refine Below.setCell ?_ (by simp) _) | apply below_alloc' | apply Below.drew | apply below_drewN'))); rw [HV3.out])
      case false =>
        have HV3 : Hid (rightErr ⟨cw, cn, cp, cc, cr, cs, co, ca, ce, cy, cf⟩ = 0) := (HV2.out.trans (if_neg (by simp [hb])))
        obtain ⟨h, h'⟩ := out1_no hb
        clear hb
        go_wp2_with fail
        (repeat' (go_quiet (fail); go_wp2_with fail))
        all_goals ((try first | go_ret | go_ret2 | go_ret3); try go_simp)
        all_goals ((with_reducible refine retB_i ?_ (by repeat (first | exact Below.refl _ _ | exact HB.out | (refine Below.setCell ?_ (by simp) _) | apply below_alloc' | apply Below.drew | apply below_drewN'))); rw [HV3.out])
end Go.Proofs.Ytcadbfggaipnhaa
