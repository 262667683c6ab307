/- outriderref08.One, all kinds; Check; outriderref13.Of and outriderref14.Check told as errors. -/
import Derived.Test.YtcadbfggaipnhaaR4
import Derived.Test.YtcadbfggaipnhaaR4b
import Derived.Test.YtcadbfggaipnhaaR4c
import Derived.Test.YtcadbfggaipnhaaC10
namespace Go.Proofs.Ytcadbfggaipnhaa
open Go.RowKit
set_option linter.unusedSimpArgs false
set_option linter.unusedVariables false
theorem one8_calls (x : Ins) (cells long : Int) (w : World) : Calls Try.prog 136 #[.agg #[.int .i64 x.kind, .int .i64 x.op, .int .i64 x.a, .int .i64 x.b, .int .i64 x.c, .int .i64 x.k], .int .i64 cells, .int .i64 long] w (RetB (.int .i64 (insOneI x cells long)) w) := by
  obtain ⟨kd, op, a, b, c, k⟩ := x
  unfold insOneI
  dsimp only
  by_cases h : kd < 1 ∨ 13 < kd
  · exact one8_none kd op a b c k cells long w h
  have h : kd = 1 ∨ kd = 2 ∨ kd = 3 ∨ kd = 4 ∨ kd = 5 ∨ kd = 6 ∨ kd = 7 ∨ kd = 8 ∨ kd = 9 ∨ kd = 10 ∨ kd = 11 ∨ kd = 12 ∨ kd = 13 := by omega
  rcases h with rfl | rfl | rfl | rfl | rfl | rfl | rfl | rfl | rfl | rfl | rfl | rfl | rfl
  · exact one8_1 op a b c k cells long w
  · exact one8_2 op a b c k cells long w
  · exact one8_3 op a b c k cells long w
  · exact one8_4 op a b c k cells long w
  · exact one8_5 op a b c k cells long w
  · exact one8_6 op a b c k cells long w
  · exact one8_7 op a b c k cells long w
  · exact one8_8 op a b c k cells long w
  · exact one8_9 op a b c k cells long w
  · exact one8_10 op a b c k cells long w
  · exact one8_11 op a b c k cells long w
  · exact one8_12 op a b c k cells long w
  · exact one8_13 op a b c k cells long w
set_option maxRecDepth 100000 in
set_option maxHeartbeats 1000000 in
theorem check8_calls (A : Option Addr) (c : Nat) (l : List Ins) (cells : Int) (w : World) (B : Nat) (hB0 : B ≤ w.heap.size) (hr : Row w B A 6 l.length (fun k => insC (nth l k))) (hm : l.length ≤ 9223372036854775807) :
    Calls Try.prog 98 #[.slice A l.length c, .int .i64 cells] w (RetB (.tuple #[.int .i64 (insCheck l cells).1, .int .i64 (insCheck l cells).2]) w) := by
  by_cases h0 : l.length = 0
  · have H := hid (show insCheck l cells = (0, 80) by unfold insCheck; rw [if_pos (.inl h0)])
    rw [h0]
    clear hr hm h0
    go_enter Try.func98, Try.ntmps98
    go_wp2_with (first | fail)
    (repeat' (go_quiet (fail); go_wp2_with (first | fail)))
    all_goals ((try first | go_ret | go_ret2 | go_ret3); try go_simp)
    all_goals ((with_reducible refine retB_ii ?_ (by repeat (first | exact Below.refl _ _ | exact HB.out | apply below_alloc' | apply Below.drew | apply below_drewN'))); rw [H.out])
  by_cases h1 : 600 < l.length
  · have H := hid (show insCheck l cells = (0, 80) by unfold insCheck; rw [if_pos (.inr h1)])
    clear hr
    have hn0 : ((l.length : Int) == 0) = false := beq_eq_false_iff_ne.2 (by omega)
    go_enter Try.func98, Try.ntmps98
    go_wp2_with (first | fail)
    (repeat' (go_quiet (fail); go_wp2_with (first | fail)))
    all_goals ((try first | go_ret | go_ret2 | go_ret3); try go_simp)
    all_goals ((with_reducible refine retB_ii ?_ (by repeat (first | exact Below.refl _ _ | exact HB.out | apply below_alloc' | apply Below.drew | apply below_drewN'))); rw [H.out])
  obtain ⟨b, off, rfl, hb, hc⟩ := hr.open_ (by omega)
  have HC := hid (ins_cells hc)
  have Hend := hid (insCheck_end (cells := cells) (by omega) (by omega) (l := l))
  have Hbad := hid (fun k => insCheck_bad (cells := cells) (k := k) (by omega) (l := l))
  generalize hn : l.length = n at *
  have HN := hid hn
  have hn0 : ((n : Int) == 0) = false := by simp; omega
  have hn1 : (n == 0) = false := by simp; omega
  have h1' : n ≤ 600 := by omega
  have h0' : 0 < n := by omega
  clear hr hn hc h0 h1
  go_enter Try.func98, Try.ntmps98
  go_wp2_with (first | fail)
  (repeat' (go_quiet (fail); go_wp2_with (first | fail)))
  go_loopw [4, 5, 6, 7] (fun v4 v5 v6 v7 wr => ∃ k : Nat, k ≤ n ∧ v6 = .int .i64 k ∧ v4 = .int .i64 0 ∧ v5 = .int .i64 0 ∧ Below w.heap.size w wr ∧ Hid (∀ j, j < k → insOneI (nth l j) cells n = 0)) (fun _ _ v6 _ _ => n - (intOf v6).toNat)
  case atStart => exact ⟨0, by omega, rfl, rfl, rfl, Below.refl _ _, fun j hj => by omega⟩
  case round =>
    obtain ⟨k, hk, rfl, rfl, rfl, hB, HP⟩ := hrel
    by_cases hlt : k < n
    · obtain ⟨c0, c1, c2, c3, c4, c5⟩ := HC.out k hlt
      have HB := hid hB
      obtain ⟨hcw, hfw⟩ := bcell hB
      have hbw : b < w.heap.size := by omega
      by_cases he : insOneI (nth l k) cells n = 0
      · have he' : (insOneI (nth l k) cells n != 0) = false := by simp [he]
        have Hz := hid he
        clear he
        go_wp2_with (first | (go_at_call 136; (with_reducible refine (one8_calls (nth l k) _ _ _).mono ?_); rintro e w' ⟨rfl, hb⟩; obtain ⟨hc, hf⟩ := bcell hb; have hz := hb.size; (try simp at hz); (try have hz0 : w.heap.size < w'.heap.size := by omega); (try have hz1 : w.heap.size + 1 < w'.heap.size := by omega); (try have hz2 : w.heap.size + 2 < w'.heap.size := by omega); have HB := hid (below_call (w := w) (by repeat (first | exact Below.refl _ _ | exact HB.out | apply below_alloc' | apply Below.drew | apply below_drewN')) hb); obtain ⟨hcw, hfw⟩ := bcell HB.out; clear hb))
        all_goals
          go_roundw
          case rel => exact ⟨k + 1, by omega, by go_num, rfl, rfl, (by repeat (first | exact Below.refl _ _ | exact HB.out | (refine Below.setCell ?_ (by simp) _) | apply below_alloc' | apply Below.drew | apply below_drewN')), fun j hj => (by rcases Nat.lt_or_ge j k with h | h; exact HP.out j h; obtain rfl : j = k := (by omega); exact Hz.out)⟩
          case measure => simp [intOf]; omega
      · have Hb := hid (Hbad.out k hlt HP.out he)
        have he' : (insOneI (nth l k) cells n != 0) = true := by simpa using he
        clear he
        go_wp2_with (first | (go_at_call 136; (with_reducible refine (one8_calls (nth l k) _ _ _).mono ?_); rintro e w' ⟨rfl, hb⟩; obtain ⟨hc, hf⟩ := bcell hb; have hz := hb.size; (try simp at hz); (try have hz0 : w.heap.size < w'.heap.size := by omega); (try have hz1 : w.heap.size + 1 < w'.heap.size := by omega); (try have hz2 : w.heap.size + 2 < w'.heap.size := by omega); have HB := hid (below_call (w := w) (by repeat (first | exact Below.refl _ _ | exact HB.out | apply below_alloc' | apply Below.drew | apply below_drewN')) hb); obtain ⟨hcw, hfw⟩ := bcell HB.out; clear hb))
        all_goals ((try first | go_ret | go_ret2 | go_ret3); try go_simp)
        all_goals ((with_reducible refine retB_ii ?_ (by repeat (first | exact Below.refl _ _ | exact HB.out | (refine Below.setCell ?_ (by simp) _) | apply below_alloc' | apply Below.drew | apply below_drewN'))); rw [Hb.out])
    · have hkn : k = n := by omega
      have HB := hid hB
      obtain ⟨hcw, hfw⟩ := bcell hB
      have hbw : b < w.heap.size := by omega
      have He := hid (Hend.out (fun j hj => HP.out j (by omega)))
      obtain ⟨c0, c1, c2, c3, c4, c5⟩ := HC.out (n - 1) (by omega)
      have e1 : wrap64 ((n : Int) - 1) = ((n - 1 : Nat) : Int) := by unfold wrap64; omega
      subst hkn
      cases hf : fallsB (nth l (k - 1)).kind
      · have Hf := hid hf
        have He2 := He.out
        rw [hf, if_neg (by simp)] at He2
        have He3 := hid He2
        clear hf He2 He
        go_wp2_with (first | (go_at_call 137; (with_reducible refine (falls8_is (nth l (k - 1)) _ _ Hf.out).mono ?_); rintro e w' ⟨rfl, hb⟩; obtain ⟨hc, hf⟩ := bcell hb; have hz := hb.size; (try simp at hz); (try have hz0 : w.heap.size < w'.heap.size := by omega); (try have hz1 : w.heap.size + 1 < w'.heap.size := by omega); (try have hz2 : w.heap.size + 2 < w'.heap.size := by omega); have HB := hid (below_call (w := w) (by repeat (first | exact Below.refl _ _ | exact HB.out | apply below_alloc' | apply Below.drew | apply below_drewN')) hb); obtain ⟨hcw, hfw⟩ := bcell HB.out; clear hb))
        all_goals ((try first | go_ret | go_ret2 | go_ret3); try go_simp)
        all_goals ((with_reducible refine retB_ii ?_ (by repeat (first | exact Below.refl _ _ | exact HB.out | (refine Below.setCell ?_ (by simp) _) | apply below_alloc' | apply Below.drew | apply below_drewN'))); rw [He3.out])
      · have Hf := hid hf
        have He2 := He.out
        rw [hf, if_pos rfl] at He2
        have He3 := hid He2
        clear hf He2 He
        go_wp2_with (first | (go_at_call 137; (with_reducible refine (falls8_is (nth l (k - 1)) _ _ Hf.out).mono ?_); rintro e w' ⟨rfl, hb⟩; obtain ⟨hc, hf⟩ := bcell hb; have hz := hb.size; (try simp at hz); (try have hz0 : w.heap.size < w'.heap.size := by omega); (try have hz1 : w.heap.size + 1 < w'.heap.size := by omega); (try have hz2 : w.heap.size + 2 < w'.heap.size := by omega); have HB := hid (below_call (w := w) (by repeat (first | exact Below.refl _ _ | exact HB.out | apply below_alloc' | apply Below.drew | apply below_drewN')) hb); obtain ⟨hcw, hfw⟩ := bcell HB.out; clear hb))
        all_goals ((try first | go_ret | go_ret2 | go_ret3); try go_simp)
        all_goals ((with_reducible refine retB_ii ?_ (by repeat (first | exact Below.refl _ _ | exact HB.out | (refine Below.setCell ?_ (by simp) _) | apply below_alloc' | apply Below.drew | apply below_drewN'))); rw [He3.out])
end Go.Proofs.Ytcadbfggaipnhaa
