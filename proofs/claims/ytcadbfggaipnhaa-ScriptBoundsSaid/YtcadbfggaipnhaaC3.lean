/- plan.At. -/
import Derived.Test.YtcadbfggaipnhaaC2
namespace Go.Proofs.Ytcadbfggaipnhaa
open Go.RowKit
set_option linter.unusedSimpArgs false
set_option linter.unusedVariables false
set_option maxHeartbeats 400000 in
theorem at_calls (k lo hi st it sg age : Int) (w : World) (hl : I64 lo) (hh : I64 hi) (hs : I64 st) (hi1 : I64 it) (hg1 : I64 sg) :
    Calls Try.prog 85 #[.agg #[.int .i64 k, .int .i64 lo, .int .i64 hi, .int .i64 st, .int .i64 it, .int .i64 sg], .int .i64 age] w (RetB (.tuple #[.int .i64 (atN k lo hi st it sg age).1, .int .i64 (atN k lo hi st it sg age).2.1, .int .i64 (atN k lo hi st it sg age).2.2]) w) := by
  obtain ⟨n, er, hn⟩ : ∃ n er, countN k lo hi st it sg = (n, er) := ⟨_, _, rfl⟩
  have hr := count_range k lo hi st it sg
  rw [hn] at hr
  obtain ⟨hr1, hr2, -⟩ := hr
  have hcc := fun W => count_calls' k lo hi st it sg n er W hl hh hs hi1 hg1 hn
  have HCC := hid hcc
  clear hcc hl hh hs
  by_cases he : er = 0
  · subst he
    by_cases ha : 0 ≤ age ∧ age < n
    · obtain ⟨ha1, ha2⟩ := ha
      by_cases hk : k = 2
      · subst hk
        obtain ⟨hs1, hs2⟩ := count_stages hn (by omega)
        have Hat := hid (show atN 2 lo hi st it sg age = (age / sg, age % sg, 0) by unfold atN; rw [hn, if_neg (by simp), if_neg (by simp; omega), if_pos rfl])
        clear hn hi1 hg1 hr1 
        go_enter Try.func85, Try.ntmps85
        go_wp2_with (first | (go_at_call 31; (with_reducible refine (HCC.out _).mono ?_); rintro e w' ⟨rfl, hb⟩; obtain ⟨hc, hf⟩ := bcell hb; have hz := hb.size; (try simp at hz); (try have hz0 : w.heap.size < w'.heap.size := by omega); (try have hz1 : w.heap.size + 1 < w'.heap.size := by omega); (try have hz2 : w.heap.size + 2 < w'.heap.size := by omega); have HB := hid (below_call (w := w) (by repeat (first | exact Below.refl _ _ | exact HB.out | apply below_alloc' | apply Below.drew | apply below_drewN')) hb); obtain ⟨hcw, hfw⟩ := bcell HB.out; clear hb))
        (repeat' (go_quiet (fail); go_wp2_with fail))
        all_goals ((try first | go_ret | go_ret2 | go_ret3); try go_simp)
        all_goals ((with_reducible refine retB_iii ?_ (by repeat (first | exact Below.refl _ _ | exact HB.out | apply below_alloc' | apply Below.drew | apply below_drewN'))); rw [Hat.out])
      · have hk' : (k == 2) = false := by simpa using hk
        have Hat := hid (show atN k lo hi st it sg age = (wrap64 (lo + wrap64 (age * st)), 0, 0) by unfold atN; rw [hn, if_neg (by simp), if_neg (by simp; omega), if_neg hk])
        clear hn hi1 hg1 hr1 hk
        go_enter Try.func85, Try.ntmps85
        go_wp2_with (first | (go_at_call 31; (with_reducible refine (HCC.out _).mono ?_); rintro e w' ⟨rfl, hb⟩; obtain ⟨hc, hf⟩ := bcell hb; have hz := hb.size; (try simp at hz); (try have hz0 : w.heap.size < w'.heap.size := by omega); (try have hz1 : w.heap.size + 1 < w'.heap.size := by omega); (try have hz2 : w.heap.size + 2 < w'.heap.size := by omega); have HB := hid (below_call (w := w) (by repeat (first | exact Below.refl _ _ | exact HB.out | apply below_alloc' | apply Below.drew | apply below_drewN')) hb); obtain ⟨hcw, hfw⟩ := bcell HB.out; clear hb))
        (repeat' (go_quiet (fail); go_wp2_with fail))
        all_goals ((try first | go_ret | go_ret2 | go_ret3); try go_simp)
        all_goals ((with_reducible refine retB_iii ?_ (by repeat (first | exact Below.refl _ _ | exact HB.out | apply below_alloc' | apply Below.drew | apply below_drewN'))); rw [Hat.out])
    · have Hat := hid (show atN k lo hi st it sg age = (0, 0, 210) by unfold atN; rw [hn, if_neg (by simp), if_pos (by simp; omega)])
      clear hn hi1 hg1 hr1 hr2
      by_cases h1 : age < 0
      · go_enter Try.func85, Try.ntmps85
        go_wp2_with (first | (go_at_call 31; (with_reducible refine (HCC.out _).mono ?_); rintro e w' ⟨rfl, hb⟩; obtain ⟨hc, hf⟩ := bcell hb; have hz := hb.size; (try simp at hz); (try have hz0 : w.heap.size < w'.heap.size := by omega); (try have hz1 : w.heap.size + 1 < w'.heap.size := by omega); (try have hz2 : w.heap.size + 2 < w'.heap.size := by omega); have HB := hid (below_call (w := w) (by repeat (first | exact Below.refl _ _ | exact HB.out | apply below_alloc' | apply Below.drew | apply below_drewN')) hb); obtain ⟨hcw, hfw⟩ := bcell HB.out; clear hb))
        (repeat' (go_quiet (fail); go_wp2_with fail))
        all_goals ((try first | go_ret | go_ret2 | go_ret3); try go_simp)
        all_goals ((with_reducible refine retB_iii ?_ (by repeat (first | exact Below.refl _ _ | exact HB.out | apply below_alloc' | apply Below.drew | apply below_drewN'))); rw [Hat.out])
      · go_enter Try.func85, Try.ntmps85
        go_wp2_with (first | (go_at_call 31; (with_reducible refine (HCC.out _).mono ?_); rintro e w' ⟨rfl, hb⟩; obtain ⟨hc, hf⟩ := bcell hb; have hz := hb.size; (try simp at hz); (try have hz0 : w.heap.size < w'.heap.size := by omega); (try have hz1 : w.heap.size + 1 < w'.heap.size := by omega); (try have hz2 : w.heap.size + 2 < w'.heap.size := by omega); have HB := hid (below_call (w := w) (by repeat (first | exact Below.refl _ _ | exact HB.out | apply below_alloc' | apply Below.drew | apply below_drewN')) hb); obtain ⟨hcw, hfw⟩ := bcell HB.out; clear hb))
        (repeat' (go_quiet (fail); go_wp2_with fail))
        all_goals ((try first | go_ret | go_ret2 | go_ret3); try go_simp)
        all_goals ((with_reducible refine retB_iii ?_ (by repeat (first | exact Below.refl _ _ | exact HB.out | apply below_alloc' | apply Below.drew | apply below_drewN'))); rw [Hat.out])
  · have Hat := hid (show atN k lo hi st it sg age = (0, 0, er) by unfold atN; rw [hn, if_pos (by simpa using he)])
    have he' : (er != 0) = true := by simpa using he
    clear hn hi1 hg1 hr1 hr2 he
    go_enter Try.func85, Try.ntmps85
    go_wp2_with (first | (go_at_call 31; (with_reducible refine (HCC.out _).mono ?_); rintro e w' ⟨rfl, hb⟩; obtain ⟨hc, hf⟩ := bcell hb; have hz := hb.size; (try simp at hz); (try have hz0 : w.heap.size < w'.heap.size := by omega); (try have hz1 : w.heap.size + 1 < w'.heap.size := by omega); (try have hz2 : w.heap.size + 2 < w'.heap.size := by omega); have HB := hid (below_call (w := w) (by repeat (first | exact Below.refl _ _ | exact HB.out | apply below_alloc' | apply Below.drew | apply below_drewN')) hb); obtain ⟨hcw, hfw⟩ := bcell HB.out; clear hb))
    all_goals ((try first | go_ret | go_ret2 | go_ret3); try go_simp)
    all_goals ((with_reducible refine retB_iii ?_ (by repeat (first | exact Below.refl _ _ | exact HB.out | apply below_alloc' | apply Below.drew | apply below_drewN'))); rw [Hat.out])
end Go.Proofs.Ytcadbfggaipnhaa
