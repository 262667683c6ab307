/- ScriptBounds returns true, whatever it reads. -/
import Derived.Test.YtcadbfggaipnhaaL2
namespace Go.Proofs.Ytcadbfggaipnhaa
open Go.RowKit
set_option linter.unusedSimpArgs false
set_option linter.unusedVariables false
theorem bounds_calls (j : Job) (a : JobA) (c : Config) (Al : Option Addr) (ln cl : Nat) (ab : Int) (w : World) (B : Nat) (hB0 : B ≤ w.heap.size) (hj : JobMem w B j a) (ho : j.ok) (hcap : j.cells.length ≤ a.cc) (hab : I64 ab) (hln : ln ≤ 9223372036854775807) :
    Calls Try.prog 3 #[.agg (runC j a c (.slice Al ln cl)).toArray, .int .i64 ab] w (RetB (.bool true) w) := by
  have HRB : ∀ x, x ≤ 1048576 → ∀ W, Below w.heap.size w W → Calls Try.prog 14 #[.agg (jobC j a).toArray, .agg (cfgC c).toArray, .int .i64 x] W (RetB (.tuple #[.int .i64 (rboundN j c x).1, .int .i64 (rboundN j c x).2]) W) :=
    fun x hx W (hW : Below w.heap.size w W) => rbound_calls j a c x W B (Nat.le_trans hB0 hW.size) (hj.below (hW.mono hB0)) ho hcap hx
  have HB : ∀ gr, (greatB j || decide ((1073741824 : Int) < (ln : Int))) = gr → ∀ b1 b2, boundN j c ab = (b1, b2) → Bds j a c (.slice Al ln cl) ab w gr (quickN j c).1 (quickN j c).2 b1 b2 := fun gr hgr b1 b2 hb =>
    { G := fun W hW => by rw [← hgr]; exact great24_calls j a c Al ln cl 1073741824 W B (Nat.le_trans hB0 hW.size) (hj.below (hW.mono hB0)) ho hln
      Q := fun W hW => quick_calls j a c W B (Nat.le_trans hB0 hW.size) (hj.below (hW.mono hB0)) ho
      R := fun W hW => by rw [law_quick]; exact rquick_calls j a c W B (Nat.le_trans hB0 hW.size) (hj.below (hW.mono hB0)) ho hcap
      P := fun W hW => by have := bound_calls j a c ab W B (Nat.le_trans hB0 hW.size) (hj.below (hW.mono hB0)) ho hab; rw [hb] at this; exact this
      A := fun W => alive25_calls W }
  cases hgr : (greatB j || decide ((1073741824 : Int) < (ln : Int)))
  case true => exact bounds_great j a c _ ab w _ _ _ _ (hid (HB _ hgr _ _ rfl))
  by_cases hs : ab ≤ 1048576
  · have hR := HRB ab hs
    rw [← law_bound j c ab hs] at hR
    exact bounds_small j a c _ ab w _ _ _ _ hs (hid (HB _ hgr _ _ rfl)) (hid hR)
  · have hR := HRB 1048576 (by omega)
    rcases law_far j c ab (by omega) hab.2 with ⟨er, he, h1, h2⟩ | ⟨b1, b2, h1, h2, h3, h4⟩
    · rw [h2] at hR
      exact bounds_err j a c _ ab w _ _ er (by omega) (by simpa using he) (by simpa using he) (hid (HB _ hgr _ _ h1)) (hid hR)
    · rw [h2] at hR
      by_cases hm : ab < 1099511627776
      · exact bounds_mid j a c _ ab w _ _ b1 b2 (by omega) hm (hid (HB _ hgr _ _ h1)) (hid hR)
      · have hlt := h3 (by omega)
        by_cases ht : ab < 4611686018427387904
        · exact bounds_far j a c _ ab w _ _ b1 b2 (by omega) ht hlt (hid (HB _ hgr _ _ h1)) (hid hR)
        · have e := h4 (by omega)
          subst e
          exact bounds_top j a c _ ab w _ _ b2 (by omega) hlt (hid (HB _ hgr _ _ h1)) (hid hR)
end Go.Proofs.Ytcadbfggaipnhaa
