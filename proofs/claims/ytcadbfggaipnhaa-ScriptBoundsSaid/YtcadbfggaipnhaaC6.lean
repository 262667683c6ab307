/- The contracts of ins.Falls and ins.Check. -/
import Derived.Test.YtcadbfggaipnhaaC5b
import Derived.Test.YtcadbfggaipnhaaM
namespace Go.Proofs.Ytcadbfggaipnhaa
open Go.RowKit
set_option linter.unusedSimpArgs false
set_option linter.unusedVariables false

def insOneI (x : Ins) (cells long : Int) : Int := insOne x.kind x.op x.a x.b x.c x.k cells long
/-- ins.Check: the place, and the error -/
def insCheck (l : List Ins) (cells : Int) : Int × Int :=
  if l.length = 0 ∨ 600 < l.length then (0, 80)
  else if l.findIdx (fun x => insOneI x cells l.length != 0) < l.length then
    ((l.findIdx (fun x => insOneI x cells l.length != 0) : Nat), insOneI (nth l (l.findIdx (fun x => insOneI x cells l.length != 0))) cells l.length)
  else if fallsB (nth l (l.length - 1)).kind then ((l.length : Int) - 1, 85) else (0, 0)
theorem findIdx_at {α : Type} [Inhabited α] {p : α → Bool} {l : List α} {k : Nat} (hk : k < l.length) (h : ∀ j, j < k → p (nth l j) = false) (hp : p (nth l k) = true) : l.findIdx p = k := by
  rw [List.findIdx_eq hk]
  refine ⟨by rw [← nth_eq hk]; exact hp, fun j hj => ?_⟩
  have := h j hj
  rwa [nth_eq (by omega)] at this
theorem findIdx_none {α : Type} [Inhabited α] {p : α → Bool} {l : List α} (h : ∀ j, j < l.length → p (nth l j) = false) : l.findIdx p = l.length := by
  rw [List.findIdx_eq_length]
  intro x hx
  obtain ⟨j, hj, rfl⟩ := List.getElem_of_mem hx
  have := h j hj
  rwa [nth_eq hj] at this
theorem insCheck_bad {l : List Ins} {cells : Int} {k : Nat} (hl : l.length ≤ 600) (hk : k < l.length) (h : ∀ j, j < k → insOneI (nth l j) cells l.length = 0) (hp : insOneI (nth l k) cells l.length ≠ 0) :
    insCheck l cells = ((k : Int), insOneI (nth l k) cells l.length) := by
  have : l.findIdx (fun x => insOneI x cells l.length != 0) = k := findIdx_at hk (fun j hj => by simp [h j hj]) (by simpa using hp)
  unfold insCheck
  rw [if_neg (by omega), this, if_pos hk]
theorem insCheck_end {l : List Ins} {cells : Int} (hl : l.length ≤ 600) (h0 : 0 < l.length) (h : ∀ j, j < l.length → insOneI (nth l j) cells l.length = 0) :
    insCheck l cells = if fallsB (nth l (l.length - 1)).kind then ((l.length : Int) - 1, 85) else (0, 0) := by
  have : l.findIdx (fun x => insOneI x cells l.length != 0) = l.length := findIdx_none (fun j hj => by simp [h j hj])
  unfold insCheck
  rw [if_neg (by omega), this, if_neg (by omega)]

set_option maxHeartbeats 400000 in
theorem falls_calls (x : Ins) (w : World) : Calls Try.prog 133 #[.agg #[.int .i64 x.kind, .int .i64 x.op, .int .i64 x.a, .int .i64 x.b, .int .i64 x.c, .int .i64 x.k]] w (RetB (.bool (fallsB x.kind)) w) := by
  go_enter Try.func133, Try.ntmps133
  go_wp2_with (first | fail)
  (repeat' (go_quiet (fail); go_wp2_with (first | fail)))
  all_goals ((try first | go_ret | go_ret2 | go_ret3); try go_simp)
  all_goals ((with_reducible refine retB_b ?_ (by repeat (first | exact Below.refl _ _ | exact HB.out | (refine Below.setCell ?_ (by simp) _) | apply below_alloc' | apply Below.drew | apply below_drewN'))); simp [fallsB, *])
theorem falls_is (x : Ins) (b : Bool) (w : World) (h : fallsB x.kind = b) : Calls Try.prog 133 #[.agg #[.int .i64 x.kind, .int .i64 x.op, .int .i64 x.a, .int .i64 x.b, .int .i64 x.c, .int .i64 x.k]] w (RetB (.bool b) w) := by have := falls_calls x w; rwa [h] at this
theorem insOneI_calls (x : Ins) (cells long : Int) (w : World) : Calls Try.prog 132 #[.agg #[.int .i64 x.kind, .int .i64 x.op, .int .i64 x.a, .int .i64 x.b, .int .i64 x.c, .int .i64 x.k], .int .i64 cells, .int .i64 long] w (RetB (.int .i64 (insOneI x cells long)) w) := insOne_calls _ _ _ _ _ _ _ _ _
set_option maxRecDepth 100000 in
set_option maxHeartbeats 1000000 in
theorem insCheck_calls (A : Option Addr) (c : Nat) (l : List Ins) (cells : Int) (w : World) (B : Nat) (hB0 : B ≤ w.heap.size) (hr : Row w B A 6 l.length (fun k => insC (nth l k))) (hm : l.length ≤ 9223372036854775807) :
    Calls Try.prog 95 #[.slice A l.length c, .int .i64 cells] w (RetB (.tuple #[.int .i64 (insCheck l cells).1, .int .i64 (insCheck l cells).2]) w) := by
  by_cases h0 : l.length = 0
  · have H := hid (show insCheck l cells = (0, 80) by unfold insCheck; rw [if_pos (.inl h0)])
    rw [h0]
    clear hr hm h0
    go_enter Try.func95, Try.ntmps95
    go_wp2_with (first | fail)
    (repeat' (go_quiet (fail); go_wp2_with (first | fail)))
    all_goals ((try first | go_ret | go_ret2 | go_ret3); try go_simp)
    all_goals ((with_reducible refine retB_ii ?_ (by repeat (first | exact Below.refl _ _ | exact HB.out | apply below_alloc' | apply Below.drew | apply below_drewN'))); rw [H.out])
  by_cases h1 : 600 < l.length
  · have H := hid (show insCheck l cells = (0, 80) by unfold insCheck; rw [if_pos (.inr h1)])
    clear hr
    have hn0 : ((l.length : Int) == 0) = false := beq_eq_false_iff_ne.2 (by omega)
    go_enter Try.func95, Try.ntmps95
    go_wp2_with (first | fail)
    (repeat' (go_quiet (fail); go_wp2_with (first | fail)))
    all_goals ((try first | go_ret | go_ret2 | go_ret3); try go_simp)
    all_goals ((with_reducible refine retB_ii ?_ (by repeat (first | exact Below.refl _ _ | exact HB.out | apply below_alloc' | apply Below.drew | apply below_drewN'))); rw [H.out])
  obtain ⟨b, off, rfl, hb, hc⟩ := hr.open_ (by omega)
  have HC := hid (ins_cells hc)
  have Hend := hid (insCheck_end (cells := cells) (by omega) (by omega) (l := l))
  have Hbad := hid (fun k => insCheck_bad (cells := cells) (k := k) (by omega) (l := l))
  generalize hn : l.length = n at *
  have HN := hid hn
  have hn0 : ((n : Int) == 0) = false := by simp; omega
  have hn1 : (n == 0) = false := by simp; omega
  have h1' : n ≤ 600 := by omega
  have h0' : 0 < n := by omega
  clear hr hn hc h0 h1
  go_enter Try.func95, Try.ntmps95
  go_wp2_with (first | fail)
  (repeat' (go_quiet (fail); go_wp2_with (first | fail)))
  go_loopw [4, 5, 6, 7, 8, 20] (fun v4 v5 v6 v7 v8 v20 wr => ∃ k : Nat, k ≤ n ∧ v20 = .int .i64 k ∧ v4 = .int .i64 0 ∧ v5 = .int .i64 0 ∧ Below w.heap.size w wr ∧ Hid (∀ j, j < k → insOneI (nth l j) cells n = 0)) (fun _ _ _ _ _ v20 _ => n - (intOf v20).toNat)
  case atStart => exact ⟨0, by omega, rfl, rfl, rfl, Below.refl _ _, fun j hj => by omega⟩
  case round =>
    obtain ⟨k, hk, rfl, rfl, rfl, hB, HP⟩ := hrel
    by_cases hlt : k < n
    · obtain ⟨c0, c1, c2, c3, c4, c5⟩ := HC.out k hlt
      have HB := hid hB
      obtain ⟨hcw, hfw⟩ := bcell hB
      have hbw : b < w.heap.size := by omega
      by_cases he : insOneI (nth l k) cells n = 0
      · have he' : (insOneI (nth l k) cells n != 0) = false := by simp [he]
        have Hz := hid he
        clear he
        go_wp2_with (first | (go_at_call 132; (with_reducible refine (insOneI_calls (nth l k) _ _ _).mono ?_); rintro e w' ⟨rfl, hb⟩; obtain ⟨hc, hf⟩ := bcell hb; have hz := hb.size; (try simp at hz); (try have hz0 : w.heap.size < w'.heap.size := by omega); (try have hz1 : w.heap.size + 1 < w'.heap.size := by omega); (try have hz2 : w.heap.size + 2 < w'.heap.size := by omega); have HB := hid (below_call (w := w) (by repeat (first | exact Below.refl _ _ | exact HB.out | apply below_alloc' | apply Below.drew | apply below_drewN')) hb); obtain ⟨hcw, hfw⟩ := bcell HB.out; clear hb))
        go_ways
        all_goals
          go_roundw
          case rel => exact ⟨k + 1, by omega, by go_num, rfl, rfl, (by repeat (first | exact Below.refl _ _ | exact HB.out | (refine Below.setCell ?_ (by simp) _) | apply below_alloc' | apply Below.drew | apply below_drewN')), fun j hj => (by rcases Nat.lt_or_ge j k with h | h; exact HP.out j h; obtain rfl : j = k := (by omega); exact Hz.out)⟩
          case measure => simp [intOf]; omega
      · have Hb := hid (Hbad.out k hlt HP.out he)
        have he' : (insOneI (nth l k) cells n != 0) = true := by simpa using he
        clear he
        go_wp2_with (first | (go_at_call 132; (with_reducible refine (insOneI_calls (nth l k) _ _ _).mono ?_); rintro e w' ⟨rfl, hb⟩; obtain ⟨hc, hf⟩ := bcell hb; have hz := hb.size; (try simp at hz); (try have hz0 : w.heap.size < w'.heap.size := by omega); (try have hz1 : w.heap.size + 1 < w'.heap.size := by omega); (try have hz2 : w.heap.size + 2 < w'.heap.size := by omega); have HB := hid (below_call (w := w) (by repeat (first | exact Below.refl _ _ | exact HB.out | apply below_alloc' | apply Below.drew | apply below_drewN')) hb); obtain ⟨hcw, hfw⟩ := bcell HB.out; clear hb))
        all_goals ((try first | go_ret | go_ret2 | go_ret3); try go_simp)
        all_goals ((with_reducible refine retB_ii ?_ (by repeat (first | exact Below.refl _ _ | exact HB.out | (refine Below.setCell ?_ (by simp) _) | apply below_alloc' | apply Below.drew | apply below_drewN'))); rw [Hb.out])
    · have hkn : k = n := by omega
      have HB := hid hB
      obtain ⟨hcw, hfw⟩ := bcell hB
      have hbw : b < w.heap.size := by omega
      have He := hid (Hend.out (fun j hj => HP.out j (by omega)))
      obtain ⟨c0, c1, c2, c3, c4, c5⟩ := HC.out (n - 1) (by omega)
      have e1 : wrap64 ((n : Int) - 1) = ((n - 1 : Nat) : Int) := by unfold wrap64; omega
      subst hkn
      cases hf : fallsB (nth l (k - 1)).kind
      · have Hf := hid hf
        have He2 := He.out
        rw [hf, if_neg (by simp)] at He2
        have He3 := hid He2
        clear hf He2 He
        go_wp2_with (first | (go_at_call 133; (with_reducible refine (falls_is (nth l (k - 1)) _ _ Hf.out).mono ?_); rintro e w' ⟨rfl, hb⟩; obtain ⟨hc, hf⟩ := bcell hb; have hz := hb.size; (try simp at hz); (try have hz0 : w.heap.size < w'.heap.size := by omega); (try have hz1 : w.heap.size + 1 < w'.heap.size := by omega); (try have hz2 : w.heap.size + 2 < w'.heap.size := by omega); have HB := hid (below_call (w := w) (by repeat (first | exact Below.refl _ _ | exact HB.out | apply below_alloc' | apply Below.drew | apply below_drewN')) hb); obtain ⟨hcw, hfw⟩ := bcell HB.out; clear hb))
        all_goals ((try first | go_ret | go_ret2 | go_ret3); try go_simp)
        all_goals ((with_reducible refine retB_ii ?_ (by repeat (first | exact Below.refl _ _ | exact HB.out | (refine Below.setCell ?_ (by simp) _) | apply below_alloc' | apply Below.drew | apply below_drewN'))); rw [He3.out])
      · have Hf := hid hf
        have He2 := He.out
        rw [hf, if_pos rfl] at He2
        have He3 := hid He2
        clear hf He2 He
        go_wp2_with (first | (go_at_call 133; (with_reducible refine (falls_is (nth l (k - 1)) _ _ Hf.out).mono ?_); rintro e w' ⟨rfl, hb⟩; obtain ⟨hc, hf⟩ := bcell hb; have hz := hb.size; (try simp at hz); (try have hz0 : w.heap.size < w'.heap.size := by omega); (try have hz1 : w.heap.size + 1 < w'.heap.size := by omega); (try have hz2 : w.heap.size + 2 < w'.heap.size := by omega); have HB := hid (below_call (w := w) (by repeat (first | exact Below.refl _ _ | exact HB.out | apply below_alloc' | apply Below.drew | apply below_drewN')) hb); obtain ⟨hcw, hfw⟩ := bcell HB.out; clear hb))
        all_goals ((try first | go_ret | go_ret2 | go_ret3); try go_simp)
        go_ways
        all_goals ((with_reducible refine retB_ii ?_ (by repeat (first | exact Below.refl _ _ | exact HB.out | (refine Below.setCell ?_ (by simp) _) | apply below_alloc' | apply Below.drew | apply below_drewN'))); rw [He3.out])
end Go.Proofs.Ytcadbfggaipnhaa
