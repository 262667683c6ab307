/- job.Valid: may a job be? -/
import Derived.Test.YtcadbfggaipnhaaC3
import Derived.Test.YtcadbfggaipnhaaC6
import Derived.Test.YtcadbfggaipnhaaC8
import Derived.Test.YtcadbfggaipnhaaC9
import Derived.Deep.RegionWith
import Derived.Deep.DeepFit
namespace Go.Proofs.Ytcadbfggaipnhaa
open Go.RowKit
set_option linter.unusedSimpArgs false
set_option linter.unusedVariables false

structure Job where
  words : Int
  cells : List (Int × Int)
  reds : List (Int × Int)
  fuel : Int
  kind : Int
  lo : Int
  hi : Int
  step : Int
  items : Int
  stages : Int
  codes : List (List Ins)
deriving Inhabited
def Job.ok (j : Job) : Prop := I64 j.words ∧ I64 j.fuel ∧ I64 j.lo ∧ I64 j.hi ∧ I64 j.step ∧ I64 j.items ∧ I64 j.stages ∧ j.cells.length ≤ 9223372036854775807 ∧ j.reds.length ≤ 9223372036854775807 ∧ j.codes.length ≤ 9223372036854775807 ∧
  ∀ k, k < j.codes.length → (nth j.codes k).length ≤ 9223372036854775807
/-- where a job's lists lie -/
structure JobA where
  Ac : Option Addr
  cc : Nat
  Ar : Option Addr
  cr : Nat
  Ak : Option Addr
  ck : Nat
  Aq : Nat → Option Addr
  cq : Nat → Nat
/-- a job as a value: its lists lie below B -/
def JobMem (w : World) (B : Nat) (j : Job) (a : JobA) : Prop :=
  Row w B a.Ac 2 j.cells.length (fun k => pairC (nth j.cells k)) ∧ Row w B a.Ar 2 j.reds.length (fun k => pairC (nth j.reds k)) ∧
  Row w B a.Ak 1 j.codes.length (fun k => [.slice (a.Aq k) (nth j.codes k).length (a.cq k)]) ∧
  ∀ k, k < j.codes.length → Row w B (a.Aq k) 6 (nth j.codes k).length (fun i => insC (nth (nth j.codes k) i))
theorem JobMem.below {w w' : World} {B : Nat} {j : Job} {a : JobA} (h : JobMem w B j a) (hb : Below B w w') : JobMem w' B j a :=
  ⟨h.1.below hb, h.2.1.below hb, h.2.2.1.below hb, fun k hk => (h.2.2.2 k hk).below hb⟩
theorem JobMem.mono {w : World} {B B' : Nat} {j : Job} {a : JobA} (h : JobMem w B j a) (hB : B ≤ B') : JobMem w B' j a :=
  ⟨h.1.mono hB, h.2.1.mono hB, h.2.2.1.mono hB, fun k hk => (h.2.2.2 k hk).mono hB⟩
/-- the first error of the texts of instructions -/
def codesErr (cells : Int) : List (List Ins) → Int
  | [] => 0
  | c :: cs => if (insCheck c cells).2 ≠ 0 then (insCheck c cells).2 else codesErr cells cs
def jobValid (j : Job) : Int :=
  if (memOf j.words j.cells).2 ≠ 0 then (memOf j.words j.cells).2
  else if redErr j.reds ≠ 0 then redErr j.reds
  else if j.fuel < 1 ∨ 4000 < j.fuel then 110
  else if (countN j.kind j.lo j.hi j.step j.items j.stages).2 ≠ 0 then (countN j.kind j.lo j.hi j.step j.items j.stages).2
  else if (j.codes.length : Int) ≠ stagesN j.kind j.stages then 170
  else codesErr j.reds.length j.codes
theorem memOf_ok (words : Int) (A : Option Addr) (c : Nat) (cells : List (Int × Int)) (w : World) (B : Nat) (hB0 : B ≤ w.heap.size) (hr : Row w B A 2 cells.length (fun k => pairC (nth cells k))) (hm : cells.length ≤ 9223372036854775807) (h : (memOf words cells).2 = 0) :
    Calls Try.prog 84 #[.int .i64 words, .slice A cells.length c] w (fun e w' => ∃ v, e = .returned (.tuple #[v, .int .i64 0]) ∧ Below w.heap.size w w' ∧ IsInts w' w.heap.size v (memOf words cells).1) :=
  (memOf_calls words A c cells w B hB0 hr hm).mono fun e w' ⟨hb, h1, _⟩ => let ⟨v, he, hI⟩ := h1 h; ⟨v, he, hb, hI⟩
theorem memOf_bad (words : Int) (A : Option Addr) (c : Nat) (cells : List (Int × Int)) (w : World) (B : Nat) (hB0 : B ≤ w.heap.size) (hr : Row w B A 2 cells.length (fun k => pairC (nth cells k))) (hm : cells.length ≤ 9223372036854775807) (h : (memOf words cells).2 ≠ 0) :
    Calls Try.prog 84 #[.int .i64 words, .slice A cells.length c] w (RetB (.tuple #[.slice none 0 0, .int .i64 (memOf words cells).2]) w) :=
  (memOf_calls words A c cells w B hB0 hr hm).mono fun e w' ⟨hb, _, h1⟩ => ⟨h1 h, hb⟩
theorem redNew_ok (A : Option Addr) (c : Nat) (reds : List (Int × Int)) (w : World) (B : Nat) (hB0 : B ≤ w.heap.size) (hr : Row w B A 2 reds.length (fun k => pairC (nth reds k))) (hm : reds.length ≤ 9223372036854775807) (h : redErr reds = 0) :
    Calls Try.prog 93 #[.slice A reds.length c] w (fun e w' => ∃ g, e = .returned (.tuple #[.pointer (some ⟨g, 0, none⟩), .int .i64 0]) ∧ Below w.heap.size w w' ∧ IsHeap w' w.heap.size g (reds.map (·.1)) (reds.map fun r => redZero r.1) 0) :=
  (redNew_calls A c reds w B hB0 hr hm).mono fun e w' ⟨hb, h1, _⟩ => let ⟨v, he, hI⟩ := h1 h; ⟨v, he, hb, hI⟩
theorem redNew_bad (A : Option Addr) (c : Nat) (reds : List (Int × Int)) (w : World) (B : Nat) (hB0 : B ≤ w.heap.size) (hr : Row w B A 2 reds.length (fun k => pairC (nth reds k))) (hm : reds.length ≤ 9223372036854775807) (h : redErr reds ≠ 0) :
    Calls Try.prog 93 #[.slice A reds.length c] w (RetB (.tuple #[.pointer none, .int .i64 (redErr reds)]) w) :=
  (redNew_calls A c reds w B hB0 hr hm).mono fun e w' ⟨hb, _, h1⟩ => ⟨h1 h, hb⟩

theorem codesErr_bad {cells : Int} : ∀ {cs : List (List Ins)} {k : Nat}, k < cs.length → (∀ i, i < k → (insCheck (nth cs i) cells).2 = 0) → (insCheck (nth cs k) cells).2 ≠ 0 → codesErr cells cs = (insCheck (nth cs k) cells).2
  | [], k, hk, _, _ => absurd hk (by simp)
  | c :: cs, 0, _, _, h => by unfold codesErr; rw [if_pos (by exact h)]; rfl
  | c :: cs, k + 1, hk, h0, h => by
    have h1 := h0 0 (by omega)
    unfold codesErr
    rw [if_neg (by intro h2; exact h2 h1)]
    exact codesErr_bad (cs := cs) (k := k) (by simpa using hk) (fun i hi => h0 (i + 1) (by omega)) h
theorem codesErr_ok {cells : Int} : ∀ {cs : List (List Ins)}, (∀ i, i < cs.length → (insCheck (nth cs i) cells).2 = 0) → codesErr cells cs = 0
  | [], _ => rfl
  | c :: cs, h0 => by
    have h1 := h0 0 (by simp)
    unfold codesErr
    rw [if_neg (by intro h2; exact h2 h1)]
    exact codesErr_ok (cs := cs) (fun i hi => h0 (i + 1) (by simpa using hi))
/-- the job's value -/
theorem int_eta {n : Int} (h : n ≠ 0) : (n != 0) = true := by simpa using h
set_option maxRecDepth 100000 in
set_option maxHeartbeats 2000000 in
theorem jobValid_calls (j : Job) (a : JobA) (w : World) (B : Nat) (hB0 : B ≤ w.heap.size) (hj : JobMem w B j a) (ho : j.ok) :
    Calls Try.prog 47 #[.agg #[.int .i64 j.words, .slice a.Ac j.cells.length a.cc, .slice a.Ar j.reds.length a.cr, .int .i64 j.fuel, .int .i64 j.kind, .int .i64 j.lo, .int .i64 j.hi, .int .i64 j.step, .int .i64 j.items, .int .i64 j.stages, .slice a.Ak j.codes.length a.ck]] w (RetB (.int .i64 (jobValid j)) w) := by
  obtain ⟨Ac, cc, Ar, cr, Ak, ck, Aq, cq⟩ := a
  dsimp only
  obtain ⟨o1, o2, o3, o4, o5, o6, o7, o8, o9, o10, o11⟩ := ho
  obtain ⟨m1, m2, m3, m4⟩ := hj
  dsimp only at m1 m2 m3 m4
  have HO := hid (And.intro o10 o11)
  by_cases h1 : (memOf j.words j.cells).2 = 0
  case neg =>
    have HV := hid (show jobValid j = (memOf j.words j.cells).2 by unfold jobValid; rw [if_pos h1])
    have HM := hid (fun W (hW : Below w.heap.size w W) => memOf_bad j.words Ac cc j.cells W B (Nat.le_trans hB0 hW.size) (m1.below (hW.mono hB0)) o8 h1)
    generalize (memOf j.words j.cells).2 = er at *
    have h1' := int_eta h1
    clear h1 m1 m2 m3 m4 o1 o2 o3 o4 o5 o6 o7 o8 o9 o10 o11
    go_enter Try.func47, Try.ntmps47
    go_wp2_with (first | (go_at_call 84; (with_reducible refine (HM.out _ (by repeat (first | exact Below.refl _ _ | exact HB.out | apply below_alloc' | apply Below.drew | apply below_drewN'))).mono ?_); rintro e w' ⟨rfl, hb⟩; obtain ⟨hc, hf⟩ := bcell hb; have hz := hb.size; (try simp at hz); (try have hz0 : w.heap.size < w'.heap.size := by omega); (try have hz1 : w.heap.size + 1 < w'.heap.size := by omega); (try have hz2 : w.heap.size + 2 < w'.heap.size := by omega); have HB := hid (below_call (w := w) (by repeat (first | exact Below.refl _ _ | exact HB.out | apply below_alloc' | apply Below.drew | apply below_drewN')) hb); obtain ⟨hcw, hfw⟩ := bcell HB.out; clear hb))
    (repeat' (go_quiet (fail); go_wp2_with (first | (go_at_call 84; (with_reducible refine (HM.out _ (by repeat (first | exact Below.refl _ _ | exact HB.out | apply below_alloc' | apply Below.drew | apply below_drewN'))).mono ?_); rintro e w' ⟨rfl, hb⟩; obtain ⟨hc, hf⟩ := bcell hb; have hz := hb.size; (try simp at hz); (try have hz0 : w.heap.size < w'.heap.size := by omega); (try have hz1 : w.heap.size + 1 < w'.heap.size := by omega); (try have hz2 : w.heap.size + 2 < w'.heap.size := by omega); have HB := hid (below_call (w := w) (by repeat (first | exact Below.refl _ _ | exact HB.out | apply below_alloc' | apply Below.drew | apply below_drewN')) hb); obtain ⟨hcw, hfw⟩ := bcell HB.out; clear hb))))
    all_goals ((try first | go_ret | go_ret2 | go_ret3); try go_simp)
    all_goals ((with_reducible refine retB_i ?_ (by repeat (first | exact Below.refl _ _ | exact HB.out | (refine Below.setCell ?_ (by simp) _) | apply below_alloc' | apply Below.drew | apply below_drewN'))); rw [HV.out])
  have HM := hid (fun W (hW : Below w.heap.size w W) => memOf_ok j.words Ac cc j.cells W B (Nat.le_trans hB0 hW.size) (m1.below (hW.mono hB0)) o8 h1)
  by_cases h2 : redErr j.reds = 0
  case neg =>
    have HV := hid (show jobValid j = redErr j.reds by unfold jobValid; rw [if_neg (by simpa using h1), if_pos h2])
    have HR := hid (fun W (hW : Below w.heap.size w W) => redNew_bad Ar cr j.reds W B (Nat.le_trans hB0 hW.size) (m2.below (hW.mono hB0)) o9 h2)
    generalize redErr j.reds = er at *
    have h2' := int_eta h2
    clear h1 h2 m1 m2 m3 m4 o1 o2 o3 o4 o5 o6 o7 o8 o9 o10 o11
    go_enter Try.func47, Try.ntmps47
    go_wp2_with (first | (go_at_call 84; (with_reducible refine (HM.out _ (by repeat (first | exact Below.refl _ _ | exact HB.out | apply below_alloc' | apply Below.drew | apply below_drewN'))).mono ?_); rintro e w' ⟨v, rfl, hb, hI⟩; obtain ⟨hc, hf⟩ := bcell hb; have hz := hb.size; (try simp at hz); (try have hz0 : w.heap.size < w'.heap.size := by omega); (try have hz1 : w.heap.size + 1 < w'.heap.size := by omega); (try have hz2 : w.heap.size + 2 < w'.heap.size := by omega); have HB := hid (below_call (w := w) (by repeat (first | exact Below.refl _ _ | exact HB.out | apply below_alloc' | apply Below.drew | apply below_drewN')) hb); obtain ⟨hcw, hfw⟩ := bcell HB.out; clear hb) | (go_at_call 93; (with_reducible refine (HR.out _ (by repeat (first | exact Below.refl _ _ | exact HB.out | apply below_alloc' | apply Below.drew | apply below_drewN'))).mono ?_); rintro e w' ⟨rfl, hb⟩; obtain ⟨hc, hf⟩ := bcell hb; have hz := hb.size; (try simp at hz); (try have hz0 : w.heap.size < w'.heap.size := by omega); (try have hz1 : w.heap.size + 1 < w'.heap.size := by omega); (try have hz2 : w.heap.size + 2 < w'.heap.size := by omega); have HB := hid (below_call (w := w) (by repeat (first | exact Below.refl _ _ | exact HB.out | apply below_alloc' | apply Below.drew | apply below_drewN')) hb); obtain ⟨hcw, hfw⟩ := bcell HB.out; clear hb))
    (repeat' (go_quiet (fail); go_wp2_with (first | (go_at_call 84; (with_reducible refine (HM.out _ (by repeat (first | exact Below.refl _ _ | exact HB.out | apply below_alloc' | apply Below.drew | apply below_drewN'))).mono ?_); rintro e w' ⟨v, rfl, hb, hI⟩; obtain ⟨hc, hf⟩ := bcell hb; have hz := hb.size; (try simp at hz); (try have hz0 : w.heap.size < w'.heap.size := by omega); (try have hz1 : w.heap.size + 1 < w'.heap.size := by omega); (try have hz2 : w.heap.size + 2 < w'.heap.size := by omega); have HB := hid (below_call (w := w) (by repeat (first | exact Below.refl _ _ | exact HB.out | apply below_alloc' | apply Below.drew | apply below_drewN')) hb); obtain ⟨hcw, hfw⟩ := bcell HB.out; clear hb) | (go_at_call 93; (with_reducible refine (HR.out _ (by repeat (first | exact Below.refl _ _ | exact HB.out | apply below_alloc' | apply Below.drew | apply below_drewN'))).mono ?_); rintro e w' ⟨rfl, hb⟩; obtain ⟨hc, hf⟩ := bcell hb; have hz := hb.size; (try simp at hz); (try have hz0 : w.heap.size < w'.heap.size := by omega); (try have hz1 : w.heap.size + 1 < w'.heap.size := by omega); (try have hz2 : w.heap.size + 2 < w'.heap.size := by omega); have HB := hid (below_call (w := w) (by repeat (first | exact Below.refl _ _ | exact HB.out | apply below_alloc' | apply Below.drew | apply below_drewN')) hb); obtain ⟨hcw, hfw⟩ := bcell HB.out; clear hb))))
    all_goals ((try first | go_ret | go_ret2 | go_ret3); try go_simp)
    all_goals ((with_reducible refine retB_i ?_ (by repeat (first | exact Below.refl _ _ | exact HB.out | (refine Below.setCell ?_ (by simp) _) | apply below_alloc' | apply Below.drew | apply below_drewN'))); rw [HV.out])
  have HR := hid (fun W (hW : Below w.heap.size w W) => redNew_ok Ar cr j.reds W B (Nat.le_trans hB0 hW.size) (m2.below (hW.mono hB0)) o9 h2)
  by_cases h3 : j.fuel < 1 ∨ 4000 < j.fuel
  · have HV := hid (show jobValid j = 110 by unfold jobValid; rw [if_neg (by simpa using h1), if_neg (by simpa using h2), if_pos h3])
    clear h1 h2 m1 m2 m3 m4 o1 o2 o3 o4 o5 o6 o7 o8 o9 o10 o11
    rcases h3 with h3 | h3
    all_goals
      go_enter Try.func47, Try.ntmps47
      go_wp2_with (first | (go_at_call 84; (with_reducible refine (HM.out _ (by repeat (first | exact Below.refl _ _ | exact HB.out | apply below_alloc' | apply Below.drew | apply below_drewN'))).mono ?_); rintro e w' ⟨v, rfl, hb, hI⟩; obtain ⟨hc, hf⟩ := bcell hb; have hz := hb.size; (try simp at hz); (try have hz0 : w.heap.size < w'.heap.size := by omega); (try have hz1 : w.heap.size + 1 < w'.heap.size := by omega); (try have hz2 : w.heap.size + 2 < w'.heap.size := by omega); have HB := hid (below_call (w := w) (by repeat (first | exact Below.refl _ _ | exact HB.out | apply below_alloc' | apply Below.drew | apply below_drewN')) hb); obtain ⟨hcw, hfw⟩ := bcell HB.out; clear hb) | (go_at_call 93; (with_reducible refine (HR.out _ (by repeat (first | exact Below.refl _ _ | exact HB.out | apply below_alloc' | apply Below.drew | apply below_drewN'))).mono ?_); rintro e w' ⟨v, rfl, hb, hI⟩; obtain ⟨hc, hf⟩ := bcell hb; have hz := hb.size; (try simp at hz); (try have hz0 : w.heap.size < w'.heap.size := by omega); (try have hz1 : w.heap.size + 1 < w'.heap.size := by omega); (try have hz2 : w.heap.size + 2 < w'.heap.size := by omega); have HB := hid (below_call (w := w) (by repeat (first | exact Below.refl _ _ | exact HB.out | apply below_alloc' | apply Below.drew | apply below_drewN')) hb); obtain ⟨hcw, hfw⟩ := bcell HB.out; clear hb))
      (repeat' (go_quiet (fail); go_wp2_with (first | (go_at_call 84; (with_reducible refine (HM.out _ (by repeat (first | exact Below.refl _ _ | exact HB.out | apply below_alloc' | apply Below.drew | apply below_drewN'))).mono ?_); rintro e w' ⟨v, rfl, hb, hI⟩; obtain ⟨hc, hf⟩ := bcell hb; have hz := hb.size; (try simp at hz); (try have hz0 : w.heap.size < w'.heap.size := by omega); (try have hz1 : w.heap.size + 1 < w'.heap.size := by omega); (try have hz2 : w.heap.size + 2 < w'.heap.size := by omega); have HB := hid (below_call (w := w) (by repeat (first | exact Below.refl _ _ | exact HB.out | apply below_alloc' | apply Below.drew | apply below_drewN')) hb); obtain ⟨hcw, hfw⟩ := bcell HB.out; clear hb) | (go_at_call 93; (with_reducible refine (HR.out _ (by repeat (first | exact Below.refl _ _ | exact HB.out | apply below_alloc' | apply Below.drew | apply below_drewN'))).mono ?_); rintro e w' ⟨v, rfl, hb, hI⟩; obtain ⟨hc, hf⟩ := bcell hb; have hz := hb.size; (try simp at hz); (try have hz0 : w.heap.size < w'.heap.size := by omega); (try have hz1 : w.heap.size + 1 < w'.heap.size := by omega); (try have hz2 : w.heap.size + 2 < w'.heap.size := by omega); have HB := hid (below_call (w := w) (by repeat (first | exact Below.refl _ _ | exact HB.out | apply below_alloc' | apply Below.drew | apply below_drewN')) hb); obtain ⟨hcw, hfw⟩ := bcell HB.out; clear hb))))
      all_goals ((try first | go_ret | go_ret2 | go_ret3); try go_simp)
      all_goals ((with_reducible refine retB_i ?_ (by repeat (first | exact Below.refl _ _ | exact HB.out | (refine Below.setCell ?_ (by simp) _) | apply below_alloc' | apply Below.drew | apply below_drewN'))); rw [HV.out])
  have h3a : 1 ≤ j.fuel := by omega
  have h3b : j.fuel ≤ 4000 := by omega
  have HC := hid (fun W => count_calls j.kind j.lo j.hi j.step j.items j.stages W o3 o4 o5 o6 o7)
  by_cases h4 : (countN j.kind j.lo j.hi j.step j.items j.stages).2 = 0
  case neg =>
    have HV := hid (show jobValid j = (countN j.kind j.lo j.hi j.step j.items j.stages).2 by unfold jobValid; rw [if_neg (by simpa using h1), if_neg (by simpa using h2), if_neg h3, if_pos h4])
    generalize countN j.kind j.lo j.hi j.step j.items j.stages = er at *
    have h4' := int_eta h4
    clear h1 h2 h3 h4 m1 m2 m3 m4 o1 o2 o3 o4 o5 o6 o7 o8 o9 o10 o11
    go_enter Try.func47, Try.ntmps47
    go_wp2_with (first | (go_at_call 84; (with_reducible refine (HM.out _ (by repeat (first | exact Below.refl _ _ | exact HB.out | apply below_alloc' | apply Below.drew | apply below_drewN'))).mono ?_); rintro e w' ⟨v, rfl, hb, hI⟩; obtain ⟨hc, hf⟩ := bcell hb; have hz := hb.size; (try simp at hz); (try have hz0 : w.heap.size < w'.heap.size := by omega); (try have hz1 : w.heap.size + 1 < w'.heap.size := by omega); (try have hz2 : w.heap.size + 2 < w'.heap.size := by omega); have HB := hid (below_call (w := w) (by repeat (first | exact Below.refl _ _ | exact HB.out | apply below_alloc' | apply Below.drew | apply below_drewN')) hb); obtain ⟨hcw, hfw⟩ := bcell HB.out; clear hb) | (go_at_call 93; (with_reducible refine (HR.out _ (by repeat (first | exact Below.refl _ _ | exact HB.out | apply below_alloc' | apply Below.drew | apply below_drewN'))).mono ?_); rintro e w' ⟨v, rfl, hb, hI⟩; obtain ⟨hc, hf⟩ := bcell hb; have hz := hb.size; (try simp at hz); (try have hz0 : w.heap.size < w'.heap.size := by omega); (try have hz1 : w.heap.size + 1 < w'.heap.size := by omega); (try have hz2 : w.heap.size + 2 < w'.heap.size := by omega); have HB := hid (below_call (w := w) (by repeat (first | exact Below.refl _ _ | exact HB.out | apply below_alloc' | apply Below.drew | apply below_drewN')) hb); obtain ⟨hcw, hfw⟩ := bcell HB.out; clear hb) | (go_at_call 31; (with_reducible refine (HC.out _).mono ?_); rintro e w' ⟨rfl, hb⟩; obtain ⟨hc, hf⟩ := bcell hb; have hz := hb.size; (try simp at hz); (try have hz0 : w.heap.size < w'.heap.size := by omega); (try have hz1 : w.heap.size + 1 < w'.heap.size := by omega); (try have hz2 : w.heap.size + 2 < w'.heap.size := by omega); have HB := hid (below_call (w := w) (by repeat (first | exact Below.refl _ _ | exact HB.out | apply below_alloc' | apply Below.drew | apply below_drewN')) hb); obtain ⟨hcw, hfw⟩ := bcell HB.out; clear hb))
    (repeat' (go_quiet (fail); go_wp2_with (first | (go_at_call 84; (with_reducible refine (HM.out _ (by repeat (first | exact Below.refl _ _ | exact HB.out | apply below_alloc' | apply Below.drew | apply below_drewN'))).mono ?_); rintro e w' ⟨v, rfl, hb, hI⟩; obtain ⟨hc, hf⟩ := bcell hb; have hz := hb.size; (try simp at hz); (try have hz0 : w.heap.size < w'.heap.size := by omega); (try have hz1 : w.heap.size + 1 < w'.heap.size := by omega); (try have hz2 : w.heap.size + 2 < w'.heap.size := by omega); have HB := hid (below_call (w := w) (by repeat (first | exact Below.refl _ _ | exact HB.out | apply below_alloc' | apply Below.drew | apply below_drewN')) hb); obtain ⟨hcw, hfw⟩ := bcell HB.out; clear hb) | (go_at_call 93; (with_reducible refine (HR.out _ (by repeat (first | exact Below.refl _ _ | exact HB.out | apply below_alloc' | apply Below.drew | apply below_drewN'))).mono ?_); rintro e w' ⟨v, rfl, hb, hI⟩; obtain ⟨hc, hf⟩ := bcell hb; have hz := hb.size; (try simp at hz); (try have hz0 : w.heap.size < w'.heap.size := by omega); (try have hz1 : w.heap.size + 1 < w'.heap.size := by omega); (try have hz2 : w.heap.size + 2 < w'.heap.size := by omega); have HB := hid (below_call (w := w) (by repeat (first | exact Below.refl _ _ | exact HB.out | apply below_alloc' | apply Below.drew | apply below_drewN')) hb); obtain ⟨hcw, hfw⟩ := bcell HB.out; clear hb) | (go_at_call 31; (with_reducible refine (HC.out _).mono ?_); rintro e w' ⟨rfl, hb⟩; obtain ⟨hc, hf⟩ := bcell hb; have hz := hb.size; (try simp at hz); (try have hz0 : w.heap.size < w'.heap.size := by omega); (try have hz1 : w.heap.size + 1 < w'.heap.size := by omega); (try have hz2 : w.heap.size + 2 < w'.heap.size := by omega); have HB := hid (below_call (w := w) (by repeat (first | exact Below.refl _ _ | exact HB.out | apply below_alloc' | apply Below.drew | apply below_drewN')) hb); obtain ⟨hcw, hfw⟩ := bcell HB.out; clear hb))))
    all_goals ((try first | go_ret | go_ret2 | go_ret3); try go_simp)
    all_goals ((with_reducible refine retB_i ?_ (by repeat (first | exact Below.refl _ _ | exact HB.out | (refine Below.setCell ?_ (by simp) _) | apply below_alloc' | apply Below.drew | apply below_drewN'))); rw [HV.out])
  have HV := hid (show jobValid j = if (j.codes.length : Int) ≠ stagesN j.kind j.stages then 170 else codesErr j.reds.length j.codes by
    unfold jobValid; rw [if_neg (by simpa using h1), if_neg (by simpa using h2), if_neg h3, if_neg (by simpa using h4)])
  obtain ⟨cn, hcn⟩ : ∃ cn, countN j.kind j.lo j.hi j.step j.items j.stages = (cn, 0) := ⟨_, by rw [← h4]⟩
  rw [hcn] at HC
  have M3 := hid m3
  have M4 := hid m4
  clear h1 h2 h3 h4 m1 m2 m3 m4 o1 o2 o3 o4 o5 o6 o7 o8 o9 o10 o11 hcn
  have HS := hid (fun W => stages_calls j.kind j.lo j.hi j.step j.items j.stages W)
  have HJ := hid (blk_new w (.cells #[.int .i64 j.words, .slice Ac j.cells.length cc, .slice Ar j.reds.length cr, .int .i64 j.fuel, .int .i64 j.kind, .int .i64 j.lo, .int .i64 j.hi, .int .i64 j.step, .int .i64 j.items, .int .i64 j.stages, .slice Ak j.codes.length ck] 29 (0, 0)))
  generalize stagesN j.kind j.stages = sg at *
  by_cases h5 : (j.codes.length : Int) = sg
  case neg =>
    have HV2 := hid (show jobValid j = 170 by rw [HV.out, if_pos h5])
    have h5' : ((j.codes.length : Int) != sg) = true := by simpa using h5
    clear h5 HV
    go_enter Try.func47, Try.ntmps47
    go_wp2_with (first | (go_at_call 84; (with_reducible refine (HM.out _ (by repeat (first | exact Below.refl _ _ | exact HB.out | apply below_alloc' | apply Below.drew | apply below_drewN'))).mono ?_); rintro e w' ⟨v, rfl, hb, hI⟩; have HJ := hid (blk_below hb (by repeat (with_reducible first | exact HJ.out | apply blk_alloc | apply blk_drew | apply blk_drewN)) (by first | (simp; done) | (simp; omega) | omega)); obtain ⟨hc, hf⟩ := bcell hb; have hz := hb.size; (try simp at hz); (try have hz0 : w.heap.size < w'.heap.size := by omega); have HB := hid (below_call (w := w) (by repeat (first | exact Below.refl _ _ | exact HB.out | apply below_alloc' | apply Below.drew | apply below_drewN')) hb); obtain ⟨hcw, hfw⟩ := bcell HB.out; clear hb) | (go_at_call 93; (with_reducible refine (HR.out _ (by repeat (first | exact Below.refl _ _ | exact HB.out | apply below_alloc' | apply Below.drew | apply below_drewN'))).mono ?_); rintro e w' ⟨v, rfl, hb, hI⟩; have HJ := hid (blk_below hb (by repeat (with_reducible first | exact HJ.out | apply blk_alloc | apply blk_drew | apply blk_drewN)) (by first | (simp; done) | (simp; omega) | omega)); obtain ⟨hc, hf⟩ := bcell hb; have hz := hb.size; (try simp at hz); (try have hz0 : w.heap.size < w'.heap.size := by omega); have HB := hid (below_call (w := w) (by repeat (first | exact Below.refl _ _ | exact HB.out | apply below_alloc' | apply Below.drew | apply below_drewN')) hb); obtain ⟨hcw, hfw⟩ := bcell HB.out; clear hb) | (go_at_call 31; (with_reducible refine (HC.out _).mono ?_); rintro e w' ⟨rfl, hb⟩; have HJ := hid (blk_below hb (by repeat (with_reducible first | exact HJ.out | apply blk_alloc | apply blk_drew | apply blk_drewN)) (by first | (simp; done) | (simp; omega) | omega)); obtain ⟨hc, hf⟩ := bcell hb; have hz := hb.size; (try simp at hz); (try have hz0 : w.heap.size < w'.heap.size := by omega); have HB := hid (below_call (w := w) (by repeat (first | exact Below.refl _ _ | exact HB.out | apply below_alloc' | apply Below.drew | apply below_drewN')) hb); obtain ⟨hcw, hfw⟩ := bcell HB.out; clear hb))
    (repeat' (go_quiet (fail); go_wp2_with (first | (go_at_call 84; (with_reducible refine (HM.out _ (by repeat (first | exact Below.refl _ _ | exact HB.out | apply below_alloc' | apply Below.drew | apply below_drewN'))).mono ?_); rintro e w' ⟨v, rfl, hb, hI⟩; have HJ := hid (blk_below hb (by repeat (with_reducible first | exact HJ.out | apply blk_alloc | apply blk_drew | apply blk_drewN)) (by first | (simp; done) | (simp; omega) | omega)); obtain ⟨hc, hf⟩ := bcell hb; have hz := hb.size; (try simp at hz); (try have hz0 : w.heap.size < w'.heap.size := by omega); have HB := hid (below_call (w := w) (by repeat (first | exact Below.refl _ _ | exact HB.out | apply below_alloc' | apply Below.drew | apply below_drewN')) hb); obtain ⟨hcw, hfw⟩ := bcell HB.out; clear hb) | (go_at_call 93; (with_reducible refine (HR.out _ (by repeat (first | exact Below.refl _ _ | exact HB.out | apply below_alloc' | apply Below.drew | apply below_drewN'))).mono ?_); rintro e w' ⟨v, rfl, hb, hI⟩; have HJ := hid (blk_below hb (by repeat (with_reducible first | exact HJ.out | apply blk_alloc | apply blk_drew | apply blk_drewN)) (by first | (simp; done) | (simp; omega) | omega)); obtain ⟨hc, hf⟩ := bcell hb; have hz := hb.size; (try simp at hz); (try have hz0 : w.heap.size < w'.heap.size := by omega); have HB := hid (below_call (w := w) (by repeat (first | exact Below.refl _ _ | exact HB.out | apply below_alloc' | apply Below.drew | apply below_drewN')) hb); obtain ⟨hcw, hfw⟩ := bcell HB.out; clear hb) | (go_at_call 31; (with_reducible refine (HC.out _).mono ?_); rintro e w' ⟨rfl, hb⟩; have HJ := hid (blk_below hb (by repeat (with_reducible first | exact HJ.out | apply blk_alloc | apply blk_drew | apply blk_drewN)) (by first | (simp; done) | (simp; omega) | omega)); obtain ⟨hc, hf⟩ := bcell hb; have hz := hb.size; (try simp at hz); (try have hz0 : w.heap.size < w'.heap.size := by omega); have HB := hid (below_call (w := w) (by repeat (first | exact Below.refl _ _ | exact HB.out | apply below_alloc' | apply Below.drew | apply below_drewN')) hb); obtain ⟨hcw, hfw⟩ := bcell HB.out; clear hb))))
    have hx10 := blk_cell HJ.out 10
    simp at hx10
    go_region_with (go_at_call 94; (refine (HS.out _).mono ?_); rintro e w'' ⟨rfl, hb⟩; have hx10' := (hb.cell (p := ⟨w.heap.size, 10, none⟩) (by first | (simp; done) | (simp; omega) | omega)).trans hx10; have HB := hid (below_call (w := w) (by repeat (first | exact Below.refl _ _ | exact HB.out | apply below_alloc' | apply Below.drew | apply below_drewN')) hb); have hz := hb.size; simp at hz; clear hb)
    all_goals (go_wp2_with fail)
    all_goals ((try first | go_ret | go_ret2 | go_ret3); try go_simp)
    all_goals ((with_reducible refine retB_i ?_ (by repeat (first | exact Below.refl _ _ | exact HB.out | (refine Below.setCell ?_ (by simp) _) | apply below_alloc' | apply Below.drew | apply below_drewN'))); rw [HV2.out])
  have HV2 := hid (show jobValid j = codesErr j.reds.length j.codes by rw [HV.out, if_neg (by simpa using h5)])
  obtain ⟨HO10, HO11⟩ := HO.out
  have O11 := hid HO11
  have h5' : ((j.codes.length : Int) != sg) = false := by simpa using h5
  have hopen : Hid (j.codes.length = 0) ∨ ∃ b off, Hid (Ak = some ⟨b, off, none⟩) ∧ b < B ∧ Hid (∀ k, k < j.codes.length → w.cell? ⟨b, off + k, none⟩ = some (.slice (Aq k) (nth j.codes k).length (cq k))) := by
    rcases M3.out with h0 | ⟨b, off, hA, hb, hcc⟩
    · exact .inl h0
    · exact .inr ⟨b, off, hA, hb, fun k hk => by have := hcc k 0 _ hk rfl; simpa using this⟩
  clear HO HV HO11 h5 M3
  rcases hopen with H0 | ⟨b, off, HA, hb, HCC⟩
  all_goals
    go_enter Try.func47, Try.ntmps47
    go_wp2_with (first | (go_at_call 84; (with_reducible refine (HM.out _ (by repeat (first | exact Below.refl _ _ | exact HB.out | apply below_alloc' | apply Below.drew | apply below_drewN'))).mono ?_); rintro e w' ⟨v, rfl, hb, hI⟩; have HJ := hid (blk_below hb (by repeat (with_reducible first | exact HJ.out | apply blk_alloc | apply blk_drew | apply blk_drewN)) (by first | (simp; done) | (simp; omega) | omega)); obtain ⟨hc, hf⟩ := bcell hb; have hz := hb.size; (try simp at hz); (try have hz0 : w.heap.size < w'.heap.size := by omega); have HB := hid (below_call (w := w) (by repeat (first | exact Below.refl _ _ | exact HB.out | apply below_alloc' | apply Below.drew | apply below_drewN')) hb); obtain ⟨hcw, hfw⟩ := bcell HB.out; clear hb) | (go_at_call 93; (with_reducible refine (HR.out _ (by repeat (first | exact Below.refl _ _ | exact HB.out | apply below_alloc' | apply Below.drew | apply below_drewN'))).mono ?_); rintro e w' ⟨v, rfl, hb, hI⟩; have HJ := hid (blk_below hb (by repeat (with_reducible first | exact HJ.out | apply blk_alloc | apply blk_drew | apply blk_drewN)) (by first | (simp; done) | (simp; omega) | omega)); obtain ⟨hc, hf⟩ := bcell hb; have hz := hb.size; (try simp at hz); (try have hz0 : w.heap.size < w'.heap.size := by omega); have HB := hid (below_call (w := w) (by repeat (first | exact Below.refl _ _ | exact HB.out | apply below_alloc' | apply Below.drew | apply below_drewN')) hb); obtain ⟨hcw, hfw⟩ := bcell HB.out; clear hb) | (go_at_call 31; (with_reducible refine (HC.out _).mono ?_); rintro e w' ⟨rfl, hb⟩; have HJ := hid (blk_below hb (by repeat (with_reducible first | exact HJ.out | apply blk_alloc | apply blk_drew | apply blk_drewN)) (by first | (simp; done) | (simp; omega) | omega)); obtain ⟨hc, hf⟩ := bcell hb; have hz := hb.size; (try simp at hz); (try have hz0 : w.heap.size < w'.heap.size := by omega); have HB := hid (below_call (w := w) (by repeat (first | exact Below.refl _ _ | exact HB.out | apply below_alloc' | apply Below.drew | apply below_drewN')) hb); obtain ⟨hcw, hfw⟩ := bcell HB.out; clear hb))
    (repeat' (go_quiet (fail); go_wp2_with (first | (go_at_call 84; (with_reducible refine (HM.out _ (by repeat (first | exact Below.refl _ _ | exact HB.out | apply below_alloc' | apply Below.drew | apply below_drewN'))).mono ?_); rintro e w' ⟨v, rfl, hb, hI⟩; have HJ := hid (blk_below hb (by repeat (with_reducible first | exact HJ.out | apply blk_alloc | apply blk_drew | apply blk_drewN)) (by first | (simp; done) | (simp; omega) | omega)); obtain ⟨hc, hf⟩ := bcell hb; have hz := hb.size; (try simp at hz); (try have hz0 : w.heap.size < w'.heap.size := by omega); have HB := hid (below_call (w := w) (by repeat (first | exact Below.refl _ _ | exact HB.out | apply below_alloc' | apply Below.drew | apply below_drewN')) hb); obtain ⟨hcw, hfw⟩ := bcell HB.out; clear hb) | (go_at_call 93; (with_reducible refine (HR.out _ (by repeat (first | exact Below.refl _ _ | exact HB.out | apply below_alloc' | apply Below.drew | apply below_drewN'))).mono ?_); rintro e w' ⟨v, rfl, hb, hI⟩; have HJ := hid (blk_below hb (by repeat (with_reducible first | exact HJ.out | apply blk_alloc | apply blk_drew | apply blk_drewN)) (by first | (simp; done) | (simp; omega) | omega)); obtain ⟨hc, hf⟩ := bcell hb; have hz := hb.size; (try simp at hz); (try have hz0 : w.heap.size < w'.heap.size := by omega); have HB := hid (below_call (w := w) (by repeat (first | exact Below.refl _ _ | exact HB.out | apply below_alloc' | apply Below.drew | apply below_drewN')) hb); obtain ⟨hcw, hfw⟩ := bcell HB.out; clear hb) | (go_at_call 31; (with_reducible refine (HC.out _).mono ?_); rintro e w' ⟨rfl, hb⟩; have HJ := hid (blk_below hb (by repeat (with_reducible first | exact HJ.out | apply blk_alloc | apply blk_drew | apply blk_drewN)) (by first | (simp; done) | (simp; omega) | omega)); obtain ⟨hc, hf⟩ := bcell hb; have hz := hb.size; (try simp at hz); (try have hz0 : w.heap.size < w'.heap.size := by omega); have HB := hid (below_call (w := w) (by repeat (first | exact Below.refl _ _ | exact HB.out | apply below_alloc' | apply Below.drew | apply below_drewN')) hb); obtain ⟨hcw, hfw⟩ := bcell HB.out; clear hb))))
    have hx10 := blk_cell HJ.out 10
    simp at hx10
    go_region_with (go_at_call 94; (refine (HS.out _).mono ?_); rintro e w'' ⟨rfl, hb⟩; have hx10' := (hb.cell (p := ⟨w.heap.size, 10, none⟩) (by first | (simp; done) | (simp; omega) | omega)).trans hx10; have HB := hid (below_call (w := w) (by repeat (first | exact Below.refl _ _ | exact HB.out | apply below_alloc' | apply Below.drew | apply below_drewN')) hb); have HJ := hid (blk_below hb (by repeat (with_reducible first | exact HJ.out | apply blk_alloc | apply blk_drew | apply blk_drewN)) (by first | (simp; done) | (simp; omega) | omega)); have hz := hb.size; simp at hz; clear hb)
    all_goals (go_wp2_with fail)
    all_goals
      go_loopw [2, 60] (fun v2 v60 wr => ∃ k : Nat, k ≤ j.codes.length ∧ v60 = .int .i64 k ∧ v2 = .int .i64 0 ∧ Hid (Below w.heap.size w wr) ∧ Hid (wr.heap[w.heap.size]? = some (.cells #[.int .i64 j.words, .slice Ac j.cells.length cc, .slice Ar j.reds.length cr, .int .i64 j.fuel, .int .i64 j.kind, .int .i64 j.lo, .int .i64 j.hi, .int .i64 j.step, .int .i64 j.items, .int .i64 j.stages, .slice Ak j.codes.length ck] 29 (0, 0))) ∧ Hid (∀ i, i < k → (insCheck (nth j.codes i) j.reds.length).2 = 0)) (fun _ v60 _ => j.codes.length - (intOf v60).toNat)
      case atStart => exact ⟨0, by omega, rfl, rfl, (by repeat (first | exact Below.refl _ _ | exact HB.out | apply below_alloc' | apply Below.drew | apply below_drewN')), hid (by repeat (with_reducible first | exact HJ.out | apply blk_alloc | apply blk_drew | apply blk_drewN)), fun i hi => by omega⟩
      case round =>
        obtain ⟨k, hk, rfl, rfl, HB, HJ, HP⟩ := hrel
        obtain ⟨hcw, hfw⟩ := bcell HB.out
        have hsz := HB.out.size
        have hgl := blk_lt HJ.out
        have hx10 := blk_cell HJ.out 10
        have hx2 := blk_cell HJ.out 2
        simp at hx10 hx2
        by_cases hlt : k < j.codes.length
        · first
          | (exfalso; have := H0.out; omega)
          | (rw [HA.out]
             have hc0 := HCC.out k hlt
             have hbw : b < w.heap.size := by omega
             have HK := hid (fun W (hW : Below w.heap.size w W) => insCheck_calls (Aq k) (cq k) (nth j.codes k) j.reds.length W B (Nat.le_trans hB0 hW.size) ((M4.out k hlt).below (hW.mono hB0)) (O11.out k hlt))
             by_cases he : (insCheck (nth j.codes k) j.reds.length).2 = 0
             · have HE := hid he
               rw [he] at HK
               clear he
               go_wp2_with (first | (go_at_call 95; (with_reducible refine (HK.out _ (by repeat (first | exact Below.refl _ _ | exact HB.out | apply below_alloc' | apply Below.drew | apply below_drewN'))).mono ?_); rintro e w' ⟨rfl, hb⟩; have HJ := hid (blk_below hb (by repeat (with_reducible first | exact HJ.out | apply blk_alloc | apply blk_drew | apply blk_drewN)) (by first | (simp; done) | (simp; omega) | omega)); obtain ⟨hc, hf⟩ := bcell hb; have hz := hb.size; (try simp at hz); (try have hz0 : w.heap.size < w'.heap.size := by omega); have HB := hid (below_call (w := w) (by repeat (first | exact Below.refl _ _ | exact HB.out | apply below_alloc' | apply Below.drew | apply below_drewN')) hb); obtain ⟨hcw, hfw⟩ := bcell HB.out; clear hb))
               go_roundw
               case rel => exact ⟨k + 1, by omega, by go_num, rfl, (by repeat (first | exact Below.refl _ _ | exact HB.out | apply below_alloc' | apply Below.drew | apply below_drewN')), hid (by have h := HJ.out; rw [HA.out] at h; exact h), fun i hi => (by rcases Nat.lt_or_ge i k with h | h; exact HP.out i h; obtain rfl : i = k := (by omega); exact HE.out)⟩
               case measure => simp [intOf]; omega
             · have HV3 := hid (show jobValid j = (insCheck (nth j.codes k) j.reds.length).2 by rw [HV2.out]; exact codesErr_bad hlt HP.out he)
               generalize insCheck (nth j.codes k) j.reds.length = er at *
               have he' := int_eta he
               clear he
               go_wp2_with (first | (go_at_call 95; (with_reducible refine (HK.out _ (by repeat (first | exact Below.refl _ _ | exact HB.out | apply below_alloc' | apply Below.drew | apply below_drewN'))).mono ?_); rintro e w' ⟨rfl, hb⟩; have HJ := hid (blk_below hb (by repeat (with_reducible first | exact HJ.out | apply blk_alloc | apply blk_drew | apply blk_drewN)) (by first | (simp; done) | (simp; omega) | omega)); obtain ⟨hc, hf⟩ := bcell hb; have hz := hb.size; (try simp at hz); (try have hz0 : w.heap.size < w'.heap.size := by omega); have HB := hid (below_call (w := w) (by repeat (first | exact Below.refl _ _ | exact HB.out | apply below_alloc' | apply Below.drew | apply below_drewN')) hb); obtain ⟨hcw, hfw⟩ := bcell HB.out; clear hb))
               all_goals ((try first | go_ret | go_ret2 | go_ret3); try go_simp)
               all_goals ((with_reducible refine retB_i ?_ (by repeat (first | exact Below.refl _ _ | exact HB.out | (refine Below.setCell ?_ (by simp) _) | apply below_alloc' | apply Below.drew | apply below_drewN'))); rw [HV3.out]))
        · have HV3 := hid (show jobValid j = 0 by rw [HV2.out]; exact codesErr_ok (fun i hi => HP.out i (by omega)))
          go_wp2_with fail
          all_goals ((try first | go_ret | go_ret2 | go_ret3); try go_simp)
          all_goals ((with_reducible refine retB_i ?_ (by repeat (first | exact Below.refl _ _ | exact HB.out | (refine Below.setCell ?_ (by simp) _) | apply below_alloc' | apply Below.drew | apply below_drewN'))); rw [HV3.out])
end Go.Proofs.Ytcadbfggaipnhaa
