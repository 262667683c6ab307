/- script.Parse of the two examples. -/
import Derived.Test.YtcadbfggaipnhaaA7
namespace Go.Proofs.Ytcadbfggaipnhaa
open Go.RowKit
set_option linter.unusedSimpArgs false
set_option linter.unusedVariables false
theorem own_low {w : World} {base base' : Nat} {e : TypeId} {size n : Nat} {v : Value} {xs : List Value} (ho : w.ownsRow base e size v n xs) (h : base' ≤ base) : w.ownsRow base' e size v n xs := by
  refine ⟨ho.1, ?_⟩
  rcases ho.2 with h0 | ⟨g, cap, cur, rfl, hb, r⟩
  · exact .inl h0
  · exact .inr ⟨g, cap, cur, rfl, by omega, r⟩
def Parse1 (w : World) (e : Ending) (w' : World) : Prop :=
  ∃ A c, e = .returned (.tuple #[.slice A 4 c, .int .i64 0, .int .i64 0]) ∧ w'.ownsRow w.heap.size 113 2 (.slice A 4 c) 4 (entV [(0, false), (1, false), (1, false), (0, true)]) ∧ Below w.heap.size w w'
set_option maxRecDepth 100000 in
set_option maxHeartbeats 2000000 in
theorem parse_1_calls (w : World) : Calls Try.prog 51 #[.string text1] w (Parse1 w) := by
  have hmf : ∀ (fn : Fn) (first cap : Array Value) (w : World), (Instr.makeFunc fn first cap).run Try.prog w = .ok (.func fn first cap) w := fun _ _ _ _ => rfl
  have hsz : text1.size = 8 := rfl
  go_enter_defers Try.func51, Try.ntmps51
  go_wp2_with fail
  refine (items_1 (w.heap.size + 3) _ (blk_new' (by simp))).mono ?_
  rintro e w1 ⟨A, c, rfl, hO, hR, hG⟩
  have hs1 := hG.size
  simp at hs1
  have HB0 := hid ((blk_grown hG (blk_alloc (blk_alloc (blk_alloc (blk_new w (.cells #[.slice none 0 0] 33)) _) _) _) (by simp)))
  have HB1 := hid ((blk_grown hG (blk_alloc (blk_alloc (blk_new' (w := w.alloc (.cells #[.slice none 0 0] 33)) (o := .cells #[.int .i64 0] 3) (n := w.heap.size + 1) (by simp)) _) _) (by simp)))
  have HB2 := hid ((blk_grown hG (blk_alloc (blk_new' (w := (w.alloc (.cells #[.slice none 0 0] 33)).alloc (.cells #[.int .i64 0] 3)) (o := .cells #[.int .i64 0] 37) (n := w.heap.size + 2) (by simp)) _) (by simp)))
  have c0 := blk_cell HB0.out 0
  have c1 := blk_cell HB1.out 0
  have c2 := blk_cell HB2.out 0
  have f0 := blk_frozen HB0.out 0
  have f1 := blk_frozen HB1.out 0
  have f2 := blk_frozen HB2.out 0
  have hl0 := blk_lt HB0.out
  have hl1 := blk_lt HB1.out
  have hl2 := blk_lt HB2.out
  simp at c0 c1 c2
  obtain ⟨x0, x1, x2, g1, g2, hgl⟩ := rd_cells hR
  have HBw : Hid (Below w.heap.size w w1) := hid ⟨hG.os, hG.tape, hG.output, by omega, fun i hi => (hG.block i (by simp; omega) (by simp; omega)).trans (by rw [Below.heap_alloc _ _ _ (by simp; omega), Below.heap_alloc _ _ _ (by simp; omega), Below.heap_alloc _ _ _ (by simp; omega), Below.heap_alloc _ _ _ (by omega)])⟩
  have HO := hid hO
  clear hO hR hG
  go_wp2_with fail
  refine leaves_cons (f := 100) (args := #[.pointer (some ⟨w.heap.size, 0, none⟩), .pointer (some ⟨w.heap.size + 1, 0, none⟩), .pointer (some ⟨w.heap.size + 2, 0, none⟩)]) (by simp) (by simp [go_sem]) ?_
  refine (clo_idle _ _ _ _).mono ?_
  rintro e u' w'' ⟨rfl, rfl, rfl⟩
  have d0 : ((((w1.setCell ⟨w.heap.size, 0, none⟩ (.slice A 4 c)).setCell ⟨w.heap.size, 0, none⟩ (.slice A 4 c)).setCell ⟨w.heap.size + 1, 0, none⟩ (.int .i64 0)).setCell ⟨w.heap.size + 1 + 1, 0, none⟩ (.int .i64 0)).cell? ⟨w.heap.size, 0, none⟩ = some (.slice A 4 c) := by go_simp
  have d1 : ((((w1.setCell ⟨w.heap.size, 0, none⟩ (.slice A 4 c)).setCell ⟨w.heap.size, 0, none⟩ (.slice A 4 c)).setCell ⟨w.heap.size + 1, 0, none⟩ (.int .i64 0)).setCell ⟨w.heap.size + 1 + 1, 0, none⟩ (.int .i64 0)).cell? ⟨w.heap.size + 1, 0, none⟩ = some (.int .i64 0) := by go_simp
  have d2 : ((((w1.setCell ⟨w.heap.size, 0, none⟩ (.slice A 4 c)).setCell ⟨w.heap.size, 0, none⟩ (.slice A 4 c)).setCell ⟨w.heap.size + 1, 0, none⟩ (.int .i64 0)).setCell ⟨w.heap.size + 1 + 1, 0, none⟩ (.int .i64 0)).cell? ⟨w.heap.size + 1 + 1, 0, none⟩ = some (.int .i64 0) := by go_simp
  have hb := HO.out.lt
  simp at hb
  refine ⟨.tuple #[.slice A 4 c, .int .i64 0, .int .i64 0], by simp [results, Try.results51, go_sem, d0, d1, d2], A, c, rfl, ?_, ?_⟩
  · refine own_far (own_far (own_far (own_far (own_low HO.out (by simp; omega)) ?_ _) ?_ _) ?_ _) ?_ _ <;> (intro e; have := hb _ e.symm; simp at this; omega)
  · exact Below.setCell (Below.setCell (Below.setCell (Below.setCell HBw.out (by simp) _) (by simp) _) (by simp) _) (by simp; omega) _
def Parse2 (w : World) (e : Ending) (w' : World) : Prop := e = .returned (.tuple #[.slice none 0 0, .int .i64 2, .int .i64 250]) ∧ Below w.heap.size w w'
set_option maxRecDepth 100000 in
set_option maxHeartbeats 2000000 in
theorem parse_2_calls (w : World) : Calls Try.prog 51 #[.string text2] w (Parse2 w) := by
  have hmf : ∀ (fn : Fn) (first cap : Array Value) (w : World), (Instr.makeFunc fn first cap).run Try.prog w = .ok (.func fn first cap) w := fun _ _ _ _ => rfl
  have hsz : text2.size = 2 := rfl
  go_enter_defers Try.func51, Try.ntmps51
  go_wp2_with fail
  refine (items_2 (w.heap.size + 3) _ (blk_new' (by simp))).mono ?_
  rintro e w1 ⟨rfl, hG⟩
  have hs1 := hG.size
  simp at hs1
  have HB0 := hid ((blk_grown hG (blk_alloc (blk_alloc (blk_alloc (blk_new w (.cells #[.slice none 0 0] 33)) _) _) _) (by simp)))
  have HB1 := hid ((blk_grown hG (blk_alloc (blk_alloc (blk_new' (w := w.alloc (.cells #[.slice none 0 0] 33)) (o := .cells #[.int .i64 0] 3) (n := w.heap.size + 1) (by simp)) _) _) (by simp)))
  have HB2 := hid ((blk_grown hG (blk_alloc (blk_new' (w := (w.alloc (.cells #[.slice none 0 0] 33)).alloc (.cells #[.int .i64 0] 3)) (o := .cells #[.int .i64 0] 37) (n := w.heap.size + 2) (by simp)) _) (by simp)))
  have HBw : Hid (Below w.heap.size w w1) := hid ⟨hG.os, hG.tape, hG.output, by omega, fun i hi => (hG.block i (by simp; omega) (by simp; omega)).trans (by rw [Below.heap_alloc _ _ _ (by simp; omega), Below.heap_alloc _ _ _ (by simp; omega), Below.heap_alloc _ _ _ (by simp; omega), Below.heap_alloc _ _ _ (by omega)])⟩
  clear hG
  refine leaves_cons (f := 100) (args := #[.pointer (some ⟨w.heap.size, 0, none⟩), .pointer (some ⟨w.heap.size + 1, 0, none⟩), .pointer (some ⟨w.heap.size + 2, 0, none⟩)]) (by simp) (by simp [go_sem]) ?_
  refine (clo_pan w.heap.size _ _ _ 2 250 w1 HB0.out HB1.out HB2.out).mono ?_
  rintro e u' w2 ⟨rfl, rfl, c0, c1, c2, hb⟩
  have c2' : w2.cell? ⟨w.heap.size + 1 + 1, 0, none⟩ = some (.int .i64 250) := c2
  refine ⟨.tuple #[.slice none 0 0, .int .i64 2, .int .i64 250], by simp [results, Try.results51, go_sem, c0, c1, c2'], rfl, ?_⟩
  exact HBw.out.trans hb
end Go.Proofs.Ytcadbfggaipnhaa
