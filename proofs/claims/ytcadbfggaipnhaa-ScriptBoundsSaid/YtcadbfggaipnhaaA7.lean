/- script.Parse of the two examples. -/
import Derived.Test.YtcadbfggaipnhaaA6
import Derived.RegionTactic
import Derived.WalkLawsBesides
namespace Go.Proofs.Ytcadbfggaipnhaa
open Go.RowKit
set_option linter.unusedSimpArgs false
set_option linter.unusedVariables false
set_option maxRecDepth 100000 in
set_option maxHeartbeats 1000000 in
theorem clo_idle (p q r : Value) (w : World) :
    CallsD Try.prog 100 #[p, q, r] .returning w fun e u' w' => e = .returned (.tuple #[]) ∧ u' = .returning ∧ w' = w := by
  refine callsD_of_wpS Try.func100 rfl fun c₀ cs hu => ?_
  apply wpS_seq
  apply wpS_region
  simp [wpOpsS, go_sem, recoverD, hu, Try.ntmps100, Exit.thenS]
  refine wpS_of_wp ?_
  go_wp2
  exact ⟨rfl, .returning, by rw [← hu], _, results_none rfl _ _ _, rfl, rfl, rfl⟩
def CloPost (b : Nat) (at_ er : Int) (w : World) (e : Ending) (u' : FrameMode) (w' : World) : Prop :=
  e = .returned (.tuple #[]) ∧ u' = .panicking [{ v := .iface 206 (.agg #[.int .i64 er, .int .i64 at_]), recovered := true }] ∧
  w'.cell? ⟨b, 0, none⟩ = some (.slice none 0 0) ∧ w'.cell? ⟨b + 1, 0, none⟩ = some (.int .i64 at_) ∧ w'.cell? ⟨b + 2, 0, none⟩ = some (.int .i64 er) ∧ Below b w w'
theorem clo_end (b : Nat) (v0 : Value) (x y at_ er : Int) (w : World) (c0 : w.cell? ⟨b, 0, none⟩ = some v0) (c1 : w.cell? ⟨b + 1, 0, none⟩ = some (.int .i64 x)) (c2 : w.cell? ⟨b + 2, 0, none⟩ = some (.int .i64 y)) (l2 : b + 2 < w.heap.size) :
    ((((w.setCell ⟨b, 0, none⟩ (.slice none 0 0)).setCell ⟨b + 1, 0, none⟩ (.int .i64 at_)).setCell ⟨b + 2, 0, none⟩ (.int .i64 er)).alloc (.cells #[.int .i64 er, .int .i64 at_] 206)).drew.cell? ⟨b, 0, none⟩ = some (.slice none 0 0) ∧
    ((((w.setCell ⟨b, 0, none⟩ (.slice none 0 0)).setCell ⟨b + 1, 0, none⟩ (.int .i64 at_)).setCell ⟨b + 2, 0, none⟩ (.int .i64 er)).alloc (.cells #[.int .i64 er, .int .i64 at_] 206)).drew.cell? ⟨b + 1, 0, none⟩ = some (.int .i64 at_) ∧
    ((((w.setCell ⟨b, 0, none⟩ (.slice none 0 0)).setCell ⟨b + 1, 0, none⟩ (.int .i64 at_)).setCell ⟨b + 2, 0, none⟩ (.int .i64 er)).alloc (.cells #[.int .i64 er, .int .i64 at_] 206)).drew.cell? ⟨b + 2, 0, none⟩ = some (.int .i64 er) ∧
    Below b w (((((w.setCell ⟨b, 0, none⟩ (.slice none 0 0)).setCell ⟨b + 1, 0, none⟩ (.int .i64 at_)).setCell ⟨b + 2, 0, none⟩ (.int .i64 er)).alloc (.cells #[.int .i64 er, .int .i64 at_] 206)).drew) := by
  have l0 : b < w.heap.size := by omega
  have l1 : b + 1 < w.heap.size := by omega
  refine ⟨by go_simp, by go_simp, by go_simp, ?_⟩
  exact Below.drew (Below.alloc (Below.setCell (Below.setCell (Below.setCell (Below.refl _ _) (by simp) _) (by simp) _) (by simp) _) (by simp [World.setCell]; omega) _)
set_option maxRecDepth 100000 in
set_option maxHeartbeats 2000000 in
theorem clo_pan (b : Nat) (v0 : Value) (x y at_ er : Int) (w : World) (h0 : w.heap[b]? = some (.cells #[v0] 33 (0, 0))) (h1 : w.heap[b + 1]? = some (.cells #[.int .i64 x] 3 (0, 0))) (h2 : w.heap[b + 2]? = some (.cells #[.int .i64 y] 37 (0, 0))) :
    CallsD Try.prog 100 #[.pointer (some ⟨b, 0, none⟩), .pointer (some ⟨b + 1, 0, none⟩), .pointer (some ⟨b + 2, 0, none⟩)] (.panicking [{ v := .iface 206 (.agg #[.int .i64 er, .int .i64 at_]), recovered := false }]) w (CloPost b at_ er w) := by
  have hta : ∀ (v : Value) (W : World), (Instr.typeAssert (.iface 206 v) 20 206 true).run Try.prog W = .ok (.tuple #[v, .bool true]) W := fun v W => by rfl
  have c0 := blk_cell h0 0
  have c1 := blk_cell h1 0
  have c2 := blk_cell h2 0
  have f0 := blk_frozen h0 0
  have f1 := blk_frozen h1 0
  have f2 := blk_frozen h2 0
  have l2 := blk_lt h2
  have l1 : b + 1 < w.heap.size := by omega
  have l0 : b < w.heap.size := by omega
  simp at c0 c1 c2
  clear h0 h1 h2
  refine callsD_of_wpS Try.func100 rfl fun c₀ cs hu => ?_
  apply wpS_seq
  apply wpS_region
  simp [wpOpsS, go_sem, recoverD, hu, Try.ntmps100, Exit.thenS]
  refine wpS_of_wp ?_
  go_wp2
  go_region
  all_goals (try go_wp2)
  all_goals exact ⟨rfl, _, rfl, _, results_none rfl _ _ _, rfl, rfl, clo_end b v0 x y at_ er w c0 c1 c2 l2⟩
end Go.Proofs.Ytcadbfggaipnhaa
