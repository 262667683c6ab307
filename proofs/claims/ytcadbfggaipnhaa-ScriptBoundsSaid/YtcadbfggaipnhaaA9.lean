/- script.Rounds and script.Fair of the examples. -/
import Derived.Test.YtcadbfggaipnhaaA8
import Derived.Lib.SliceRun
namespace Go.Proofs.Ytcadbfggaipnhaa
open Go.RowKit
set_option linter.unusedSimpArgs false
set_option linter.unusedVariables false
def bools8 (l : List Bool) : Obj := .cells (l.map Value.bool).toArray 213 (0, 0)
def RdSt (w wr : World) (v6 v7 v8 v14 : Value) (k r a m : Int) (sn : List Bool) : Prop :=
  v14 = .int .i64 k ∧ v6 = .int .i64 r ∧ v7 = .int .i64 a ∧ v8 = .int .i64 m ∧ wr.heap[w.heap.size]? = some (bools8 sn) ∧ Below w.heap.size w wr
def setL : Array Value → Nat → List Value → Array Value
  | cs, _, [] => cs
  | cs, o, v :: vs => setL (cs.setIfInBounds o v) (o + 1) vs
theorem setCells_blk {t : TypeId} {fr : Nat × Nat} (b : Nat) : ∀ (vs : List Value) (o : Nat) (W : World) (cs : Array Value), W.heap[b]? = some (.cells cs t fr) → (W.setCells b o vs).heap[b]? = some (.cells (setL cs o vs) t fr)
  | [], _, _, _, h => h
  | v :: vs, o, W, cs, h => setCells_blk b vs (o + 1) _ _ (blk_set h o v)
theorem setCells_below {w : World} (b : Nat) (hb : w.heap.size ≤ b) : ∀ (vs : List Value) (o : Nat) (W : World), Below w.heap.size w W → Below w.heap.size w (W.setCells b o vs)
  | [], _, _, h => h
  | v :: vs, o, W, h => setCells_below b hb vs (o + 1) _ (Below.setCell h hb _)
theorem clear8 (W w : World) (b : Nat) (x0 x1 x2 x3 x4 x5 x6 x7 : Bool) (h : W.heap[b]? = some (bools8 [x0, x1, x2, x3, x4, x5, x6, x7])) (hb : w.heap.size ≤ b) (hB : Below w.heap.size w W) :
    ∃ Wc, (∀ ty, (Builtin.clear_ #[214] ty #[.slice (some ⟨b, 0, none⟩) 8 8]).run Try.prog W = .ok (.tuple #[]) Wc) ∧ Wc.heap[b]? = some (bools8 [false, false, false, false, false, false, false, false]) ∧ Below w.heap.size w Wc := by
  refine ⟨W.setCells b 0 (List.replicate 8 (.bool false)), fun ty => Lib.run_clear_slice W 214 4 ty (.bool false) Try.underlying214 (by intro W; kernel_rfl) rfl rfl b 0 8 8 (by omega) (fun j hj => ?_) (fun j hj => ?_), ?_, ?_⟩
  · rw [Nat.zero_add, blk_cell h j, Array.getElem?_eq_getElem (by simp; omega)]
    rfl
  · exact blk_frozen h _
  · have := setCells_blk b (List.replicate 8 (.bool false)) 0 W _ h
    rw [this]
    simp [setL, List.replicate, bools8]
  · exact setCells_below b hb _ 0 W hB
set_option maxRecDepth 100000 in
set_option maxHeartbeats 2000000 in
theorem rounds_calls (g c : Nat) (w : World) (hg : g < w.heap.size)
    (e0 : w.cell? ⟨g, 0, none⟩ = some (.int .i64 0)) (e1 : w.cell? ⟨g, 1, none⟩ = some (.bool false)) (e2 : w.cell? ⟨g, 2, none⟩ = some (.int .i64 1)) (e3 : w.cell? ⟨g, 3, none⟩ = some (.bool false))
    (e4 : w.cell? ⟨g, 4, none⟩ = some (.int .i64 1)) (e5 : w.cell? ⟨g, 5, none⟩ = some (.bool false)) (e6 : w.cell? ⟨g, 6, none⟩ = some (.int .i64 0)) (e7 : w.cell? ⟨g, 7, none⟩ = some (.bool true)) :
    Calls Try.prog 52 #[.slice (some ⟨g, 0, none⟩) 4 c, .int .i64 2] w (RetB (.tuple #[.int .i64 1, .int .i64 1]) w) := by
  go_enter Try.func52, Try.ntmps52
  go_wp2_with (first | fail)
  (repeat' (go_quiet (fail); go_wp2_with (first | fail)))
  go_loopg [6, 7, 8, 14] 4 (fun gk v6 v7 v8 v14 wr => (gk = 4 ∧ RdSt w wr v6 v7 v8 v14 0 0 0 0 [false, false, false, false, false, false, false, false]) ∨ (gk = 3 ∧ RdSt w wr v6 v7 v8 v14 1 0 0 1 [true, false, false, false, false, false, false, false]) ∨ (gk = 2 ∧ RdSt w wr v6 v7 v8 v14 2 1 0 0 [false, false, false, false, false, false, false, false]) ∨ (gk = 1 ∧ RdSt w wr v6 v7 v8 v14 3 1 0 1 [false, true, false, false, false, false, false, false]) ∨ (gk = 0 ∧ RdSt w wr v6 v7 v8 v14 4 1 1 1 [false, true, false, false, false, false, false, false]))
  case atStart => exact .inl ⟨rfl, rfl, rfl, rfl, rfl, blk_new w _, (by repeat (first | exact Below.refl _ _ | exact HB.out | (refine Below.setCell ?_ (by simp) _) | apply below_alloc' | apply Below.drew | apply below_drewN'))⟩
  case round =>
    rcases hrel with ⟨rfl, rfl, rfl, rfl, rfl, hS, hB⟩ | ⟨rfl, rfl, rfl, rfl, rfl, hS, hB⟩ | ⟨rfl, rfl, rfl, rfl, rfl, hS, hB⟩ | ⟨rfl, rfl, rfl, rfl, rfl, hS, hB⟩ | ⟨rfl, rfl, rfl, rfl, rfl, hS, hB⟩
    all_goals
      have HS := hid hS
      have HB := hid hB
      have hgl := blk_lt hS
      have b0 := blk_cell (show wr.heap[w.heap.size]? = some (.cells _ _ _) from hS) 0
      have b1 := blk_cell (show wr.heap[w.heap.size]? = some (.cells _ _ _) from hS) 1
      have z0 := blk_frozen (show wr.heap[w.heap.size]? = some (.cells _ _ (0, 0)) from hS) 0
      have z1 := blk_frozen (show wr.heap[w.heap.size]? = some (.cells _ _ (0, 0)) from hS) 1
      obtain ⟨hcw, hfw⟩ := bcell hB
      simp at b0 b1
      clear hS hB
    · go_wp2_with fail
      go_roundg 3
      case rel => exact .inr (.inl ⟨rfl, rfl, rfl, rfl, rfl, by exact blk_alloc (blk_setD HS.out 0 _ _ rfl) _, (by repeat (first | exact Below.refl _ _ | exact HB.out | (refine Below.setCell ?_ (by simp) _) | apply below_alloc' | apply Below.drew | apply below_drewN'))⟩)
      case measure => omega
    · obtain ⟨Wc, hclr, hc2, hb2⟩ := clear8 ((wr.setCell ⟨w.heap.size, 1, none⟩ (.bool true)).alloc (.cells #[.int .i64 1, .bool false] 113)) w w.heap.size _ _ _ _ _ _ _ _ (by exact blk_alloc (blk_setD HS.out 1 _ _ rfl) _) (Nat.le_refl _) (by repeat (first | exact Below.refl _ _ | exact HB.out | (refine Below.setCell ?_ (by simp) _) | apply below_alloc' | apply Below.drew | apply below_drewN'))
      have HC2 := hid hc2
      have HB2 := hid hb2
      clear hc2 hb2
      go_wp2_with fail
      go_roundg 2
      case rel => exact .inr (.inr (.inl ⟨rfl, rfl, rfl, rfl, rfl, HC2.out, HB2.out⟩))
      case measure => omega
    · go_wp2_with fail
      go_roundg 1
      case rel => exact .inr (.inr (.inr (.inl ⟨rfl, rfl, rfl, rfl, rfl, by exact blk_alloc (blk_setD HS.out 1 _ _ rfl) _, (by repeat (first | exact Below.refl _ _ | exact HB.out | (refine Below.setCell ?_ (by simp) _) | apply below_alloc' | apply Below.drew | apply below_drewN'))⟩)))
      case measure => omega
    · go_wp2_with fail
      go_roundg 0
      case rel => exact .inr (.inr (.inr (.inr ⟨rfl, rfl, rfl, rfl, rfl, by exact blk_alloc HS.out _, (by repeat (first | exact Below.refl _ _ | exact HB.out | (refine Below.setCell ?_ (by simp) _) | apply below_alloc' | apply Below.drew | apply below_drewN'))⟩)))
      case measure => omega
    · go_wp2_with fail
      all_goals ((try first | go_ret | go_ret2 | go_ret3); try go_simp)
      exact ⟨rfl, HB.out⟩
end Go.Proofs.Ytcadbfggaipnhaa
