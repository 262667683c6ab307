/- The reader of a script: the second example, which gives up. -/
import Derived.Test.YtcadbfggaipnhaaA5
import Derived.Defers
import Derived.Recover
namespace Go.Proofs.Ytcadbfggaipnhaa
open Go.RowKit
set_option linter.unusedSimpArgs false
set_option linter.unusedVariables false
def PanO (er at_ : Int) (w : World) (g : Nat) (e : Ending) (w' : World) : Prop :=
  e = .panicked [{ v := .iface 206 (.agg #[.int .i64 er, .int .i64 at_]), recovered := false }] ∧ w.grownBy w' (some g)
set_option maxRecDepth 100000 in
set_option maxHeartbeats 2000000 in
theorem items_2b (g : Nat) (w : World) (hg : w.heap[g]? = some (rdC text2 1 1)) :
    Calls Try.prog 101 #[.pointer (some ⟨g, 0, none⟩)] w (RepPost w g text2 2 1 [(1, false)]) := by
  have hgW := blk_lt hg
  have HG0 := hid hg
  clear hg
  go_enter Try.func101, Try.ntmps101
  go_wp2_with (first | fail)
  (repeat' (go_quiet (fail); go_wp2_with (first | fail)))
  go_loopg [2, 3] 1 (fun gk v2 v3 wr => v2 = .slice none 0 0 ∧ ((gk = 1 ∧ ItSt w wr g text2 1 1 [] v3) ∨ (gk = 0 ∧ ItSt w wr g text2 2 1 [(1, false)] v3)))
  case atStart => exact ⟨rfl, .inl ⟨rfl, none, 0, rfl, World.ownsRow_nil _ _ _ 2, HG0.out, gb_refl _ _⟩⟩
  case round =>
    obtain ⟨rfl, ⟨rfl, A, c, rfl, hO, hR, hG⟩ | ⟨rfl, A, c, rfl, hO, hR, hG⟩⟩ := hrel
    all_goals
      have hgl := blk_lt hR
      have hgs := hG.size
      have HO := hid hO
      have HR := hid hR
      have HG := hid hG
      clear hO hR hG
    · go_wp2_with (first | (go_at_call 138; (with_reducible refine (now_21 g 1 _ HR.out).mono ?_); rintro e w' ⟨rfl, hG2, hR2⟩; have HG := hid (gb_trans HG.out hG2); have HR := hid hR2; have HO := hid (World.ownsRow.kept HO.out hG2 (.inr (fun e => (by have := (HO.out.lt g e).1; omega)))); have hgl' := hG2.size; have hgl := blk_lt hR2; clear hG2 hR2) | (go_at_call 140; (with_reducible refine (num_21 g 1 _ HR.out).mono ?_); rintro e w' ⟨rfl, hG2, hR2⟩; have HG := hid (gb_trans HG.out hG2); have HR := hid hR2; have HO := hid (World.ownsRow.kept HO.out hG2 (.inr (fun e => (by have := (HO.out.lt g e).1; omega)))); have hgl' := hG2.size; have hgl := blk_lt hR2; clear hG2 hR2))
      refine (repeat_one w g text2 2 1 [] A c _ 1 false _ (blk_alloc HR.out _) (by decide) (by decide) (by decide) (gb_alloc HG.out _) hgW (by exact World.ownsRow.alloc HO.out _) (by simp) (blk_new _ _) (by have := HG.out.size; omega) (own_new_ne HO.out (Nat.le_refl _))).mono ?_
      rintro e w3 ⟨A2, c2, rfl, hO2, hR2, hG2⟩
      have hgl2 := blk_lt hR2
      have hO3 := hid hO2
      have hR3 := hid hR2
      have hG3 := hid hG2
      clear hO2 hR2 hG2
      go_wp2_with fail
      go_roundg 0
      case rel => exact ⟨rfl, .inr ⟨rfl, A2, c2, rfl, hO3.out, hR3.out, hG3.out⟩⟩
      case measure => omega
    · go_wp2_with (first | (go_at_call 138; (with_reducible refine (now_22 g 1 _ HR.out).mono ?_); rintro e w' ⟨rfl, hG2, hR2⟩; have HG := hid (gb_trans HG.out hG2); have HR := hid hR2; have HO := hid (World.ownsRow.kept HO.out hG2 (.inr (fun e => (by have := (HO.out.lt g e).1; omega)))); have hgl' := hG2.size; have hgl := blk_lt hR2; clear hG2 hR2))
      go_ret
      exact ⟨A, c, rfl, HO.out, HR.out, HG.out⟩
set_option maxRecDepth 100000 in
set_option maxHeartbeats 2000000 in
theorem bracket_2 (g : Nat) (w : World) (hg : w.heap[g]? = some (rdC text2 0 0)) :
    Calls Try.prog 139 #[.pointer (some ⟨g, 0, none⟩)] w (PanO 250 2 w g) := by
  obtain ⟨x0, x1, x2, f1, f2, hgl⟩ := rd_cells hg
  have HR := hid hg
  clear hg
  go_enter Try.func139, Try.ntmps139
  go_wp2_with fail
  go_at_call 101
  refine (items_2b g _ (rd_at (rd_op HR.out 1) 1)).mono ?_
  rintro e w1 ⟨A, c, rfl, hO, hR, hG⟩
  have HG := hid (gb_trans (a := w) (gb_setCell (gb_setCell (gb_refl w (some g)) (.inl rfl) _) (.inl rfl) _) hG)
  clear hG x0 x1 x2 f1 f2
  have HR1 := hid hR
  clear hR hO HR
  go_wp2_with fail
  go_at_call 138
  refine (now_22 g 1 _ HR1.out).mono ?_
  rintro e w2 ⟨rfl, hG2, hR2⟩
  have HG3 := hid (gb_trans HG.out hG2)
  have HR2 := hid hR2
  clear HG HR1 hG2 hR2
  go_wp2_with fail
  go_at_call 102
  refine (give_calls g text2 2 1 250 _ HR2.out).mono ?_
  rintro e w3 ⟨rfl, rfl⟩
  exact ⟨rfl, rfl, HG3.out⟩
set_option maxRecDepth 100000 in
set_option maxHeartbeats 2000000 in
theorem items_2 (g : Nat) (w : World) (hg : w.heap[g]? = some (rdC text2 0 0)) :
    Calls Try.prog 101 #[.pointer (some ⟨g, 0, none⟩)] w (PanO 250 2 w g) := by
  have hgW := blk_lt hg
  have HG0 := hid hg
  clear hg
  go_enter Try.func101, Try.ntmps101
  go_wp2_with (first | fail)
  (repeat' (go_quiet (fail); go_wp2_with (first | fail)))
  refine wp_loop_rounds 1 ?_
  rw [rounds_succ]
  go_wp2_with fail
  go_at_call 138
  refine (now_20 g 0 _ HG0.out).mono ?_
  rintro e w2 ⟨rfl, hG2, hR2⟩
  have HG3 := hid hG2
  have HR2 := hid hR2
  clear hG2 hR2
  go_wp2_with fail
  go_at_call 139
  refine (bracket_2 g _ HR2.out).mono ?_
  rintro e w3 ⟨rfl, hG4⟩
  exact ⟨rfl, rfl, gb_trans HG3.out hG4⟩
end Go.Proofs.Ytcadbfggaipnhaa
