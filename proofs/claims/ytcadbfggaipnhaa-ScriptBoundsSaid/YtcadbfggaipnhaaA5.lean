/- The reader of a script: items over the first example. -/
import Derived.Test.YtcadbfggaipnhaaA4
namespace Go.Proofs.Ytcadbfggaipnhaa
open Go.RowKit
set_option linter.unusedSimpArgs false
set_option linter.unusedVariables false
set_option maxRecDepth 100000 in
set_option maxHeartbeats 2000000 in
theorem items_1 (g : Nat) (w : World) (hg : w.heap[g]? = some (rdC text1 0 0)) :
    Calls Try.prog 101 #[.pointer (some ⟨g, 0, none⟩)] w (RepPost w g text1 8 0 [(0, false), (1, false), (1, false), (0, true)]) := by
  have hgW := blk_lt hg
  have HG0 := hid hg
  clear hg
  go_enter Try.func101, Try.ntmps101
  go_wp2_with (first | fail)
  (repeat' (go_quiet (fail); go_wp2_with (first | fail)))
  go_loopg [2, 3] 3 (fun gk v2 v3 wr => v2 = .slice none 0 0 ∧ ((gk = 3 ∧ ItSt w wr g text1 0 0 [] v3) ∨ (gk = 2 ∧ ItSt w wr g text1 1 0 [(0, false)] v3) ∨ (gk = 1 ∧ ItSt w wr g text1 5 0 [(0, false), (1, false), (1, false)] v3) ∨ (gk = 0 ∧ ItSt w wr g text1 8 0 [(0, false), (1, false), (1, false), (0, true)] v3)))
  case atStart => exact ⟨rfl, .inl ⟨rfl, none, 0, rfl, World.ownsRow_nil _ _ _ 2, HG0.out, gb_refl _ _⟩⟩
  case round =>
    obtain ⟨rfl, ⟨rfl, A, c, rfl, hO, hR, hG⟩ | ⟨rfl, A, c, rfl, hO, hR, hG⟩ | ⟨rfl, A, c, rfl, hO, hR, hG⟩ | ⟨rfl, A, c, rfl, hO, hR, hG⟩⟩ := hrel
    all_goals
      have hgl := blk_lt hR
      have hgs := hG.size
      have HO := hid hO
      have HR := hid hR
      have HG := hid hG
      clear hO hR hG
    · go_wp2_with (first | (go_at_call 138; (with_reducible refine (now_0 g 0 _ HR.out).mono ?_); rintro e w' ⟨rfl, hG2, hR2⟩; have HG := hid (gb_trans HG.out hG2); have HR := hid hR2; have HO := hid (World.ownsRow.kept HO.out hG2 (.inr (fun e => (by have := (HO.out.lt g e).1; omega)))); have hgl' := hG2.size; have hgl := blk_lt hR2; clear hG2 hR2) | (go_at_call 140; (with_reducible refine (num_0 g 0 _ HR.out).mono ?_); rintro e w' ⟨rfl, hG2, hR2⟩; have HG := hid (gb_trans HG.out hG2); have HR := hid hR2; have HO := hid (World.ownsRow.kept HO.out hG2 (.inr (fun e => (by have := (HO.out.lt g e).1; omega)))); have hgl' := hG2.size; have hgl := blk_lt hR2; clear hG2 hR2))
      (refine (repeat_one w g text1 1 0 [] A c _ 0 false _ (blk_alloc HR.out _) (by decide) (by decide) (by decide)  (gb_alloc HG.out _) hgW (by exact World.ownsRow.alloc HO.out _) (by simp) (blk_new _ _) (by have := HG.out.size; omega) (own_new_ne HO.out (Nat.le_refl _))).mono ?_)
      rintro e w3 ⟨A2, c2, rfl, hO2, hR2, hG2⟩
      have hgl2 := blk_lt hR2
      have hO3 := hid hO2
      have hR3 := hid hR2
      have hG3 := hid hG2
      clear hO2 hR2 hG2
      go_wp2_with fail
      go_roundg 2
      case rel => exact ⟨rfl, .inr (.inl ⟨rfl, A2, c2, rfl, hO3.out, hR3.out, hG3.out⟩)⟩
      case measure => omega
    · go_wp2_with (first | (go_at_call 138; (with_reducible refine (now_1 g 0 _ HR.out).mono ?_); rintro e w' ⟨rfl, hG2, hR2⟩; have HG := hid (gb_trans HG.out hG2); have HR := hid hR2; have HO := hid (World.ownsRow.kept HO.out hG2 (.inr (fun e => (by have := (HO.out.lt g e).1; omega)))); have hgl' := hG2.size; have hgl := blk_lt hR2; clear hG2 hR2) | (go_at_call 140; (with_reducible refine (num_2 g 0 _ HR.out).mono ?_); rintro e w' ⟨rfl, hG2, hR2⟩; have HG := hid (gb_trans HG.out hG2); have HR := hid hR2; have HO := hid (World.ownsRow.kept HO.out hG2 (.inr (fun e => (by have := (HO.out.lt g e).1; omega)))); have hgl' := hG2.size; have hgl := blk_lt hR2; clear hG2 hR2))
      (refine (repeat_two w g text1 3 0 [(0, false)] A c _ 1 false _ (blk_alloc HR.out _) (by decide) (by decide) (by decide) (fun W h => num_4 g 0 W h) (gb_alloc HG.out _) hgW (by exact World.ownsRow.alloc HO.out _) (by simp) (blk_new _ _) (by have := HG.out.size; omega) (own_new_ne HO.out (Nat.le_refl _))).mono ?_)
      rintro e w3 ⟨A2, c2, rfl, hO2, hR2, hG2⟩
      have hgl2 := blk_lt hR2
      have hO3 := hid hO2
      have hR3 := hid hR2
      have hG3 := hid hG2
      clear hO2 hR2 hG2
      go_wp2_with fail
      go_roundg 1
      case rel => exact ⟨rfl, .inr (.inr (.inl ⟨rfl, A2, c2, rfl, hO3.out, hR3.out, hG3.out⟩))⟩
      case measure => omega
    · go_wp2_with (first | ((go_at_call 138; (with_reducible refine (now_5 g 0 _ HR.out).mono ?_); rintro e w' ⟨rfl, hG2, hR2⟩; have HG := hid (gb_trans HG.out hG2); have HR := hid hR2; have HO := hid (World.ownsRow.kept HO.out hG2 (.inr (fun e => (by have := (HO.out.lt g e).1; omega)))); have hgl' := hG2.size; have hgl := blk_lt hR2; clear hG2 hR2); obtain ⟨x0, x1, x2, f1, f2, -⟩ := rd_cells HR.out))
      go_at_call 140
      refine (num_7 g 0 _ (rd_at HR.out 7)).mono ?_
      rintro e w4 ⟨rfl, hG2, hR2⟩
      have HO4 := hid (World.ownsRow.kept (by exact own_far HO.out (fun e => (by have := (HO.out.lt g e.symm).1; omega)) _) hG2 (.inr (fun e => (by have := (HO.out.lt g e).1; omega))))
      have HG4 := hid (gb_trans (a := w) (gb_setCell HG.out (.inl rfl) _) hG2)
      have HR4 := hid hR2
      clear HO HG HR hG2 hR2
      have HO := HO4
      have HG := HG4
      have HR := HR4
      clear HO4 HG4 HR4 x0 x1 x2 f1 f2
      go_wp2_with fail
      (refine (repeat_one w g text1 8 0 [(0, false), (1, false), (1, false)] A c _ 0 true _ (blk_alloc HR.out _) (by decide) (by decide) (by decide)  (gb_alloc HG.out _) hgW (by exact World.ownsRow.alloc HO.out _) (by simp) (blk_new _ _) (by have := HG.out.size; omega) (own_new_ne HO.out (Nat.le_refl _))).mono ?_)
      rintro e w3 ⟨A2, c2, rfl, hO2, hR2, hG2⟩
      have hgl2 := blk_lt hR2
      have hO3 := hid hO2
      have hR3 := hid hR2
      have hG3 := hid hG2
      clear hO2 hR2 hG2
      go_wp2_with fail
      go_roundg 0
      case rel => exact ⟨rfl, .inr (.inr (.inr ⟨rfl, A2, c2, rfl, hO3.out, hR3.out, hG3.out⟩))⟩
      case measure => omega
    · go_wp2_with (first | (go_at_call 138; (with_reducible refine (now_8 g 0 _ HR.out).mono ?_); rintro e w' ⟨rfl, hG2, hR2⟩; have HG := hid (gb_trans HG.out hG2); have HR := hid hR2; have HO := hid (World.ownsRow.kept HO.out hG2 (.inr (fun e => (by have := (HO.out.lt g e).1; omega)))); have hgl' := hG2.size; have hgl := blk_lt hR2; clear hG2 hR2))
      go_ret
      exact ⟨A, c, rfl, HO.out, HR.out, HG.out⟩
end Go.Proofs.Ytcadbfggaipnhaa
