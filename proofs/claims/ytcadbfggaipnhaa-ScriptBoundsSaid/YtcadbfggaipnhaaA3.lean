/- The reader of a script: repeat. -/
import Derived.Test.YtcadbfggaipnhaaA2
import Derived.Test.YtcadbfggaipnhaaR2
import Derived.Deep.DeepMust
namespace Go.Proofs.Ytcadbfggaipnhaa
open Go.RowKit
set_option linter.unusedSimpArgs false
set_option linter.unusedVariables false
def entC (x : Int × Bool) : List Value := [.int .i64 x.1, .bool x.2]
def entV (l : List (Int × Bool)) : List Value := l.flatMap entC
theorem entV_snoc (l : List (Int × Bool)) (x : Int × Bool) : entV (l ++ [x]) = entV l ++ entC x := by unfold entV; simp
theorem info_ent : (Try.prog.info? 113).map (fun i => (i.zero, i.size, i.bytes)) = some (some (.agg #[.int .i64 0, .bool false]), 2, 16) := by kernel_rfl
/-- what repeat leaves -/
def RepPost (W0 : World) (g : Nat) (s : ByteArray) (a op : Nat) (l : List (Int × Bool)) (e : Ending) (w' : World) : Prop :=
  ∃ A c, e = .returned (.slice A l.length c) ∧ w'.ownsRow W0.heap.size 113 2 (.slice A l.length c) l.length (entV l) ∧ w'.heap[g]? = some (rdC s a op) ∧ W0.grownBy w' (some g)
theorem reps_succ {α : Type} (l : List α) (x : α) (k : Nat) : l ++ List.replicate (k + 1) x = (l ++ List.replicate k x) ++ [x] := by
  rw [List.replicate_succ', List.append_assoc]
theorem gb_grown {W0 w w' : World} {g : Nat} {row : Option Nat} (h : W0.grownBy w (some g)) (k : w.grownBy w' row) (hr : ∀ i, row = some i → W0.heap.size ≤ i) : W0.grownBy w' (some g) :=
  ⟨k.os.trans h.os, k.tape.trans h.tape, k.output.trans h.output, Nat.le_trans h.size k.size, fun i hi hne => (k.block i (Nat.lt_of_lt_of_le hi h.size) (fun e => by have := hr i e.symm; omega)).trans (h.block i hi hne)⟩
set_option maxRecDepth 100000 in
set_option maxHeartbeats 1000000 in
theorem repeat_one (W0 : World) (g : Nat) (s : ByteArray) (a op : Nat) (l : List (Int × Bool)) (Al : Option Addr) (cl b : Nat) (x : Int) (fl : Bool) (w : World)
    (hg : w.heap[g]? = some (rdC s a op)) (hs : s.size ≤ 9223372036854775806) (has : a ≤ s.size) (hst : a = s.size ∨ ∃ h : a < s.size, (s[a].toNat : Int) ≠ 42) (hG : W0.grownBy w (some g)) (hgW : g < W0.heap.size)
    (hO : w.ownsRow W0.heap.size 113 2 (.slice Al l.length cl) l.length (entV l)) (hl : l.length ≤ 1000) (hB : w.heap[b]? = some (.cells #[.int .i64 x, .bool fl] 113 (0, 0))) (hbW : W0.heap.size ≤ b) (hD : some b ≠ (Value.slice Al l.length cl).ownBlock) :
    Calls Try.prog 141 #[.pointer (some ⟨g, 0, none⟩), .slice Al l.length cl, .slice (some ⟨b, 0, none⟩) 1 1] w (RepPost W0 g s a op (l ++ List.replicate 1 (x, fl))) := by
  obtain ⟨x0, x1, x2, f1, f2, hgl⟩ := rd_cells hg
  have HT := hid (fun W => times_calls 1 1 W ⟨by omega, by omega⟩ ⟨by omega, by omega⟩)
  have ht : times 1 1 = 1 := by decide
  rw [ht] at HT
  have HR1 := hid hg
  have HG1 := hid hG
  have HO1 := hid hO
  have HB1 := hid hB
  have HN := hid hD
  obtain ⟨i1, hi1, hz1⟩ := Option.map_eq_some_iff.1 info_ent
  simp only [Prod.mk.injEq] at hz1
  obtain ⟨hz10, hz11, hz12⟩ := hz1
  clear hg hG hO hB hD ht
  rcases hst with h | ⟨h, h42⟩
  · have hq : decide ((a : Int) < (s.size : Int)) = false := by simp; omega
    have hq' : decide (a < s.size) = false := by simp; omega
    clear h
    go_enter Try.func141, Try.ntmps141
    go_wp2_with (first | (go_at_call 44; (with_reducible refine (HT.out _).mono ?_); rintro e w' ⟨rfl, rfl⟩))
    (repeat' (go_quiet (fail); go_wp2_with (first | (go_at_call 44; (with_reducible refine (HT.out _).mono ?_); rintro e w' ⟨rfl, rfl⟩))))
    go_loopw [1, 59] (fun v1 v59 wr => ∃ (k N : Nat) (A : Option Addr) (c' : Nat), k ≤ 1 ∧ v59 = .int .i64 k ∧ v1 = .slice A N c' ∧ Hid (N = l.length + k) ∧ Hid (wr.ownsRow W0.heap.size 113 2 (.slice A N c') N (entV (l ++ List.replicate k (x, fl)))) ∧ Hid (wr.heap[g]? = some (rdC s a op)) ∧ Hid (W0.grownBy wr (some g)) ∧ Hid (wr.heap[b]? = some (.cells #[.int .i64 x, .bool fl] 113 (0, 0))) ∧ Hid (some b ≠ (Value.slice A N c').ownBlock)) (fun _ v59 _ => 1 - (intOf v59).toNat)
    case atStart => exact ⟨0, l.length, Al, cl, by omega, rfl, rfl, hid rfl, hid (by rw [List.replicate_zero, List.append_nil]; exact (by repeat (with_reducible first | exact HO1.out | apply World.ownsRow.alloc | apply own_drew | apply own_drewN))), hid (by repeat (with_reducible first | exact HR1.out | apply blk_alloc | apply blk_drew | apply blk_drewN)), hid (by have HG := HG1; exact (by repeat (first | exact gb_refl _ _ | exact HG.out | (refine gb_setCell ?_ (Or.inl rfl) _) | (refine gb_setCell ?_ (Or.inr (by simp)) _) | apply gb_alloc | apply gb_drew | apply gb_drewN))), hid (by repeat (with_reducible first | exact HB1.out | apply blk_alloc | apply blk_drew | apply blk_drewN)), HN⟩
    case round =>
      obtain ⟨k, N, A, c', hk, rfl, rfl, HN, HO, HR, HG, HB, HD⟩ := hrel
      have hgl := blk_lt HR.out
      by_cases hlt : k < 1
      · have hN2 : N ≤ 40000 := by have := HN.out; omega
        have HS := hid ((congrArg entV (reps_succ l (x, fl) k)).trans (entV_snoc _ _))
        have hwsz := HG.out.size
        go_wp2_with (first | (at_builtin; go_must (refine wpList_append_lies _ rfl (.tmp 64) (.tmp 65) 33 rfl W0.heap.size 113 i1 (.agg #[.int .i64 0, .bool false]) 2 16 Try.underlying33 hi1 hz10 hz11 hz12 rfl (by decide) (.slice A N c') N (entV (l ++ List.replicate k (x, fl))) rfl ?_ ⟨b, 0, none⟩ 1 1 [.int .i64 x, .bool fl] rfl rfl ?_ ?_ (by decide) ?_ ?_ ?_ _ rfl ?_; (· exact HO.out); (· exact World.news_of_block (cs := #[.int .i64 x, .bool fl]) (t := 113) (fr := (0, 0)) HB.out); (· simp [Value.oneCell']); (· (simp only [maxLen]; omega)); (· omega); (· exact hwsz); intro g1 cap1 w1 hown1 hgr1 hat1 hlt1; have Hown1 := hid hown1; have HR2 := hid (blk_grown hgr1 HR.out (fun e => (by have := (HO.out.lt g e.symm).1; omega))); have HB2 := hid (blk_grown hgr1 HB.out HD.out); have HG2 := hid (gb_grown HG.out hgr1 (fun k e => (HO.out.lt k e).1)); have HD2 : Hid (some b ≠ (Value.slice (some ⟨g1, 0, none⟩) (N + 1) cap1).ownBlock) := (by intro he; simp [Value.ownBlock] at he; rcases hat1 with h | h; (· exact HD.out (by rw [h, he])); (· have := blk_lt HB.out; omega)); have hsz1 := hgr1.size; clear hgr1 hown1 hat1)))
        all_goals
          go_roundw
          case rel => exact ⟨k + 1, N + 1, _, _, by omega, by go_num, rfl, hid (by have := HN.out; omega), hid (by rw [HS.out]; exact Hown1.out), HR2, HG2, HB2, HD2⟩
          case measure => simp [intOf]; omega
      · obtain rfl : k = 1 := by omega
        go_wp2_with fail
        all_goals ((try first | go_ret | go_ret2 | go_ret3); try go_simp)
        all_goals exact ⟨A, c', by simp [HN.out], by have := HO.out; simpa [HN.out] using this, HR.out, HG.out⟩
  · have h42' : ((s[a].toNat : Int) == 42) = false := by simpa using h42
    clear h42
    go_enter Try.func141, Try.ntmps141
    go_wp2_with (first | (go_at_call 44; (with_reducible refine (HT.out _).mono ?_); rintro e w' ⟨rfl, rfl⟩))
    (repeat' (go_quiet (fail); go_wp2_with (first | (go_at_call 44; (with_reducible refine (HT.out _).mono ?_); rintro e w' ⟨rfl, rfl⟩))))
    go_loopw [1, 59] (fun v1 v59 wr => ∃ (k N : Nat) (A : Option Addr) (c' : Nat), k ≤ 1 ∧ v59 = .int .i64 k ∧ v1 = .slice A N c' ∧ Hid (N = l.length + k) ∧ Hid (wr.ownsRow W0.heap.size 113 2 (.slice A N c') N (entV (l ++ List.replicate k (x, fl)))) ∧ Hid (wr.heap[g]? = some (rdC s a op)) ∧ Hid (W0.grownBy wr (some g)) ∧ Hid (wr.heap[b]? = some (.cells #[.int .i64 x, .bool fl] 113 (0, 0))) ∧ Hid (some b ≠ (Value.slice A N c').ownBlock)) (fun _ v59 _ => 1 - (intOf v59).toNat)
    case atStart => exact ⟨0, l.length, Al, cl, by omega, rfl, rfl, hid rfl, hid (by rw [List.replicate_zero, List.append_nil]; exact (by repeat (with_reducible first | exact HO1.out | apply World.ownsRow.alloc | apply own_drew | apply own_drewN))), hid (by repeat (with_reducible first | exact HR1.out | apply blk_alloc | apply blk_drew | apply blk_drewN)), hid (by have HG := HG1; exact (by repeat (first | exact gb_refl _ _ | exact HG.out | (refine gb_setCell ?_ (Or.inl rfl) _) | (refine gb_setCell ?_ (Or.inr (by simp)) _) | apply gb_alloc | apply gb_drew | apply gb_drewN))), hid (by repeat (with_reducible first | exact HB1.out | apply blk_alloc | apply blk_drew | apply blk_drewN)), HN⟩
    case round =>
      obtain ⟨k, N, A, c', hk, rfl, rfl, HN, HO, HR, HG, HB, HD⟩ := hrel
      have hgl := blk_lt HR.out
      by_cases hlt : k < 1
      · have hN2 : N ≤ 40000 := by have := HN.out; omega
        have HS := hid ((congrArg entV (reps_succ l (x, fl) k)).trans (entV_snoc _ _))
        have hwsz := HG.out.size
        go_wp2_with (first | (at_builtin; go_must (refine wpList_append_lies _ rfl (.tmp 64) (.tmp 65) 33 rfl W0.heap.size 113 i1 (.agg #[.int .i64 0, .bool false]) 2 16 Try.underlying33 hi1 hz10 hz11 hz12 rfl (by decide) (.slice A N c') N (entV (l ++ List.replicate k (x, fl))) rfl ?_ ⟨b, 0, none⟩ 1 1 [.int .i64 x, .bool fl] rfl rfl ?_ ?_ (by decide) ?_ ?_ ?_ _ rfl ?_; (· exact HO.out); (· exact World.news_of_block (cs := #[.int .i64 x, .bool fl]) (t := 113) (fr := (0, 0)) HB.out); (· simp [Value.oneCell']); (· (simp only [maxLen]; omega)); (· omega); (· exact hwsz); intro g1 cap1 w1 hown1 hgr1 hat1 hlt1; have Hown1 := hid hown1; have HR2 := hid (blk_grown hgr1 HR.out (fun e => (by have := (HO.out.lt g e.symm).1; omega))); have HB2 := hid (blk_grown hgr1 HB.out HD.out); have HG2 := hid (gb_grown HG.out hgr1 (fun k e => (HO.out.lt k e).1)); have HD2 : Hid (some b ≠ (Value.slice (some ⟨g1, 0, none⟩) (N + 1) cap1).ownBlock) := (by intro he; simp [Value.ownBlock] at he; rcases hat1 with h | h; (· exact HD.out (by rw [h, he])); (· have := blk_lt HB.out; omega)); have hsz1 := hgr1.size; clear hgr1 hown1 hat1)))
        all_goals
          go_roundw
          case rel => exact ⟨k + 1, N + 1, _, _, by omega, by go_num, rfl, hid (by have := HN.out; omega), hid (by rw [HS.out]; exact Hown1.out), HR2, HG2, HB2, HD2⟩
          case measure => simp [intOf]; omega
      · obtain rfl : k = 1 := by omega
        go_wp2_with fail
        all_goals ((try first | go_ret | go_ret2 | go_ret3); try go_simp)
        all_goals exact ⟨A, c', by simp [HN.out], by have := HO.out; simpa [HN.out] using this, HR.out, HG.out⟩
set_option maxRecDepth 100000 in
set_option maxHeartbeats 1000000 in
theorem repeat_two (W0 : World) (g : Nat) (s : ByteArray) (a op : Nat) (l : List (Int × Bool)) (Al : Option Addr) (cl b : Nat) (x : Int) (fl : Bool) (w : World)
    (hg : w.heap[g]? = some (rdC s a op)) (hs : s.size ≤ 9223372036854775806) (has : a < s.size) (hst : (s[a].toNat : Int) = 42)
    (hnum : ∀ W, W.heap[g]? = some (rdC s (a + 1) op) → Calls Try.prog 140 #[.pointer (some ⟨g, 0, none⟩)] W (RetO (.int .i64 2) W g (rdC s (a + 2) op))) (hG : W0.grownBy w (some g)) (hgW : g < W0.heap.size)
    (hO : w.ownsRow W0.heap.size 113 2 (.slice Al l.length cl) l.length (entV l)) (hl : l.length ≤ 1000) (hB : w.heap[b]? = some (.cells #[.int .i64 x, .bool fl] 113 (0, 0))) (hbW : W0.heap.size ≤ b) (hD : some b ≠ (Value.slice Al l.length cl).ownBlock) :
    Calls Try.prog 141 #[.pointer (some ⟨g, 0, none⟩), .slice Al l.length cl, .slice (some ⟨b, 0, none⟩) 1 1] w (RepPost W0 g s (a + 2) op (l ++ List.replicate 2 (x, fl))) := by
  obtain ⟨x0, x1, x2, f1, f2, hgl⟩ := rd_cells hg
  have HT := hid (fun W => times_calls 2 1 W ⟨by omega, by omega⟩ ⟨by omega, by omega⟩)
  have ht : times 2 1 = 2 := by decide
  rw [ht] at HT
  have HR0 := hid hg
  have HG0 := hid hG
  have HO0 := hid hO
  have HB0 := hid hB
  have HN := hid hD
  have HNM := hid hnum
  obtain ⟨i1, hi1, hz1⟩ := Option.map_eq_some_iff.1 info_ent
  simp only [Prod.mk.injEq] at hz1
  obtain ⟨hz10, hz11, hz12⟩ := hz1
  have h42' : ((s[a].toNat : Int) == 42) = true := by simpa using hst
  clear hg hG hO hB hD ht hst hnum
  go_enter Try.func141, Try.ntmps141
  go_wp2_with fail
  (repeat' (go_quiet (fail); go_wp2_with fail))
  go_at_call 140
  refine (HNM.out _ (by have := rd_at (w := w) HR0.out (a + 1); exact this)).mono ?_
  rintro e w' ⟨rfl, hG2, hR2⟩
  have HG1 := hid (gb_trans (a := W0) (by have HG := HG0; exact (by repeat (first | exact gb_refl _ _ | exact HG.out | (refine gb_setCell ?_ (Or.inl rfl) _) | (refine gb_setCell ?_ (Or.inr (by simp)) _) | apply gb_alloc | apply gb_drew | apply gb_drewN))) hG2)
  have HR1 := hid hR2
  have HO1 := hid (World.ownsRow.kept (by exact own_far HO0.out (fun e => (by have := (HO0.out.lt g e.symm).1; omega)) _) hG2 (.inr (fun e => (by have := (HO0.out.lt g e).1; omega))))
  have HB1 := hid (blk_grown hG2 (blk_far HB0.out (by intro e; simp at e; omega) _) (by intro e; simp at e; omega))
  clear hG2 hR2
  go_wp2_with (first | (go_at_call 44; (with_reducible refine (HT.out _).mono ?_); rintro e w' ⟨rfl, rfl⟩))
  go_loopw [1, 59] (fun v1 v59 wr => ∃ (k N : Nat) (A : Option Addr) (c' : Nat), k ≤ 2 ∧ v59 = .int .i64 k ∧ v1 = .slice A N c' ∧ Hid (N = l.length + k) ∧ Hid (wr.ownsRow W0.heap.size 113 2 (.slice A N c') N (entV (l ++ List.replicate k (x, fl)))) ∧ Hid (wr.heap[g]? = some (rdC s (a + 2) op)) ∧ Hid (W0.grownBy wr (some g)) ∧ Hid (wr.heap[b]? = some (.cells #[.int .i64 x, .bool fl] 113 (0, 0))) ∧ Hid (some b ≠ (Value.slice A N c').ownBlock)) (fun _ v59 _ => 2 - (intOf v59).toNat)
  case atStart => exact ⟨0, l.length, Al, cl, by omega, rfl, rfl, hid rfl, hid (by rw [List.replicate_zero, List.append_nil]; exact (by repeat (with_reducible first | exact HO1.out | apply World.ownsRow.alloc | apply own_drew | apply own_drewN))), hid (by repeat (with_reducible first | exact HR1.out | apply blk_alloc | apply blk_drew | apply blk_drewN)), hid (by have HG := HG1; exact (by repeat (first | exact gb_refl _ _ | exact HG.out | (refine gb_setCell ?_ (Or.inl rfl) _) | (refine gb_setCell ?_ (Or.inr (by simp)) _) | apply gb_alloc | apply gb_drew | apply gb_drewN))), hid (by repeat (with_reducible first | exact HB1.out | apply blk_alloc | apply blk_drew | apply blk_drewN)), HN⟩
  case round =>
    obtain ⟨k, N, A, c', hk, rfl, rfl, HN, HO, HR, HG, HB, HD⟩ := hrel
    have hgl := blk_lt HR.out
    by_cases hlt : k < 2
    · have hN2 : N ≤ 40000 := by have := HN.out; omega
      have HS := hid ((congrArg entV (reps_succ l (x, fl) k)).trans (entV_snoc _ _))
      have hwsz := HG.out.size
      go_wp2_with (first | (at_builtin; go_must (refine wpList_append_lies _ rfl (.tmp 64) (.tmp 65) 33 rfl W0.heap.size 113 i1 (.agg #[.int .i64 0, .bool false]) 2 16 Try.underlying33 hi1 hz10 hz11 hz12 rfl (by decide) (.slice A N c') N (entV (l ++ List.replicate k (x, fl))) rfl ?_ ⟨b, 0, none⟩ 1 1 [.int .i64 x, .bool fl] rfl rfl ?_ ?_ (by decide) ?_ ?_ ?_ _ rfl ?_; (· exact HO.out); (· exact World.news_of_block (cs := #[.int .i64 x, .bool fl]) (t := 113) (fr := (0, 0)) HB.out); (· simp [Value.oneCell']); (· (simp only [maxLen]; omega)); (· omega); (· exact hwsz); intro g1 cap1 w1 hown1 hgr1 hat1 hlt1; have Hown1 := hid hown1; have HR2 := hid (blk_grown hgr1 HR.out (fun e => (by have := (HO.out.lt g e.symm).1; omega))); have HB2 := hid (blk_grown hgr1 HB.out HD.out); have HG2 := hid (gb_grown HG.out hgr1 (fun k e => (HO.out.lt k e).1)); have HD2 : Hid (some b ≠ (Value.slice (some ⟨g1, 0, none⟩) (N + 1) cap1).ownBlock) := (by intro he; simp [Value.ownBlock] at he; rcases hat1 with h | h; (· exact HD.out (by rw [h, he])); (· have := blk_lt HB.out; omega)); have hsz1 := hgr1.size; clear hgr1 hown1 hat1)))
      all_goals
        go_roundw
        case rel => exact ⟨k + 1, N + 1, _, _, by omega, by go_num, rfl, hid (by have := HN.out; omega), hid (by rw [HS.out]; exact Hown1.out), HR2, HG2, HB2, HD2⟩
        case measure => simp [intOf]; omega
    · obtain rfl : k = 2 := by omega
      go_wp2_with fail
      all_goals ((try first | go_ret | go_ret2 | go_ret3); try go_simp)
      all_goals exact ⟨A, c', by simp [HN.out], by have := HO.out; simpa [HN.out] using this, HR.out, HG.out⟩
end Go.Proofs.Ytcadbfggaipnhaa
