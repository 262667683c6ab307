/- script.Fair(2, 3); outriderlaw25.alive. -/
import Derived.Test.YtcadbfggaipnhaaA9
namespace Go.Proofs.Ytcadbfggaipnhaa
open Go.RowKit
set_option linter.unusedSimpArgs false
set_option linter.unusedVariables false
def FairPost (w : World) (e : Ending) (w' : World) : Prop := ∃ A c, e = .returned (.slice A 6 c) ∧ Below w.heap.size w w'
def Six (w wr : World) (v : Value) (n : Nat) : Prop := ∃ A c xs, v = .slice A n c ∧ wr.ownsRow w.heap.size 113 2 (.slice A n c) n xs ∧ Below w.heap.size w wr
set_option maxRecDepth 100000 in
set_option maxHeartbeats 2000000 in
theorem fair_calls (w : World) : Calls Try.prog 53 #[.int .i64 2, .int .i64 3] w (FairPost w) := by
  obtain ⟨i1, hi1, hz1⟩ := Option.map_eq_some_iff.1 info_ent
  simp only [Prod.mk.injEq] at hz1
  obtain ⟨hz10, hz11, hz12⟩ := hz1
  go_enter Try.func53, Try.ntmps53
  go_wp2_with (first | fail)
  (repeat' (go_quiet (fail); go_wp2_with (first | fail)))
  go_loopw [5, 6, 21, 24] (fun v5 v6 v21 v24 wr => ∃ (i N : Nat) (A : Option Addr) (c : Nat), i ≤ 3 ∧ v21 = .int .i64 i ∧ v5 = .slice A N c ∧ Hid (N = 2 * i) ∧ Hid (Six w wr (.slice A N c) N)) (fun _ _ v21 _ _ => 3 - (intOf v21).toNat)
  case atStart => exact ⟨0, 0, none, 0, by omega, rfl, rfl, hid rfl, hid ⟨none, 0, [], rfl, World.ownsRow_nil _ _ _ 2, Below.refl _ _⟩⟩
  case round =>
    obtain ⟨i, N, A, c, hi, rfl, rfl, HN, HS⟩ := hrel
    by_cases hlt : i < 3
    · have hd3 : decide ((i : Int) < 3) = true := by simp; omega
      go_wp2_with fail
      obtain ⟨wo, rfl⟩ : ∃ wo : World, wo = wr := ⟨_, rfl⟩
      go_loopw [5, 6, 24] (fun v5 v6 v24 wr => ∃ (k N' : Nat) (A : Option Addr) (c : Nat), k ≤ 2 ∧ v24 = .int .i64 k ∧ v5 = .slice A N' c ∧ Hid (N' = 2 * i + k) ∧ Hid (Six w wr (.slice A N' c) N')) (fun _ _ v24 _ => 2 - (intOf v24).toNat)
      case atStart => exact ⟨0, N, A, c, by omega, rfl, rfl, hid (by rw [HN.out]; rfl), HS⟩
      case round =>
        obtain ⟨k, N', A', c', hk, rfl, rfl, HN', HS'⟩ := hrel
        obtain ⟨A2, c2, xs, he, hO, hB⟩ := HS'.out
        simp only [Value.slice.injEq] at he
        obtain ⟨rfl, -, rfl⟩ := he
        have HO := hid hO
        have HB := hid hB
        have hsz := hB.size
        clear hO hB
        by_cases hks : k < 2
        · have hN6 : N' ≤ 10 := by have := HN'.out; omega
          go_wp2_with (first | (at_builtin; refine wpList_append_lies _ rfl (.tmp 27) (.tmp 30) 33 rfl (w.heap.size) 113 i1 (.agg #[.int .i64 0, .bool false]) 2 16 Try.underlying33 hi1 hz10 hz11 hz12 rfl (by decide) (.slice A' N' c') (N') (xs) rfl ?_ ⟨_, 0, none⟩ 1 1 [.int .i64 k, .bool false] rfl rfl ?_ ?_ (by decide) ?_ ?_ ?_ _ rfl ?_; (· exact (by repeat (with_reducible first | exact HO.out | apply World.ownsRow.alloc | apply own_drew | apply own_drewN))); (· exact World.news_of_block (cs := #[.int .i64 k, .bool false]) (t := 113) (fr := (0, 0)) (blk_new' (by simp))); (· simp [Value.oneCell']); (· (simp only [maxLen]; omega)); (· omega); (· first | (simp; done) | (simp; omega)); intro g1 cap1 w1 hown1 hgr1 hat1 hlt1; have Hown1 := hid hown1; have HB1 := hid (Below.grown (a := w) (B := w.heap.size) (by repeat (first | exact Below.refl _ _ | exact HB.out | apply below_alloc' | apply Below.drew | apply below_drewN')) hgr1 (by first | (simp; done) | (simp; omega) | omega) (fun k e => (HO.out.lt k e).1)); have hsz1 := hgr1.size; simp at hsz1; clear hgr1 hown1 hat1))
          go_roundw
          case rel => exact ⟨k + 1, N' + 1, _, _, by omega, by go_num, rfl, hid (by rw [HN'.out]; omega), hid ⟨_, _, _, rfl, Hown1.out, HB1.out⟩⟩
          case measure => simp [intOf]; omega
        · obtain rfl : k = 2 := by omega
          go_wp2_with fail
          all_goals
            go_roundw
            case rel => exact ⟨i + 1, N', A', c', by omega, by go_num, rfl, hid (by rw [HN'.out]; omega), HS'⟩
            case measure => simp [intOf]; omega
    · obtain rfl : i = 3 := by omega
      obtain ⟨A2, c2, xs, he, hO, hB⟩ := HS.out
      have HB := hid hB
      obtain rfl : N = 6 := by have := HN.out; omega
      clear hO hB he
      go_wp2_with fail
      all_goals ((try first | go_ret | go_ret2 | go_ret3); try go_simp)
      exact ⟨A, c, rfl, HB.out⟩
theorem own_some {w : World} {base : Nat} {e : TypeId} {size n c : Nat} {A : Option Addr} {xs : List Value} (h : w.ownsRow base e size (.slice A n c) n xs) (hn : 0 < n) : ∃ g, A = some ⟨g, 0, none⟩ ∧ base ≤ g ∧ g < w.heap.size ∧ ∀ j, j < n * size → w.cell? ⟨g, j, none⟩ = xs[j]? := by
  rcases h.2 with ⟨h1, h2⟩ | ⟨g, cap, cur, hv, hb, hh, r⟩
  · omega
  · simp only [Value.slice.injEq] at hv
    obtain ⟨rfl, -, rfl⟩ := hv
    exact ⟨g, rfl, hb, blk_lt hh, fun j hj => World.ownsRow.cellAt h j hj⟩
set_option maxRecDepth 100000 in
set_option maxHeartbeats 2000000 in
theorem alive25_calls (w : World) : Calls Try.prog 15 #[] w (RetB (.bool true) w) := by
  go_enter Try.func15, Try.ntmps15
  go_wp2_with fail
  go_at_call 51
  refine (parse_1_calls _).mono ?_
  rintro e w1 ⟨A, c, rfl, hO, hB⟩
  obtain ⟨g, rfl, hg0, hg1, hcell⟩ := own_some hO (by omega)
  have e0 := (hcell 0 (by omega)).trans (show _ = some (.int .i64 0) from rfl)
  have e1 := (hcell 1 (by omega)).trans (show _ = some (.bool false) from rfl)
  have e2 := (hcell 2 (by omega)).trans (show _ = some (.int .i64 1) from rfl)
  have e3 := (hcell 3 (by omega)).trans (show _ = some (.bool false) from rfl)
  have e4 := (hcell 4 (by omega)).trans (show _ = some (.int .i64 1) from rfl)
  have e5 := (hcell 5 (by omega)).trans (show _ = some (.bool false) from rfl)
  have e6 := (hcell 6 (by omega)).trans (show _ = some (.int .i64 0) from rfl)
  have e7 := (hcell 7 (by omega)).trans (show _ = some (.bool true) from rfl)
  have HB := hid hB
  clear hcell hO hB
  go_wp2_with fail
  go_at_call 51
  refine (parse_2_calls _).mono ?_
  rintro e w2 ⟨rfl, hb2⟩
  obtain ⟨hc2, hf2⟩ := bcell hb2
  have hs2 := hb2.size
  have HB2 := hid (below_call (w := w) HB.out hb2)
  clear hb2 HB
  go_wp2_with fail
  go_at_call 52
  refine (rounds_calls g c w2 (by omega) ((hc2 _ _ hg1).trans e0) ((hc2 _ _ hg1).trans e1) ((hc2 _ _ hg1).trans e2) ((hc2 _ _ hg1).trans e3) ((hc2 _ _ hg1).trans e4) ((hc2 _ _ hg1).trans e5) ((hc2 _ _ hg1).trans e6) ((hc2 _ _ hg1).trans e7)).mono ?_
  rintro e w3 ⟨rfl, hb3⟩
  have hg2 : g < w2.heap.size := by omega
  have q6 := ((bcell hb3).1 _ 6 hg2).trans ((hc2 _ _ hg1).trans e6)
  have q7 := ((bcell hb3).1 _ 7 hg2).trans ((hc2 _ _ hg1).trans e7)
  have hs3 := hb3.size
  have HB3 := hid (below_call (w := w) HB2.out hb3)
  clear hb3 HB2 hc2 hf2 e0 e1 e2 e3 e4 e5 e6 e7
  have heq : ∀ W, (binOp .eql 113 (.agg #[.int .i64 0, .bool true]) (.agg #[.int .i64 0, .bool true])).run Try.prog W = .ok (.bool true) W := fun W => by kernel_rfl
  go_wp2_with (first | (go_at_call 53; (with_reducible refine (fair_calls _).mono ?_); rintro e w4 ⟨A4, c4, rfl, hb4⟩; have HB4 := hid (below_call (w := w) HB3.out hb4); clear hb4))
  all_goals ((try first | go_ret | go_ret2 | go_ret3); try go_simp)
  all_goals exact ⟨rfl, HB4.out⟩
end Go.Proofs.Ytcadbfggaipnhaa
