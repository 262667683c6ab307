/- outriderref15.Tasks over pipelines. -/
import Derived.Test.YtcadbfggaipnhaaR1
namespace Go.Proofs.Ytcadbfggaipnhaa
open Go.RowKit
set_option linter.unusedSimpArgs false
set_option linter.unusedVariables false

theorem own_slice {w : World} {base : Nat} {e : TypeId} {size n : Nat} {v : Value} {xs : List Value} (h : w.ownsRow base e size v n xs) : ∃ A c, v = .slice A n c := by
  rcases h.2 with ⟨rfl, h0⟩ | ⟨g, cap, cur, rfl, _⟩
  · have hl := h.1
    rcases Nat.eq_zero_or_pos n with rfl | hp
    · exact ⟨none, 0, rfl⟩
    · simp_all
  · exact ⟨_, _, rfl⟩
theorem pipe_ok {m s : Nat} (hs : 1 ≤ s) (hs6 : s ≤ 6) (h : m * s ≤ 200) : countN 2 0 0 0 m s = (((m * s : Nat) : Int), 0) := by
  unfold countN
  rw [if_neg (by omega), if_pos rfl, if_neg (by simp), if_neg (by omega), if_neg]
  · simp
  · intro h2
    have h3 := (Int.ediv_lt_iff_lt_mul (a := 200) (b := (m : Int)) (c := (s : Int)) (by omega)).1 h2
    have : ((m * s : Nat) : Int) = (m : Int) * s := by simp
    omega
theorem pipe_many {m s : Nat} (hs : 1 ≤ s) (hs6 : s ≤ 6) (h : 200 < m * s) : countN 2 0 0 0 m s = (0, 151) := by
  unfold countN
  rw [if_neg (by omega), if_pos rfl, if_neg (by simp), if_neg (by omega), if_pos]
  refine (Int.ediv_lt_iff_lt_mul (a := 200) (b := (m : Int)) (c := (s : Int)) (by omega)).2 ?_
  have : ((m * s : Nat) : Int) = (m : Int) * s := by simp
  omega
theorem task_pipe {s i k : Nat} (hk : k < s) : taskAt 2 0 0 s (i * s + k) = ((i : Int), (k : Int)) := by
  unfold taskAt
  rw [if_pos rfl]
  have h1 : (i * s + k) / s = i := by rw [Nat.add_comm, Nat.add_mul_div_right _ _ (by omega), Nat.div_eq_of_lt hk]; omega
  have h2 : (i * s + k) % s = k := by rw [Nat.add_comm, Nat.add_mul_mod_self_right]; exact Nat.mod_eq_of_lt hk
  have h3 : (((i * s + k : Nat) : Int)) / (s : Int) = (((i * s + k) / s : Nat) : Int) := rfl
  have h4 : (((i * s + k : Nat) : Int)) % (s : Int) = (((i * s + k) % s : Nat) : Int) := rfl
  rw [h3, h4, h1, h2]
set_option maxRecDepth 100000 in
set_option maxHeartbeats 1000000 in
theorem tasks_pipe (m s : Nat) (w : World) (hm : (m : Int) ≤ 9223372036854775807) (hs : 1 ≤ s) (hs6 : s ≤ 6) :
    Calls Try.prog 46 #[.agg #[.int .i64 2, .int .i64 0, .int .i64 0, .int .i64 0, .int .i64 m, .int .i64 s]] w (TasksPost 2 0 0 0 m s w) := by
  obtain ⟨i1, hi1, hz1⟩ := Option.map_eq_some_iff.1 info_pair
  simp only [Prod.mk.injEq] at hz1
  obtain ⟨hz10, hz11, hz12⟩ := hz1
  have hd6 : decide ((s : Int) ≤ 6) = true := by simp; omega
  have hd1 : decide ((1 : Int) ≤ (s : Int)) = true := by simp; omega
  go_enter Try.func46, Try.ntmps46
  go_wp2_with (first | fail)
  (repeat' (go_quiet (fail); go_wp2_with (first | fail)))
  go_loopw [2, 3, 4, 7, 8] (fun v2 v3 v4 v7 v8 wr => ∃ (i N : Nat) (A : Option Addr) (c : Nat), v7 = .int .i64 i ∧ v2 = .slice none 0 0 ∧ v3 = .int .i64 0 ∧ v4 = .slice A N c ∧ i ≤ m ∧ N ≤ 200 ∧ Hid (N = i * s) ∧ Hid (Below w.heap.size w wr) ∧ Hid (wr.heap[w.heap.size]? = some (.cells #[.int .i64 2, .int .i64 0, .int .i64 0, .int .i64 0, .int .i64 m, .int .i64 s] 26 (0, 0))) ∧ Hid (wr.ownsRow w.heap.size 192 2 (.slice A N c) N (pairsV (tasksN 2 0 0 s N)))) (fun _ _ _ v7 _ _ => m - (intOf v7).toNat)
  case atStart => exact ⟨0, 0, none, 0, rfl, rfl, rfl, rfl, by omega, by omega, hid (by simp), hid (by repeat (first | exact Below.refl _ _ | exact HB.out | (refine Below.setCell ?_ (by simp) _) | apply below_alloc' | apply Below.drew | apply below_drewN')), hid (blk_new w _), hid (World.ownsRow_nil _ _ _ 2)⟩
  case round =>
    obtain ⟨i, N, A, c, rfl, rfl, rfl, rfl, hi, hN, HN, HB, HX, HO⟩ := hrel
    obtain ⟨hcw, hfw⟩ := bcell HB.out
    have hsz := HB.out.size
    have hgl := blk_lt HX.out
    have hx4 := blk_cell HX.out 4
    simp at hx4
    by_cases hlt : i < m
    · go_wp2_with fail
      obtain ⟨wo, rfl⟩ : ∃ wo : World, wo = wr := ⟨_, rfl⟩
      go_loopw [4, 8] (fun v4 v8 wr => ∃ (k N' : Nat) (A : Option Addr) (c : Nat), v8 = .int .i64 k ∧ v4 = .slice A N' c ∧ k ≤ s ∧ N' ≤ 206 ∧ Hid (N' = i * s + k) ∧ Hid (Below w.heap.size w wr) ∧ Hid (wr.heap[w.heap.size]? = some (.cells #[.int .i64 2, .int .i64 0, .int .i64 0, .int .i64 0, .int .i64 m, .int .i64 s] 26 (0, 0))) ∧ Hid (wr.ownsRow w.heap.size 192 2 (.slice A N' c) N' (pairsV (tasksN 2 0 0 s N')))) (fun _ v8 _ => s - (intOf v8).toNat)
      case atStart => exact ⟨0, N, A, c, rfl, rfl, by omega, by omega, hid (by rw [HN.out]; rfl), HB, HX, HO⟩
      case round =>
        obtain ⟨k, N', A', c', rfl, rfl, hk, hN', HN', HB', HX', HO'⟩ := hrel
        clear hx4 hgl hsz hcw hfw
        have hsz := HB'.out.size
        have hgl := blk_lt HX'.out
        have hx4 := blk_cell HX'.out 4
        have hx5 := blk_cell HX'.out 5
        simp at hx4 hx5
        by_cases hks : k < s
        · have HS := hid (tasksN_succ 2 0 0 s N')
          have HT : Hid (pairC (taskAt 2 0 0 s N') = [.int .i64 i, .int .i64 k]) := (show pairC (taskAt 2 0 0 s N') = _ by rw [HN'.out, task_pipe hks]; rfl)
          have hN6 : N' ≤ 205 := by have := HN'.out; have := HN.out; omega
          go_wp2_with (first | (at_builtin; refine wpList_append_lies _ rfl (.tmp 124) (.tmp 128) 102 rfl (w.heap.size) 192 i1 (.agg #[.int .i64 0, .int .i64 0]) 2 16 Try.underlying102 hi1 hz10 hz11 hz12 rfl (by decide) (.slice A' N' c') (N') (pairsV (tasksN 2 0 0 s N')) rfl ?_ ⟨_, 0, none⟩ 1 1 [.int .i64 i, .int .i64 k] rfl rfl ?_ ?_ (by decide) ?_ ?_ ?_ _ rfl ?_; (· exact (by repeat (with_reducible first | exact HO'.out | apply World.ownsRow.alloc | apply own_drew | apply own_drewN))); (· exact World.news_of_block (cs := #[.int .i64 i, .int .i64 k]) (t := 192) (fr := (0, 0)) (blk_new' (by simp))); (· simp [Value.oneCell']); (· (simp only [maxLen]; omega)); (· omega); (· first | (simp; done) | (simp; omega)); intro g1 cap1 w1 hown1 hgr1 hat1 hlt1; have Hown1 := hid hown1; have HX1 := hid (blk_grown hgr1 (by repeat (with_reducible first | exact HX'.out | apply blk_alloc | apply blk_drew | apply blk_drewN)) (own_ne (by repeat (with_reducible first | exact HO'.out | apply World.ownsRow.alloc | apply own_drew | apply own_drewN)) (by repeat (with_reducible first | exact HX'.out | apply blk_alloc | apply blk_drew | apply blk_drewN)) (by decide))); have HB1 := hid (Below.grown (a := w) (B := w.heap.size) (by repeat (first | exact Below.refl _ _ | exact HB'.out | apply below_alloc' | apply Below.drew | apply below_drewN')) hgr1 (by first | (simp; done) | (simp; omega) | omega) (fun k e => (HO'.out.lt k e).1)); have hsz1 := hgr1.size; simp at hsz1; clear hgr1 hown1 hat1))
          go_roundw
          case rel => exact ⟨k + 1, N' + 1, _, _, by go_num, rfl, by omega, by omega, hid (by rw [HN'.out]; omega), HB1, HX1, hid (by rw [HS.out, HT.out]; exact Hown1.out)⟩
          case measure => simp [intOf]; omega
        · have hkk : k = s := by omega
          subst hkk
          have HE : Hid (N' = (i + 1) * k) := (show N' = (i + 1) * k by rw [HN'.out, Nat.add_mul]; omega)
          have HM : Hid (200 < N' → 200 < m * k) := (fun h => by
            have := Nat.mul_le_mul_right k (show i + 1 ≤ m by omega)
            have := HE.out
            omega)
          go_wp2_with fail
          all_goals first
            | (have hm2 : (200 : Int) < (N' : Int) := by assumption
               ((try first | go_ret | go_ret2 | go_ret3); try go_simp)
               exact tasks_bad (pipe_many hs hs6 (HM.out (by omega))) (by omega) HB'.out)
            | (go_roundw
               case rel => exact ⟨i + 1, N', A', c', by go_num, rfl, rfl, rfl, by omega, by omega, HE, HB', HX', HO'⟩
               case measure => simp [intOf]; omega)
    · have him : i = m := by omega
      subst him
      have HE : Hid (countN 2 0 0 0 i s = ((N : Int), 0)) := (show countN 2 0 0 0 i s = ((N : Int), 0) by rw [HN.out]; exact pipe_ok hs hs6 (by have := HN.out; omega))
      go_wp2_with fail
      all_goals ((try first | go_ret | go_ret2 | go_ret3); try go_simp)
      all_goals exact tasks_ok HE.out HB.out HO.out
theorem tasks_calls (kd lo hi st it sg : Int) (w : World) (hl : I64 lo) (hh : I64 hi) (hs : I64 st) (hi1 : I64 it) (hg1 : I64 sg) :
    Calls Try.prog 46 #[.agg #[.int .i64 kd, .int .i64 lo, .int .i64 hi, .int .i64 st, .int .i64 it, .int .i64 sg]] w (TasksPost kd lo hi st it sg w) := by
  by_cases h1 : kd = 1 ∧ it = 0 ∧ sg = 0
  · obtain ⟨rfl, rfl, rfl⟩ := h1
    rcases Int.lt_trichotomy st 0 with h | rfl | h
    · exact tasks_down lo hi st w hl hh hs h
    · exact tasks_150 lo hi w
    · exact tasks_up lo hi st w hl hh hs h
  by_cases h2 : kd = 2 ∧ lo = 0 ∧ hi = 0 ∧ st = 0 ∧ 0 ≤ it ∧ 1 ≤ sg ∧ sg ≤ 6
  · obtain ⟨rfl, rfl, rfl, rfl, a1, a2, a3⟩ := h2
    obtain ⟨m, rfl⟩ := Int.eq_ofNat_of_zero_le a1
    obtain ⟨s, rfl⟩ := Int.eq_ofNat_of_zero_le (show 0 ≤ sg by omega)
    exact tasks_pipe m s w hi1.2 (by omega) (by omega)
  · exact tasks_152 kd lo hi st it sg w h1 h2
end Go.Proofs.Ytcadbfggaipnhaa
