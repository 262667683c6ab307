/- red.New: a heap into which nothing went. -/
import Derived.Test.YtcadbfggaipnhaaC7
import Derived.Deep.AppendLies
import Derived.Deep.RegionLaw
import Derived.Deep.DeepCutAuto
import Derived.KernelRfl
import Derived.Deep.DeepMust
namespace Go.Proofs.Ytcadbfggaipnhaa
open Go.RowKit
set_option linter.unusedSimpArgs false
set_option linter.unusedVariables false

/-- a heap at block g: all its blocks are B or above -/
def IsHeap (w : World) (B g : Nat) (ops now : List Int) (many : Int) : Prop :=
  ∃ vo vn, w.heap[g]? = some (.cells #[vo, vn, .int .i64 many] 281 (0, 0)) ∧ B ≤ g ∧ w.ownsRow B 174 1 vo ops.length (vals ops) ∧ w.ownsRow B 2 1 vn now.length (vals now)
/-- red.New's error -/
def redErr (reds : List (Int × Int)) : Int := if 4 < reds.length then 171 else if reds.any (fun r => !redRight r.1) then 140 else 0
def RedNew (reds : List (Int × Int)) (w : World) (e : Ending) (w' : World) : Prop :=
  Below w.heap.size w w' ∧ (redErr reds = 0 → ∃ g, e = .returned (.tuple #[.pointer (some ⟨g, 0, none⟩), .int .i64 0]) ∧ IsHeap w' w.heap.size g (reds.map (·.1)) (reds.map fun r => redZero r.1) 0) ∧
  (redErr reds ≠ 0 → e = .returned (.tuple #[.pointer none, .int .i64 (redErr reds)]))
theorem info_op : (Try.prog.info? 174).map (fun i => (i.zero, i.size, i.bytes)) = some (some (.int .i64 0), 1, 8) := by kernel_rfl
theorem info_i64 : (Try.prog.info? 2).map (fun i => (i.zero, i.size, i.bytes)) = some (some (.int .i64 0), 1, 8) := by kernel_rfl

set_option maxRecDepth 100000 in
set_option maxHeartbeats 1000000 in
theorem redNew_calls (A : Option Addr) (c : Nat) (reds : List (Int × Int)) (w : World) (B : Nat) (hB0 : B ≤ w.heap.size) (hr : Row w B A 2 reds.length (fun k => pairC (nth reds k))) (hm : reds.length ≤ 9223372036854775807) :
    Calls Try.prog 93 #[.slice A reds.length c] w (RedNew reds w) := by
  by_cases h1 : 4 < reds.length
  · have H := hid (show redErr reds = 171 by unfold redErr; rw [if_pos h1])
    clear hr
    go_enter Try.func93, Try.ntmps93
    go_wp2_with (first | fail)
    (repeat' (go_quiet (fail); go_wp2_with (first | fail)))
    all_goals ((try first | go_ret | go_ret2 | go_ret3); try go_simp)
    all_goals exact ⟨(by repeat (first | exact Below.refl _ _ | exact HB.out | (refine Below.setCell ?_ (by simp) _) | apply below_alloc' | apply Below.drew | apply below_drewN')), fun h => by rw [H.out] at h; simp at h, fun _ => by rw [H.out]⟩
  have hr' := hid hr
  generalize hn : reds.length = n at *
  have HN := hid hn
  clear hn hr
  go_enter Try.func93, Try.ntmps93
  go_wp2_with (first | fail)
  (repeat' (go_quiet (fail); go_wp2_with (first | fail)))
  obtain ⟨i1, hi1, hz1⟩ := Option.map_eq_some_iff.1 info_op
  obtain ⟨i2, hi2, hz2⟩ := Option.map_eq_some_iff.1 info_i64
  simp only [Prod.mk.injEq] at hz1 hz2
  obtain ⟨hz10, hz11, hz12⟩ := hz1
  obtain ⟨hz20, hz21, hz22⟩ := hz2
  go_loopw [2, 3, 14] (fun v2 v3 v14 wr => ∃ k : Nat, k ≤ n ∧ v14 = .int .i64 k ∧ v2 = .pointer none ∧ v3 = .int .i64 0 ∧ Hid (Below w.heap.size w wr) ∧ Hid (IsHeap wr w.heap.size w.heap.size ((reds.take k).map (·.1)) ((reds.take k).map fun r => redZero r.1) 0) ∧ Hid (∀ j, j < k → redRight (nth reds j).1 = true)) (fun _ _ v14 _ => n - (intOf v14).toNat)
  case atStart => exact ⟨0, by omega, rfl, rfl, rfl, (by repeat (first | exact Below.refl _ _ | exact HB.out | apply below_alloc' | apply Below.drew | apply below_drewN')), ⟨.slice none 0 0, .slice none 0 0, by simpa using blk_new w _, Nat.le_refl _, by simpa [vals] using World.ownsRow_nil _ _ _ 1, by simpa [vals] using World.ownsRow_nil _ _ _ 1⟩, fun j hj => by omega⟩
  case round =>
    obtain ⟨k, hk, rfl, rfl, rfl, HB, HH, HP⟩ := hrel
    by_cases hlt : k < n
    · obtain ⟨b, off, rfl, hb, hc⟩ := hr'.out.open_ (by omega)
      obtain ⟨c0, c1⟩ := pair_cells hc k hlt
      obtain ⟨hcw, hfw⟩ := bcell HB.out
      have hbw : b < w.heap.size := by omega
      have hsz := HB.out.size
      obtain ⟨vo, vn, hg, hgB, ho, hv⟩ := HH.out
      have hlo : ((reds.take k).map (·.1)).length = k := by have := HN.out; simp; omega
      have hlv : ((reds.take k).map fun r => redZero r.1).length = k := by have := HN.out; simp; omega
      rw [hlo] at ho
      rw [hlv] at hv
      have hglt := blk_lt hg
      cases hR : redRight (nth reds k).1
      · have HRt := hid hR
        have He := hid (show redErr reds = 140 by
          have := HN.out
          unfold redErr; rw [if_neg (by omega), if_pos]
          rw [List.any_eq_true]
          exact ⟨reds[k], List.getElem_mem _, by rw [← nth_eq (by omega), HRt.out]; rfl⟩)
        clear hR ho hv hg hc hlo hlv
        go_wp2_with (first | (go_at_call 130; (with_reducible refine (right_is _ _ _ HRt.out).mono ?_); rintro e w' ⟨rfl, rfl⟩))
        all_goals ((try first | go_ret | go_ret2 | go_ret3); try go_simp)
        all_goals exact ⟨(by repeat (first | exact Below.refl _ _ | exact HB.out | (refine Below.setCell ?_ (by simp) _) | apply below_alloc' | apply Below.drew | apply below_drewN')), fun h => by rw [He.out] at h; simp at h, fun _ => by rw [He.out]⟩
      · have HRt := hid hR
        have Hho := hid ho
        have Hhv := hid hv
        have Hg := hid hg
        clear hR ho hv hg hc hlo hlv
        have HE1 := hid (show vals ((reds.take (k + 1)).map (·.1)) = vals ((reds.take k).map (·.1)) ++ [.int .i64 (nth reds k).1] by rw [take_nth (by have := HN.out; omega)]; simp [vals])
        have HE2 := hid (show vals ((reds.take (k + 1)).map fun r => redZero r.1) = vals ((reds.take k).map fun r => redZero r.1) ++ [.int .i64 (redZero (nth reds k).1)] by rw [take_nth (by have := HN.out; omega)]; simp [vals])
        go_upto_region 9 with (first | (go_at_call 130; (with_reducible refine (right_is _ _ _ HRt.out).mono ?_); rintro e w' ⟨rfl, rfl⟩))
        have Hg1 := hid (blk_drew (blk_alloc Hg.out (.cells #[.int .i64 (nth reds k).1, .int .i64 (nth reds k).2] 176)))
        have hca := blk_cell Hg1.out 0
        have hcb := blk_cell Hg1.out 1
        simp at hca hcb
        have Hr := hid (blk_new wr (.cells #[.int .i64 (nth reds k).1, .int .i64 (nth reds k).2] 176))
        go_cut [22] (fun v22 wc => ∃ g1 cap1, Hid (wc.heap[w.heap.size]? = some (.cells #[.slice (some ⟨g1, 0, none⟩) (k + 1) cap1, vn, .int .i64 0] 281 (0, 0))) ∧ Hid (wc.heap[wr.heap.size]? = some (.cells #[.int .i64 (nth reds k).1, .int .i64 (nth reds k).2] 176 (0, 0))) ∧ Hid (wc.ownsRow w.heap.size 174 1 (.slice (some ⟨g1, 0, none⟩) (k + 1) cap1) (k + 1) (vals ((reds.take (k + 1)).map (·.1)))) ∧ Hid (wc.ownsRow w.heap.size 2 1 vn k (vals ((reds.take k).map fun r => redZero r.1))) ∧ Hid (Below w.heap.size w wc) ∧ wr.heap.size < wc.heap.size)
        case first =>
          go_region_law (first | (refine step_append_lies _ rfl _ _ 279 rfl (w.heap.size) 174 i1 (.int .i64 0) 1 8 Try.underlying279 hi1 hz10 hz11 hz12 rfl (by decide) (vo) (k) (vals ((reds.take k).map (·.1))) rfl ?_ ⟨_, 0, none⟩ 1 1 [.int .i64 ((nth reds k).1)] rfl rfl ?_ ?_ (by decide) ?_ ?_ ?_ _ rfl ?_; (· exact (by repeat (with_reducible first | exact Hho.out | apply World.ownsRow.alloc | apply own_drew | apply own_drewN))); (· exact World.news_of_block (cs := #[.int .i64 ((nth reds k).1)]) (t := 174) (fr := (0, 0)) (blk_new' (by simp))); (· simp [Value.oneCell']); (· (simp only [maxLen]; omega)); (· omega); (· first | (simp; done) | (simp; omega)); intro g1 cap1 w1 hown1 hgr1 hat1 hlt1; have Hown1 := hid hown1; have Hgr1 := hid hgr1; have Hg2 := hid (blk_grown hgr1 (by repeat (with_reducible first | exact Hg.out | apply blk_alloc | apply blk_drew | apply blk_drewN)) (own_ne (by repeat (with_reducible first | exact Hho.out | apply World.ownsRow.alloc | apply own_drew | apply own_drewN)) (by repeat (with_reducible first | exact Hg.out | apply blk_alloc | apply blk_drew | apply blk_drewN)) (by decide))); have Hr2 := hid (blk_grown hgr1 (by repeat (with_reducible first | exact Hr.out | apply blk_alloc | apply blk_drew | apply blk_drewN)) (own_new_ne Hho.out (Nat.le_refl _))); have Hhv2 := hid (World.ownsRow.kept (by repeat (with_reducible first | exact Hhv.out | apply World.ownsRow.alloc | apply own_drew | apply own_drewN)) hgr1 (own_own_ne (by repeat (with_reducible first | exact Hhv.out | apply World.ownsRow.alloc | apply own_drew | apply own_drewN)) (by repeat (with_reducible first | exact Hho.out | apply World.ownsRow.alloc | apply own_drew | apply own_drewN)) (by decide))); have HB2 := hid (Below.grown (a := w) (B := w.heap.size) (by repeat (first | exact Below.refl _ _ | exact HB.out | apply below_alloc' | apply Below.drew | apply below_drewN')) hgr1 (by first | (simp; done) | (simp; omega) | omega) (fun k e => (Hho.out.lt k e).1)); have hc2 := blk_cell Hg2.out 0; have hf2 := blk_frozen Hg2.out 0; simp at hc2; have hsz1 := hgr1.size; simp at hsz1; have hne1 := own_ne hown1 Hg2.out (by decide); clear hgr1 hown1))
          all_goals ((try go_wp2_with fail); go_meet; exact ⟨g1, cap1, blk_set Hg2.out 0 _, blk_far Hr2.out (by simp; omega) _, by rw [HE1.out]; exact own_far Hown1.out hne1 _, own_far Hhv2.out (own_ne Hhv2.out Hg2.out (by decide)) _, Below.setCell HB2.out (by simp) _, by simp [World.setCell]; omega⟩)
        case rest =>
          obtain ⟨g1, cap1, Hg2, Hr2, Ho2, Hv2, HB2, hsz2⟩ := hcut
          have hc2 := blk_cell Hg2.out 1
          have hc3 := blk_cell Hr2.out 0
          have hf2 := blk_frozen Hg2.out 1
          have hgl2 := blk_lt Hg2.out
          simp at hc2 hc3
          have Hl1 := hid (show ((reds.take (k + 1)).map (·.1)).length = k + 1 by have := HN.out; simp; omega)
          have Hl2 := hid (show ((reds.take (k + 1)).map fun r => redZero r.1).length = k + 1 by have := HN.out; simp; omega)
          go_upto_region 10 with fail
          go_region_law (first | (go_simp; (go_at_call 131; (with_reducible refine (zero_calls _ _).mono ?_); rintro e w' ⟨rfl, rfl⟩)) | (refine step_append_lies _ rfl _ _ 62 rfl (w.heap.size) 2 i2 (.int .i64 0) 1 8 Try.underlying62 hi2 hz20 hz21 hz22 rfl (by decide) (vn) (k) (vals ((reds.take k).map fun r => redZero r.1)) rfl ?_ ⟨_, 0, none⟩ 1 1 [.int .i64 (redZero (nth reds k).1)] rfl rfl ?_ ?_ (by decide) ?_ ?_ ?_ _ rfl ?_; (· exact (by repeat (with_reducible first | exact Hv2.out | apply World.ownsRow.alloc | apply own_drew | apply own_drewN))); (· exact World.news_of_block (cs := #[.int .i64 (redZero (nth reds k).1)]) (t := 2) (fr := (0, 0)) (blk_new' (by simp))); (· simp [Value.oneCell']); (· (simp only [maxLen]; omega)); (· omega); (· first | (simp; done) | (simp; omega)); intro g1 cap1 w1 hown1 hgr1 hat1 hlt1; have Hown1 := hid hown1; have Hg3 := hid (blk_grown hgr1 (by repeat (with_reducible first | exact Hg2.out | apply blk_alloc | apply blk_drew | apply blk_drewN)) (own_ne (by repeat (with_reducible first | exact Hv2.out | apply World.ownsRow.alloc | apply own_drew | apply own_drewN)) (by repeat (with_reducible first | exact Hg2.out | apply blk_alloc | apply blk_drew | apply blk_drewN)) (by decide))); have Ho3 := hid (World.ownsRow.kept (by repeat (with_reducible first | exact Ho2.out | apply World.ownsRow.alloc | apply own_drew | apply own_drewN)) hgr1 (own_own_ne (by repeat (with_reducible first | exact Ho2.out | apply World.ownsRow.alloc | apply own_drew | apply own_drewN)) (by repeat (with_reducible first | exact Hv2.out | apply World.ownsRow.alloc | apply own_drew | apply own_drewN)) (by decide))); have HB3 := hid (Below.grown (a := w) (B := w.heap.size) (by repeat (first | exact Below.refl _ _ | exact HB2.out | apply below_alloc' | apply Below.drew | apply below_drewN')) hgr1 (by first | (simp; done) | (simp; omega) | omega) (fun k e => (Hv2.out.lt k e).1)); have hc4 := blk_cell Hg3.out 1; have hf4 := blk_frozen Hg3.out 1; simp at hc4; have hsz1 := hgr1.size; simp at hsz1; have hne1 := own_ne hown1 Hg3.out (by decide); clear hgr1 hown1))
          all_goals (try go_wp2_with fail)
          all_goals
            go_roundw
            case rel => exact ⟨k + 1, by omega, by go_num, rfl, rfl, Below.setCell HB3.out (by simp) _, ⟨_, _, blk_set Hg3.out 1 _, Nat.le_refl _, by rw [Hl1.out]; exact own_far Ho3.out (own_ne Ho3.out Hg3.out (by decide)) _, by rw [Hl2.out, HE2.out]; exact own_far Hown1.out hne1 _⟩, fun j hj => (by rcases Nat.lt_or_ge j k with h | h; exact HP.out j h; obtain rfl : j = k := (by omega); exact HRt.out)⟩
            case measure => simp [intOf]; omega
    · have hkn : k = n := by omega
      subst hkn
      have He := hid (show redErr reds = 0 by
        have hN := HN.out
        unfold redErr; rw [if_neg (by omega), if_neg]
        rw [List.any_eq_true]
        rintro ⟨x, hx, hxr⟩
        obtain ⟨j, hj, rfl⟩ := List.getElem_of_mem hx
        have := HP.out j (by omega)
        rw [nth_eq hj] at this
        rw [this] at hxr
        cases hxr)
      have Ht := hid (show reds.take k = reds by rw [List.take_of_length_le (by have := HN.out; omega)])
      go_wp2_with fail
      all_goals ((try first | go_ret | go_ret2 | go_ret3); try go_simp)
      all_goals exact ⟨HB.out, fun _ => ⟨_, rfl, by have := HH.out; rw [Ht.out] at this; exact this⟩, fun h => absurd He.out h⟩
end Go.Proofs.Ytcadbfggaipnhaa
