/- mem.Of: a memory of so many words. -/
import Derived.Test.YtcadbfggaipnhaaC7
import Derived.Laws.MakeOwn
import Derived.KernelRfl
import Derived.Deep.DeepCutAuto
namespace Go.Proofs.Ytcadbfggaipnhaa
open Go.RowKit
set_option linter.unusedSimpArgs false
set_option linter.unusedVariables false

def bools (l : List Bool) : List Value := l.map .bool
/-- the cells laid down, one behind the other -/
def memGo (words : Int) : List (Int × Int) → List Bool → List Int → List Int × Int
  | [], _, o => (o, 0)
  | c :: cs, t, o => if c.1 < 0 ∨ words ≤ c.1 then ([], 131) else if nth t c.1.toNat then ([], 61) else memGo words cs (t.set c.1.toNat true) (o.set c.1.toNat c.2)
def memOf (words : Int) (cells : List (Int × Int)) : List Int × Int :=
  if words < 1 ∨ 64 < words then ([], 130) else memGo words cells (List.replicate 64 false) (List.replicate words.toNat 0)
/-- a slice of numbers that fills a block of its own -/
def IsInts (w : World) (B : Nat) (v : Value) (l : List Int) : Prop :=
  ∃ g, v = .slice (some ⟨g, 0, none⟩) l.length l.length ∧ B ≤ g ∧ w.heap[g]? = some (.cells (vals l).toArray 2 (0, 0))
def MemOf (words : Int) (cells : List (Int × Int)) (w : World) (e : Ending) (w' : World) : Prop :=
  Below w.heap.size w w' ∧ ((memOf words cells).2 = 0 → ∃ v, e = .returned (.tuple #[v, .int .i64 0]) ∧ IsInts w' w.heap.size v (memOf words cells).1) ∧
  ((memOf words cells).2 ≠ 0 → e = .returned (.tuple #[.slice none 0 0, .int .i64 (memOf words cells).2]))
theorem made_vals (m : Nat) : madeCells #[.int .i64 0] m = (vals (List.replicate m 0)).toArray := by
  apply Array.ext
  · simp [size_madeCells, vals]
  · intro i h1 h2
    simp [madeCells, vals, Nat.mod_one]
theorem info_i64' : (Try.prog.info? 2).map (fun i => (i.zero, i.size, i.bytes)) = some (some (.int .i64 0), 1, 8) := by kernel_rfl
theorem make_ints (m : Nat) (hm : m ≤ 64) (w : World) : (Instr.makeSlice 62 (.int .i64 (m : Int)) (.int .i64 (m : Int))).run Try.prog w = .ok (.slice (some ⟨w.heap.size, 0, none⟩) m m) (w.alloc (.cells (vals (List.replicate m 0)).toArray 2)) := by
  obtain ⟨i, hi, hz⟩ := Option.map_eq_some_iff.1 info_i64'
  simp only [Prod.mk.injEq] at hz
  obtain ⟨hz0, hz1, hz2⟩ := hz
  have h := run_make (P := Try.prog) w 62 2 i (.int .i64 0) Try.underlying62 hi hz0 .i64 .i64 (m : Int) (m : Int) (by omega) (by omega) (by rw [hz2]; omega) (by omega)
  simp only [Int.toNat_natCast, hz1, Nat.mul_one] at h
  rw [h]
  simp only [Value.cells, made_vals]
theorem drop_nth {α : Type} [Inhabited α] {l : List α} {k : Nat} (h : k < l.length) : l.drop k = nth l k :: l.drop (k + 1) := by
  rw [nth_eq h, List.drop_eq_getElem_cons h]
theorem vals_at {l : List Int} {k : Nat} (h : k < l.length) : (vals l).toArray[k]? = some (.int .i64 (nth l k)) := by simp [vals, h, nth_eq h]
theorem bools_at {l : List Bool} {k : Nat} (h : k < l.length) : (bools l).toArray[k]? = some (.bool (nth l k)) := by simp [bools, h, nth_eq h]
theorem vals_set (l : List Int) (k : Nat) (x : Int) : (vals l).toArray.setIfInBounds k (.int .i64 x) = (vals (l.set k x)).toArray := by simp [vals, List.map_set]
theorem bools_set (l : List Bool) (k : Nat) (x : Bool) : (bools l).toArray.setIfInBounds k (.bool x) = (bools (l.set k x)).toArray := by simp [bools, List.map_set]
set_option maxRecDepth 100000 in
set_option maxHeartbeats 1000000 in
theorem memOf_calls (words : Int) (A : Option Addr) (c : Nat) (cells : List (Int × Int)) (w : World) (B : Nat) (hB0 : B ≤ w.heap.size) (hr : Row w B A 2 cells.length (fun k => pairC (nth cells k))) (hm : cells.length ≤ 9223372036854775807) :
    Calls Try.prog 84 #[.int .i64 words, .slice A cells.length c] w (MemOf words cells w) := by
  by_cases hw : words < 1 ∨ 64 < words
  · have H := hid (show memOf words cells = ([], 130) by unfold memOf; rw [if_pos hw])
    rcases hw with hw | hw
    all_goals
      clear hr
      go_enter Try.func84, Try.ntmps84
      go_wp2_with (first | fail)
      (repeat' (go_quiet (fail); go_wp2_with (first | fail)))
      all_goals ((try first | go_ret | go_ret2 | go_ret3); try go_simp)
      all_goals exact ⟨(by repeat (first | exact Below.refl _ _ | exact HB.out | (refine Below.setCell ?_ (by simp) _) | apply below_alloc' | apply Below.drew | apply below_drewN')), fun h => by rw [H.out] at h; simp at h, fun _ => by rw [H.out]⟩
  obtain ⟨m, rfl⟩ := Int.eq_ofNat_of_zero_le (show 0 ≤ words by omega)
  have hmk := make_ints m (by omega)
  have hm1 : 1 ≤ (m : Int) := by omega
  have hm2 : (m : Int) ≤ 64 := by omega
  have HM := hid (show memOf m cells = memGo m cells (List.replicate 64 false) (List.replicate m 0) by unfold memOf; rw [if_neg hw]; simp)
  have hr' := hid hr
  generalize hn : cells.length = n at *
  have HN := hid hn
  clear hn hr hw
  go_enter Try.func84, Try.ntmps84
  go_wp2_with (first | fail)
  (repeat' (go_quiet (fail); go_wp2_with (first | fail)))
  go_loopw [4, 5, 20] (fun v4 v5 v20 wr => ∃ (k : Nat) (t : List Bool) (o : List Int), k ≤ n ∧ v20 = .int .i64 k ∧ v4 = .slice none 0 0 ∧ v5 = .int .i64 0 ∧ Hid (Below w.heap.size w wr) ∧ Hid (wr.heap[w.heap.size]? = some (.cells (vals o).toArray 2 (0, 0))) ∧ Hid (wr.heap[w.heap.size + 1]? = some (.cells (bools t).toArray 251 (0, 0))) ∧ Hid (t.length = 64) ∧ Hid (o.length = m) ∧ Hid (memGo m (cells.drop k) t o = memOf m cells)) (fun _ _ v20 _ => n - (intOf v20).toNat)
  case atStart => exact ⟨0, List.replicate 64 false, List.replicate m 0, by omega, rfl, rfl, rfl, (by repeat (first | exact Below.refl _ _ | exact HB.out | (refine Below.setCell ?_ (by simp) _) | apply below_alloc' | apply Below.drew | apply below_drewN')), blk_alloc (blk_new w _) _, blk_new' (by simp), by simp [Hid], by simp [Hid], by rw [HM.out]; rfl⟩
  case round =>
    obtain ⟨k, t, o, hk, rfl, rfl, rfl, HB, Ho, Ht, Hlt, Hlo, HG⟩ := hrel
    obtain ⟨hcw, hfw⟩ := bcell HB.out
    have hsz := HB.out.size
    have hl1 := blk_lt Ho.out
    have hl2 := blk_lt Ht.out
    by_cases hlt : k < n
    · obtain ⟨b, off, rfl, hb, hc⟩ := hr'.out.open_ (by omega)
      obtain ⟨c0, c1⟩ := pair_cells hc k hlt
      have hbw : b < w.heap.size := by omega
      have hG := HG.out
      rw [drop_nth (by have := HN.out; omega)] at hG
      unfold memGo at hG
      obtain ⟨x, y, hxy⟩ : ∃ x y, nth cells k = (x, y) := ⟨_, _, rfl⟩
      rw [hxy] at c0 c1 hG
      simp only at c0 c1 hG
      clear hc hxy
      by_cases hx : x < 0 ∨ (m : Int) ≤ x
      · rw [if_pos hx] at hG
        have HG2 := hid hG.symm
        clear hG
        rcases hx with hx | hx
        all_goals
          go_wp2_with fail
          all_goals ((try first | go_ret | go_ret2 | go_ret3); try go_simp)
          all_goals exact ⟨(by repeat (first | exact Below.refl _ _ | exact HB.out | (refine Below.setCell ?_ (by simp) _) | apply below_alloc' | apply Below.drew | apply below_drewN')), fun h => by rw [HG2.out] at h; simp at h, fun _ => by rw [HG2.out]⟩
      · rw [if_neg hx] at hG
        obtain ⟨a, rfl⟩ := Int.eq_ofNat_of_zero_le (show 0 ≤ x by omega)
        have hxm : (a : Int) < m := by omega
        have ha : a < t.length := by have := Hlt.out; omega
        have hao : a < o.length := by have := Hlo.out; omega
        have ha64 : a < 64 := by omega
        have ham : a < m := by omega
        have ht0 := (blk_cell Ht.out a).trans (bools_at ha)
        have ho0 := (blk_cell Ho.out a).trans (vals_at hao)
        have hft := blk_frozen Ht.out a
        have hfo := blk_frozen Ho.out a
        clear ha hao hx
        simp only [Int.toNat_natCast] at hG
        cases hv : nth t a
        · rw [hv] at ht0 hG
          rw [if_neg (by simp)] at hG
          have HG2 := hid hG
          clear hG hv
          have Hs1 := hid (show (t.set a true).length = 64 by have := Hlt.out; simpa using this)
          have Hs2 := hid (show (o.set a y).length = m by have := Hlo.out; simpa using this)
          go_wp2_with fail
          go_roundw
          case rel => exact ⟨k + 1, t.set a true, o.set a y, by omega, by go_num, rfl, rfl, (by repeat (first | exact Below.refl _ _ | exact HB.out | (refine Below.setCell ?_ (by simp) _) | apply below_alloc' | apply Below.drew | apply below_drewN')), by rw [← vals_set]; refine blk_alloc (blk_set (blk_far (p := ⟨w.heap.size + 1, a, none⟩) Ho.out ?_ _) a _) _; simp, by rw [← bools_set]; refine blk_alloc (blk_far (p := ⟨w.heap.size, a, none⟩) (blk_set Ht.out a _) ?_ _) _; simp, Hs1, Hs2, HG2⟩
          case measure => simp [intOf]; omega
        · rw [hv] at ht0 hG
          rw [if_pos rfl] at hG
          have HG2 := hid hG.symm
          clear hG hv
          go_wp2_with fail
          all_goals ((try first | go_ret | go_ret2 | go_ret3); try go_simp)
          all_goals exact ⟨(by repeat (first | exact Below.refl _ _ | exact HB.out | (refine Below.setCell ?_ (by simp) _) | apply below_alloc' | apply Below.drew | apply below_drewN')), fun h => by rw [HG2.out] at h; simp at h, fun _ => by rw [HG2.out]⟩
    · have hkn : k = n := by omega
      subst hkn
      have hG := HG.out
      rw [List.drop_of_length_le (by have := HN.out; omega)] at hG
      have HG2 := hid (show memOf m cells = (o, 0) from hG.symm)
      clear hG
      go_wp2_with fail
      all_goals ((try first | go_ret | go_ret2 | go_ret3); try go_simp)
      all_goals exact ⟨HB.out, fun _ => ⟨_, rfl, by rw [HG2.out]; exact ⟨_, by rw [Hlo.out], Nat.le_refl _, Ho.out⟩⟩, fun h => by rw [HG2.out] at h; simp at h⟩
end Go.Proofs.Ytcadbfggaipnhaa
