/- outriderref15.Tasks: the document's tasks are as many as plan.Count says. -/
import Derived.Test.YtcadbfggaipnhaaC8
import Derived.Test.YtcadbfggaipnhaaC10
namespace Go.Proofs.Ytcadbfggaipnhaa
open Go.RowKit
set_option linter.unusedSimpArgs false
set_option linter.unusedVariables false

def pairsV (l : List (Int × Int)) : List Value := l.flatMap pairC
def taskAt (kd lo st sg : Int) (k : Nat) : Int × Int := if kd = 2 then ((k : Int) / sg, (k : Int) % sg) else (lo + k * st, 0)
def tasksN (kd lo st sg : Int) (n : Nat) : List (Int × Int) := (List.range n).map (taskAt kd lo st sg)
def TasksPost (kd lo hi st it sg : Int) (w : World) (e : Ending) (w' : World) : Prop :=
  Below w.heap.size w w' ∧
  ((countN kd lo hi st it sg).2 = 0 → ∃ v n, (countN kd lo hi st it sg).1 = (n : Nat) ∧ e = .returned (.tuple #[v, .int .i64 0]) ∧ w'.ownsRow w.heap.size 192 2 v n (pairsV (tasksN kd lo st sg n))) ∧
  ((countN kd lo hi st it sg).2 ≠ 0 → e = .returned (.tuple #[.slice none 0 0, .int .i64 (countN kd lo hi st it sg).2]))
theorem tasksN_succ (kd lo st sg : Int) (n : Nat) : pairsV (tasksN kd lo st sg (n + 1)) = pairsV (tasksN kd lo st sg n) ++ pairC (taskAt kd lo st sg n) := by
  unfold tasksN pairsV; rw [List.range_succ]; simp
theorem info_pair : (Try.prog.info? 192).map (fun i => (i.zero, i.size, i.bytes)) = some (some (.agg #[.int .i64 0, .int .i64 0]), 2, 16) := by kernel_rfl
theorem tasks_bad {kd lo hi st it sg : Int} {w w' : World} {er : Int} (h : countN kd lo hi st it sg = (0, er)) (he : er ≠ 0) (hb : Below w.heap.size w w') : TasksPost kd lo hi st it sg w (.returned (.tuple #[.slice none 0 0, .int .i64 er])) w' := by
  refine ⟨hb, fun h0 => ?_, fun _ => by rw [h]⟩
  rw [h] at h0; exact absurd h0 he
theorem tasks_ok {kd lo hi st it sg : Int} {w w' : World} {v : Value} {n : Nat} (h : countN kd lo hi st it sg = ((n : Int), 0)) (hb : Below w.heap.size w w') (ho : w'.ownsRow w.heap.size 192 2 v n (pairsV (tasksN kd lo st sg n))) : TasksPost kd lo hi st it sg w (.returned (.tuple #[v, .int .i64 0])) w' := by
  refine ⟨hb, fun _ => ⟨v, n, by rw [h], rfl, ho⟩, fun h0 => ?_⟩
  rw [h] at h0; exact absurd rfl h0
theorem count_for (lo hi st : Int) : countN 1 lo hi st 0 0 = loopN lo hi st := by unfold countN; rw [if_pos rfl, if_neg (by simp)]
theorem up_count {lo hi st : Int} {n : Nat} (hs : 0 < st) (h1 : n = 0 ∨ lo + (n - 1) * st < hi) (h2 : hi ≤ lo + n * st) (hn : n ≤ 200) : loopN lo hi st = ((n : Int), 0) := by
  unfold loopN
  rw [if_neg (by omega)]
  by_cases h0 : hi ≤ lo
  · rw [if_pos (.inl ⟨hs, h0⟩)]
    rcases h1 with rfl | h1
    · rfl
    · obtain rfl | h3 : n = 0 ∨ 1 ≤ n := by omega
      · rfl
      · have := Int.mul_nonneg (by omega : (0 : Int) ≤ (n : Int) - 1) (by omega : 0 ≤ st)
        omega
  · rw [if_neg (by omega), if_pos hs]
    have hn0 : 1 ≤ n := by
      rcases Nat.eq_zero_or_pos n with rfl | h
      · simp at h2; omega
      · exact h
    have h1' : lo + ((n : Int) - 1) * st < hi := by rcases h1 with rfl | h1; omega; exact h1
    have e : (n : Int) * st = ((n : Int) - 1) * st + st := by rw [Int.sub_mul]; omega
    have ha : (n : Int) - 1 ≤ (hi - lo - 1) / st := (Int.le_ediv_iff_mul_le hs).2 (by omega)
    have hb : (hi - lo - 1) / st < n := (Int.ediv_lt_iff_lt_mul hs).2 (by omega)
    have : (hi - lo - 1) / st = n - 1 := by omega
    rw [this, if_neg (by omega)]
    simp
theorem up_many {lo hi st : Int} (hs : 0 < st) (h : lo + 200 * st < hi) : loopN lo hi st = (0, 151) := by
  unfold loopN
  rw [if_neg (by omega), if_neg (by omega), if_pos hs]
  have ha : 200 ≤ (hi - lo - 1) / st := (Int.le_ediv_iff_mul_le hs).2 (by omega)
  rw [if_pos (by omega)]
theorem down_eq {lo hi st : Int} (hs : st < 0) : loopN lo hi st = loopN (-lo) (-hi) (-st) := by
  unfold loopN
  rw [if_neg (c := st = 0) (by omega), if_neg (c := -st = 0) (by omega), if_neg (c := 0 < st) (by omega), if_pos (c := 0 < -st) (by omega)]
  have e : -hi - -lo - 1 = lo - hi - 1 := by omega
  rw [e]
  by_cases h : lo ≤ hi
  · rw [if_pos (show (0 < st ∧ hi ≤ lo) ∨ (st < 0 ∧ lo ≤ hi) by omega), if_pos (show (0 < -st ∧ -hi ≤ -lo) ∨ (-st < 0 ∧ -lo ≤ -hi) by omega)]
  · rw [if_neg (show ¬((0 < st ∧ hi ≤ lo) ∨ (st < 0 ∧ lo ≤ hi)) by omega), if_neg (show ¬((0 < -st ∧ -hi ≤ -lo) ∨ (-st < 0 ∧ -lo ≤ -hi)) by omega)]
theorem down_count {lo hi st : Int} {n : Nat} (hs : st < 0) (h1 : n = 0 ∨ hi < lo + (n - 1) * st) (h2 : lo + n * st ≤ hi) (hn : n ≤ 200) : loopN lo hi st = ((n : Int), 0) := by
  rw [down_eq hs]
  refine up_count (by omega) ?_ ?_ hn
  · rcases h1 with h1 | h1
    · exact .inl h1
    · refine .inr ?_
      rw [Int.mul_neg]; omega
  · rw [Int.mul_neg]; omega
theorem down_many {lo hi st : Int} (hs : st < 0) (h : hi < lo + 200 * st) : loopN lo hi st = (0, 151) := by
  rw [down_eq hs]
  exact up_many (by omega) (by omega)
set_option maxRecDepth 100000 in
set_option maxHeartbeats 1000000 in
theorem tasks_up (lo hi st : Int) (w : World) (hl : I64 lo) (hh : I64 hi) (hs' : I64 st) (hs : 0 < st) :
    Calls Try.prog 46 #[.agg #[.int .i64 1, .int .i64 lo, .int .i64 hi, .int .i64 st, .int .i64 0, .int .i64 0]] w (TasksPost 1 lo hi st 0 0 w) := by
  obtain ⟨i1, hi1, hz1⟩ := Option.map_eq_some_iff.1 info_pair
  simp only [Prod.mk.injEq] at hz1
  obtain ⟨hz10, hz11, hz12⟩ := hz1
  obtain ⟨hl1, hl2⟩ := hl
  obtain ⟨hh1, hh2⟩ := hh
  obtain ⟨hs1, hs2⟩ := hs'
  have hs0 : (st == 0) = false := by simp; omega
  have hsn : ¬ st < 0 := by omega
  go_enter Try.func46, Try.ntmps46
  go_wp2_with (first | fail)
  (repeat' (go_quiet (fail); go_wp2_with (first | fail)))
  go_loopw [2, 3, 4, 5, 6] (fun v2 v3 v4 v5 v6 wr => ∃ (n : Nat) (i : Int), v5 = .int .i64 i ∧ v2 = .slice none 0 0 ∧ v3 = .int .i64 0 ∧ n ≤ 200 ∧ lo ≤ i ∧ i ≤ 9223372036854775807 ∧ Hid (i = lo + n * st) ∧ Hid (n = 0 ∨ lo + (n - 1) * st < hi) ∧ Hid (Below w.heap.size w wr) ∧ Hid (wr.heap[w.heap.size]? = some (.cells #[.int .i64 1, .int .i64 lo, .int .i64 hi, .int .i64 st, .int .i64 0, .int .i64 0] 26 (0, 0))) ∧ Hid (wr.ownsRow w.heap.size 192 2 v4 n (pairsV (tasksN 1 lo st 0 n)))) (fun _ _ _ v5 _ _ => (hi - intOf v5).toNat)
  case atStart => exact ⟨0, lo, rfl, rfl, rfl, by omega, by omega, by omega, hid (by simp), hid (.inl rfl), hid (by repeat (first | exact Below.refl _ _ | exact HB.out | (refine Below.setCell ?_ (by simp) _) | apply below_alloc' | apply Below.drew | apply below_drewN')), hid (blk_new w _), hid (World.ownsRow_nil _ _ _ 2)⟩
  case round =>
    obtain ⟨n, i, rfl, rfl, rfl, hn, hi2, hi3, HI, HN, HB, HX, HO⟩ := hrel
    obtain ⟨hcw, hfw⟩ := bcell HB.out
    have hsz := HB.out.size
    have hgl := blk_lt HX.out
    have hx1 := blk_cell HX.out 1
    have hx2 := blk_cell HX.out 2
    have hx3 := blk_cell HX.out 3
    simp at hx1 hx2 hx3
    by_cases hlt : i < hi
    · have HS := hid (tasksN_succ 1 lo st 0 n)
      have HT : Hid (pairC (taskAt 1 lo st 0 n) = [.int .i64 i, .int .i64 0]) := (show pairC (taskAt 1 lo st 0 n) = _ by unfold taskAt; rw [if_neg (by omega), HI.out]; rfl)
      go_wp2_with (first | (at_builtin; refine wpList_append_lies _ rfl (.tmp 47) (.tmp 50) 102 rfl (w.heap.size) 192 i1 (.agg #[.int .i64 0, .int .i64 0]) 2 16 Try.underlying102 hi1 hz10 hz11 hz12 rfl (by decide) (u4) (n) (pairsV (tasksN 1 lo st 0 n)) rfl ?_ ⟨_, 0, none⟩ 1 1 [.int .i64 i, .int .i64 0] rfl rfl ?_ ?_ (by decide) ?_ ?_ ?_ _ rfl ?_; (· exact (by repeat (with_reducible first | exact HO.out | apply World.ownsRow.alloc | apply own_drew | apply own_drewN))); (· exact World.news_of_block (cs := #[.int .i64 i, .int .i64 0]) (t := 192) (fr := (0, 0)) (blk_new' (by simp))); (· simp [Value.oneCell']); (· (simp only [maxLen]; omega)); (· omega); (· first | (simp; done) | (simp; omega)); intro g1 cap1 w1 hown1 hgr1 hat1 hlt1; have Hown1 := hid hown1; have HX1 := hid (blk_grown hgr1 (by repeat (with_reducible first | exact HX.out | apply blk_alloc | apply blk_drew | apply blk_drewN)) (own_ne (by repeat (with_reducible first | exact HO.out | apply World.ownsRow.alloc | apply own_drew | apply own_drewN)) (by repeat (with_reducible first | exact HX.out | apply blk_alloc | apply blk_drew | apply blk_drewN)) (by decide))); have HB1 := hid (Below.grown (a := w) (B := w.heap.size) (by repeat (first | exact Below.refl _ _ | exact HB.out | apply below_alloc' | apply Below.drew | apply below_drewN')) hgr1 (by first | (simp; done) | (simp; omega) | omega) (fun k e => (HO.out.lt k e).1)); have hx3' := blk_cell HX1.out 3; simp at hx3'; have hsz1 := hgr1.size; simp at hsz1; clear hgr1 hown1 hat1))
      all_goals first
        | (have hm : (200 : Int) < (n : Int) + 1 := by assumption
           ((try first | go_ret | go_ret2 | go_ret3); try go_simp)
           exact tasks_bad ((count_for lo hi st).trans (up_many hs (by have := HI.out; obtain rfl : n = 200 := (by omega); omega))) (by omega) HB1.out)
        | (have hw : wrap64 (i + st) < i := by assumption
           ((try first | go_ret | go_ret2 | go_ret3); try go_simp)
           exact tasks_ok (n := n + 1) ((count_for lo hi st).trans (up_count hs (.inr (by have := HI.out; simp; omega)) (by have := HI.out; rw [Int.natCast_add, Int.add_mul]; unfold wrap64 at hw; omega) (by omega))) HB1.out (by rw [HS.out, HT.out]; exact Hown1.out))
        | (have hw : i ≤ wrap64 (i + st) := by assumption
           have e : wrap64 (i + st) = i + st := by unfold wrap64 at hw ⊢; omega
           have e2 : i + st ≤ 9223372036854775807 := by unfold wrap64 at hw; omega
           clear hw
           go_roundw
           case rel => exact ⟨n + 1, i + st, by rw [e], rfl, rfl, by omega, by omega, by omega, hid (by rw [HI.out, Int.natCast_add, Int.add_mul]; omega), hid (.inr (by have := HI.out; simp; omega)), HB1, HX1, hid (by rw [HS.out, HT.out]; exact Hown1.out)⟩
           case measure => simp [intOf]; omega)
    ·
      have HE := hid (up_count hs HN.out (by rw [← HI.out]; omega) hn)
      go_wp2_with fail
      all_goals ((try first | go_ret | go_ret2 | go_ret3); try go_simp)
      all_goals exact tasks_ok ((count_for lo hi st).trans HE.out) HB.out HO.out
set_option maxRecDepth 100000 in
set_option maxHeartbeats 1000000 in
theorem tasks_down (lo hi st : Int) (w : World) (hl : I64 lo) (hh : I64 hi) (hs' : I64 st) (hs : st < 0) :
    Calls Try.prog 46 #[.agg #[.int .i64 1, .int .i64 lo, .int .i64 hi, .int .i64 st, .int .i64 0, .int .i64 0]] w (TasksPost 1 lo hi st 0 0 w) := by
  obtain ⟨i1, hi1, hz1⟩ := Option.map_eq_some_iff.1 info_pair
  simp only [Prod.mk.injEq] at hz1
  obtain ⟨hz10, hz11, hz12⟩ := hz1
  obtain ⟨hl1, hl2⟩ := hl
  obtain ⟨hh1, hh2⟩ := hh
  obtain ⟨hs1, hs2⟩ := hs'
  have hs0 : (st == 0) = false := by simp; omega
  have hsn : ¬ 0 < st := by omega
  go_enter Try.func46, Try.ntmps46
  go_wp2_with (first | fail)
  (repeat' (go_quiet (fail); go_wp2_with (first | fail)))
  go_loopw [2, 3, 4, 5, 6] (fun v2 v3 v4 v5 v6 wr => ∃ (n : Nat) (i : Int), v5 = .int .i64 i ∧ v2 = .slice none 0 0 ∧ v3 = .int .i64 0 ∧ n ≤ 200 ∧ i ≤ lo ∧ -9223372036854775808 ≤ i ∧ Hid (i = lo + n * st) ∧ Hid (n = 0 ∨ hi < lo + (n - 1) * st) ∧ Hid (Below w.heap.size w wr) ∧ Hid (wr.heap[w.heap.size]? = some (.cells #[.int .i64 1, .int .i64 lo, .int .i64 hi, .int .i64 st, .int .i64 0, .int .i64 0] 26 (0, 0))) ∧ Hid (wr.ownsRow w.heap.size 192 2 v4 n (pairsV (tasksN 1 lo st 0 n)))) (fun _ _ _ v5 _ _ => (intOf v5 - hi).toNat)
  case atStart => exact ⟨0, lo, rfl, rfl, rfl, by omega, by omega, by omega, hid (by simp), hid (.inl rfl), hid (by repeat (first | exact Below.refl _ _ | exact HB.out | (refine Below.setCell ?_ (by simp) _) | apply below_alloc' | apply Below.drew | apply below_drewN')), hid (blk_new w _), hid (World.ownsRow_nil _ _ _ 2)⟩
  case round =>
    obtain ⟨n, i, rfl, rfl, rfl, hn, hi2, hi3, HI, HN, HB, HX, HO⟩ := hrel
    obtain ⟨hcw, hfw⟩ := bcell HB.out
    have hsz := HB.out.size
    have hgl := blk_lt HX.out
    have hx1 := blk_cell HX.out 1
    have hx2 := blk_cell HX.out 2
    have hx3 := blk_cell HX.out 3
    simp at hx1 hx2 hx3
    by_cases hlt : hi < i
    · have HS := hid (tasksN_succ 1 lo st 0 n)
      have HT : Hid (pairC (taskAt 1 lo st 0 n) = [.int .i64 i, .int .i64 0]) := (show pairC (taskAt 1 lo st 0 n) = _ by unfold taskAt; rw [if_neg (by omega), HI.out]; rfl)
      go_wp2_with (first | (at_builtin; refine wpList_append_lies _ rfl (.tmp 47) (.tmp 50) 102 rfl (w.heap.size) 192 i1 (.agg #[.int .i64 0, .int .i64 0]) 2 16 Try.underlying102 hi1 hz10 hz11 hz12 rfl (by decide) (u4) (n) (pairsV (tasksN 1 lo st 0 n)) rfl ?_ ⟨_, 0, none⟩ 1 1 [.int .i64 i, .int .i64 0] rfl rfl ?_ ?_ (by decide) ?_ ?_ ?_ _ rfl ?_; (· exact (by repeat (with_reducible first | exact HO.out | apply World.ownsRow.alloc | apply own_drew | apply own_drewN))); (· exact World.news_of_block (cs := #[.int .i64 i, .int .i64 0]) (t := 192) (fr := (0, 0)) (blk_new' (by simp))); (· simp [Value.oneCell']); (· (simp only [maxLen]; omega)); (· omega); (· first | (simp; done) | (simp; omega)); intro g1 cap1 w1 hown1 hgr1 hat1 hlt1; have Hown1 := hid hown1; have HX1 := hid (blk_grown hgr1 (by repeat (with_reducible first | exact HX.out | apply blk_alloc | apply blk_drew | apply blk_drewN)) (own_ne (by repeat (with_reducible first | exact HO.out | apply World.ownsRow.alloc | apply own_drew | apply own_drewN)) (by repeat (with_reducible first | exact HX.out | apply blk_alloc | apply blk_drew | apply blk_drewN)) (by decide))); have HB1 := hid (Below.grown (a := w) (B := w.heap.size) (by repeat (first | exact Below.refl _ _ | exact HB.out | apply below_alloc' | apply Below.drew | apply below_drewN')) hgr1 (by first | (simp; done) | (simp; omega) | omega) (fun k e => (HO.out.lt k e).1)); have hx3' := blk_cell HX1.out 3; simp at hx3'; have hsz1 := hgr1.size; simp at hsz1; clear hgr1 hown1 hat1))
      all_goals first
        | (have hm : (200 : Int) < (n : Int) + 1 := by assumption
           ((try first | go_ret | go_ret2 | go_ret3); try go_simp)
           exact tasks_bad ((count_for lo hi st).trans (down_many hs (by have := HI.out; obtain rfl : n = 200 := (by omega); omega))) (by omega) HB1.out)
        | (have hw : i < wrap64 (i + st) := by assumption
           ((try first | go_ret | go_ret2 | go_ret3); try go_simp)
           exact tasks_ok (n := n + 1) ((count_for lo hi st).trans (down_count hs (.inr (by have := HI.out; simp; omega)) (by have := HI.out; rw [Int.natCast_add, Int.add_mul]; unfold wrap64 at hw; omega) (by omega))) HB1.out (by rw [HS.out, HT.out]; exact Hown1.out))
        | (have hw : wrap64 (i + st) ≤ i := by assumption
           have e : wrap64 (i + st) = i + st := by unfold wrap64 at hw ⊢; omega
           have e2 : -9223372036854775808 ≤ i + st := by unfold wrap64 at hw; omega
           clear hw
           go_roundw
           case rel => exact ⟨n + 1, i + st, by rw [e], rfl, rfl, by omega, by omega, by omega, hid (by rw [HI.out, Int.natCast_add, Int.add_mul]; omega), hid (.inr (by have := HI.out; simp; omega)), HB1, HX1, hid (by rw [HS.out, HT.out]; exact Hown1.out)⟩
           case measure => simp [intOf]; omega)
    ·
      have HE := hid (down_count hs HN.out (by rw [← HI.out]; omega) hn)
      go_wp2_with fail
      all_goals ((try first | go_ret | go_ret2 | go_ret3); try go_simp)
      all_goals exact tasks_ok ((count_for lo hi st).trans HE.out) HB.out HO.out
theorem tasks_152 (kd lo hi st it sg : Int) (w : World) (h1 : ¬ (kd = 1 ∧ it = 0 ∧ sg = 0)) (h2 : ¬ (kd = 2 ∧ lo = 0 ∧ hi = 0 ∧ st = 0 ∧ 0 ≤ it ∧ 1 ≤ sg ∧ sg ≤ 6)) :
    Calls Try.prog 46 #[.agg #[.int .i64 kd, .int .i64 lo, .int .i64 hi, .int .i64 st, .int .i64 it, .int .i64 sg]] w (TasksPost kd lo hi st it sg w) := by
  have HC : Hid (countN kd lo hi st it sg = (0, 152)) := (show countN kd lo hi st it sg = (0, 152) by
    unfold countN
    by_cases e1 : kd = 1
    · rw [if_pos e1, if_pos (by omega)]
    rw [if_neg e1]
    by_cases e2 : kd = 2
    · rw [if_pos e2]
      by_cases e3 : lo ≠ 0 ∨ hi ≠ 0 ∨ st ≠ 0
      · rw [if_pos e3]
      · rw [if_neg e3, if_pos (by omega)]
    · rw [if_neg e2])
  by_cases e1 : kd = 1
  · subst e1
    by_cases e2 : it = 0
    · subst e2
      by_cases e3 : sg = 0
      · exact absurd ⟨rfl, rfl, e3⟩ h1
      · (have e9 : (sg == 0) = false := beq_eq_false_iff_ne.2 e3; clear e3; clear h1 h2; (go_enter Try.func46, Try.ntmps46); go_wp2_with fail; (repeat' (go_quiet (fail); go_wp2_with fail)); all_goals (first | go_ret | go_ret2 | go_ret3); all_goals (try go_simp); all_goals exact tasks_bad HC.out (by omega) (by repeat (first | exact Below.refl _ _ | exact HB.out | (refine Below.setCell ?_ (by simp) _) | apply below_alloc' | apply Below.drew | apply below_drewN')))
    · (have e9 : (it == 0) = false := beq_eq_false_iff_ne.2 e2; clear e2; clear h1 h2; (go_enter Try.func46, Try.ntmps46); go_wp2_with fail; (repeat' (go_quiet (fail); go_wp2_with fail)); all_goals (first | go_ret | go_ret2 | go_ret3); all_goals (try go_simp); all_goals exact tasks_bad HC.out (by omega) (by repeat (first | exact Below.refl _ _ | exact HB.out | (refine Below.setCell ?_ (by simp) _) | apply below_alloc' | apply Below.drew | apply below_drewN')))
  · by_cases e2 : kd = 2
    · subst e2
      by_cases e3 : lo = 0
      · subst e3
        by_cases e4 : hi = 0
        · subst e4
          by_cases e5 : st = 0
          · subst e5
            by_cases e6 : it < 0
            · (clear h1 h2; (go_enter Try.func46, Try.ntmps46); go_wp2_with fail; (repeat' (go_quiet (fail); go_wp2_with fail)); all_goals (first | go_ret | go_ret2 | go_ret3); all_goals (try go_simp); all_goals exact tasks_bad HC.out (by omega) (by repeat (first | exact Below.refl _ _ | exact HB.out | (refine Below.setCell ?_ (by simp) _) | apply below_alloc' | apply Below.drew | apply below_drewN')))
            · by_cases e7 : sg < 1
              · (clear h1 h2; (go_enter Try.func46, Try.ntmps46); go_wp2_with fail; (repeat' (go_quiet (fail); go_wp2_with fail)); all_goals (first | go_ret | go_ret2 | go_ret3); all_goals (try go_simp); all_goals exact tasks_bad HC.out (by omega) (by repeat (first | exact Below.refl _ _ | exact HB.out | (refine Below.setCell ?_ (by simp) _) | apply below_alloc' | apply Below.drew | apply below_drewN')))
              · have e8 : 6 < sg := by omega
                (clear h1 h2; (go_enter Try.func46, Try.ntmps46); go_wp2_with fail; (repeat' (go_quiet (fail); go_wp2_with fail)); all_goals (first | go_ret | go_ret2 | go_ret3); all_goals (try go_simp); all_goals exact tasks_bad HC.out (by omega) (by repeat (first | exact Below.refl _ _ | exact HB.out | (refine Below.setCell ?_ (by simp) _) | apply below_alloc' | apply Below.drew | apply below_drewN')))
          · (have e9 : (st == 0) = false := beq_eq_false_iff_ne.2 e5; clear e5; clear h1 h2; (go_enter Try.func46, Try.ntmps46); go_wp2_with fail; (repeat' (go_quiet (fail); go_wp2_with fail)); all_goals (first | go_ret | go_ret2 | go_ret3); all_goals (try go_simp); all_goals exact tasks_bad HC.out (by omega) (by repeat (first | exact Below.refl _ _ | exact HB.out | (refine Below.setCell ?_ (by simp) _) | apply below_alloc' | apply Below.drew | apply below_drewN')))
        · (have e9 : (hi == 0) = false := beq_eq_false_iff_ne.2 e4; clear e4; clear h1 h2; (go_enter Try.func46, Try.ntmps46); go_wp2_with fail; (repeat' (go_quiet (fail); go_wp2_with fail)); all_goals (first | go_ret | go_ret2 | go_ret3); all_goals (try go_simp); all_goals exact tasks_bad HC.out (by omega) (by repeat (first | exact Below.refl _ _ | exact HB.out | (refine Below.setCell ?_ (by simp) _) | apply below_alloc' | apply Below.drew | apply below_drewN')))
      · (have e9 : (lo == 0) = false := beq_eq_false_iff_ne.2 e3; clear e3; clear h1 h2; (go_enter Try.func46, Try.ntmps46); go_wp2_with fail; (repeat' (go_quiet (fail); go_wp2_with fail)); all_goals (first | go_ret | go_ret2 | go_ret3); all_goals (try go_simp); all_goals exact tasks_bad HC.out (by omega) (by repeat (first | exact Below.refl _ _ | exact HB.out | (refine Below.setCell ?_ (by simp) _) | apply below_alloc' | apply Below.drew | apply below_drewN')))
    · have e3 : (kd == 1) = false := beq_eq_false_iff_ne.2 e1
      have e4 : (kd == 2) = false := beq_eq_false_iff_ne.2 e2
      clear e1 e2
      (clear h1 h2; (go_enter Try.func46, Try.ntmps46); go_wp2_with fail; (repeat' (go_quiet (fail); go_wp2_with fail)); all_goals (first | go_ret | go_ret2 | go_ret3); all_goals (try go_simp); all_goals exact tasks_bad HC.out (by omega) (by repeat (first | exact Below.refl _ _ | exact HB.out | (refine Below.setCell ?_ (by simp) _) | apply below_alloc' | apply Below.drew | apply below_drewN')))
theorem tasks_150 (lo hi : Int) (w : World) :
    Calls Try.prog 46 #[.agg #[.int .i64 1, .int .i64 lo, .int .i64 hi, .int .i64 0, .int .i64 0, .int .i64 0]] w (TasksPost 1 lo hi 0 0 0 w) := by
  have HC : Hid (countN 1 lo hi 0 0 0 = (0, 150)) := (show countN 1 lo hi 0 0 0 = (0, 150) by rw [count_for]; unfold loopN; rw [if_pos rfl])
  go_enter Try.func46, Try.ntmps46
  go_wp2_with (first | fail)
  (repeat' (go_quiet (fail); go_wp2_with (first | fail)))
  all_goals ((try first | go_ret | go_ret2 | go_ret3); try go_simp)
  all_goals exact tasks_bad HC.out (by omega) (by repeat (first | exact Below.refl _ _ | exact HB.out | (refine Below.setCell ?_ (by simp) _) | apply below_alloc' | apply Below.drew | apply below_drewN'))
end Go.Proofs.Ytcadbfggaipnhaa
