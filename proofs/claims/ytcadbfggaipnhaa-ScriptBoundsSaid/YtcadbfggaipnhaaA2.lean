/- The reader of a script: now, number, give. -/
import Derived.Test.YtcadbfggaipnhaaA1
import Derived.Test.YtcadbfggaipnhaaG
import Derived.Deep.LoopGhost
import Derived.Deep.RegionWith
import Derived.Test.YtcadbfggaipnhaaR6
namespace Go.Proofs.Ytcadbfggaipnhaa
open Go.RowKit
set_option linter.unusedSimpArgs false
set_option linter.unusedVariables false
theorem quietA {P : Program} {f : FuncId} {args : Array Value} {w : World} {a n : Nat} {v : Value} (h : Calls P f args (w.drewN (a + n)) (Ret v (w.drewN (a + n)))) : Calls P f args (w.drewN (a + n)) fun e w'' => e = .returned v ∧ ∃ m, w'' = w.drewN (a + m) :=
  h.mono fun _ _ ⟨he, hm⟩ => ⟨he, n, hm.symm⟩
def rdC (s : ByteArray) (a op : Nat) : Obj := .cells #[.string s, .int .i64 a, .int .i64 op] 210 (0, 0)
theorem rd_cells {w : World} {g : Nat} {s : ByteArray} {a op : Nat} (h : w.heap[g]? = some (rdC s a op)) :
    w.cell? ⟨g, 0, none⟩ = some (.string s) ∧ w.cell? ⟨g, 1, none⟩ = some (.int .i64 a) ∧ w.cell? ⟨g, 2, none⟩ = some (.int .i64 op) ∧
    w.frozen? ⟨g, 1, none⟩ = false ∧ w.frozen? ⟨g, 2, none⟩ = false ∧ g < w.heap.size :=
  ⟨(blk_cell h 0).trans rfl, (blk_cell h 1).trans rfl, (blk_cell h 2).trans rfl, blk_frozen h 1, blk_frozen h 2, blk_lt h⟩
theorem rd_at {w : World} {g : Nat} {s : ByteArray} {a op : Nat} (h : w.heap[g]? = some (rdC s a op)) (b : Nat) : (w.setCell ⟨g, 1, none⟩ (.int .i64 (b : Int))).heap[g]? = some (rdC s b op) := blk_setD h 1 _ _ (by simp)
theorem rd_op {w : World} {g : Nat} {s : ByteArray} {a op : Nat} (h : w.heap[g]? = some (rdC s a op)) (b : Nat) : (w.setCell ⟨g, 2, none⟩ (.int .i64 (b : Int))).heap[g]? = some (rdC s a b) := blk_setD h 2 _ _ (by simp)
set_option maxRecDepth 100000 in
set_option maxHeartbeats 1000000 in
theorem now_calls (g : Nat) (s : ByteArray) (a b op : Nat) (c : Int) (w : World) (hg : w.heap[g]? = some (rdC s a op)) (hs : s.size ≤ 9223372036854775806) (hab : a ≤ b) (hb : b ≤ s.size)
    (hbl : ∀ i (hi : i < s.size), a ≤ i → i < b → (s[i].toNat : Int) = 32 ∨ ((s[i].toNat : Int) ≠ 32 ∧ (s[i].toNat : Int) = 10)) (hc : (b = s.size ∧ c = 0) ∨ ∃ h : b < s.size, (s[b].toNat : Int) = c ∧ c ≠ 32 ∧ c ≠ 10) :
    Calls Try.prog 138 #[.pointer (some ⟨g, 0, none⟩)] w (RetO (.int .u8 c) w g (rdC s b op)) := by
  have HG0 := hid hg
  have HBL := hid hbl
  clear hg hbl
  go_enter Try.func138, Try.ntmps138
  go_wp2_with (first | fail)
  (repeat' (go_quiet (fail); go_wp2_with (first | fail)))
  go_loopg [] (b - a) (fun gk wr => ∃ i : Nat, a ≤ i ∧ i + gk = b ∧ Hid (wr.heap[g]? = some (rdC s i op)) ∧ Hid (w.grownBy wr (some g)))
  case atStart => exact ⟨a, by omega, by omega, HG0, hid (gb_refl _ _)⟩
  case round =>
    obtain ⟨i, hi1, hi2, HO, HG⟩ := hrel
    obtain ⟨x0, x1, x2, f1, f2, hgl⟩ := rd_cells HO.out
    by_cases hlt : i < b
    · have hlt2 : i < s.size := by omega
      rcases HBL.out i hlt2 hi1 hlt with h | ⟨h, h'⟩
      · have e1 : ((s[i].toNat : Int) == 32) = true := by simpa using h
        clear h
        go_wp2_with fail
        (repeat' (go_quiet (fail); go_wp2_with fail))
        all_goals
          go_roundg (gk - 1)
          case rel => exact ⟨i + 1, by omega, by omega, hid (rd_at (by exact HO.out) (i + 1)), hid (by repeat (first | exact gb_refl _ _ | exact HG.out | (refine gb_setCell ?_ (Or.inl rfl) _) | (refine gb_setCell ?_ (Or.inr (by simp)) _) | apply gb_alloc | apply gb_drew | apply gb_drewN))⟩
          case measure => omega
      · have e1 : ((s[i].toNat : Int) == 32) = false := by simpa using h
        have e2 : ((s[i].toNat : Int) == 10) = true := by simpa using h'
        clear h h'
        go_wp2_with fail
        (repeat' (go_quiet (fail); go_wp2_with fail))
        all_goals
          go_roundg (gk - 1)
          case rel => exact ⟨i + 1, by omega, by omega, hid (rd_at (by exact HO.out) (i + 1)), hid (by repeat (first | exact gb_refl _ _ | exact HG.out | (refine gb_setCell ?_ (Or.inl rfl) _) | (refine gb_setCell ?_ (Or.inr (by simp)) _) | apply gb_alloc | apply gb_drew | apply gb_drewN))⟩
          case measure => omega
    · obtain rfl : i = b := by omega
      rcases hc with ⟨h, rfl⟩ | ⟨h, hc, h32, h10⟩
      · have hd : decide ((i : Int) < (s.size : Int)) = false := by simp; omega
        have he : ((i : Int) == (s.size : Int)) = true := by simp; omega
        have hd' : decide (i < s.size) = false := by simp; omega
        have he' : (i == s.size) = true := by simp; omega
        clear h
        go_wp2_with fail
        (repeat' (go_quiet (fail); go_wp2_with fail))
        all_goals ((try first | go_ret | go_ret2 | go_ret3); try go_simp)
        all_goals exact ⟨rfl, (by repeat (first | exact gb_refl _ _ | exact HG.out | (refine gb_setCell ?_ (Or.inl rfl) _) | (refine gb_setCell ?_ (Or.inr (by simp)) _) | apply gb_alloc | apply gb_drew | apply gb_drewN)), by exact HO.out⟩
      · have he : ((i : Int) == (s.size : Int)) = false := by simp; omega
        have e1 : ((s[i].toNat : Int) == 32) = false := by rw [hc]; simpa using h32
        have e2 : ((s[i].toNat : Int) == 10) = false := by rw [hc]; simpa using h10
        have HC := hid hc
        clear hc h32 h10
        go_wp2_with fail
        (repeat' (go_quiet (fail); go_wp2_with fail))
        all_goals ((try first | go_ret | go_ret2 | go_ret3); try go_simp)
        all_goals exact ⟨by rw [HC.out], (by repeat (first | exact gb_refl _ _ | exact HG.out | (refine gb_setCell ?_ (Or.inl rfl) _) | (refine gb_setCell ?_ (Or.inr (by simp)) _) | apply gb_alloc | apply gb_drew | apply gb_drewN)), by exact HO.out⟩
set_option maxRecDepth 100000 in
set_option maxHeartbeats 1000000 in
theorem number_calls (g : Nat) (s : ByteArray) (a b op : Nat) (n : Int) (w : World) (hg : w.heap[g]? = some (rdC s a op)) (hs : s.size ≤ 9223372036854775806) (hab : a < s.size) (hb : b = a + 1)
    (hd : 48 ≤ (s[a].toNat : Int) ∧ (s[a].toNat : Int) ≤ 57) (he : b = s.size ∨ ∃ h : b < s.size, (s[b].toNat : Int) < 48 ∨ 57 < (s[b].toNat : Int))
    (hp : ∀ W, Calls Try.prog 168 #[.string (s.extract a b)] W (Ret (.tuple #[.int .i64 n, .int .i64 0]) W)) (hn : n < 2147483648) :
    Calls Try.prog 140 #[.pointer (some ⟨g, 0, none⟩)] w (RetO (.int .i64 n) w g (rdC s b op)) := by
  have HG0 := hid hg
  have HP := hid hp
  have HB := hid hb
  have hab2 : a ≤ b := by omega
  have hbs : b ≤ s.size := by omega
  have hd1 := hd.1
  have hd2 := hd.2
  obtain ⟨x0, x1, x2, f1, f2, hgl⟩ := rd_cells HG0.out
  clear hg hp hb hd
  go_enter Try.func140, Try.ntmps140
  go_wp2_with (first | fail)
  (repeat' (go_quiet (fail); go_wp2_with (first | fail)))
  clear x0 x1 x2 f1 f2 hgl
  go_loopg [] 1 (fun gk wr => ∃ i : Nat, Hid (i + gk = b) ∧ Hid (gk ≤ 1) ∧ Hid (wr.heap[g]? = some (rdC s i op)) ∧ Hid (w.grownBy wr (some g)))
  case atStart => exact ⟨a, hid (by rw [HB.out]), hid (by omega), HG0, hid (gb_refl _ _)⟩
  case round =>
    obtain ⟨i, hi, hg1, HO, HG⟩ := hrel
    obtain ⟨x0, x1, x2, f1, f2, hgl⟩ := rd_cells HO.out
    rcases Nat.eq_zero_or_pos gk with rfl | hpos
    · obtain rfl : i = b := by have := hi.out; omega
      rcases he with h | ⟨h, h | h⟩
      · have hq : decide ((i : Int) < (s.size : Int)) = false := by simp; omega
        have hq' : decide (i < s.size) = false := by simp; omega
        clear h
        go_wp2_with fail
        (repeat' (go_quiet ((go_at_call 168; first | exact quietL (HP.out _) | exact quietA (HP.out _))); go_wp2_with fail))
        all_goals ((try first | go_ret | go_ret2 | go_ret3); try go_simp)
        all_goals exact ⟨rfl, (by repeat (first | exact gb_refl _ _ | exact HG.out | (refine gb_setCell ?_ (Or.inl rfl) _) | (refine gb_setCell ?_ (Or.inr (by simp)) _) | apply gb_alloc | apply gb_drew | apply gb_drewN)), by exact HO.out⟩
      · have hq : decide (48 ≤ (s[i].toNat : Int)) = false := by simp; omega
        go_wp2_with fail
        (repeat' (go_quiet ((go_at_call 168; first | exact quietL (HP.out _) | exact quietA (HP.out _))); go_wp2_with fail))
        all_goals ((try first | go_ret | go_ret2 | go_ret3); try go_simp)
        all_goals exact ⟨rfl, (by repeat (first | exact gb_refl _ _ | exact HG.out | (refine gb_setCell ?_ (Or.inl rfl) _) | (refine gb_setCell ?_ (Or.inr (by simp)) _) | apply gb_alloc | apply gb_drew | apply gb_drewN)), by exact HO.out⟩
      · have hq : decide ((s[i].toNat : Int) ≤ 57) = false := by simp; omega
        have hq2 : decide (48 ≤ (s[i].toNat : Int)) = true := by simp; omega
        have hq3 : 48 ≤ (s[i].toNat : Int) := by omega
        go_wp2_with fail
        (repeat' (go_quiet ((go_at_call 168; first | exact quietL (HP.out _) | exact quietA (HP.out _))); go_wp2_with fail))
        all_goals ((try first | go_ret | go_ret2 | go_ret3); try go_simp)
        all_goals exact ⟨rfl, (by repeat (first | exact gb_refl _ _ | exact HG.out | (refine gb_setCell ?_ (Or.inl rfl) _) | (refine gb_setCell ?_ (Or.inr (by simp)) _) | apply gb_alloc | apply gb_drew | apply gb_drewN)), by exact HO.out⟩
    · obtain rfl : i = a := by have := hi.out; have := hg1.out; have := HB.out; omega
      go_wp2_with fail
      (repeat' (go_quiet (fail); go_wp2_with fail))
      all_goals
        go_roundg 0
        case rel => exact ⟨b, hid (by omega), hid (by omega), hid (by have := rd_at (by exact HO.out) (i + 1); rw [HB.out]; exact this), hid (by repeat (first | exact gb_refl _ _ | exact HG.out | (refine gb_setCell ?_ (Or.inl rfl) _) | (refine gb_setCell ?_ (Or.inr (by simp)) _) | apply gb_alloc | apply gb_drew | apply gb_drewN))⟩
        case measure => omega
def Gives (er at_ : Int) (w : World) (e : Ending) (w' : World) : Prop := e = .panicked [{ v := .iface 206 (.agg #[.int .i64 er, .int .i64 at_]), recovered := false }] ∧ w = w'
set_option maxRecDepth 100000 in
set_option maxHeartbeats 1000000 in
theorem give_calls (g : Nat) (s : ByteArray) (a op : Nat) (er : Int) (w : World) (hg : w.heap[g]? = some (rdC s a op)) :
    Calls Try.prog 102 #[.pointer (some ⟨g, 0, none⟩), .int .i64 er] w (Gives er a w) := by
  obtain ⟨x0, x1, x2, f1, f2, hgl⟩ := rd_cells hg
  clear hg
  go_enter Try.func102, Try.ntmps102
  go_wp2
  all_goals exact ⟨rfl, rfl, rfl⟩
end Go.Proofs.Ytcadbfggaipnhaa
