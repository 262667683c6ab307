/- outriderref13.last, Of; outriderref14.Check. -/
import Derived.Test.YtcadbfggaipnhaaC10

namespace Go.Proofs.Ytcadbfggaipnhaa
open Go.RowKit
set_option linter.unusedSimpArgs false
set_option linter.unusedVariables false

/-- the last of the first n cells of a place -/
def lastN (l : List (Int × Int)) (x : Int) : Nat → Option Int
  | 0 => none
  | n + 1 => if (nth l n).1 = x then some (nth l n).2 else lastN l x n
theorem quietL {P : Program} {f : FuncId} {args : Array Value} {w : World} {n : Nat} {v : Value} (h : Calls P f args (w.drewN n) (Ret v (w.drewN n))) : Calls P f args (w.drewN n) fun e w'' => e = .returned v ∧ ∃ m, w'' = w.drewN m :=
  h.mono fun _ _ ⟨he, hm⟩ => ⟨he, n, hm.symm⟩
set_option maxHeartbeats 400000 in
theorem last_calls (A : Option Addr) (c n : Nat) (l : List (Int × Int)) (x : Int) (w : World) (B : Nat) (hB0 : B ≤ w.heap.size) (hr : Row w B A 2 n (fun k => pairC (nth l k))) (hm : n ≤ 9223372036854775807) :
    Calls Try.prog 134 #[.slice A n c, .int .i64 x] w (Ret (.tuple #[.int .i64 ((lastN l x n).getD 0), .bool (lastN l x n).isSome]) w) := by
  have hr' := hid hr
  clear hr
  go_enter Try.func134, Try.ntmps134
  go_wp2_with (first | fail)
  (repeat' (go_quiet (fail); go_wp2_with (first | fail)))
  go_loop [4, 5, 6] (fun v4 v5 v6 => ∃ (k : Nat) (i : Int), v6 = .int .i64 i ∧ v4 = .int .i64 0 ∧ v5 = .bool false ∧ k ≤ n ∧ -1 ≤ i ∧ i < n ∧ Hid (i = k - 1) ∧ Hid (lastN l x n = lastN l x k)) (fun _ _ v6 => (intOf v6 + 1).toNat)
  case atStart => exact ⟨n, _, rfl, rfl, rfl, by omega, by omega, by omega, hid rfl, hid rfl⟩
  case round =>
    obtain ⟨k, i, rfl, rfl, rfl, hk, hi1, hi2, HI, HL⟩ := hrel
    by_cases hlt : 0 ≤ i
    · obtain ⟨b, off, rfl, hb, hc⟩ := hr'.out.open_ (by omega)
      obtain ⟨j, rfl⟩ := Int.eq_ofNat_of_zero_le hlt
      obtain rfl : k = j + 1 := by have := HI.out; omega
      obtain ⟨c0, c1⟩ := pair_cells hc j (by omega)
      clear hc
      by_cases he : (nth l j).1 = x
      · have HV : Hid (lastN l x n = some (nth l j).2) := (show lastN l x n = _ by rw [HL.out]; unfold lastN; rw [if_pos he])
        have he' : ((nth l j).1 == x) = true := by simpa using he
        clear he
        go_wp2_with fail
        all_goals ((try first | go_ret | go_ret2 | go_ret3); try go_simp)
        all_goals ((with_reducible refine ret_ib ?_); rw [HV.out]; try rfl)
      · have HV : Hid (lastN l x n = lastN l x j) := (show lastN l x n = _ by rw [HL.out]; conv => lhs; unfold lastN; rw [if_neg he])
        have he' : ((nth l j).1 == x) = false := by simpa using he
        clear he
        go_wp2_with fail
        all_goals
          go_round
          case rel => exact ⟨j, (j : Int) - 1, rfl, rfl, rfl, by omega, by omega, by omega, hid rfl, HV⟩
          case measure => (simp [intOf]; try omega)
    · obtain rfl : k = 0 := by have := HI.out; omega
      have HV : Hid (lastN l x n = none) := HL
      go_wp2_with fail
      all_goals ((try first | go_ret | go_ret2 | go_ret3); try go_simp)
      all_goals ((with_reducible refine ret_ib ?_); rw [HV.out]; try rfl)
/-- tables that tell what the first k cells say -/
def Told (l : List (Int × Int)) (k : Nat) (t : List Bool) (o : List Int) : Prop :=
  (∀ a, a < t.length → nth t a = (lastN l a k).isSome) ∧ (∀ a, a < o.length → nth o a = (lastN l a k).getD 0)
theorem nth_set {α : Type} [Inhabited α] (l : List α) (i k : Nat) (x : α) (hk : k < l.length) : nth (l.set i x) k = if i = k then x else nth l k := by
  rw [nth_eq (by simpa using hk), List.getElem_set, nth_eq hk]
theorem told_step {l : List (Int × Int)} {k a : Nat} {y : Int} {t : List Bool} {o : List Int} (h : Told l k t o) (hx : nth l k = ((a : Int), y)) : Told l (k + 1) (t.set a true) (o.set a y) := by
  constructor
  · intro b hb
    rw [List.length_set] at hb
    rw [nth_set _ _ _ _ hb]
    unfold lastN
    rw [hx]
    by_cases e : a = b
    · rw [if_pos e, if_pos (show (a : Int) = b by omega)]; rfl
    · rw [if_neg e, if_neg (show ¬ (a : Int) = b by omega)]; exact h.1 b hb
  · intro b hb
    rw [List.length_set] at hb
    rw [nth_set _ _ _ _ hb]
    unfold lastN
    rw [hx]
    by_cases e : a = b
    · rw [if_pos e, if_pos (show (a : Int) = b by omega)]; rfl
    · rw [if_neg e, if_neg (show ¬ (a : Int) = b by omega)]; exact h.2 b hb
theorem nth_rep {α : Type} [Inhabited α] (n k : Nat) (x : α) (hk : k < n) : nth (List.replicate n x) k = x := by rw [nth_eq (by simpa using hk)]; simp
def Of13 (words : Int) (cells : List (Int × Int)) (w : World) (e : Ending) (w' : World) : Prop :=
  Below w.heap.size w w' ∧ ((memOf words cells).2 = 0 → ∃ v, e = .returned (.tuple #[v, .int .i64 0]) ∧ w'.ownsRow w.heap.size 2 1 v (memOf words cells).1.length (vals (memOf words cells).1)) ∧
  ((memOf words cells).2 ≠ 0 → e = .returned (.tuple #[.slice none 0 0, .int .i64 (memOf words cells).2]))
theorem of13_bad {words : Int} {cells : List (Int × Int)} {w w' : World} {er : Int} (h : memOf words cells = ([], er)) (he : er ≠ 0) (hb : Below w.heap.size w w') : Of13 words cells w (.returned (.tuple #[.slice none 0 0, .int .i64 er])) w' := by
  refine ⟨hb, fun h0 => ?_, fun _ => by rw [h]⟩
  rw [h] at h0; exact absurd h0 he
theorem of13_ok {words : Int} {cells : List (Int × Int)} {w w' : World} {v : Value} {o : List Int} (h : memOf words cells = (o, 0)) (hb : Below w.heap.size w w') (ho : w'.ownsRow w.heap.size 2 1 v o.length (vals o)) : Of13 words cells w (.returned (.tuple #[v, .int .i64 0])) w' := by
  refine ⟨hb, fun _ => ⟨v, rfl, by rw [h]; exact ho⟩, fun h0 => ?_⟩
  rw [h] at h0; exact absurd rfl h0
theorem vals_take {o : List Int} {k : Nat} (h : k < o.length) : vals (o.take (k + 1)) = vals (o.take k) ++ [.int .i64 (nth o k)] := by rw [take_nth h]; simp [vals]
set_option maxRecDepth 100000 in
set_option maxHeartbeats 1000000 in
theorem of13_calls (words : Int) (A : Option Addr) (c : Nat) (cells : List (Int × Int)) (w : World) (B : Nat) (hB0 : B ≤ w.heap.size) (hr : Row w B A 2 cells.length (fun k => pairC (nth cells k))) (hm : cells.length ≤ 9223372036854775807) (hcap : cells.length ≤ c) :
    Calls Try.prog 96 #[.int .i64 words, .slice A cells.length c] w (Of13 words cells w) := by
  by_cases hw : words < 1 ∨ 64 < words
  · have H := hid (show memOf words cells = ([], 130) by unfold memOf; rw [if_pos hw])
    rcases hw with hw | hw
    all_goals
      clear hr
      go_enter Try.func96, Try.ntmps96
      go_wp2_with (first | fail)
      (repeat' (go_quiet (fail); go_wp2_with (first | fail)))
      all_goals ((try first | go_ret | go_ret2 | go_ret3); try go_simp)
      all_goals exact of13_bad H.out (by omega) (by repeat (first | exact Below.refl _ _ | exact HB.out | (refine Below.setCell ?_ (by simp) _) | apply below_alloc' | apply Below.drew | apply below_drewN'))
  obtain ⟨m, rfl⟩ := Int.eq_ofNat_of_zero_le (show 0 ≤ words by omega)
  have hm1 : 1 ≤ (m : Int) := by omega
  have hm2 : (m : Int) ≤ 64 := by omega
  have HM := hid (show memOf m cells = memGo m cells (List.replicate 64 false) (List.replicate m 0) by unfold memOf; rw [if_neg hw]; simp)
  have hr' := hid hr
  obtain ⟨i1, hi1, hz1⟩ := Option.map_eq_some_iff.1 info_i64
  simp only [Prod.mk.injEq] at hz1
  obtain ⟨hz10, hz11, hz12⟩ := hz1
  generalize hn : cells.length = n at *
  have HN := hid hn
  clear hn hr hw
  go_enter Try.func96, Try.ntmps96
  go_wp2_with (first | fail)
  (repeat' (go_quiet (fail); go_wp2_with (first | fail)))
  go_loopw [4, 5, 6, 7, 8] (fun v4 v5 v6 v7 v8 wr => ∃ (k : Nat) (t : List Bool) (o : List Int), k ≤ n ∧ v6 = .int .i64 k ∧ v4 = .slice none 0 0 ∧ v5 = .int .i64 0 ∧ Hid (Below w.heap.size w wr) ∧ Hid (t.length = 64) ∧ Hid (o.length = m) ∧ Hid (Told cells k t o) ∧ Hid (memGo m (cells.drop k) t o = memOf m cells)) (fun _ _ v6 _ _ _ => n - (intOf v6).toNat)
  case atStart => exact ⟨0, List.replicate 64 false, List.replicate m 0, by omega, rfl, rfl, rfl, hid (by repeat (first | exact Below.refl _ _ | exact HB.out | (refine Below.setCell ?_ (by simp) _) | apply below_alloc' | apply Below.drew | apply below_drewN')), by simp [Hid], by simp [Hid], hid ⟨fun a ha => nth_rep _ _ _ (by simpa using ha), fun a ha => nth_rep _ _ _ (by simpa using ha)⟩, by rw [HM.out]; rfl⟩
  case round =>
    obtain ⟨k, t, o, hk, rfl, rfl, rfl, HB, Hlt, Hlo, HT, HG⟩ := hrel
    obtain ⟨hcw, hfw⟩ := bcell HB.out
    have hsz := HB.out.size
    by_cases hlt : k < n
    · obtain ⟨b, off, rfl, hb, hc⟩ := hr'.out.open_ (by omega)
      obtain ⟨c0, c1⟩ := pair_cells hc k hlt
      have hbw : b < w.heap.size := by omega
      have hG := HG.out
      rw [drop_nth (by have := HN.out; omega)] at hG
      unfold memGo at hG
      obtain ⟨x, y, hxy⟩ : ∃ x y, nth cells k = (x, y) := ⟨_, _, rfl⟩
      have Hxy := hid hxy
      rw [hxy] at c0 c1 hG
      simp only at c0 c1 hG
      clear hc hxy
      by_cases hx : x < 0 ∨ (m : Int) ≤ x
      · rw [if_pos hx] at hG
        have HG2 := hid hG.symm
        clear hG
        rcases hx with hx | hx
        all_goals
          go_wp2_with fail
          all_goals ((try first | go_ret | go_ret2 | go_ret3); try go_simp)
          all_goals exact of13_bad HG2.out (by omega) (by repeat (first | exact Below.refl _ _ | exact HB.out | (refine Below.setCell ?_ (by simp) _) | apply below_alloc' | apply Below.drew | apply below_drewN'))
      · rw [if_neg hx] at hG
        obtain ⟨a, rfl⟩ := Int.eq_ofNat_of_zero_le (show 0 ≤ x by omega)
        have hxm : (a : Int) < m := by omega
        have hkc : (k : Int) ≤ c := by omega
        have hkc' : k ≤ c := by omega
        have hta : nth t a = (lastN cells a k).isSome := HT.out.1 a (by have := Hlt.out; omega)
        have HLK := hid (fun W (hW : Below w.heap.size w W) => last_calls (some ⟨b, off, none⟩) c k cells a W B (Nat.le_trans hB0 hW.size) (Row.below (by rcases hr'.out with h | ⟨b', off', e1, e2, e3⟩; (· omega); (· exact .inr ⟨b', off', e1, e2, fun k' j u hk' hj => e3 k' j u (by omega) hj⟩)) (hW.mono hB0)) (by omega))
        clear hx
        simp only [Int.toNat_natCast] at hG
        rw [hta] at hG
        generalize (lastN cells a k) = q at *
        cases q with
        | none =>
          simp only [Option.isSome] at hG HLK
          rw [if_neg (by simp)] at hG
          have HG2 := hid hG
          have HT2 := hid (told_step HT.out Hxy.out)
          clear hG hta
          have Hs1 := hid (show (t.set a true).length = 64 by have := Hlt.out; simpa using this)
          have Hs2 := hid (show (o.set a y).length = m by have := Hlo.out; simpa using this)
          go_wp2_with fail
          (repeat' (go_quiet ((go_at_call 134; exact quietL (HLK.out _ (by repeat (first | exact Below.refl _ _ | exact HB.out | (refine Below.setCell ?_ (by simp) _) | apply below_alloc' | apply Below.drew | apply below_drewN'))))); go_wp2_with fail))
          go_roundw
          case rel => exact ⟨k + 1, t.set a true, o.set a y, by omega, by go_num, rfl, rfl, hid (by repeat (first | exact Below.refl _ _ | exact HB.out | (refine Below.setCell ?_ (by simp) _) | apply below_alloc' | apply Below.drew | apply below_drewN')), Hs1, Hs2, HT2, HG2⟩
          case measure => (simp [intOf]; try omega)
        | some q =>
          simp only [Option.isSome] at hG HLK
          rw [if_pos trivial] at hG
          have HG2 := hid hG.symm
          clear hG hta
          go_wp2_with fail
          (repeat' (go_quiet ((go_at_call 134; exact quietL (HLK.out _ (by repeat (first | exact Below.refl _ _ | exact HB.out | (refine Below.setCell ?_ (by simp) _) | apply below_alloc' | apply Below.drew | apply below_drewN'))))); go_wp2_with fail))
          all_goals ((try first | go_ret | go_ret2 | go_ret3); try go_simp)
          all_goals exact of13_bad HG2.out (by omega) (by repeat (first | exact Below.refl _ _ | exact HB.out | (refine Below.setCell ?_ (by simp) _) | apply below_alloc' | apply Below.drew | apply below_drewN'))
    · have hkn : k = n := by omega
      subst hkn
      have hG := HG.out
      rw [List.drop_of_length_le (by have := HN.out; omega)] at hG
      have HG2 := hid (show memOf m cells = (o, 0) from hG.symm)
      clear hG
      go_wp2_with fail
      obtain ⟨wo, rfl⟩ : ∃ wo : World, wo = wr := ⟨_, rfl⟩
      go_loopw [9, 10, 11, 12] (fun v9 v10 v11 v12 wr => ∃ (j : Nat), j ≤ m ∧ v10 = .int .i64 j ∧ Hid (Below w.heap.size w wr) ∧ Hid (wr.ownsRow w.heap.size 2 1 v9 j (vals (o.take j)))) (fun _ v10 _ _ _ => m - (intOf v10).toNat)
      case atStart => exact ⟨0, by omega, rfl, hid (by repeat (first | exact Below.refl _ _ | exact HB.out | (refine Below.setCell ?_ (by simp) _) | apply below_alloc' | apply Below.drew | apply below_drewN')), hid (World.ownsRow_nil _ _ _ 1)⟩
      case round =>
        obtain ⟨j, hj, rfl, HB', HO⟩ := hrel
        clear hcw hfw hsz
        obtain ⟨hcw, hfw⟩ := bcell HB'.out
        have hsz := HB'.out.size
        by_cases hjm : j < m
        · have hoj := HT.out.2 j (by have := Hlo.out; omega)
          have HLK := hid (fun W (hW : Below w.heap.size w W) => last_calls A c k cells j W B (Nat.le_trans hB0 hW.size) (hr'.out.below (hW.mono hB0)) (by omega))
          rw [← hoj] at HLK
          clear hoj
          have HS := hid (vals_take (o := o) (k := j) (by have := Hlo.out; omega))
          go_wp2_with (first | (go_at_call 134; (with_reducible refine (HLK.out _ (by repeat (first | exact Below.refl _ _ | exact HB'.out | apply below_alloc' | apply Below.drew | apply below_drewN'))).mono ?_); rintro e w' ⟨rfl, rfl⟩) | (at_builtin; refine wpList_append_lies _ rfl (.tmp 64) (.tmp 66) 62 rfl (w.heap.size) 2 i1 (.int .i64 0) 1 8 Try.underlying62 hi1 hz10 hz11 hz12 rfl (by decide) (u9) (j) (vals (o.take j)) rfl ?_ ⟨_, 0, none⟩ 1 1 [.int .i64 (nth o j)] rfl rfl ?_ ?_ (by decide) ?_ ?_ ?_ _ rfl ?_; (· exact (by repeat (with_reducible first | exact HO.out | apply World.ownsRow.alloc | apply own_drew | apply own_drewN))); (· exact World.news_of_block (cs := #[.int .i64 (nth o j)]) (t := 2) (fr := (0, 0)) (blk_new' (by simp))); (· simp [Value.oneCell']); (· (simp only [maxLen]; omega)); (· omega); (· first | (simp; done) | (simp; omega)); intro g1 cap1 w1 hown1 hgr1 hat1 hlt1; have Hown1 := hid hown1; have HB1 := hid (Below.grown (a := w) (B := w.heap.size) (by repeat (first | exact Below.refl _ _ | exact HB'.out | apply below_alloc' | apply Below.drew | apply below_drewN')) hgr1 (by first | (simp; done) | (simp; omega) | omega) (fun k e => (HO.out.lt k e).1)); have hsz1 := hgr1.size; simp at hsz1; clear hgr1 hown1 hat1))
          go_roundw
          case rel => exact ⟨j + 1, by omega, by go_num, HB1, hid (by rw [HS.out]; exact Hown1.out)⟩
          case measure => (simp [intOf]; try omega)
        · obtain rfl : j = m := by omega
          have HT' := hid (show o.take j = o from List.take_of_length_le (by have := Hlo.out; omega))
          go_wp2_with fail
          all_goals ((try first | go_ret | go_ret2 | go_ret3); try go_simp)
          all_goals exact of13_ok HG2.out HB'.out (by rw [Hlo.out]; have := HO.out; rw [HT'.out] at this; exact this)
theorem redErr_14 (reds : List (Int × Int)) (h : ¬ 4 < reds.length) (n : Nat) (hn : n < reds.length) (h0 : redRight (nth reds n).1 = false) : redErr reds = 140 := by
  unfold redErr; rw [if_neg h, if_pos]
  rw [List.any_eq_true]
  exact ⟨reds[n], List.getElem_mem _, by rw [← nth_eq hn, h0]; rfl⟩
theorem redErr_0 (reds : List (Int × Int)) (h : ¬ 4 < reds.length) (h0 : ∀ j, j < reds.length → redRight (nth reds j).1 = true) : redErr reds = 0 := by
  unfold redErr; rw [if_neg h, if_neg]
  rw [List.any_eq_true]
  rintro ⟨x, hx, hxr⟩
  obtain ⟨j, hj, rfl⟩ := List.getElem_of_mem hx
  have := h0 j hj
  rw [nth_eq hj] at this
  rw [this] at hxr
  cases hxr
set_option maxHeartbeats 400000 in
theorem right14_calls (op : Int) (w : World) : Calls Try.prog 135 #[.int .i64 op] w (Ret (.bool (redRight op)) w) := by
  go_enter Try.func135, Try.ntmps135
  go_wp2_with (first | fail)
  (repeat' (go_quiet (fail); go_wp2_with (first | fail)))
  all_goals ((try first | go_ret | go_ret2 | go_ret3); try go_simp)
  all_goals ((with_reducible refine ret_bool ?_); unfold redRight; simp; omega)
set_option maxHeartbeats 400000 in
theorem check14_calls (A : Option Addr) (c : Nat) (reds : List (Int × Int)) (w : World) (B : Nat) (hB0 : B ≤ w.heap.size) (hr : Row w B A 2 reds.length (fun k => pairC (nth reds k))) (hm : reds.length ≤ 9223372036854775807) :
    Calls Try.prog 97 #[.slice A reds.length c] w (Ret (.int .i64 (redErr reds)) w) := by
  by_cases h1 : 4 < reds.length
  · have H := hid (show redErr reds = 171 by unfold redErr; rw [if_pos h1])
    clear hr
    go_enter Try.func97, Try.ntmps97
    go_wp2_with (first | fail)
    (repeat' (go_quiet (fail); go_wp2_with (first | fail)))
    all_goals ((try first | go_ret | go_ret2 | go_ret3); try go_simp)
    all_goals ((with_reducible refine ret_int ?_); rw [H.out])
  have hr' := hid hr
  have H140 := hid (redErr_14 reds h1)
  have H0 := hid (redErr_0 reds h1)
  generalize hn : reds.length = n at *
  clear hn hr
  go_enter Try.func97, Try.ntmps97
  go_wp2_with (first | fail)
  (repeat' (go_quiet (fail); go_wp2_with (first | fail)))
  go_loop [2, 3] (fun v2 v3 => ∃ k : Nat, k ≤ n ∧ v3 = .int .i64 k ∧ v2 = .int .i64 0 ∧ Hid (∀ j, j < k → redRight (nth reds j).1 = true)) (fun _ v3 => n - (intOf v3).toNat)
  case atStart => exact ⟨0, by omega, rfl, rfl, hid (fun j hj => by omega)⟩
  case round =>
    obtain ⟨k, hk, rfl, rfl, HP⟩ := hrel
    by_cases hlt : k < n
    · obtain ⟨b, off, rfl, hb, hc⟩ := hr'.out.open_ (by omega)
      obtain ⟨c0, c1⟩ := pair_cells hc k hlt
      clear hc
      have HR := hid (fun W => right14_calls (nth reds k).1 W)
      cases hR : redRight (nth reds k).1
      · rw [hR] at HR
        have HV := hid (H140.out k hlt hR)
        clear hR
        go_wp2_with (first | (go_at_call 135; (with_reducible refine (HR.out _).mono ?_); rintro e w' ⟨rfl, rfl⟩))
        all_goals ((try first | go_ret | go_ret2 | go_ret3); try go_simp)
        all_goals ((with_reducible refine ret_int ?_); rw [HV.out])
      · rw [hR] at HR
        have HRt := hid hR
        clear hR
        go_wp2_with (first | (go_at_call 135; (with_reducible refine (HR.out _).mono ?_); rintro e w' ⟨rfl, rfl⟩))
        all_goals
          go_round
          case rel => exact ⟨k + 1, by omega, by go_num, rfl, hid (fun j hj => (by rcases Nat.lt_or_ge j k with h | h; exact HP.out j h; obtain rfl : j = k := (by omega); exact HRt.out))⟩
          case measure => (simp [intOf]; try omega)
    · have HV := hid (H0.out (fun j hj => HP.out j (by omega)))
      go_wp2_with fail
      all_goals ((try first | go_ret | go_ret2 | go_ret3); try go_simp)
      all_goals ((with_reducible refine ret_int ?_); rw [HV.out])
end Go.Proofs.Ytcadbfggaipnhaa
