/- outriderref08: Parts, Has, bad, Falls. -/
import Derived.Test.YtcadbfggaipnhaaC6
namespace Go.Proofs.Ytcadbfggaipnhaa
open Go.RowKit
set_option linter.unusedSimpArgs false
set_option linter.unusedVariables false

def hasB (s : ByteArray) (c : Int) : Bool := s.data.toList.any (fun x => (x.toNat : Int) == c)
def partsS (k : Int) : ByteArray :=
  if k = 2 then ⟨#[97, 107]⟩ else if k = 3 then ⟨#[97, 98]⟩ else if k = 4 then ⟨#[112, 97, 98]⟩ else if k = 5 then ⟨#[111, 97, 98, 99]⟩
  else if k = 6 ∨ k = 7 then ⟨#[97, 98, 107]⟩ else if k = 8 then ⟨#[97, 114]⟩ else if k = 9 ∨ k = 13 then ⟨#[97]⟩ else if k = 10 then ⟨#[116]⟩
  else if k = 11 ∨ k = 12 then ⟨#[97, 116]⟩ else if k = 1 then ⟨#[]⟩ else ⟨#[63]⟩
theorem has_yes {s : ByteArray} {c : Int} {k : Nat} (hk : k < s.size) (h : (s[k].toNat : Int) = c) : hasB s c = true := by
  unfold hasB; rw [List.any_eq_true]
  exact ⟨s[k], by simp [ByteArray.getElem_eq_getElem_data], by simpa using h⟩
theorem has_no {s : ByteArray} {c : Int} (h : ∀ k, (hk : k < s.size) → (s[k].toNat : Int) ≠ c) : hasB s c = false := by
  unfold hasB; rw [List.any_eq_false]
  intro x hx
  obtain ⟨k, hk, rfl⟩ := List.getElem_of_mem hx
  have := h k (by simpa using hk)
  intro h2
  exact this (by simpa [ByteArray.getElem_eq_getElem_data] using h2)
set_option maxHeartbeats 400000 in
theorem has_calls (s : ByteArray) (c : Int) (w : World) (hs : s.size ≤ 9223372036854775807) : Calls Try.prog 166 #[.string s, .int .u8 c] w (Ret (.bool (hasB s c)) w) := by
  go_enter Try.func166, Try.ntmps166
  go_wp2_with (first | fail)
  (repeat' (go_quiet (fail); go_wp2_with (first | fail)))
  go_loop [4, 5] (fun v4 v5 => ∃ k : Nat, k ≤ s.size ∧ v5 = .int .i64 k ∧ v4 = .bool false ∧ Hid (∀ j, (hj : j < s.size) → j < k → (s[j].toNat : Int) ≠ c)) (fun _ v5 => s.size - (intOf v5).toNat)
  case atStart => exact ⟨0, by omega, rfl, rfl, fun j _ hj => by omega⟩
  case round =>
    obtain ⟨k, hk, rfl, rfl, HN⟩ := hrel
    by_cases hlt : k < s.size
    · by_cases he : (s[k].toNat : Int) = c
      · have HV := hid (has_yes hlt he)
        have he' : ((s[k].toNat : Int) == c) = true := by simpa using he
        clear he
        go_wp2_with fail
        all_goals ((try first | go_ret | go_ret2 | go_ret3); try go_simp)
        all_goals ((with_reducible refine ret_bool ?_); rw [HV.out])
      · have he' : ((s[k].toNat : Int) == c) = false := by simpa using he
        have HE := hid he
        clear he
        go_wp2_with fail
        all_goals
          go_round
          case rel => exact ⟨k + 1, by omega, by go_num, rfl, fun j hj hjk => (by rcases Nat.lt_or_ge j k with h | h; exact HN.out j hj h; obtain rfl : j = k := (by omega); exact HE.out)⟩
          case measure => simp [intOf]; omega
    · have HV := hid (has_no (s := s) (c := c) (fun j hj => HN.out j hj (by omega)))
      go_wp2_with fail
      all_goals ((try first | go_ret | go_ret2 | go_ret3); try go_simp)
      all_goals ((with_reducible refine ret_bool ?_); rw [HV.out])
theorem has_is (s : ByteArray) (c : Int) (b : Bool) (w : World) (hs : s.size ≤ 9223372036854775807) (h : hasB s c = b) : Calls Try.prog 166 #[.string s, .int .u8 c] w (Ret (.bool b) w) := by
  have := has_calls s c w hs; rwa [h] at this
set_option maxHeartbeats 400000 in
theorem bad8_calls (n : Int) (w : World) : Calls Try.prog 167 #[.int .i64 n] w (Ret (.bool (!regB n)) w) := by
  have h : n < 0 ∨ (0 ≤ n ∧ n < 16) ∨ 16 ≤ n := by omega
  rcases h with h | ⟨h, h'⟩ | h
  · have HV : Hid ((!regB n) = true) := (show (!regB n) = true by unfold regB; simp; omega)
    go_enter Try.func167, Try.ntmps167
    go_wp2_with (first | fail)
    (repeat' (go_quiet (fail); go_wp2_with (first | fail)))
    all_goals ((try first | go_ret | go_ret2 | go_ret3); try go_simp)
    all_goals ((with_reducible refine ret_bool ?_); rw [HV.out]; try simp; try omega)
  · have HV : Hid ((!regB n) = false) := (show (!regB n) = false by unfold regB; simp; omega)
    go_enter Try.func167, Try.ntmps167
    go_wp2_with (first | fail)
    (repeat' (go_quiet (fail); go_wp2_with (first | fail)))
    all_goals ((try first | go_ret | go_ret2 | go_ret3); try go_simp)
    all_goals ((with_reducible refine ret_bool ?_); rw [HV.out]; try simp; try omega)
  · have HV : Hid ((!regB n) = true) := (show (!regB n) = true by unfold regB; simp; omega)
    go_enter Try.func167, Try.ntmps167
    go_wp2_with (first | fail)
    (repeat' (go_quiet (fail); go_wp2_with (first | fail)))
    all_goals ((try first | go_ret | go_ret2 | go_ret3); try go_simp)
    all_goals ((with_reducible refine ret_bool ?_); rw [HV.out]; try simp; try omega)
theorem bad8_is (n : Int) (b : Bool) (w : World) (h : regB n = b) : Calls Try.prog 167 #[.int .i64 n] w (Ret (.bool (!b)) w) := by have := bad8_calls n w; rwa [h] at this
set_option maxHeartbeats 400000 in
theorem falls8_calls (x : Ins) (w : World) : Calls Try.prog 137 #[.agg #[.int .i64 x.kind, .int .i64 x.op, .int .i64 x.a, .int .i64 x.b, .int .i64 x.c, .int .i64 x.k]] w (RetB (.bool (fallsB x.kind)) w) := by
  go_enter Try.func137, Try.ntmps137
  go_wp2_with (first | fail)
  (repeat' (go_quiet (fail); go_wp2_with (first | fail)))
  all_goals ((try first | go_ret | go_ret2 | go_ret3); try go_simp)
  all_goals ((with_reducible refine retB_b ?_ (by repeat (first | exact Below.refl _ _ | exact HB.out | (refine Below.setCell ?_ (by simp) _) | apply below_alloc' | apply Below.drew | apply below_drewN'))); simp [fallsB, *])
theorem falls8_is (x : Ins) (b : Bool) (w : World) (h : fallsB x.kind = b) : Calls Try.prog 137 #[.agg #[.int .i64 x.kind, .int .i64 x.op, .int .i64 x.a, .int .i64 x.b, .int .i64 x.c, .int .i64 x.k]] w (RetB (.bool b) w) := by have := falls8_calls x w; rwa [h] at this
theorem retB_s {a b : ByteArray} {w w' : World} (h : b = a) (hb : Below w.heap.size w w') : RetB (.string a) w (.returned (.string b)) w' := by subst h; exact ⟨rfl, hb⟩
set_option maxHeartbeats 1000000 in
theorem parts_calls' (k : Int) (w : World) : Calls Try.prog 165 #[.int .i64 k] w (RetB (.string (partsS k)) w) := by
  by_cases h : k < 1 ∨ 13 < k
  · have HV : Hid (partsS k = ⟨#[63]⟩) := (show partsS k = ⟨#[63]⟩ by unfold partsS; repeat rw [if_neg (by omega)])
    rcases h with h | h
    all_goals
      go_enter Try.func165, Try.ntmps165
      go_wp2_with (first | fail)
      (repeat' (go_quiet (fail); go_wp2_with (first | fail)))
      all_goals ((try first | go_ret | go_ret2 | go_ret3); try go_simp)
      all_goals ((with_reducible refine retB_s ?_ (by repeat (first | exact Below.refl _ _ | exact HB.out | (refine Below.setCell ?_ (by simp) _) | apply below_alloc' | apply Below.drew | apply below_drewN'))); rw [HV.out])
  · have h : k = 1 ∨ k = 2 ∨ k = 3 ∨ k = 4 ∨ k = 5 ∨ k = 6 ∨ k = 7 ∨ k = 8 ∨ k = 9 ∨ k = 10 ∨ k = 11 ∨ k = 12 ∨ k = 13 := by omega
    rcases h with rfl | rfl | rfl | rfl | rfl | rfl | rfl | rfl | rfl | rfl | rfl | rfl | rfl
    all_goals
      go_enter Try.func165, Try.ntmps165
      go_wp2_with (first | fail)
      (repeat' (go_quiet (fail); go_wp2_with (first | fail)))
      all_goals ((try first | go_ret | go_ret2 | go_ret3); try go_simp)
      all_goals ((with_reducible refine retB_s ?_ (by repeat (first | exact Below.refl _ _ | exact HB.out | (refine Below.setCell ?_ (by simp) _) | apply below_alloc' | apply Below.drew | apply below_drewN'))); rfl)
theorem parts_is (k : Int) (s : ByteArray) (w : World) (h : partsS k = s) : Calls Try.prog 165 #[.int .i64 k] w (RetB (.string s) w) := by have := parts_calls' k w; rwa [h] at this
end Go.Proofs.Ytcadbfggaipnhaa
