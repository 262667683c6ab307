/- The reader of a script: items over the text of the example. -/
import Derived.Test.YtcadbfggaipnhaaA3
namespace Go.Proofs.Ytcadbfggaipnhaa
open Go.RowKit
set_option linter.unusedSimpArgs false
set_option linter.unusedVariables false
def text1 : ByteArray := ⟨#[48, 32, 49, 42, 50, 32, 33, 48]⟩
def text2 : ByteArray := ⟨#[40, 49]⟩
/-- where a loop of items stands -/
def ItSt (w wr : World) (g : Nat) (s : ByteArray) (a op : Nat) (l : List (Int × Bool)) (v : Value) : Prop :=
  ∃ A c, v = .slice A l.length c ∧ wr.ownsRow w.heap.size 113 2 (.slice A l.length c) l.length (entV l) ∧ wr.heap[g]? = some (rdC s a op) ∧ w.grownBy wr (some g)
theorem blanks_dec (s : ByteArray) (a b : Nat) (h : ∀ i : Fin s.size, a ≤ i.val → i.val < b → (s[i].toNat : Int) = 32 ∨ ((s[i].toNat : Int) ≠ 32 ∧ (s[i].toNat : Int) = 10)) : ∀ i (hi : i < s.size), a ≤ i → i < b → (s[i].toNat : Int) = 32 ∨ ((s[i].toNat : Int) ≠ 32 ∧ (s[i].toNat : Int) = 10) := fun i hi => h ⟨i, hi⟩
theorem now_0 (g op : Nat) (w : World) (hg : w.heap[g]? = some (rdC text1 0 op)) : Calls Try.prog 138 #[.pointer (some ⟨g, 0, none⟩)] w (RetO (.int .u8 48) w g (rdC text1 0 op)) :=
  now_calls g text1 0 0 op 48 w hg (by decide) (by decide) (by decide) (blanks_dec _ _ _ (by decide)) (by decide)
theorem now_1 (g op : Nat) (w : World) (hg : w.heap[g]? = some (rdC text1 1 op)) : Calls Try.prog 138 #[.pointer (some ⟨g, 0, none⟩)] w (RetO (.int .u8 49) w g (rdC text1 2 op)) :=
  now_calls g text1 1 2 op 49 w hg (by decide) (by decide) (by decide) (blanks_dec _ _ _ (by decide)) (by decide)
theorem now_5 (g op : Nat) (w : World) (hg : w.heap[g]? = some (rdC text1 5 op)) : Calls Try.prog 138 #[.pointer (some ⟨g, 0, none⟩)] w (RetO (.int .u8 33) w g (rdC text1 6 op)) :=
  now_calls g text1 5 6 op 33 w hg (by decide) (by decide) (by decide) (blanks_dec _ _ _ (by decide)) (by decide)
theorem now_8 (g op : Nat) (w : World) (hg : w.heap[g]? = some (rdC text1 8 op)) : Calls Try.prog 138 #[.pointer (some ⟨g, 0, none⟩)] w (RetO (.int .u8 0) w g (rdC text1 8 op)) :=
  now_calls g text1 8 8 op 0 w hg (by decide) (by decide) (by decide) (blanks_dec _ _ _ (by decide)) (by decide)
theorem now_20 (g op : Nat) (w : World) (hg : w.heap[g]? = some (rdC text2 0 op)) : Calls Try.prog 138 #[.pointer (some ⟨g, 0, none⟩)] w (RetO (.int .u8 40) w g (rdC text2 0 op)) :=
  now_calls g text2 0 0 op 40 w hg (by decide) (by decide) (by decide) (blanks_dec _ _ _ (by decide)) (by decide)
theorem now_21 (g op : Nat) (w : World) (hg : w.heap[g]? = some (rdC text2 1 op)) : Calls Try.prog 138 #[.pointer (some ⟨g, 0, none⟩)] w (RetO (.int .u8 49) w g (rdC text2 1 op)) :=
  now_calls g text2 1 1 op 49 w hg (by decide) (by decide) (by decide) (blanks_dec _ _ _ (by decide)) (by decide)
theorem now_22 (g op : Nat) (w : World) (hg : w.heap[g]? = some (rdC text2 2 op)) : Calls Try.prog 138 #[.pointer (some ⟨g, 0, none⟩)] w (RetO (.int .u8 0) w g (rdC text2 2 op)) :=
  now_calls g text2 2 2 op 0 w hg (by decide) (by decide) (by decide) (blanks_dec _ _ _ (by decide)) (by decide)
theorem num_0 (g op : Nat) (w : World) (hg : w.heap[g]? = some (rdC text1 0 op)) : Calls Try.prog 140 #[.pointer (some ⟨g, 0, none⟩)] w (RetO (.int .i64 0) w g (rdC text1 1 op)) :=
  number_calls g text1 0 1 op 0 w hg (by decide) (by decide) rfl (by decide) (by decide) (fun W => parse_0 W) (by decide)
theorem num_2 (g op : Nat) (w : World) (hg : w.heap[g]? = some (rdC text1 2 op)) : Calls Try.prog 140 #[.pointer (some ⟨g, 0, none⟩)] w (RetO (.int .i64 1) w g (rdC text1 3 op)) :=
  number_calls g text1 2 3 op 1 w hg (by decide) (by decide) rfl (by decide) (by decide) (fun W => parse_1 W) (by decide)
theorem num_4 (g op : Nat) (w : World) (hg : w.heap[g]? = some (rdC text1 4 op)) : Calls Try.prog 140 #[.pointer (some ⟨g, 0, none⟩)] w (RetO (.int .i64 2) w g (rdC text1 5 op)) :=
  number_calls g text1 4 5 op 2 w hg (by decide) (by decide) rfl (by decide) (by decide) (fun W => parse_2 W) (by decide)
theorem num_7 (g op : Nat) (w : World) (hg : w.heap[g]? = some (rdC text1 7 op)) : Calls Try.prog 140 #[.pointer (some ⟨g, 0, none⟩)] w (RetO (.int .i64 0) w g (rdC text1 8 op)) :=
  number_calls g text1 7 8 op 0 w hg (by decide) (by decide) rfl (by decide) (by decide) (fun W => parse_0 W) (by decide)
theorem num_21 (g op : Nat) (w : World) (hg : w.heap[g]? = some (rdC text2 1 op)) : Calls Try.prog 140 #[.pointer (some ⟨g, 0, none⟩)] w (RetO (.int .i64 1) w g (rdC text2 2 op)) :=
  number_calls g text2 1 2 op 1 w hg (by decide) (by decide) rfl (by decide) (by decide) (fun W => parse_1 W) (by decide)
end Go.Proofs.Ytcadbfggaipnhaa
