/- Plain definitions: what the program's small functions reckon, as Lean functions on numbers and lists. -/
import Derived.WalkKit
import Derived.Below
import Derived.Deep.Draws
import Derived.Laws.NewBlocks

namespace Go.Proofs.Ytcadbfggaipnhaa
open Go.RowKit
set_option linter.unusedSimpArgs false
set_option linter.unusedVariables false

def b2i (p : Bool) : Int := if p then 1 else 0
def held (op a b : Int) : Int :=
  if op = 11 then b2i (a == b) else if op = 12 then b2i (a != b) else if op = 13 then b2i (decide (a < b)) else if op = 14 then b2i (decide (a ≤ b))
  else if op = 15 then b2i (decide (b < a)) else if op = 16 then b2i (decide (b ≤ a)) else 0
def shamt (b : Int) : Nat := min (IntKind.u64.wrap (bits BinOp.and IntKind.i64 b 63)).toNat 64
/-- num.Two: the number, and whether there is one -/
def two (op a b : Int) : Int × Bool :=
  if 11 ≤ op ∧ op ≤ 16 then (held op a b, true)
  else if op = 1 then (wrap64 (a + b), true) else if op = 2 then (wrap64 (a - b), true) else if op = 3 then (wrap64 (a * b), true)
  else if op = 4 ∨ op = 5 then (if b = 0 then (0, false) else if op = 5 then (a.tmod b, true) else (wrap64 (a.tdiv b), true))
  else if op = 6 then (bits .and .i64 a b, true) else if op = 7 then (bits .or .i64 a b, true) else if op = 8 then (bits .xor .i64 a b, true)
  else if op = 9 then (wrap64 (a * 2 ^ shamt b), true) else if op = 10 then (a / 2 ^ shamt b, true)
  else if op = 17 then (if a ≤ b then a else b, true) else if op = 18 then (if a ≤ b then b else a, true)
  else (0, false)
def one (op a : Int) : Int × Bool :=
  if op = 19 then (wrap64 (-a), true) else if op = 20 then (bits .xor .i64 (-1) a, true)
  else if op = 21 then (b2i (a == 0), true) else (0, false)

def top : Int := 9223372036854775807
def plus (a b : Int) : Int := if max a 0 > top - max b 0 then top else max a 0 + max b 0
def times (a b : Int) : Int := if max a 0 ≠ 0 ∧ max b 0 > top.tdiv (max a 0) then top else max a 0 * max b 0

def I64 (n : Int) : Prop := -9223372036854775808 ≤ n ∧ n ≤ 9223372036854775807
/-- plan.loop: how many, and the error -/
def loopN (lo hi st : Int) : Int × Int :=
  if st = 0 then (0, 150)
  else if (0 < st ∧ hi ≤ lo) ∨ (st < 0 ∧ lo ≤ hi) then (0, 0)
  else if (if 0 < st then (hi - lo - 1) / st + 1 else (lo - hi - 1) / (-st) + 1) > 200 then (0, 151)
  else (if 0 < st then (hi - lo - 1) / st + 1 else (lo - hi - 1) / (-st) + 1, 0)
def countN (k lo hi st it sg : Int) : Int × Int :=
  if k = 1 then (if it ≠ 0 ∨ sg ≠ 0 then (0, 152) else loopN lo hi st)
  else if k = 2 then
    (if lo ≠ 0 ∨ hi ≠ 0 ∨ st ≠ 0 then (0, 152) else if it < 0 ∨ sg < 1 ∨ 6 < sg then (0, 152) else if it > 200 / sg then (0, 151) else (it * sg, 0))
  else (0, 152)
theorem loop_range (lo hi st : Int) : 0 ≤ (loopN lo hi st).1 ∧ (loopN lo hi st).1 ≤ 200 ∧ ((loopN lo hi st).2 ≠ 0 → (loopN lo hi st).1 = 0) := by
  have key : ∀ a b : Int, 0 ≤ a → 1 ≤ b → 0 ≤ a / b + 1 := fun a b h0 hb => by have := Int.ediv_nonneg h0 (b := b) (by omega); omega
  unfold loopN
  by_cases h1 : st = 0
  · rw [if_pos h1]; simp
  rw [if_neg h1]
  by_cases h2 : (0 < st ∧ hi ≤ lo) ∨ (st < 0 ∧ lo ≤ hi)
  · rw [if_pos h2]; simp
  rw [if_neg h2]
  have h3 : 0 ≤ if 0 < st then (hi - lo - 1) / st + 1 else (lo - hi - 1) / (-st) + 1 := by
    by_cases h4 : 0 < st
    · rw [if_pos h4]; exact key _ _ (by omega) (by omega)
    · rw [if_neg h4]; exact key _ _ (by omega) (by omega)
  generalize (if 0 < st then (hi - lo - 1) / st + 1 else (lo - hi - 1) / (-st) + 1) = n at *
  by_cases h4 : n > 200
  · rw [if_pos h4]; simp
  · rw [if_neg h4]; exact ⟨h3, by simpa using h4, by simp⟩
theorem count_range (k lo hi st it sg : Int) : 0 ≤ (countN k lo hi st it sg).1 ∧ (countN k lo hi st it sg).1 ≤ 200 ∧ ((countN k lo hi st it sg).2 ≠ 0 → (countN k lo hi st it sg).1 = 0) := by
  unfold countN
  by_cases h1 : k = 1
  · rw [if_pos h1]
    by_cases h2 : it ≠ 0 ∨ sg ≠ 0
    · rw [if_pos h2]; simp
    · rw [if_neg h2]; exact loop_range lo hi st
  rw [if_neg h1]
  by_cases h2 : k = 2
  · rw [if_pos h2]
    by_cases h3 : lo ≠ 0 ∨ hi ≠ 0 ∨ st ≠ 0
    · rw [if_pos h3]; simp
    rw [if_neg h3]
    by_cases h4 : it < 0 ∨ sg < 1 ∨ 6 < sg
    · rw [if_pos h4]; simp
    rw [if_neg h4]
    by_cases h5 : it > 200 / sg
    · rw [if_pos h5]; simp
    rw [if_neg h5]
    have e : sg = 1 ∨ sg = 2 ∨ sg = 3 ∨ sg = 4 ∨ sg = 5 ∨ sg = 6 := by omega
    have h6 : 0 ≤ it := by omega
    refine ⟨Int.mul_nonneg h6 (by omega), ?_, by simp⟩
    show it * sg ≤ 200
    rcases e with rfl | rfl | rfl | rfl | rfl | rfl <;> omega
  · rw [if_neg h2]; simp
theorem count_stages {lo hi st it sg n : Int} (h : countN 2 lo hi st it sg = (n, 0)) (hn : 0 < n) : 1 ≤ sg ∧ sg ≤ 6 := by
  unfold countN at h
  rw [if_neg (by omega), if_pos rfl] at h
  by_cases h3 : lo ≠ 0 ∨ hi ≠ 0 ∨ st ≠ 0
  · rw [if_pos h3] at h; simp at h
  rw [if_neg h3] at h
  by_cases h4 : it < 0 ∨ sg < 1 ∨ 6 < sg
  · rw [if_pos h4] at h; simp at h
  omega
def stagesN (k sg : Int) : Int := if k = 2 then sg else 1
/-- plan.At: the index, the stage, the error -/
def atN (k lo hi st it sg age : Int) : Int × Int × Int :=
  if (countN k lo hi st it sg).2 ≠ 0 then (0, 0, (countN k lo hi st it sg).2)
  else if age < 0 ∨ (countN k lo hi st it sg).1 ≤ age then (0, 0, 210)
  else if k = 2 then (age / sg, age % sg, 0)
  else (wrap64 (lo + wrap64 (age * st)), 0, 0)
/-- red: is there such an operation? what turns nothing? two numbers joined -/
def redRight (op : Int) : Bool := decide (1 ≤ op) && decide (op ≤ 7)
def redZero (op : Int) : Int := if op = 2 then 1 else if op = 3 then 9223372036854775807 else if op = 4 then -9223372036854775808 else if op = 5 then -1 else 0
def redJoin (op a b : Int) : Int :=
  if op = 1 then wrap64 (a + b) else if op = 2 then wrap64 (a * b) else if op = 3 then (if a ≤ b then a else b) else if op = 4 then (if a ≤ b then b else a)
  else if op = 5 then bits .and .i64 a b else if op = 6 then bits .or .i64 a b else if op = 7 then bits .xor .i64 a b else 0
/-- is a number a register's? -/
def regB (n : Int) : Bool := decide (0 ≤ n) && decide (n < 16)
/-- ins.One: the error of an instruction -/
def insOne (kd op a b c k cells long : Int) : Int :=
  if kd = 1 then (if (a != 0 || b != 0 || c != 0 || k != 0 || op != 0) then 83 else 0)
  else if kd = 2 then (if (!regB a) then 82 else if (b != 0 || c != 0 || op != 0) then 83 else 0)
  else if kd = 3 then (if (!regB a || !regB b) then 82 else if (c != 0 || k != 0 || op != 0) then 83 else 0)
  else if kd = 4 then (if (decide (op < 19) || decide (21 < op)) then 81 else if (!regB a || !regB b) then 82 else if (c != 0 || k != 0) then 83 else 0)
  else if kd = 5 then (if (decide (op < 1) || decide (18 < op)) then 81 else if (!regB a || !regB b || !regB c) then 82 else if (k != 0) then 83 else 0)
  else if kd = 6 ∨ kd = 7 then (if (!regB a || !regB b) then 82 else if (c != 0 || op != 0) then 83 else 0)
  else if kd = 8 then (if (!regB a) then 82 else if (b != 0 || k != 0 || op != 0) then 83 else if (decide (c < 0) || decide (cells ≤ c) || decide (4 ≤ c)) then 63 else 0)
  else if kd = 9 ∨ kd = 13 then (if (!regB a) then 82 else if (b != 0 || c != 0 || k != 0 || op != 0) then 83 else 0)
  else if kd = 10 then (if (a != 0 || b != 0 || c != 0 || op != 0) then 83 else if (decide (k < 0) || decide (long ≤ k)) then 84 else 0)
  else if kd = 11 ∨ kd = 12 then (if (!regB a) then 82 else if (b != 0 || c != 0 || op != 0) then 83 else if (decide (k < 0) || decide (long ≤ k)) then 84 else 0)
  else 81
/-- may the next instruction be done behind this one? -/
def fallsB (kd : Int) : Bool := kd != 1 && kd != 10 && kd != 13
/-- a call that makes memory of its own, and turns nothing that was there -/
def RetB (v : Value) (w : World) (e : Ending) (w' : World) : Prop := e = .returned v ∧ Below w.heap.size w w'

/-- a call that leaves the world as it is -/
def Ret (v : Value) (w : World) (e : Ending) (w' : World) : Prop := e = .returned v ∧ w = w'
/-- a call that only reads: orders may be drawn -/
def RetD (v : Value) (w : World) (e : Ending) (w' : World) : Prop := e = .returned v ∧ ∃ n, w' = w.drewN n
theorem ret_eq {v v' : Value} {w : World} (h : v' = v) : Ret v w (.returned v') w := ⟨by rw [h], rfl⟩
theorem ret_int {k : IntKind} {a b : Int} {w : World} (h : b = a) : Ret (.int k a) w (.returned (.int k b)) w := ⟨by rw [h], rfl⟩
theorem ret_bool {a b : Bool} {w : World} (h : b = a) : Ret (.bool a) w (.returned (.bool b)) w := ⟨by rw [h], rfl⟩
theorem ret_ib {k : IntKind} {a b : Int} {p q : Bool} {w : World} (h : (b, q) = (a, p)) : Ret (.tuple #[.int k a, .bool p]) w (.returned (.tuple #[.int k b, .bool q])) w := by
  simp only [Prod.mk.injEq] at h; obtain ⟨rfl, rfl⟩ := h; exact ⟨rfl, rfl⟩
theorem ret_ii {k k' : IntKind} {a b p q : Int} {w : World} (h : (b, q) = (a, p)) : Ret (.tuple #[.int k a, .int k' p]) w (.returned (.tuple #[.int k b, .int k' q])) w := by
  simp only [Prod.mk.injEq] at h; obtain ⟨rfl, rfl⟩ := h; exact ⟨rfl, rfl⟩
theorem ret_iii {k k' k'' : IntKind} {a b p q r s : Int} {w : World} (h : (b, q, s) = (a, p, r)) : Ret (.tuple #[.int k a, .int k' p, .int k'' r]) w (.returned (.tuple #[.int k b, .int k' q, .int k'' s])) w := by
  simp only [Prod.mk.injEq] at h; obtain ⟨rfl, rfl, rfl⟩ := h; exact ⟨rfl, rfl⟩
/-- a fact that the walk doesn't look into -/
theorem hid {p : Prop} (h : p) : Hid p := h
theorem bcell {W w1 : World} (hb : Below W.heap.size W w1) : (∀ b o, b < W.heap.size → w1.cell? ⟨b, o, none⟩ = W.cell? ⟨b, o, none⟩) ∧ (∀ b o, b < W.heap.size → w1.frozen? ⟨b, o, none⟩ = W.frozen? ⟨b, o, none⟩) :=
  ⟨fun b o h => hb.cell (p := ⟨b, o, none⟩) h, fun b o h => hb.frozen (p := ⟨b, o, none⟩) h⟩
theorem below_call {w W W' : World} (h : Below w.heap.size w W) (k : Below W.heap.size W W') : Below w.heap.size w W' := h.trans (k.mono h.size)
theorem below_alloc' {w W : World} (h : Below w.heap.size w W) (o : Obj) : Below w.heap.size w (W.alloc o) := h.alloc h.size o
theorem below_drewN' {B : Nat} {w W : World} (h : Below B w W) (n : Nat) : Below B w (W.drewN n) := ⟨h.os, h.tape, h.output, h.size, h.block⟩
theorem retB_ii {k k' : IntKind} {a b p q : Int} {w w' : World} (h : (b, q) = (a, p)) (hb : Below w.heap.size w w') : RetB (.tuple #[.int k a, .int k' p]) w (.returned (.tuple #[.int k b, .int k' q])) w' := by
  simp only [Prod.mk.injEq] at h; obtain ⟨rfl, rfl⟩ := h; exact ⟨rfl, hb⟩
theorem retB_b {a b : Bool} {w w' : World} (h : b = a) (hb : Below w.heap.size w w') : RetB (.bool a) w (.returned (.bool b)) w' := by
  subst h; exact ⟨rfl, hb⟩
theorem retB_i {k : IntKind} {a b : Int} {w w' : World} (h : b = a) (hb : Below w.heap.size w w') : RetB (.int k a) w (.returned (.int k b)) w' := by
  subst h; exact ⟨rfl, hb⟩
theorem retB_iii {k k' k'' : IntKind} {a b p q r s : Int} {w w' : World} (h : (b, q, s) = (a, p, r)) (hb : Below w.heap.size w w') : RetB (.tuple #[.int k a, .int k' p, .int k'' r]) w (.returned (.tuple #[.int k b, .int k' q, .int k'' s])) w' := by
  simp only [Prod.mk.injEq] at h; obtain ⟨rfl, rfl, rfl⟩ := h; exact ⟨rfl, hb⟩
end Go.Proofs.Ytcadbfggaipnhaa
