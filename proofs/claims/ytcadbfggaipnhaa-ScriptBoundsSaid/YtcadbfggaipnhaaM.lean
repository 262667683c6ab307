/- Words on memory: a row of elements that reads as a list; what is kept. -/
import Derived.Test.YtcadbfggaipnhaaP
import Derived.Laws.AppendOwn
import Derived.Laws.Rows
namespace Go.Proofs.Ytcadbfggaipnhaa
open Go.RowKit
set_option linter.unusedSimpArgs false
set_option linter.unusedVariables false

structure Ins where
  kind : Int
  op : Int
  a : Int
  b : Int
  c : Int
  k : Int
deriving DecidableEq, Inhabited
def insC (x : Ins) : List Value := [.int .i64 x.kind, .int .i64 x.op, .int .i64 x.a, .int .i64 x.b, .int .i64 x.c, .int .i64 x.k]
def pairC (x : Int × Int) : List Value := [.int .i64 x.1, .int .i64 x.2]
def intC (x : Int) : List Value := [.int .i64 x]
structure Event where
  kind : Int
  worker : Int
  age : Int
  at_ : Int
  value : Int
  from_ : Int
deriving DecidableEq, Inhabited
def evC (x : Event) : List Value := [.int .i64 x.kind, .int .i64 x.worker, .int .i64 x.age, .int .i64 x.at_, .int .i64 x.value, .int .i64 x.from_]

/-- the k-th element -/
def nth {α : Type} [Inhabited α] (l : List α) (k : Nat) : α := l.getD k default
theorem nth_eq {α : Type} [Inhabited α] {l : List α} {k : Nat} (h : k < l.length) : nth l k = l[k] := by simp [nth, h]
theorem nth_some {α : Type} [Inhabited α] {l : List α} {k : Nat} (h : k < l.length) : l[k]? = some (nth l k) := by simp [nth, h]
theorem take_nth {α : Type} [Inhabited α] {l : List α} {k : Nat} (h : k < l.length) : l.take (k + 1) = l.take k ++ [nth l k] := by
  rw [List.take_succ_eq_append_getElem h, nth_eq h]
/-- n elements of m cells each lie at A, below block B: element k's cells are f k -/
def Row (w : World) (B : Nat) (A : Option Addr) (m n : Nat) (f : Nat → List Value) : Prop :=
  n = 0 ∨ ∃ b off, A = some ⟨b, off, none⟩ ∧ b < B ∧ ∀ k j u, k < n → (f k)[j]? = some u → w.cell? ⟨b, off + k * m + j, none⟩ = some u
theorem Row.below {w w' : World} {B m n : Nat} {A : Option Addr} {f : Nat → List Value} (h : Row w B A m n f) (hb : Below B w w') : Row w' B A m n f := by
  rcases h with h | ⟨b, off, hA, hlt, hc⟩
  · exact .inl h
  · exact .inr ⟨b, off, hA, hlt, fun k j u hk hj => (hb.cell (p := ⟨b, off + k * m + j, none⟩) hlt).trans (hc k j u hk hj)⟩
theorem Row.mono {w : World} {B B' m n : Nat} {A : Option Addr} {f : Nat → List Value} (h : Row w B A m n f) (hB : B ≤ B') : Row w B' A m n f := by
  rcases h with h | ⟨b, off, hA, hlt, hc⟩
  · exact .inl h
  · exact .inr ⟨b, off, hA, by omega, hc⟩
theorem Row.nil {w : World} {B m : Nat} {A : Option Addr} {f : Nat → List Value} : Row w B A m 0 f := .inl rfl
/-- the cells of the elements, one fact for each -/
def cellIs (w : World) (b o : Nat) (v : Value) : Prop := w.cell? ⟨b, o, none⟩ = some v
theorem Row.open_ {w : World} {B m n : Nat} {A : Option Addr} {f : Nat → List Value} (h : Row w B A m n f) (hn : 0 < n) :
    ∃ b off, A = some ⟨b, off, none⟩ ∧ b < B ∧ ∀ k j u, k < n → (f k)[j]? = some u → w.cell? ⟨b, off + k * m + j, none⟩ = some u := by
  rcases h with h | h
  · omega
  · exact h
theorem ins_cells {w : World} {b off n : Nat} {l : List Ins} (h : ∀ k j u, k < n → (insC (nth l k))[j]? = some u → w.cell? ⟨b, off + k * 6 + j, none⟩ = some u) (k : Nat) (hk : k < n) :
    w.cell? ⟨b, off + k * 6, none⟩ = some (.int .i64 (nth l k).kind) ∧ w.cell? ⟨b, off + k * 6 + 1, none⟩ = some (.int .i64 (nth l k).op) ∧
    w.cell? ⟨b, off + k * 6 + 2, none⟩ = some (.int .i64 (nth l k).a) ∧ w.cell? ⟨b, off + k * 6 + 3, none⟩ = some (.int .i64 (nth l k).b) ∧
    w.cell? ⟨b, off + k * 6 + 4, none⟩ = some (.int .i64 (nth l k).c) ∧ w.cell? ⟨b, off + k * 6 + 5, none⟩ = some (.int .i64 (nth l k).k) :=
  ⟨h k 0 _ hk rfl, h k 1 _ hk rfl, h k 2 _ hk rfl, h k 3 _ hk rfl, h k 4 _ hk rfl, h k 5 _ hk rfl⟩
theorem ev_cells {w : World} {b off n : Nat} {l : List Event} (h : ∀ k j u, k < n → (evC (nth l k))[j]? = some u → w.cell? ⟨b, off + k * 6 + j, none⟩ = some u) (k : Nat) (hk : k < n) :
    w.cell? ⟨b, off + k * 6, none⟩ = some (.int .i64 (nth l k).kind) ∧ w.cell? ⟨b, off + k * 6 + 1, none⟩ = some (.int .i64 (nth l k).worker) ∧
    w.cell? ⟨b, off + k * 6 + 2, none⟩ = some (.int .i64 (nth l k).age) ∧ w.cell? ⟨b, off + k * 6 + 3, none⟩ = some (.int .i64 (nth l k).at_) ∧
    w.cell? ⟨b, off + k * 6 + 4, none⟩ = some (.int .i64 (nth l k).value) ∧ w.cell? ⟨b, off + k * 6 + 5, none⟩ = some (.int .i64 (nth l k).from_) :=
  ⟨h k 0 _ hk rfl, h k 1 _ hk rfl, h k 2 _ hk rfl, h k 3 _ hk rfl, h k 4 _ hk rfl, h k 5 _ hk rfl⟩
theorem pair_cells {w : World} {b off n : Nat} {l : List (Int × Int)} (h : ∀ k j u, k < n → (pairC (nth l k))[j]? = some u → w.cell? ⟨b, off + k * 2 + j, none⟩ = some u) (k : Nat) (hk : k < n) :
    w.cell? ⟨b, off + k * 2, none⟩ = some (.int .i64 (nth l k).1) ∧ w.cell? ⟨b, off + k * 2 + 1, none⟩ = some (.int .i64 (nth l k).2) :=
  ⟨h k 0 _ hk rfl, h k 1 _ hk rfl⟩
theorem int_cells {w : World} {b off n : Nat} {l : List Int} (h : ∀ k j u, k < n → (intC (nth l k))[j]? = some u → w.cell? ⟨b, off + k * 1 + j, none⟩ = some u) (k : Nat) (hk : k < n) :
    w.cell? ⟨b, off + k, none⟩ = some (.int .i64 (nth l k)) := by
  have := h k 0 _ hk rfl
  simpa using this

/-! blocks -/
def vals (l : List Int) : List Value := l.map (.int .i64)
section
variable {w w' : World} {g : Nat} {o : Obj} {cs : Array Value} {t : TypeId} {fr : Nat × Nat}
theorem blk_lt (h : w.heap[g]? = some o) : g < w.heap.size := by
  rcases Nat.lt_or_ge g w.heap.size with hlt | hge
  · exact hlt
  · rw [Array.getElem?_eq_none hge] at h; cases h
theorem blk_alloc (h : w.heap[g]? = some o) (o' : Obj) : (w.alloc o').heap[g]? = some o := (Below.heap_alloc w o' g (blk_lt h)).trans h
theorem blk_drew (h : w.heap[g]? = some o) : w.drew.heap[g]? = some o := h
theorem blk_drewN (h : w.heap[g]? = some o) (n : Nat) : (w.drewN n).heap[g]? = some o := h
theorem blk_far (h : w.heap[g]? = some o) {p : Addr} (hp : g ≠ p.block) (u : Value) : (w.setCell p u).heap[g]? = some o := (Below.heap_setCell w p u g hp).trans h
theorem blk_set (h : w.heap[g]? = some (.cells cs t fr)) (i : Nat) (u : Value) : (w.setCell ⟨g, i, none⟩ u).heap[g]? = some (.cells (cs.setIfInBounds i u) t fr) := by
  simp [World.setCell, Array.getElem?_modify, h]
theorem blk_new (w : World) (o : Obj) : (w.alloc o).heap[w.heap.size]? = some o := heap_alloc_new w o
theorem blk_new' {n : Nat} (h : n = w.heap.size) : (w.alloc o).heap[n]? = some o := by subst h; exact heap_alloc_new w o
theorem blk_cell (h : w.heap[g]? = some (.cells cs t fr)) (i : Nat) : w.cell? ⟨g, i, none⟩ = cs[i]? := cell_of_row w g i cs t fr h
theorem blk_frozen (h : w.heap[g]? = some (.cells cs t (0, 0))) (i : Nat) : w.frozen? ⟨g, i, none⟩ = false := by simp [World.frozen?, h]
theorem blk_grown {row : Option Nat} (hgr : w.grownBy w' row) (h : w.heap[g]? = some o) (hne : some g ≠ row) : w'.heap[g]? = some o := (hgr.block g (blk_lt h) hne).trans h
theorem blk_below {B : Nat} (hb : Below B w w') (h : w.heap[g]? = some o) (hg : g < B) : w'.heap[g]? = some o := (hb.block g hg).trans h
theorem own_ne {base : Nat} {e : TypeId} {size n : Nat} {v : Value} {xs : List Value} (ho : w.ownsRow base e size v n xs) (h : w.heap[g]? = some (.cells cs t fr)) (hne : e ≠ t) : some g ≠ v.ownBlock := by
  rcases ho.2 with ⟨rfl, _⟩ | ⟨g', cap, cur, rfl, _, hh, _⟩
  · simp [Value.ownBlock]
  · intro he
    have : g = g' := by simpa [Value.ownBlock] using he
    subst this
    rw [hh] at h
    injection h with h
    injection h with _ ht
    exact hne ht
theorem own_new_ne {base : Nat} {e : TypeId} {size n m : Nat} {v : Value} {xs : List Value} (ho : w.ownsRow base e size v n xs) (h : w.heap.size ≤ m) : some m ≠ v.ownBlock := by
  intro he
  have := (ho.lt m he.symm).2
  omega
theorem own_own_ne {base base' : Nat} {e e' : TypeId} {size size' n n' : Nat} {v v' : Value} {xs xs' : List Value} (ho : w.ownsRow base e size v n xs) (h : w.ownsRow base' e' size' v' n' xs') (hne : e ≠ e') : v.ownBlock = none ∨ v.ownBlock ≠ v'.ownBlock := by
  rcases ho.2 with ⟨rfl, _⟩ | ⟨g', cap, cur, rfl, _, hh, _⟩
  · exact .inl rfl
  · exact .inr (own_ne h hh (Ne.symm hne))
theorem own_drew {base : Nat} {e : TypeId} {size n : Nat} {v : Value} {xs : List Value} (ho : w.ownsRow base e size v n xs) : w.drew.ownsRow base e size v n xs := ho
theorem own_drewN {base : Nat} {e : TypeId} {size n : Nat} {v : Value} {xs : List Value} (ho : w.ownsRow base e size v n xs) (m : Nat) : (w.drewN m).ownsRow base e size v n xs := ho
theorem own_far {base : Nat} {e : TypeId} {size n : Nat} {v : Value} {xs : List Value} (ho : w.ownsRow base e size v n xs) {p : Addr} (hp : some p.block ≠ v.ownBlock) (u : Value) : (w.setCell p u).ownsRow base e size v n xs := by
  refine ⟨ho.1, ?_⟩
  rcases ho.2 with h | ⟨g', cap, cur, rfl, hb, hh, r⟩
  · exact .inl h
  · refine .inr ⟨g', cap, cur, rfl, hb, blk_far hh (fun e => hp ?_) u, r⟩
    simp [Value.ownBlock, e]
end
end Go.Proofs.Ytcadbfggaipnhaa
