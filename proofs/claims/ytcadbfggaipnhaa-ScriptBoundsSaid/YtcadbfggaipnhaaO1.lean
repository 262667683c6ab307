/- Arguments laid open: rows of structs, jobs, configs. -/
import Derived.Test.YtcadbfggaipnhaaC10
import Derived.Test.YtcadbfggaipnhaaS1
import Derived.WalkKit
import Derived.ProofKit
import Derived.OpenShut
import Derived.Deep.Slices
import Derived.Deep.Fields
namespace Go.Proofs.Ytcadbfggaipnhaa
open Go.RowKit Go.WideShapes Go.Deep
set_option linter.unusedSimpArgs false
set_option linter.unusedVariables false
section
variable {H : Type} {enc : TypeId × Value → H} {w : World}
/-- a slice that came in, its elements read as 'g x', each of them 'good' -/
theorem read_rows {α : Type} [Inhabited α] (g : α → List Value) (good : α → Prop) (sz : Nat) {t e : TypeId} {fuel : Nat} {cs : List Value} {x : DataW H × List MemPlace}
    (ht : Try.prog.underlying t = some (.slice e)) (hC : Try.prog.cellsOf e = sz) (hz : 0 < sz) (hg : ∀ x, (g x).length = sz)
    (hel : ∀ n cs' y, cs'.length = sz → DataW.trod enc Try.prog w 0 (fun _ => true) true n e cs' = some y → ∃ x : α, cs' = g x ∧ good x)
    (h : DataW.trod enc Try.prog w 0 (fun _ => true) true fuel t cs = some x) :
    ∃ (A : Option Addr) (c : Nat) (l : List α), cs = [.slice A l.length c] ∧ l.length ≤ c ∧ c ≤ maxLen ∧ Row w w.heap.size A sz l.length (fun k => g (nth l k)) ∧ ∀ k, k < l.length → good (nth l k) := by
  rcases open_slice ht h with ⟨rfl, -⟩ | ⟨a, len, cap, m, n, D, Pl, rfl, hb, hl, hm, hmm, -, hi⟩
  · exact ⟨none, 0, [], rfl, Nat.le_refl _, by unfold maxLen; omega, .inl rfl, fun k hk => by simp at hk⟩
  · simp only [if_true] at hmm
    subst hmm
    rw [hC] at hi
    have hex : ∀ i, ∃ y : α, i < m → (good y ∧ ∀ j u, (g y)[j]? = some u → w.cell? (a.add (i * sz + j)) = some u) := by
      intro i
      by_cases h1 : i < m
      · obtain ⟨cs', hc, htr⟩ := hi i h1
        obtain ⟨_, hcl, hat⟩ := World.cells?_some hc
        obtain ⟨y, rfl, hy⟩ := hel n cs' _ hcl htr
        refine ⟨y, fun _ => ⟨hy, fun j u hu => ?_⟩⟩
        have hj : j < sz := by rw [← hcl]; exact (List.getElem?_eq_some_iff.1 hu).1
        rw [← Go.Deep.add_add, hat j hj]; exact hu
      · exact ⟨default, fun h2 => absurd h2 h1⟩
    let f : Nat → α := fun i => Classical.choose (hex i)
    have hf : ∀ i, i < m → (good (f i) ∧ ∀ j u, (g (f i))[j]? = some u → w.cell? (a.add (i * sz + j)) = some u) := fun i => Classical.choose_spec (hex i)
    have hlen : ((List.range len).map f).length = len := by simp
    have hnth : ∀ k, k < len → nth ((List.range len).map f) k = f k := fun k hk => by rw [nth_eq (by simpa using hk)]; simp
    refine ⟨some a, m, (List.range len).map f, by rw [hlen], by rw [hlen]; exact hl, hm, ?_, fun k hk => ?_⟩
    · rw [hlen]
      rcases Nat.eq_zero_or_pos len with h0 | h0
      · exact .inl h0
      · obtain ⟨b, off, spot⟩ := a
        have hne : ∃ u, (g (f 0))[0]? = some u := by
          have := hg (f 0)
          exact ⟨(g (f 0))[0], List.getElem?_eq_getElem (by omega)⟩
        obtain ⟨u0, hu0⟩ := hne
        have hc0 := (hf 0 (by omega)).2 0 u0 hu0
        have hspot : spot = none := by simpa [Addr.add] using World.cell?_spot hc0
        subst hspot
        refine .inr ⟨b, off, rfl, ?_, fun k j u hk hu => ?_⟩
        · rw [add_plain] at hc0
          rcases Nat.lt_or_ge b w.heap.size with hlt | hge
          · exact hlt
          · simp [World.cell?, Array.getElem?_eq_none hge] at hc0
        · replace hu : (g (nth ((List.range len).map f) k))[j]? = some u := hu
          rw [hnth k hk] at hu
          have := (hf k (by omega)).2 j u hu
          rw [add_plain] at this
          rw [Nat.add_assoc]; exact this
    · rw [hlen] at hk
      rw [hnth k hk]; exact (hf k (by omega)).1
theorem read_int {t : TypeId} {n : Nat} {v : Value} {y : DataW H × List MemPlace} (ht : Try.prog.underlying t = some (.int .i64)) (h : DataW.trod enc Try.prog w 0 (fun _ => true) true n t [v] = some y) : ∃ x : Int, v = .int .i64 x ∧ I64 x := by
  obtain ⟨x, e, -, hw⟩ := DataW.trod_int ht h
  simp only [List.cons.injEq, and_true] at e
  exact ⟨x, e, bounds_i64 hw⟩
theorem read_bool {t : TypeId} {n : Nat} {v : Value} {y : DataW H × List MemPlace} (ht : Try.prog.underlying t = some .bool) (h : DataW.trod enc Try.prog w 0 (fun _ => true) true n t [v] = some y) : ∃ x : Bool, v = .bool x := by
  obtain ⟨x, e, -⟩ := DataW.trod_bool ht h
  simp only [List.cons.injEq, and_true] at e
  exact ⟨x, e⟩
/-- a struct's fields, each read by its own cells -/
theorem read_fields {t : TypeId} {n : Nat} {cs : List Value} {y : DataW H × List MemPlace} {fs : Array Field} (ht : Try.prog.underlying t = some (.struct fs)) (h : DataW.trod enc Try.prog w 0 (fun _ => true) true n t cs = some y) :
    cs.length = Try.prog.cellsOf t ∧ ∃ m, ∀ (i : Nat) (f : Field), fs[i]? = some f → ∃ y, DataW.trod enc Try.prog w 0 (fun _ => true) true m f.type ((cs.drop f.offset).take (Try.prog.cellsOf f.type)) = some y := by
  obtain ⟨xs, m, -, -, hcl, hxl, hf⟩ := DataW.trod_struct ht h
  refine ⟨hcl, m, fun i f hi => ?_⟩
  have hlt : i < xs.length := by rw [hxl]; exact (Array.getElem?_eq_some_iff.1 hi).1
  exact ⟨xs[i], (hf i f hi).trans (List.getElem?_eq_getElem hlt)⟩
end
theorem cells_int : Try.prog.cellsOf 3 = 1 := by kernel_rfl
theorem cells_i64 : Try.prog.cellsOf 2 = 1 := by kernel_rfl
theorem cells_bool : Try.prog.cellsOf 4 = 1 := by kernel_rfl
theorem cells_cell : Try.prog.cellsOf 253 = 2 := by kernel_rfl
theorem cells_red : Try.prog.cellsOf 176 = 2 := by kernel_rfl
theorem cells_op : Try.prog.cellsOf 174 = 1 := by kernel_rfl
theorem cells_ins : Try.prog.cellsOf 152 = 6 := by kernel_rfl
theorem cells_kind : Try.prog.cellsOf 149 = 1 := by kernel_rfl
theorem cells_opn : Try.prog.cellsOf 150 = 1 := by kernel_rfl
theorem cells_codes : Try.prog.cellsOf 147 = 1 := by kernel_rfl
theorem cells_shape : Try.prog.cellsOf 26 = 6 := by kernel_rfl
theorem cells_job : Try.prog.cellsOf 29 = 11 := by kernel_rfl
theorem cells_cfg : Try.prog.cellsOf 32 = 11 := by kernel_rfl
theorem cells_sk : Try.prog.cellsOf 24 = 1 := by kernel_rfl
theorem cells_pol : Try.prog.cellsOf 30 = 1 := by kernel_rfl
theorem cells_sc : Try.prog.cellsOf 22 = 1 := by kernel_rfl
theorem cells_sr : Try.prog.cellsOf 23 = 1 := by kernel_rfl
theorem cells_scc : Try.prog.cellsOf 27 = 1 := by kernel_rfl
section
variable {H : Type} {enc : TypeId × Value → H} {w : World}
set_option maxRecDepth 100000 in
theorem read_cell (n : Nat) (cs : List Value) (y : DataW H × List MemPlace) (hl : cs.length = 2) (h : DataW.trod enc Try.prog w 0 (fun _ => true) true n 253 cs = some y) : ∃ x : Int × Int, cs = pairC x ∧ (I64 x.1 ∧ I64 x.2) := by
  obtain ⟨-, m, hf⟩ := read_fields Try.underlying253 h
  match cs, hl with
  | [c0, c1], _ =>
    obtain ⟨y0, h0⟩ := hf 0 _ rfl
    obtain ⟨y1, h1⟩ := hf 1 _ rfl
    simp [cells_int, cells_i64] at h0 h1
    obtain ⟨a, rfl, ha⟩ := read_int Try.underlying3 h0
    obtain ⟨b, rfl, hb⟩ := read_int Try.underlying2 h1
    exact ⟨(a, b), rfl, ha, hb⟩
set_option maxRecDepth 100000 in
theorem read_red (n : Nat) (cs : List Value) (y : DataW H × List MemPlace) (hl : cs.length = 2) (h : DataW.trod enc Try.prog w 0 (fun _ => true) true n 176 cs = some y) : ∃ x : Int × Int, cs = pairC x ∧ (I64 x.1 ∧ I64 x.2) := by
  obtain ⟨-, m, hf⟩ := read_fields Try.underlying176 h
  match cs, hl with
  | [c0, c1], _ =>
    obtain ⟨y0, h0⟩ := hf 0 _ rfl
    obtain ⟨y1, h1⟩ := hf 1 _ rfl
    simp [cells_op, cells_i64] at h0 h1
    obtain ⟨a, rfl, ha⟩ := read_int Try.underlying174 h0
    obtain ⟨b, rfl, hb⟩ := read_int Try.underlying2 h1
    exact ⟨(a, b), rfl, ha, hb⟩
set_option maxRecDepth 100000 in
theorem read_ins (n : Nat) (cs : List Value) (y : DataW H × List MemPlace) (hl : cs.length = 6) (h : DataW.trod enc Try.prog w 0 (fun _ => true) true n 152 cs = some y) : ∃ x : Ins, cs = insC x ∧ (I64 x.kind ∧ I64 x.op ∧ I64 x.a ∧ I64 x.b ∧ I64 x.c ∧ I64 x.k) := by
  obtain ⟨-, m, hf⟩ := read_fields Try.underlying152 h
  match cs, hl with
  | [c0, c1, c2, c3, c4, c5], _ =>
    obtain ⟨y0, h0⟩ := hf 0 _ rfl
    obtain ⟨y1, h1⟩ := hf 1 _ rfl
    obtain ⟨y2, h2⟩ := hf 2 _ rfl
    obtain ⟨y3, h3⟩ := hf 3 _ rfl
    obtain ⟨y4, h4⟩ := hf 4 _ rfl
    obtain ⟨y5, h5⟩ := hf 5 _ rfl
    simp [cells_kind, cells_opn, cells_int, cells_i64] at h0 h1 h2 h3 h4 h5
    obtain ⟨a0, rfl, i0⟩ := read_int Try.underlying149 h0
    obtain ⟨a1, rfl, i1⟩ := read_int Try.underlying150 h1
    obtain ⟨a2, rfl, i2⟩ := read_int Try.underlying3 h2
    obtain ⟨a3, rfl, i3⟩ := read_int Try.underlying3 h3
    obtain ⟨a4, rfl, i4⟩ := read_int Try.underlying3 h4
    obtain ⟨a5, rfl, i5⟩ := read_int Try.underlying2 h5
    exact ⟨⟨a0, a1, a2, a3, a4, a5⟩, rfl, i0, i1, i2, i3, i4, i5⟩
def Ins.ok (x : Ins) : Prop := I64 x.kind ∧ I64 x.op ∧ I64 x.a ∧ I64 x.b ∧ I64 x.c ∧ I64 x.k
/-- one text of instructions, as a slice's value and what it reads as -/
structure CodeV where
  A : Option Addr
  c : Nat
  l : List Ins
deriving Inhabited
def CodeV.good (w : World) (x : CodeV) : Prop := x.l.length ≤ 9223372036854775807 ∧ Row w w.heap.size x.A 6 x.l.length (fun i => insC (nth x.l i)) ∧ ∀ i, i < x.l.length → (nth x.l i).ok
theorem read_code (n : Nat) (cs : List Value) (y : DataW H × List MemPlace) (hl : cs.length = 1) (h : DataW.trod enc Try.prog w 0 (fun _ => true) true n 147 cs = some y) : ∃ x : CodeV, cs = [.slice x.A x.l.length x.c] ∧ x.good w := by
  obtain ⟨A, c, l, e, h1, h2, h3, h4⟩ := read_rows insC Ins.ok 6 Try.underlying147 cells_ins (by omega) (fun x => rfl) read_ins h
  unfold maxLen at h2
  exact ⟨⟨A, c, l⟩, e, by show l.length ≤ _; omega, h3, h4⟩
set_option maxRecDepth 100000 in
theorem read_job (n : Nat) (cs : List Value) (y : DataW H × List MemPlace) (h : DataW.trod enc Try.prog w 0 (fun _ => true) true n 29 cs = some y) :
    ∃ (j : Job) (a : JobA), cs = [.int .i64 j.words, .slice a.Ac j.cells.length a.cc, .slice a.Ar j.reds.length a.cr, .int .i64 j.fuel, .int .i64 j.kind, .int .i64 j.lo, .int .i64 j.hi, .int .i64 j.step, .int .i64 j.items, .int .i64 j.stages, .slice a.Ak j.codes.length a.ck] ∧
      JobMem w w.heap.size j a ∧ j.ok ∧ j.cells.length ≤ a.cc ∧ j.codes.length ≤ a.ck ∧ (∀ k, k < j.codes.length → ∀ i, i < (nth j.codes k).length → (nth (nth j.codes k) i).ok) := by
  obtain ⟨hl, m, hf⟩ := read_fields Try.underlying29 h
  rw [cells_job] at hl
  match cs, hl with
  | [c0, c1, c2, c3, c4, c5, c6, c7, c8, c9, c10], _ =>
    obtain ⟨y0, h0⟩ := hf 0 _ rfl
    obtain ⟨y1, h1⟩ := hf 1 _ rfl
    obtain ⟨y2, h2⟩ := hf 2 _ rfl
    obtain ⟨y3, h3⟩ := hf 3 _ rfl
    obtain ⟨y4, h4⟩ := hf 4 _ rfl
    obtain ⟨y5, h5⟩ := hf 5 _ rfl
    simp [cells_int, cells_sc, cells_sr, cells_shape, cells_scc] at h0 h1 h2 h3 h4 h5
    obtain ⟨-, m2, hg⟩ := read_fields Try.underlying26 h4
    obtain ⟨z0, g0⟩ := hg 0 _ rfl
    obtain ⟨z1, g1⟩ := hg 1 _ rfl
    obtain ⟨z2, g2⟩ := hg 2 _ rfl
    obtain ⟨z3, g3⟩ := hg 3 _ rfl
    obtain ⟨z4, g4⟩ := hg 4 _ rfl
    obtain ⟨z5, g5⟩ := hg 5 _ rfl
    simp [cells_sk, cells_int, cells_i64] at g0 g1 g2 g3 g4 g5
    obtain ⟨words, rfl, i0⟩ := read_int Try.underlying3 h0
    obtain ⟨Ac, cc, cells, e1, k1, k2, k3, k4⟩ := read_rows pairC (fun x => I64 x.1 ∧ I64 x.2) 2 Try.underlying22 cells_cell (by omega) (fun x => rfl) read_cell h1
    obtain ⟨Ar, cr, reds, e2, r1, r2, r3, r4⟩ := read_rows pairC (fun x => I64 x.1 ∧ I64 x.2) 2 Try.underlying23 cells_red (by omega) (fun x => rfl) read_red h2
    obtain ⟨fuel, rfl, i3⟩ := read_int Try.underlying3 h3
    obtain ⟨kind, rfl, i4⟩ := read_int Try.underlying24 g0
    obtain ⟨lo, rfl, i5⟩ := read_int Try.underlying2 g1
    obtain ⟨hi, rfl, i6⟩ := read_int Try.underlying2 g2
    obtain ⟨st, rfl, i7⟩ := read_int Try.underlying2 g3
    obtain ⟨it, rfl, i8⟩ := read_int Try.underlying3 g4
    obtain ⟨sg, rfl, i9⟩ := read_int Try.underlying3 g5
    obtain ⟨Ak, ck, codes, e5, q1, q2, q3, q4⟩ := read_rows (fun x : CodeV => [.slice x.A x.l.length x.c]) (CodeV.good w) 1 Try.underlying27 cells_codes (by omega) (fun x => rfl) read_code h5
    simp only [List.cons.injEq, and_true] at e1 e2 e5
    subst e1 e2 e5
    unfold maxLen at k2 r2 q2
    have hcl : (codes.map CodeV.l).length = codes.length := by simp
    have hcn : ∀ k, k < codes.length → nth (codes.map CodeV.l) k = (nth codes k).l := fun k hk => by rw [nth_eq (by simpa using hk), nth_eq hk]; simp
    refine ⟨⟨words, cells, reds, fuel, kind, lo, hi, st, it, sg, codes.map CodeV.l⟩, ⟨Ac, cc, Ar, cr, Ak, ck, fun k => (nth codes k).A, fun k => (nth codes k).c⟩, by rw [← hcl], ⟨k3, r3, ?_, ?_⟩, ⟨i0, i3, i5, i6, i7, i8, i9, by show cells.length ≤ _; omega, by show reds.length ≤ _; omega, by show (codes.map CodeV.l).length ≤ _; rw [hcl]; omega, ?_⟩, k1, by show (codes.map CodeV.l).length ≤ _; rw [hcl]; omega, ?_⟩
    · show Row w w.heap.size Ak 1 (codes.map CodeV.l).length _
      rw [hcl]
      rcases q3 with h | ⟨b, off, hA, hb, hc⟩
      · exact .inl h
      · refine .inr ⟨b, off, hA, hb, fun k j u hk hu => hc k j u hk ?_⟩
        replace hu : ([Value.slice (nth codes k).A (nth (codes.map CodeV.l) k).length (nth codes k).c])[j]? = some u := hu
        rw [hcn k hk] at hu
        exact hu
    · intro k hk
      replace hk : k < (codes.map CodeV.l).length := hk
      rw [hcl] at hk
      show Row w w.heap.size (nth codes k).A 6 (nth (codes.map CodeV.l) k).length (fun i => insC (nth (nth (codes.map CodeV.l) k) i))
      rw [hcn k hk]
      exact (q4 k hk).2.1
    · intro k hk
      replace hk : k < (codes.map CodeV.l).length := hk
      rw [hcl] at hk
      show (nth (codes.map CodeV.l) k).length ≤ _
      rw [hcn k hk]
      exact (q4 k hk).1
    · intro k hk i hi'
      replace hk : k < (codes.map CodeV.l).length := hk
      rw [hcl] at hk
      replace hi' : i < (nth (codes.map CodeV.l) k).length := hi'
      show (nth (nth (codes.map CodeV.l) k) i).ok
      rw [hcn k hk] at hi' ⊢
      exact (q4 k hk).2.2 i hi'
set_option maxRecDepth 100000 in
theorem read_cfg (n : Nat) (cs : List Value) (y : DataW H × List MemPlace) (h : DataW.trod enc Try.prog w 0 (fun _ => true) true n 32 cs = some y) :
    ∃ (c : Config), cs = [.int .i64 c.workers, .int .i64 c.window, .int .i64 c.policy, .int .i64 c.chunk, .int .i64 c.reads, .int .i64 c.writes, .int .i64 c.outs, .int .i64 c.arena, .int .i64 c.edges, .int .i64 c.retry, .bool c.force] := by
  obtain ⟨hl, m, hf⟩ := read_fields Try.underlying32 h
  rw [cells_cfg] at hl
  match cs, hl with
  | [c0, c1, c2, c3, c4, c5, c6, c7, c8, c9, c10], _ =>
    obtain ⟨y0, h0⟩ := hf 0 _ rfl
    obtain ⟨y1, h1⟩ := hf 1 _ rfl
    obtain ⟨y2, h2⟩ := hf 2 _ rfl
    obtain ⟨y3, h3⟩ := hf 3 _ rfl
    obtain ⟨y4, h4⟩ := hf 4 _ rfl
    obtain ⟨y5, h5⟩ := hf 5 _ rfl
    obtain ⟨y6, h6⟩ := hf 6 _ rfl
    obtain ⟨y7, h7⟩ := hf 7 _ rfl
    obtain ⟨y8, h8⟩ := hf 8 _ rfl
    obtain ⟨y9, h9⟩ := hf 9 _ rfl
    obtain ⟨y10, h10⟩ := hf 10 _ rfl
    simp [cells_int, cells_pol, cells_bool] at h0 h1 h2 h3 h4 h5 h6 h7 h8 h9 h10
    obtain ⟨a0, rfl, i0⟩ := read_int Try.underlying3 h0
    obtain ⟨a1, rfl, i1⟩ := read_int Try.underlying3 h1
    obtain ⟨a2, rfl, i2⟩ := read_int Try.underlying30 h2
    obtain ⟨a3, rfl, i3⟩ := read_int Try.underlying3 h3
    obtain ⟨a4, rfl, i4⟩ := read_int Try.underlying3 h4
    obtain ⟨a5, rfl, i5⟩ := read_int Try.underlying3 h5
    obtain ⟨a6, rfl, i6⟩ := read_int Try.underlying3 h6
    obtain ⟨a7, rfl, i7⟩ := read_int Try.underlying3 h7
    obtain ⟨a8, rfl, i8⟩ := read_int Try.underlying3 h8
    obtain ⟨a9, rfl, i9⟩ := read_int Try.underlying3 h9
    obtain ⟨a10, rfl⟩ := read_bool Try.underlying4 h10
    exact ⟨⟨a0, a1, a2, a3, a4, a5, a6, a7, a8, a9, a10⟩, rfl⟩
end
end Go.Proofs.Ytcadbfggaipnhaa
