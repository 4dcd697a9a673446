/- A part of the abstract machine and of the proof that the program does what it reckons; no conditions. -/
import Derived.Test.YtpljolocgeicfaaDoorDa
namespace Dt
open Go Go.RowKit
/-! ### How the abstract machine's values and memory stand for the real ones -/

/-- Where a block lies: its real block, its first cell there, how many cells the real block has; how many rows, of how many cells each. -/
structure RB where
  blk : Nat
  off : Nat
  size : Nat
  n : Nat
  esz : Nat

abbrev Env := Nat → Option RB

mutual
inductive VRel (ρ : Env) : AVal → Value → Prop where
  | bool (b : Bool) : VRel ρ (.bool b) (.bool b)
  | int (k : IntKind) (n : Int) : VRel ρ (.int k n) (.int k n)
  | str (s : ByteArray) : VRel ρ (.str s.size (codeOf s.data.toList)) (.string s)
  | ptr {b : Nat} {R : RB} (h : ρ b = some R) (r c : Nat) : VRel ρ (.ptr b r c) (.pointer (some ⟨R.blk, R.off + r * R.esz + c, none⟩))
  | nilp : VRel ρ .nilp (.pointer none)
  | slc {b : Nat} {R : RB} (h : ρ b = some R) (r len cap' : Nat) (cap : Option Nat) (a' : Addr) (hl : len ≤ cap') (hc : ∀ c, cap = some c → cap' = c) (ho : cap = none → R.n ≤ r + cap')
      (ha : (len = 0 ∧ cap' = 0) ∨ (a' = ⟨R.blk, R.off + r * R.esz, none⟩ ∧ R.off + (r + cap') * R.esz ≤ R.size)) : VRel ρ (.slc b r len cap R.esz) (.slice (some a') len cap')
  | nils : VRel ρ .nils (.slice none 0 0)
  | fn (f : Nat) {x y : List AVal} {u v : List Value} (hx : VRels ρ x u) (hy : VRels ρ y v) : VRel ρ (.fn f x y) (.func (.func f) u.toArray v.toArray)
  | nilf : VRel ρ .nilf .nilFunc
  | iface (t : Nat) {x : AVal} {u : Value} (h : VRel ρ x u) : VRel ρ (.iface t x) (.iface t u)
  | nili : VRel ρ .nili .nilIface
  | nilm : VRel ρ .nilm (.map none)
  | mp {b : Nat} {R : RB} (h : ρ b = some R) : VRel ρ (.mp b) (.map (some R.blk))
  | gp (g c : Nat) : VRel ρ (.gp g c) (.pointer (some ⟨g, c, none⟩))
  | agg {x : List AVal} {u : List Value} (h : VRels ρ x u) (h1 : ∀ v ∈ u, v.oneCell' = true) : VRel ρ (.agg x) (.agg u.toArray)
  | tup {x : List AVal} {u : List Value} (h : VRels ρ x u) : VRel ρ (.tup x) (.tuple u.toArray)
inductive VRels (ρ : Env) : List AVal → List Value → Prop where
  | nil : VRels ρ [] []
  | cons {x : AVal} {u : Value} {l : List AVal} {m : List Value} (h : VRel ρ x u) (hs : VRels ρ l m) : VRels ρ (x :: l) (u :: m)
end

mutual
theorem VRel.mono {ρ ρ' : Env} (h : ∀ b R, ρ b = some R → ρ' b = some R) : ∀ {x : AVal} {v : Value}, VRel ρ x v → VRel ρ' x v
  | _, _, .bool b => .bool b
  | _, _, .int k n => .int k n
  | _, _, .str s => .str s
  | _, _, .ptr e r c => .ptr (h _ _ e) r c
  | _, _, .nilp => .nilp
  | _, _, .slc e r len cap' cap a' hl hc ho ha => .slc (h _ _ e) r len cap' cap a' hl hc ho ha
  | _, _, .nils => .nils
  | _, _, .fn f hx hy => .fn f (VRels.mono h hx) (VRels.mono h hy)
  | _, _, .nilf => .nilf
  | _, _, .iface t hx => .iface t (VRel.mono h hx)
  | _, _, .nili => .nili
  | _, _, .nilm => .nilm
  | _, _, .mp e => .mp (h _ _ e)
  | _, _, .gp g c => .gp g c
  | _, _, .agg hx h1 => .agg (VRels.mono h hx) h1
  | _, _, .tup hx => .tup (VRels.mono h hx)
theorem VRels.mono {ρ ρ' : Env} (h : ∀ b R, ρ b = some R → ρ' b = some R) : ∀ {x : List AVal} {v : List Value}, VRels ρ x v → VRels ρ' x v
  | _, _, .nil => .nil
  | _, _, .cons hx hs => .cons (VRel.mono h hx) (VRels.mono h hs)
end

theorem VRels.length {ρ : Env} : ∀ {x : List AVal} {v : List Value}, VRels ρ x v → v.length = x.length
  | _, _, .nil => rfl
  | _, _, .cons _ hs => by simp [VRels.length hs]
theorem VRels.get {ρ : Env} : ∀ {x : List AVal} {v : List Value}, VRels ρ x v → ∀ (i : Nat) (a : AVal), x[i]? = some a → ∃ u, v[i]? = some u ∧ VRel ρ a u
  | _, _, .nil, i, a, h => by simp at h
  | _, _, .cons hx hs, 0, a, h => by simp at h; subst h; exact ⟨_, rfl, hx⟩
  | _, _, .cons hx hs, i + 1, a, h => by
    obtain ⟨u, hu, hr⟩ := VRels.get hs i a (by simpa using h)
    exact ⟨u, by simpa using hu, hr⟩
theorem VRels.append {ρ : Env} : ∀ {x y : List AVal} {u v : List Value}, VRels ρ x u → VRels ρ y v → VRels ρ (x ++ y) (u ++ v)
  | _, _, _, _, .nil, h => h
  | _, _, _, _, .cons hx hs, h => .cons hx (VRels.append hs h)
/-- A list of values out of one for each place. -/
theorem VRels.mk {ρ : Env} : ∀ {x : List AVal} {v : List Value}, v.length = x.length → (∀ (i : Nat) (a : AVal) (u : Value), x[i]? = some a → v[i]? = some u → VRel ρ a u) → VRels ρ x v
  | [], [], _, _ => .nil
  | _ :: _, _ :: _, hl, h => .cons (h 0 _ _ rfl rfl) (VRels.mk (by simpa using hl) fun i a u h1 h2 => h (i + 1) a u (by simpa using h1) (by simpa using h2))
  | [], _ :: _, hl, _ => by simp at hl
  | _ :: _, [], hl, _ => by simp at hl

/-- The cells of a value. -/
theorem VRel.cells {ρ : Env} {x : AVal} {v : Value} (h : VRel ρ x v) {cs : List AVal} (hc : x.cells = some cs) :
    VRels ρ cs v.cells.toList ∧ ∀ u ∈ v.cells.toList, u.oneCell' = true := by
  cases h <;> simp [AVal.cells] at hc <;> subst hc <;> simp only [Value.cells]
  case agg hx h1 => exact ⟨hx, h1⟩
  all_goals exact ⟨.cons (by first | exact .bool _ | exact .int _ _ | exact .str _ | (exact .ptr (by assumption) _ _) | exact .nilp | (exact .slc (by assumption) _ _ _ _ _ (by assumption) (by assumption) (by assumption) (by assumption)) | exact .nils | (exact .fn _ (by assumption) (by assumption)) | exact .nilf | (exact .iface _ (by assumption)) | exact .nili | exact .nilm | (exact .mp (by assumption)) | exact .gp _ _) .nil, by simp [Value.oneCell']⟩

/-- The entries of a map. -/
def MRel (ρ : Env) : List (AVal × AVal) → List MapEntry → Nat → Prop
  | [], [], _ => True
  | x :: l, e :: es, n => VRel ρ x.1 e.key ∧ VRel ρ x.2 e.val ∧ e.born = n ∧ MRel ρ l es (n + 1)
  | _, _, _ => False
theorem MRel.mono {ρ ρ' : Env} (hm : ∀ b R, ρ b = some R → ρ' b = some R) : ∀ {l : List (AVal × AVal)} {es : List MapEntry} {n : Nat}, MRel ρ l es n → MRel ρ' l es n
  | [], [], _, _ => trivial
  | _ :: _, _ :: _, _, h => ⟨h.1.mono hm, h.2.1.mono hm, h.2.2.1, MRel.mono hm h.2.2.2⟩
  | [], _ :: _, _, h => h.elim
  | _ :: _, [], _, h => h.elim

/-- What an object is, really. -/
def ObRel (ρ : Env) (o : Obj) : OB → Prop
  | .map l => ∃ es : Array MapEntry, o = .map es es.size ∧ MRel ρ l es.toList 0
  | .siter n c pos => ∃ s : ByteArray, o = .stringIter s pos ∧ s.size = n ∧ codeOf s.data.toList = c
  | .miter b since seen last => ∃ R, ρ b = some R ∧ o = .mapIter (some R.blk) since seen.toArray last
theorem ObRel.mono {ρ ρ' : Env} (hm : ∀ b R, ρ b = some R → ρ' b = some R) {o : Obj} {x : OB} (h : ObRel ρ o x) : ObRel ρ' o x := by
  cases x with
  | map l => obtain ⟨es, h1, h2⟩ := h; exact ⟨es, h1, h2.mono hm⟩
  | siter n c pos => exact h
  | miter b since seen last => obtain ⟨R, h1, h2⟩ := h; exact ⟨R, hm _ _ h1, h2⟩

/-- Blocks that may be written. -/
def Wr : Blk → Prop
  | .rows _ _ => True
  | .obj _ => True
  | _ => False
theorem Wr.live {B : Blk} (h : Wr B) : B ≠ .dead := fun e => by rw [e] at h; exact h
/-- What a block holds, really. -/
def BRel (ρ : Env) (w : World) (R : RB) : Blk → Prop
  | .dead => True
  | .obj x => R.off = 0 ∧ ∃ o, w.heap[R.blk]? = some o ∧ ObRel ρ o x
  | .ro l => R.esz = 1 ∧ (∀ row ∈ l, row.length = 1) ∧
      ∃ (c : Array Value) (et : TypeId) (fz : Nat × Nat), w.heap[R.blk]? = some (.cells c et fz) ∧
        ∀ (r : Nat) (row : List AVal), l[r]? = some row → ∀ (j : Nat) (x : AVal), row[j]? = some x → ∃ v, c[R.off + r * R.esz + j]? = some v ∧ v.oneCell' = true ∧ VRel ρ x v
  | .rows z l => R.esz = z ∧ R.n = l.length ∧ R.off + R.n * R.esz ≤ R.size ∧ (∀ row ∈ l, row.length = z) ∧
      ∃ (c : Array Value) (et : TypeId), w.heap[R.blk]? = some (.cells c et (0, 0)) ∧ c.size = R.size ∧
        ∀ (r : Nat) (row : List AVal), l[r]? = some row → ∀ (j : Nat) (x : AVal), row[j]? = some x → ∃ v, c[R.off + r * R.esz + j]? = some v ∧ v.oneCell' = true ∧ VRel ρ x v

/-- The tables that the first blocks of the world are. -/
def GRel (w : World) (gl : List (List AVal)) : Prop :=
  ∀ (g : Nat) (row : List AVal), gl[g]? = some row → ∃ (c : Array Value) (et : TypeId) (fz : Nat × Nat), w.heap[g]? = some (.cells c et fz) ∧
    ∀ (j : Nat) (x : AVal), row[j]? = some x → ∃ v, c[j]? = some v ∧ v.oneCell' = true ∧ VRel (fun _ => none) x v
theorem GRel.size {w : World} {gl : List (List AVal)} (h : GRel w gl) : gl.length ≤ w.heap.size := by
  rcases Nat.lt_or_ge w.heap.size gl.length with hlt | hge
  · obtain ⟨c, et, fz, h1, _⟩ := h w.heap.size _ (List.getElem?_eq_getElem hlt)
    rw [Array.getElem?_eq_none (Nat.le_refl _)] at h1
    cases h1
  · exact hge
theorem GRel.same {w w' : World} {gl : List (List AVal)} (h : GRel w gl) (hs : ∀ g, g < gl.length → w'.heap[g]? = w.heap[g]?) : GRel w' gl := by
  intro g row hg
  obtain ⟨c, et, fz, h1, h2⟩ := h g row hg
  exact ⟨c, et, fz, (hs g (List.getElem?_eq_some_iff.1 hg).1).trans h1, h2⟩

structure HRel (ρ : Env) (H : Heap) (w : World) : Prop where
  blk : ∀ b R, ρ b = some R → BRel ρ w R (H.get b)
  inj : ∀ b b' R R', ρ b = some R → ρ b' = some R' → H.get b ≠ .dead → H.get b' ≠ .dead → R.blk = R'.blk → b = b'
  dom : ∀ b R, ρ b = some R → b < H.next ∧ R.blk < w.heap.size
  glob : GRel w H.gl
  high : ∀ b R, ρ b = some R → Wr (H.get b) → H.gl.length ≤ R.blk

/-- What a piece of the run does to memory. -/
structure Step (ρ : Env) (H : Heap) (w : World) (ρ' : Env) (H' : Heap) (w' : World) : Prop where
  rel : HRel ρ' H' w'
  ext : ∀ b R, ρ b = some R → ρ' b = some R
  size : w.heap.size ≤ w'.heap.size
  os : w'.os = w.os
  tape : w'.tape = w.tape
  output : w'.output = w.output
  frame : ∀ r, r < w.heap.size → (∀ b R, ρ b = some R → Wr (H.get b) → R.blk ≠ r) → w'.heap[r]? = w.heap[r]?
  range : ∀ b R, ρ' b = some R → Wr (H'.get b) → w.heap.size ≤ R.blk ∨ ∃ b0 R0, ρ b0 = some R0 ∧ Wr (H.get b0) ∧ R0.blk = R.blk

theorem Step.refl {ρ : Env} {H : Heap} {w : World} (h : HRel ρ H w) : Step ρ H w ρ H w :=
  ⟨h, fun _ _ e => e, Nat.le_refl _, rfl, rfl, rfl, fun _ _ _ => rfl, fun b R e hd => .inr ⟨b, R, e, hd, rfl⟩⟩

theorem Step.trans {ρ ρ1 ρ2 : Env} {H H1 H2 : Heap} {w w1 w2 : World} (a : Step ρ H w ρ1 H1 w1) (b : Step ρ1 H1 w1 ρ2 H2 w2) : Step ρ H w ρ2 H2 w2 := by
  refine ⟨b.rel, fun x R e => b.ext _ _ (a.ext _ _ e), Nat.le_trans a.size b.size, b.os.trans a.os, b.tape.trans a.tape, b.output.trans a.output, fun r hr hn => ?_, fun x R e hd => ?_⟩
  · rw [← a.frame r hr hn]
    refine b.frame r (Nat.lt_of_lt_of_le hr a.size) fun x R e hd he => ?_
    rcases a.range x R e hd with h | ⟨b0, R0, e0, hd0, h0⟩
    · omega
    · exact hn b0 R0 e0 hd0 (h0.trans he)
  · rcases b.range x R e hd with h | ⟨b0, R0, e0, hd0, h0⟩
    · exact .inl (Nat.le_trans a.size h)
    · rcases a.range b0 R0 e0 hd0 with h | ⟨b1, R1, e1, hd1, h1⟩
      · exact .inl (by omega)
      · exact .inr ⟨b1, R1, e1, hd1, h1.trans h0⟩

/-- A world that differs in the count of draws alone. -/
theorem BRel.same {ρ : Env} {w w' : World} {R : RB} {B : Blk} (h : BRel ρ w R B) (he : w'.heap[R.blk]? = w.heap[R.blk]?) : BRel ρ w' R B := by
  cases B with
  | dead => trivial
  | obj x =>
    obtain ⟨h0, o, h1, h2⟩ := h
    exact ⟨h0, o, he.trans h1, h2⟩
  | rows z l =>
    obtain ⟨h1, h2, h3, h4, c, et, h5, h6⟩ := h
    exact ⟨h1, h2, h3, h4, c, et, he.trans h5, h6⟩
  | ro l =>
    obtain ⟨h1, h4, c, et, fz, h5, h6⟩ := h
    exact ⟨h1, h4, c, et, fz, he.trans h5, h6⟩
theorem BRel.mono {ρ ρ' : Env} (hm : ∀ b R, ρ b = some R → ρ' b = some R) {w : World} {R : RB} {B : Blk} (h : BRel ρ w R B) : BRel ρ' w R B := by
  cases B with
  | dead => trivial
  | obj x =>
    obtain ⟨h0, o, h1, h2⟩ := h
    exact ⟨h0, o, h1, h2.mono hm⟩
  | rows z l =>
    obtain ⟨h1, h2, h3, h4, c, et, h5, h6, h7⟩ := h
    refine ⟨h1, h2, h3, h4, c, et, h5, h6, fun r row hr j x hx => ?_⟩
    obtain ⟨v, hv, h1, hr⟩ := h7 r row hr j x hx
    exact ⟨v, hv, h1, hr.mono hm⟩
  | ro l =>
    obtain ⟨h1, h4, c, et, fz, h5, h7⟩ := h
    refine ⟨h1, h4, c, et, fz, h5, fun r row hr j x hx => ?_⟩
    obtain ⟨v, hv, h1, hr⟩ := h7 r row hr j x hx
    exact ⟨v, hv, h1, hr.mono hm⟩

theorem HRel.drew {ρ : Env} {H : Heap} {w : World} (h : HRel ρ H w) (d : Nat) : HRel ρ H { w with drawn := d } :=
  ⟨fun b R e => (h.blk b R e).same rfl, h.inj, h.dom, h.glob.same fun _ _ => rfl, h.high⟩
theorem Step.drew {ρ : Env} {H : Heap} {w : World} (h : HRel ρ H w) (d : Nat) : Step ρ H w ρ H { w with drawn := d } :=
  ⟨h.drew d, fun _ _ e => e, Nat.le_refl _, rfl, rfl, rfl, fun _ _ _ => rfl, fun b R e hd => .inr ⟨b, R, e, hd, rfl⟩⟩

/-- A new block. -/
def Env.add (ρ : Env) (b : Nat) (R : RB) : Env := fun x => if x = b then some R else ρ x
theorem Env.add_ext {ρ : Env} {b : Nat} {R : RB} (h : ρ b = none) : ∀ x S, ρ x = some S → ρ.add b R x = some S := by
  intro x S e
  unfold Env.add
  by_cases hx : x = b
  · subst hx; rw [h] at e; cases e
  · rw [if_neg hx]; exact e
theorem Env.add_same {ρ : Env} {b : Nat} {R : RB} : ρ.add b R b = some R := by simp [Env.add]

theorem HRel.fresh {ρ : Env} {H : Heap} {w : World} (h : HRel ρ H w) : ρ H.next = none := by
  cases e : ρ H.next with
  | none => rfl
  | some R => have := (h.dom _ _ e).1; omega

theorem heap_push_old (w : World) (o : Obj) (k : Nat) (h : k < w.heap.size) : (w.alloc o).heap[k]? = w.heap[k]? := Below.heap_alloc w o k h
theorem heap_push_new (w : World) (o : Obj) : (w.alloc o).heap[w.heap.size]? = some o := heap_alloc_new w o

/-- The step that lays a new block. -/
theorem Step.allocB {ρ : Env} {H : Heap} {w : World} (h : HRel ρ H w) (B : Blk) (o : Obj) (R : RB) (hR : R.blk = w.heap.size) (hB : BRel (ρ.add H.next R) (w.alloc o) R B) :
    Step ρ H w (ρ.add H.next R) (H.add B) (w.alloc o) := by
  have hx := Env.add_ext (R := R) h.fresh
  have hg : ∀ b, b ≠ H.next → (H.add B).get b = H.get b := fun b hb => by rw [Heap.get_add _ _ _ trivial, if_neg hb]
  have hgn : (H.add B).get H.next = B := by rw [Heap.get_add _ _ _ trivial, if_pos rfl]
  have old : ∀ b S, ρ.add H.next R b = some S → b ≠ H.next → ρ b = some S := fun b S e hb => by simpa [Env.add, hb] using e
  have new : ∀ S, ρ.add H.next R H.next = some S → S = R := fun S e => by simpa [Env.add] using e.symm
  refine ⟨⟨fun b S e => ?_, fun b b' S S' e e' hd hd' hS => ?_, fun b S e => ?_, ?_, fun b S e hwr => ?_⟩, hx, by simp, rfl, rfl, rfl, fun r hr _ => heap_push_old _ _ _ hr, fun b S e hd => ?_⟩
  · by_cases hb : b = H.next
    · subst hb
      obtain rfl := new S e
      rw [hgn]
      exact hB
    · have e' := old b S e hb
      rw [hg b hb]
      exact ((h.blk b S e').same (heap_push_old _ _ _ (h.dom _ _ e').2)).mono hx
  · by_cases hb : b = H.next <;> by_cases hb' : b' = H.next
    · rw [hb, hb']
    · subst hb
      obtain rfl := new S e
      have := (h.dom _ _ (old b' S' e' hb')).2
      omega
    · subst hb'
      obtain rfl := new S' e'
      have := (h.dom _ _ (old b S e hb)).2
      omega
    · rw [hg b hb] at hd
      rw [hg b' hb'] at hd'
      exact h.inj b b' S S' (old _ _ e hb) (old _ _ e' hb') hd hd' hS
  · by_cases hb : b = H.next
    · subst hb
      obtain rfl := new S e
      exact ⟨by rw [Heap.next_add]; omega, by rw [hR]; simp⟩
    · have := h.dom _ _ (old b S e hb)
      exact ⟨by rw [Heap.next_add]; omega, by simp; omega⟩
  · exact h.glob.same fun g hgl => heap_push_old _ _ _ (Nat.lt_of_lt_of_le hgl h.glob.size)
  · rw [Heap.gl_add]
    by_cases hb : b = H.next
    · subst hb
      obtain rfl := new S e
      rw [hR]
      exact h.glob.size
    · rw [hg b hb] at hwr
      exact h.high _ _ (old b S e hb) hwr
  · by_cases hb : b = H.next
    · subst hb
      obtain rfl := new S e
      exact .inl (by omega)
    · have e' := old b S e hb
      rw [hg b hb] at hd
      exact .inr ⟨b, S, e', hd, rfl⟩

theorem Step.alloc {ρ : Env} {H : Heap} {w : World} (h : HRel ρ H w) (_hm : True) (z : Nat) (l : List (List AVal)) (c : Array Value) (et : TypeId) (R : RB)
    (hR : R.blk = w.heap.size) (h1 : R.esz = z) (h2 : R.n = l.length) (h3 : R.off + R.n * R.esz ≤ R.size) (h4 : ∀ row ∈ l, row.length = z) (h5 : c.size = R.size)
    (h6 : ∀ (r : Nat) (row : List AVal), l[r]? = some row → ∀ (j : Nat) (x : AVal), row[j]? = some x → ∃ v, c[R.off + r * R.esz + j]? = some v ∧ v.oneCell' = true ∧ VRel ρ x v) :
    Step ρ H w (ρ.add H.next R) (H.add (.rows z l)) (w.alloc (.cells c et)) := by
  refine Step.allocB h _ _ R hR ⟨h1, h2, h3, h4, c, et, by rw [hR]; exact heap_push_new _ _, h5, fun r row hr j x hxj => ?_⟩
  obtain ⟨v, hv, ho, hv'⟩ := h6 r row hr j x hxj
  exact ⟨v, hv, ho, hv'.mono (Env.add_ext (R := R) h.fresh)⟩
end Dt
