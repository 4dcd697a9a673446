/- A part of the abstract machine and of the proof that the program does what it reckons; no conditions. -/
import Derived.Test.YtoifgfkgjbddcaaGreatDoorDa
set_option linter.all false
namespace Dt
open Go Go.RowKit
set_option linter.all false
/-! ### How the abstract machine's values and memory stand for the real ones -/

/-- Where a block lies: its real block, its first cell there, how many cells the real block has; how many rows, of how many cells each. -/
structure RB where
  blk : Nat
  off : Nat
  size : Nat
  n : Nat
  esz : Nat

abbrev Env := Nat → Option RB

/-- The body of a range over a function: its parameters, the code that assigns them, the body, the temporaries that the frame keeps, how many there are. -/
structure LoopRec where
  ps : Array Nat
  asg : Code
  body : Code
  vm : List Nat
  N : Nat
/-- The bodies of the program, by their numbers. -/
class LoopTab where
  tab : Nat → Option LoopRec
variable [LoopTab]

mutual
inductive VRel (ρ : Env) : AVal → Value → Prop where
  | bool (b : Bool) : VRel ρ (.bool b) (.bool b)
  | int (k : IntKind) (n : Int) : VRel ρ (.int k n) (.int k n)
  | str (s : ByteArray) : VRel ρ (.str s.size (codeOf s.data.toList)) (.string s)
  | ptr {b : Nat} {R : RB} (h : ρ b = some R) (r c : Nat) : VRel ρ (.ptr b r c) (.pointer (some ⟨R.blk, R.off + r * R.esz + c, none⟩))
  | nilp : VRel ρ .nilp (.pointer none)
  | slc {b : Nat} {R : RB} (h : ρ b = some R) (r len cap' : Nat) (cap : Option Nat) (a' : Addr) (hl : len ≤ cap') (hc : ∀ c, cap = some c → cap' = c) (ho : cap = none → R.n ≤ r + cap')
      (ha : (len = 0 ∧ cap' = 0) ∨ (a' = ⟨R.blk, R.off + r * R.esz, none⟩ ∧ R.off + (r + cap') * R.esz ≤ R.size)) : VRel ρ (.slc b r len cap R.esz) (.slice (some a') len cap')
  | nils : VRel ρ .nils (.slice none 0 0)
  | fn (f : Nat) {x y : List AVal} {u v : List Value} (hx : VRels ρ x u) (hy : VRels ρ y v) : VRel ρ (.fn f x y) (.func (.func f) u.toArray v.toArray)
  | nilf : VRel ρ .nilf .nilFunc
  | iface (t : Nat) {x : AVal} {u : Value} (h : VRel ρ x u) : VRel ρ (.iface t x) (.iface t u)
  | nili : VRel ρ .nili .nilIface
  | nilm : VRel ρ .nilm (.map none)
  | mp {b : Nat} {R : RB} (h : ρ b = some R) : VRel ρ (.mp b) (.map (some R.blk))
  | gp (g c : Nat) : VRel ρ (.gp g c) (.pointer (some ⟨g, c, none⟩))
  | yl {b : Nat} {R : RB} (h : ρ b = some R) : VRel ρ (.yl b) (.func (.yield R.blk) #[] #[])
  | agg {x : List AVal} {u : List Value} (h : VRels ρ x u) (h1 : ∀ v ∈ u, v.oneCell' = true) : VRel ρ (.agg x) (.agg u.toArray)
  | tup {x : List AVal} {u : List Value} (h : VRels ρ x u) : VRel ρ (.tup x) (.tuple u.toArray)
  | un (v : Value) (h : ∀ b, v ≠ .bool b) : VRel ρ .un v
inductive VRels (ρ : Env) : List AVal → List Value → Prop where
  | nil : VRels ρ [] []
  | cons {x : AVal} {u : Value} {l : List AVal} {m : List Value} (h : VRel ρ x u) (hs : VRels ρ l m) : VRels ρ (x :: l) (u :: m)
end

mutual
theorem VRel.mono {ρ ρ' : Env} (h : ∀ b R, ρ b = some R → ρ' b = some R) : ∀ {x : AVal} {v : Value}, VRel ρ x v → VRel ρ' x v
  | _, _, .bool b => .bool b
  | _, _, .int k n => .int k n
  | _, _, .str s => .str s
  | _, _, .ptr e r c => .ptr (h _ _ e) r c
  | _, _, .nilp => .nilp
  | _, _, .slc e r len cap' cap a' hl hc ho ha => .slc (h _ _ e) r len cap' cap a' hl hc ho ha
  | _, _, .nils => .nils
  | _, _, .fn f hx hy => .fn f (VRels.mono h hx) (VRels.mono h hy)
  | _, _, .nilf => .nilf
  | _, _, .iface t hx => .iface t (VRel.mono h hx)
  | _, _, .nili => .nili
  | _, _, .nilm => .nilm
  | _, _, .mp e => .mp (h _ _ e)
  | _, _, .gp g c => .gp g c
  | _, _, .yl e => .yl (h _ _ e)
  | _, _, .agg hx h1 => .agg (VRels.mono h hx) h1
  | _, _, .tup hx => .tup (VRels.mono h hx)
  | _, _, .un v h => .un v h
theorem VRels.mono {ρ ρ' : Env} (h : ∀ b R, ρ b = some R → ρ' b = some R) : ∀ {x : List AVal} {v : List Value}, VRels ρ x v → VRels ρ' x v
  | _, _, .nil => .nil
  | _, _, .cons hx hs => .cons (VRel.mono h hx) (VRels.mono h hs)
end

theorem VRels.length {ρ : Env} : ∀ {x : List AVal} {v : List Value}, VRels ρ x v → v.length = x.length
  | _, _, .nil => rfl
  | _, _, .cons _ hs => by simp [VRels.length hs]
theorem VRels.get {ρ : Env} : ∀ {x : List AVal} {v : List Value}, VRels ρ x v → ∀ (i : Nat) (a : AVal), x[i]? = some a → ∃ u, v[i]? = some u ∧ VRel ρ a u
  | _, _, .nil, i, a, h => by simp at h
  | _, _, .cons hx hs, 0, a, h => by simp at h; subst h; exact ⟨_, rfl, hx⟩
  | _, _, .cons hx hs, i + 1, a, h => by
    obtain ⟨u, hu, hr⟩ := VRels.get hs i a (by simpa using h)
    exact ⟨u, by simpa using hu, hr⟩
theorem VRels.append {ρ : Env} : ∀ {x y : List AVal} {u v : List Value}, VRels ρ x u → VRels ρ y v → VRels ρ (x ++ y) (u ++ v)
  | _, _, _, _, .nil, h => h
  | _, _, _, _, .cons hx hs, h => .cons hx (VRels.append hs h)
/-- A list of values out of one for each place. -/
theorem VRels.mk {ρ : Env} : ∀ {x : List AVal} {v : List Value}, v.length = x.length → (∀ (i : Nat) (a : AVal) (u : Value), x[i]? = some a → v[i]? = some u → VRel ρ a u) → VRels ρ x v
  | [], [], _, _ => .nil
  | _ :: _, _ :: _, hl, h => .cons (h 0 _ _ rfl rfl) (VRels.mk (by simpa using hl) fun i a u h1 h2 => h (i + 1) a u (by simpa using h1) (by simpa using h2))
  | [], _ :: _, hl, _ => by simp at hl
  | _ :: _, [], hl, _ => by simp at hl

/-- The cells of a value. -/
theorem VRel.cells {ρ : Env} {x : AVal} {v : Value} (h : VRel ρ x v) {cs : List AVal} (hc : x.cells = some cs) :
    VRels ρ cs v.cells.toList ∧ ∀ u ∈ v.cells.toList, u.oneCell' = true := by
  cases h <;> simp [AVal.cells] at hc <;> subst hc <;> simp only [Value.cells]
  case agg hx h1 => exact ⟨hx, h1⟩
  all_goals exact ⟨.cons (by first | exact .bool _ | exact .int _ _ | exact .str _ | (exact .ptr (by assumption) _ _) | exact .nilp | (exact .slc (by assumption) _ _ _ _ _ (by assumption) (by assumption) (by assumption) (by assumption)) | exact .nils | (exact .fn _ (by assumption) (by assumption)) | exact .nilf | (exact .iface _ (by assumption)) | exact .nili | exact .nilm | (exact .mp (by assumption)) | exact .gp _ _ | (exact .yl (by assumption))) .nil, by simp [Value.oneCell']⟩

/-- The entries of a map. -/
def MRel (ρ : Env) : List (AVal × AVal) → List MapEntry → Nat → Prop
  | [], [], _ => True
  | x :: l, e :: es, n => VRel ρ x.1 e.key ∧ VRel ρ x.2 e.val ∧ e.born = n ∧ MRel ρ l es (n + 1)
  | _, _, _ => False
theorem MRel.mono {ρ ρ' : Env} (hm : ∀ b R, ρ b = some R → ρ' b = some R) : ∀ {l : List (AVal × AVal)} {es : List MapEntry} {n : Nat}, MRel ρ l es n → MRel ρ' l es n
  | [], [], _, _ => trivial
  | _ :: _, _ :: _, _, h => ⟨h.1.mono hm, h.2.1.mono hm, h.2.2.1, MRel.mono hm h.2.2.2⟩
  | [], _ :: _, _, h => h.elim
  | _ :: _, [], _, h => h.elim

/-- What an object is, really. -/
def ObRel (ρ : Env) (o : Obj) : OB → Prop
  | .map l => ∃ es : Array MapEntry, o = .map es es.size ∧ MRel ρ l es.toList 0
  | .siter n c pos => ∃ s : ByteArray, o = .stringIter s pos ∧ s.size = n ∧ codeOf s.data.toList = c
  | .miter b since seen last => ∃ R, ρ b = some R ∧ o = .mapIter (some R.blk) since seen.toArray last
  | .loop f vs => ∃ (r : Loop) (L : LoopRec), o = .loop r ∧ LoopTab.tab f = some L ∧ r.state = .ready ∧ r.pending = none ∧ r.params = L.ps ∧ r.assign = L.asg ∧ r.body = L.body ∧ L.N ≤ r.tmps.size ∧ L.vm.length ≤ vs.length ∧
      ∀ i t, L.vm[i]? = some t → VRel ρ (lget vs i) (r.tmps.getD t undef)
  | .dfr => o = .deferred (some [])
  | .busy => True
theorem ObRel.mono {ρ ρ' : Env} (hm : ∀ b R, ρ b = some R → ρ' b = some R) {o : Obj} {x : OB} (h : ObRel ρ o x) : ObRel ρ' o x := by
  cases x with
  | map l => obtain ⟨es, h1, h2⟩ := h; exact ⟨es, h1, h2.mono hm⟩
  | siter n c pos => exact h
  | miter b since seen last => obtain ⟨R, h1, h2⟩ := h; exact ⟨R, hm _ _ h1, h2⟩
  | loop f vs =>
    obtain ⟨r, L, h1, h2, h3, h4, h5, h6, h7, h8, h9, h10⟩ := h
    exact ⟨r, L, h1, h2, h3, h4, h5, h6, h7, h8, h9, fun i t ht => (h10 i t ht).mono hm⟩
  | dfr => exact h
  | busy => trivial

/-- Blocks that may be written. -/
def OB.free : OB → Prop
  | .busy => False
  | _ => True
def Wr : Blk → Prop
  | .rows _ _ => True
  | .obj o => o.free
  | _ => False
theorem Wr.live {B : Blk} (h : Wr B) : B ≠ .dead := fun e => by rw [e] at h; exact h
/-- What a block holds, really. -/
def BRel (ρ : Env) (w : World) (R : RB) : Blk → Prop
  | .dead => True
  | .obj x => R.off = 0 ∧ ∃ o, w.heap[R.blk]? = some o ∧ ObRel ρ o x
  | .ro l => R.esz = 1 ∧ (∀ row ∈ l, row.length = 1) ∧
      ∃ (c : Array Value) (et : TypeId) (fz : Nat × Nat), w.heap[R.blk]? = some (.cells c et fz) ∧
        ∀ (r : Nat) (row : List AVal), l[r]? = some row → ∀ (j : Nat) (x : AVal), row[j]? = some x → ∃ v, c[R.off + r * R.esz + j]? = some v ∧ v.oneCell' = true ∧ VRel ρ x v
  | .rows z l => R.esz = z ∧ R.n = l.length ∧ R.off + R.n * R.esz ≤ R.size ∧ (∀ row ∈ l, row.length = z) ∧
      ∃ (c : Array Value) (et : TypeId), w.heap[R.blk]? = some (.cells c et (0, 0)) ∧ c.size = R.size ∧
        ∀ (r : Nat) (row : List AVal), l[r]? = some row → ∀ (j : Nat) (x : AVal), row[j]? = some x → ∃ v, c[R.off + r * R.esz + j]? = some v ∧ v.oneCell' = true ∧ VRel ρ x v

/-- The tables that the first blocks of the world are. -/
def GRel (w : World) (gl : List (List AVal)) : Prop :=
  ∀ (g : Nat) (row : List AVal), gl[g]? = some row → ∃ (c : Array Value) (et : TypeId) (fz : Nat × Nat), w.heap[g]? = some (.cells c et fz) ∧
    ∀ (j : Nat) (x : AVal), row[j]? = some x → ∃ v, c[j]? = some v ∧ v.oneCell' = true ∧ VRel (fun _ => none) x v
theorem GRel.size {w : World} {gl : List (List AVal)} (h : GRel w gl) : gl.length ≤ w.heap.size := by
  rcases Nat.lt_or_ge w.heap.size gl.length with hlt | hge
  · obtain ⟨c, et, fz, h1, _⟩ := h w.heap.size _ (List.getElem?_eq_getElem hlt)
    rw [Array.getElem?_eq_none (Nat.le_refl _)] at h1
    cases h1
  · exact hge
theorem GRel.same {w w' : World} {gl : List (List AVal)} (h : GRel w gl) (hs : ∀ g, g < gl.length → w'.heap[g]? = w.heap[g]?) : GRel w' gl := by
  intro g row hg
  obtain ⟨c, et, fz, h1, h2⟩ := h g row hg
  exact ⟨c, et, fz, (hs g (List.getElem?_eq_some_iff.1 hg).1).trans h1, h2⟩

structure HRel (ρ : Env) (H : Heap) (w : World) : Prop where
  blk : ∀ b R, ρ b = some R → BRel ρ w R (H.get b)
  inj : ∀ b b' R R', ρ b = some R → ρ b' = some R' → H.get b ≠ .dead → H.get b' ≠ .dead → R.blk = R'.blk → b = b'
  dom : ∀ b R, ρ b = some R → b < H.next ∧ R.blk < w.heap.size
  glob : GRel w H.gl
  high : ∀ b R, ρ b = some R → Wr (H.get b) → H.gl.length ≤ R.blk
  top : ∀ b, H.next ≤ b → H.get b = .dead

/-- What a piece of the run does to memory. -/
structure Step (ρ : Env) (H : Heap) (w : World) (ρ' : Env) (H' : Heap) (w' : World) : Prop where
  rel : HRel ρ' H' w'
  ext : ∀ b R, ρ b = some R → ρ' b = some R
  size : w.heap.size ≤ w'.heap.size
  os : w'.os = w.os
  tape : w'.tape = w.tape
  output : w'.output = w.output
  frame : ∀ r, r < w.heap.size → (∀ b R, ρ b = some R → Wr (H.get b) → R.blk ≠ r) → w'.heap[r]? = w.heap[r]?
  range : ∀ b R, ρ' b = some R → Wr (H'.get b) → w.heap.size ≤ R.blk ∨ ∃ b0 R0, ρ b0 = some R0 ∧ Wr (H.get b0) ∧ R0.blk = R.blk
  next : H.next ≤ H'.next
  frameA : ∀ b, b < H.next → ρ b = none → H'.get b = H.get b
  newdom : ∀ b R, ρ' b = some R → ρ b = some R ∨ H.next ≤ b
  keep : ∀ b, H.get b = .obj .busy → H'.get b = .obj .busy
  gl : H'.gl = H.gl

theorem Step.refl {ρ : Env} {H : Heap} {w : World} (h : HRel ρ H w) : Step ρ H w ρ H w :=
  ⟨h, fun _ _ e => e, Nat.le_refl _, rfl, rfl, rfl, fun _ _ _ => rfl, fun b R e hd => .inr ⟨b, R, e, hd, rfl⟩, Nat.le_refl _, fun _ _ _ => rfl, fun _ _ e => .inl e, fun _ e => e, rfl⟩

theorem Step.trans {ρ ρ1 ρ2 : Env} {H H1 H2 : Heap} {w w1 w2 : World} (a : Step ρ H w ρ1 H1 w1) (b : Step ρ1 H1 w1 ρ2 H2 w2) : Step ρ H w ρ2 H2 w2 := by
  refine ⟨b.rel, fun x R e => b.ext _ _ (a.ext _ _ e), Nat.le_trans a.size b.size, b.os.trans a.os, b.tape.trans a.tape, b.output.trans a.output, fun r hr hn => ?_, fun x R e hd => ?_, Nat.le_trans a.next b.next, fun x hx e => ?_, fun x R e => ?_, fun x e => b.keep x (a.keep x e), b.gl.trans a.gl⟩
  · rw [← a.frame r hr hn]
    refine b.frame r (Nat.lt_of_lt_of_le hr a.size) fun x R e hd he => ?_
    rcases a.range x R e hd with h | ⟨b0, R0, e0, hd0, h0⟩
    · omega
    · exact hn b0 R0 e0 hd0 (h0.trans he)
  · rcases b.range x R e hd with h | ⟨b0, R0, e0, hd0, h0⟩
    · exact .inl (Nat.le_trans a.size h)
    · rcases a.range b0 R0 e0 hd0 with h | ⟨b1, R1, e1, hd1, h1⟩
      · exact .inl (by omega)
      · exact .inr ⟨b1, R1, e1, hd1, h1.trans h0⟩
  · rw [← a.frameA x hx e]
    refine b.frameA x (Nat.lt_of_lt_of_le hx a.next) ?_
    cases e1 : ρ1 x with
    | none => rfl
    | some R =>
      rcases a.newdom x R e1 with h | h
      · rw [e] at h; cases h
      · omega
  · rcases b.newdom x R e with h | h
    · exact a.newdom x R h
    · exact .inr (Nat.le_trans a.next h)

/-- A world that differs in the count of draws alone. -/
theorem BRel.same {ρ : Env} {w w' : World} {R : RB} {B : Blk} (h : BRel ρ w R B) (he : w'.heap[R.blk]? = w.heap[R.blk]?) : BRel ρ w' R B := by
  cases B with
  | dead => trivial
  | obj x =>
    obtain ⟨h0, o, h1, h2⟩ := h
    exact ⟨h0, o, he.trans h1, h2⟩
  | rows z l =>
    obtain ⟨h1, h2, h3, h4, c, et, h5, h6⟩ := h
    exact ⟨h1, h2, h3, h4, c, et, he.trans h5, h6⟩
  | ro l =>
    obtain ⟨h1, h4, c, et, fz, h5, h6⟩ := h
    exact ⟨h1, h4, c, et, fz, he.trans h5, h6⟩
theorem BRel.mono {ρ ρ' : Env} (hm : ∀ b R, ρ b = some R → ρ' b = some R) {w : World} {R : RB} {B : Blk} (h : BRel ρ w R B) : BRel ρ' w R B := by
  cases B with
  | dead => trivial
  | obj x =>
    obtain ⟨h0, o, h1, h2⟩ := h
    exact ⟨h0, o, h1, h2.mono hm⟩
  | rows z l =>
    obtain ⟨h1, h2, h3, h4, c, et, h5, h6, h7⟩ := h
    refine ⟨h1, h2, h3, h4, c, et, h5, h6, fun r row hr j x hx => ?_⟩
    obtain ⟨v, hv, h1, hr⟩ := h7 r row hr j x hx
    exact ⟨v, hv, h1, hr.mono hm⟩
  | ro l =>
    obtain ⟨h1, h4, c, et, fz, h5, h7⟩ := h
    refine ⟨h1, h4, c, et, fz, h5, fun r row hr j x hx => ?_⟩
    obtain ⟨v, hv, h1, hr⟩ := h7 r row hr j x hx
    exact ⟨v, hv, h1, hr.mono hm⟩

theorem HRel.drew {ρ : Env} {H : Heap} {w : World} (h : HRel ρ H w) (d : Nat) : HRel ρ H { w with drawn := d } :=
  ⟨fun b R e => (h.blk b R e).same rfl, h.inj, h.dom, h.glob.same fun _ _ => rfl, h.high, h.top⟩
theorem Step.drew {ρ : Env} {H : Heap} {w : World} (h : HRel ρ H w) (d : Nat) : Step ρ H w ρ H { w with drawn := d } :=
  ⟨h.drew d, fun _ _ e => e, Nat.le_refl _, rfl, rfl, rfl, fun _ _ _ => rfl, fun b R e hd => .inr ⟨b, R, e, hd, rfl⟩, Nat.le_refl _, fun _ _ _ => rfl, fun _ _ e => .inl e, fun _ e => e, rfl⟩

/-- A new block. -/
def Env.add (ρ : Env) (b : Nat) (R : RB) : Env := fun x => if x = b then some R else ρ x
theorem Env.add_ext {ρ : Env} {b : Nat} {R : RB} (h : ρ b = none) : ∀ x S, ρ x = some S → ρ.add b R x = some S := by
  intro x S e
  unfold Env.add
  by_cases hx : x = b
  · subst hx; rw [h] at e; cases e
  · rw [if_neg hx]; exact e
theorem Env.add_same {ρ : Env} {b : Nat} {R : RB} : ρ.add b R b = some R := by simp [Env.add]

theorem HRel.fresh {ρ : Env} {H : Heap} {w : World} (h : HRel ρ H w) : ρ H.next = none := by
  cases e : ρ H.next with
  | none => rfl
  | some R => have := (h.dom _ _ e).1; omega

theorem heap_push_old (w : World) (o : Obj) (k : Nat) (h : k < w.heap.size) : (w.alloc o).heap[k]? = w.heap[k]? := Below.heap_alloc w o k h
theorem heap_push_new (w : World) (o : Obj) : (w.alloc o).heap[w.heap.size]? = some o := heap_alloc_new w o

/-- The step that lays a new block. -/
theorem Step.allocB {ρ : Env} {H : Heap} {w : World} (h : HRel ρ H w) (B : Blk) (o : Obj) (R : RB) (hR : R.blk = w.heap.size) (hB : BRel (ρ.add H.next R) (w.alloc o) R B) :
    Step ρ H w (ρ.add H.next R) (H.add B) (w.alloc o) := by
  have hx := Env.add_ext (R := R) h.fresh
  have hg : ∀ b, b ≠ H.next → (H.add B).get b = H.get b := fun b hb => by rw [Heap.get_add _ _ _ trivial, if_neg hb]
  have hgn : (H.add B).get H.next = B := by rw [Heap.get_add _ _ _ trivial, if_pos rfl]
  have old : ∀ b S, ρ.add H.next R b = some S → b ≠ H.next → ρ b = some S := fun b S e hb => by simpa [Env.add, hb] using e
  have new : ∀ S, ρ.add H.next R H.next = some S → S = R := fun S e => by simpa [Env.add] using e.symm
  refine ⟨⟨fun b S e => ?_, fun b b' S S' e e' hd hd' hS => ?_, fun b S e => ?_, ?_, fun b S e hwr => ?_, fun b hb => by rw [Heap.next_add] at hb; rw [hg b (by omega)]; exact h.top b (by omega)⟩, hx, by simp, rfl, rfl, rfl, fun r hr _ => heap_push_old _ _ _ hr, fun b S e hd => ?_, by rw [Heap.next_add]; omega, fun b hb _ => hg b (by omega), fun b S e => ?_, fun b hb => by rw [hg b (fun he => by rw [he, h.top _ (Nat.le_refl _)] at hb; cases hb)]; exact hb, Heap.gl_add _ _⟩
  · by_cases hb : b = H.next
    · subst hb
      obtain rfl := new S e
      rw [hgn]
      exact hB
    · have e' := old b S e hb
      rw [hg b hb]
      exact ((h.blk b S e').same (heap_push_old _ _ _ (h.dom _ _ e').2)).mono hx
  · by_cases hb : b = H.next <;> by_cases hb' : b' = H.next
    · rw [hb, hb']
    · subst hb
      obtain rfl := new S e
      have := (h.dom _ _ (old b' S' e' hb')).2
      omega
    · subst hb'
      obtain rfl := new S' e'
      have := (h.dom _ _ (old b S e hb)).2
      omega
    · rw [hg b hb] at hd
      rw [hg b' hb'] at hd'
      exact h.inj b b' S S' (old _ _ e hb) (old _ _ e' hb') hd hd' hS
  · by_cases hb : b = H.next
    · subst hb
      obtain rfl := new S e
      exact ⟨by rw [Heap.next_add]; omega, by rw [hR]; simp⟩
    · have := h.dom _ _ (old b S e hb)
      exact ⟨by rw [Heap.next_add]; omega, by simp; omega⟩
  · exact h.glob.same fun g hgl => heap_push_old _ _ _ (Nat.lt_of_lt_of_le hgl h.glob.size)
  · rw [Heap.gl_add]
    by_cases hb : b = H.next
    · subst hb
      obtain rfl := new S e
      rw [hR]
      exact h.glob.size
    · rw [hg b hb] at hwr
      exact h.high _ _ (old b S e hb) hwr
  · by_cases hb : b = H.next
    · subst hb
      obtain rfl := new S e
      exact .inl (by omega)
    · have e' := old b S e hb
      rw [hg b hb] at hd
      exact .inr ⟨b, S, e', hd, rfl⟩
  · by_cases hb : b = H.next
    · exact .inr (by omega)
    · exact .inl (old b S e hb)

theorem Step.alloc {ρ : Env} {H : Heap} {w : World} (h : HRel ρ H w) (_hm : True) (z : Nat) (l : List (List AVal)) (c : Array Value) (et : TypeId) (R : RB)
    (hR : R.blk = w.heap.size) (h1 : R.esz = z) (h2 : R.n = l.length) (h3 : R.off + R.n * R.esz ≤ R.size) (h4 : ∀ row ∈ l, row.length = z) (h5 : c.size = R.size)
    (h6 : ∀ (r : Nat) (row : List AVal), l[r]? = some row → ∀ (j : Nat) (x : AVal), row[j]? = some x → ∃ v, c[R.off + r * R.esz + j]? = some v ∧ v.oneCell' = true ∧ VRel ρ x v) :
    Step ρ H w (ρ.add H.next R) (H.add (.rows z l)) (w.alloc (.cells c et)) := by
  refine Step.allocB h _ _ R hR ⟨h1, h2, h3, h4, c, et, by rw [hR]; exact heap_push_new _ _, h5, fun r row hr j x hxj => ?_⟩
  obtain ⟨v, hv, ho, hv'⟩ := h6 r row hr j x hxj
  exact ⟨v, hv, ho, hv'.mono (Env.add_ext (R := R) h.fresh)⟩
end Dt

namespace Dt
open Go Go.RowKit
set_option linter.all false
variable [LoopTab]
theorem heap_setRow_other (w : World) (g : Nat) (cs : Array Value) (k : Nat) (h : k ≠ g) : (w.setRow g cs).heap[k]? = w.heap[k]? := by
  unfold World.setRow
  rw [Array.getElem?_modify]
  rw [if_neg (fun e => h e.symm)]

/-- Cells of a block are stored to. -/
theorem Step.put {ρ : Env} {H : Heap} {w : World} (h : HRel ρ H w) (b : Nat) (R : RB) (e : ρ b = some R) (hm : True) (z : Nat) (l l' : List (List AVal)) (hb : H.get b = .rows z l)
    (c c' : Array Value) (et : TypeId) (hc : w.heap[R.blk]? = some (.cells c et (0, 0))) (hs : c'.size = c.size) (hl : l'.length = l.length) (hz : ∀ row ∈ l', row.length = z)
    (hr : ∀ (r : Nat) (row : List AVal), l'[r]? = some row → ∀ (j : Nat) (x : AVal), row[j]? = some x → ∃ v, c'[R.off + r * R.esz + j]? = some v ∧ v.oneCell' = true ∧ VRel ρ x v) :
    Step ρ H w ρ (H.put b (.rows z l')) (w.setRow R.blk c') := by
  have hBR := h.blk b R e
  rw [hb] at hBR
  obtain ⟨h1, h2, h3, h4, c0, et0, h5, h6, h7⟩ := hBR
  rw [hc] at h5
  simp only [Option.some.injEq, Obj.cells.injEq, and_true] at h5
  obtain ⟨rfl, rfl⟩ := h5
  have hg : ∀ x, (H.put b (.rows z l')).get x = if x = b then .rows z l' else H.get x := fun x => Heap.get_put _ _ _ _ hm
  have live : ∀ x, (H.put b (.rows z l')).get x ≠ .dead → H.get x ≠ .dead := fun x hx => by
    rw [hg] at hx
    by_cases hxb : x = b
    · subst hxb; rw [hb]; simp
    · rwa [if_neg hxb] at hx
  have liveW : ∀ x, Wr ((H.put b (.rows z l')).get x) → Wr (H.get x) := fun x hx => by
    rw [hg] at hx
    by_cases hxb : x = b
    · subst hxb; rw [hb]; trivial
    · rwa [if_neg hxb] at hx
  refine ⟨⟨fun x S ex => ?_, fun x y S S' ex ey dx dy hS => h.inj x y S S' ex ey (live _ dx) (live _ dy) hS, fun x S ex => ?_, h.glob.same fun g hgl => heap_setRow_other _ _ _ _ fun he => Nat.lt_irrefl _ (he ▸ Nat.lt_of_lt_of_le hgl (h.high b R e (by rw [hb]; trivial))), fun x S ex hw => h.high x S ex (liveW _ hw), fun x hx => by
    rw [Heap.next_put] at hx
    rw [hg, if_neg (fun he => by have := (h.dom _ _ e).1; omega)]
    exact h.top x hx⟩, fun _ _ ex => ex, by simp, rfl, rfl, rfl, fun r _ hn => ?_, fun x S ex hd => .inr ⟨x, S, ex, liveW _ hd, rfl⟩, Nat.le_refl _, fun x _ ex => by rw [hg, if_neg (fun he => by rw [he, e] at ex; cases ex)], fun _ _ ex => .inl ex, fun x hx => by rw [hg, if_neg (fun he => by rw [he, hb] at hx; cases hx)]; exact hx, rfl⟩
  · rw [hg]
    by_cases hxb : x = b
    · subst hxb
      rw [e] at ex
      obtain rfl : R = S := by simpa using ex
      rw [if_pos rfl]
      exact ⟨h1, by rw [h2, hl], h3, hz, c', et, setRow_heap w R.blk c c' et (0, 0) hc, by rw [hs, h6], hr⟩
    · rw [if_neg hxb]
      by_cases hd : H.get x = .dead
      · rw [hd]; trivial
      · refine (h.blk x S ex).same (heap_setRow_other _ _ _ _ fun he => hxb ?_)
        exact h.inj x b S R ex e hd (by rw [hb]; simp) he
  · exact ⟨(h.dom _ _ ex).1, by simpa using (h.dom _ _ ex).2⟩
  · exact heap_setRow_other _ _ _ _ fun he => hn b R e (by rw [hb]; trivial) he.symm

/-- A world with another object in a place. -/
def putO (w : World) (r : Nat) (o : Obj) : World := { w with heap := w.heap.setIfInBounds r o }
/-- An object is put in another's place. -/
theorem Step.putObj {ρ : Env} {H : Heap} {w : World} (h : HRel ρ H w) (b : Nat) (R : RB) (e : ρ b = some R) (y : OB) (hb : H.get b = .obj y) (x : OB) (o : Obj) (ho : ObRel ρ o x) (hy : Wr (.obj y) := by trivial) :
    Step ρ H w ρ (H.put b (.obj x)) (putO w R.blk o) := by
  have hsize : (putO w R.blk o).heap.size = w.heap.size := by simp [putO]
  have other : ∀ k, k ≠ R.blk → (putO w R.blk o).heap[k]? = w.heap[k]? := fun k hk => by
    unfold putO
    simp only
    rw [Array.getElem?_setIfInBounds, if_neg (fun he => hk he.symm)]
  have here : (putO w R.blk o).heap[R.blk]? = some o := by
    have := (h.dom _ _ e).2
    unfold putO
    simp only
    rw [Array.getElem?_setIfInBounds, if_pos rfl, if_pos this]
  have hBR := h.blk b R e
  rw [hb] at hBR
  have hg : ∀ x', (H.put b (.obj x)).get x' = if x' = b then .obj x else H.get x' := fun x' => Heap.get_put _ _ _ _ trivial
  have live : ∀ x', (H.put b (.obj x)).get x' ≠ .dead → H.get x' ≠ .dead := fun x' hx => by
    rw [hg] at hx
    by_cases hxb : x' = b
    · subst hxb; rw [hb]; simp
    · rwa [if_neg hxb] at hx
  have liveW : ∀ x', Wr ((H.put b (.obj x)).get x') → Wr (H.get x') := fun x' hx => by
    rw [hg] at hx
    by_cases hxb : x' = b
    · subst hxb; rw [hb]; exact hy
    · rwa [if_neg hxb] at hx
  refine ⟨⟨fun x' S ex => ?_, fun x' y' S S' ex ey dx dy hS => h.inj x' y' S S' ex ey (live _ dx) (live _ dy) hS, fun x' S ex => ?_, h.glob.same fun g hgl => other _ fun he => Nat.lt_irrefl _ (he ▸ Nat.lt_of_lt_of_le hgl (h.high b R e (by rw [hb]; exact hy))), fun x' S ex hw => h.high x' S ex (liveW _ hw), fun x' hx => by
    have hx : H.next ≤ x' := hx
    rw [hg, if_neg (fun he => by have := (h.dom _ _ e).1; omega)]
    exact h.top x' hx⟩, fun _ _ ex => ex, by rw [hsize]; exact Nat.le_refl _, rfl, rfl, rfl, fun r _ hn => ?_, fun x' S ex hd => .inr ⟨x', S, ex, liveW _ hd, rfl⟩, Nat.le_refl _, fun x' _ ex => by rw [hg, if_neg (fun he => by rw [he, e] at ex; cases ex)], fun _ _ ex => .inl ex, fun x' hx => by rw [hg, if_neg (fun he => by rw [he, hb] at hx; rw [hx] at hy; exact hy)]; exact hx, rfl⟩
  · rw [hg]
    by_cases hxb : x' = b
    · subst hxb
      rw [e] at ex
      obtain rfl : R = S := by simpa using ex
      rw [if_pos rfl]
      exact ⟨hBR.1, o, here, ho⟩
    · rw [if_neg hxb]
      by_cases hd : H.get x' = .dead
      · rw [hd]; trivial
      · refine (h.blk x' S ex).same (other _ fun he => hxb ?_)
        exact h.inj x' b S R ex e hd (by rw [hb]; simp) he
  · exact ⟨(h.dom _ _ ex).1, by rw [hsize]; exact (h.dom _ _ ex).2⟩
  · exact other _ fun he => hn b R e (by rw [hb]; exact hy) he.symm

/-- A block is given up; a new one lies in its real block. -/
theorem Step.regrow {ρ : Env} {H : Heap} {w : World} (h : HRel ρ H w) (b : Nat) (R S : RB) (e : ρ b = some R) (hm : True) (hm' : True) (hliveW : Wr (H.get b)) (z : Nat) (l' : List (List AVal))
    (c c' : Array Value) (et : TypeId) (hc : w.heap[R.blk]? = some (.cells c et (0, 0))) (_hs : c'.size = c.size) (hS : S.blk = R.blk) (h1 : S.esz = z) (h2 : S.n = l'.length) (h3 : S.off + S.n * S.esz ≤ S.size) (h5 : c'.size = S.size) (hz : ∀ row ∈ l', row.length = z)
    (hr : ∀ (r : Nat) (row : List AVal), l'[r]? = some row → ∀ (j : Nat) (x : AVal), row[j]? = some x → ∃ v, c'[S.off + r * S.esz + j]? = some v ∧ v.oneCell' = true ∧ VRel ρ x v) :
    Step ρ H w (ρ.add H.next S) ((H.put b .dead).add (.rows z l')) (w.setRow R.blk c') := by
  have hx := Env.add_ext (R := S) h.fresh
  have hlive : H.get b ≠ .dead := hliveW.live
  have hbn : b ≠ H.next := fun he => by have := (h.dom _ _ e).1; omega
  have hg : ∀ x, ((H.put b .dead).add (.rows z l')).get x = if x = H.next then .rows z l' else if x = b then .dead else H.get x := fun x => by
    rw [Heap.get_add _ _ _ hm', Heap.next_put, Heap.get_put _ _ _ _ hm]
  have old : ∀ x T, ρ.add H.next S x = some T → x ≠ H.next → ρ x = some T := fun x T ex hb => by simpa [Env.add, hb] using ex
  have new : ∀ T, ρ.add H.next S H.next = some T → T = S := fun T ex => by simpa [Env.add] using ex.symm
  have live : ∀ x, ((H.put b .dead).add (.rows z l')).get x ≠ .dead → x ≠ H.next → x ≠ b ∧ H.get x ≠ .dead := fun x hd hn => by
    rw [hg, if_neg hn] at hd
    by_cases hxb : x = b
    · rw [if_pos hxb] at hd; exact absurd rfl hd
    · rw [if_neg hxb] at hd; exact ⟨hxb, hd⟩
  have liveW : ∀ x, Wr (((H.put b .dead).add (.rows z l')).get x) → x ≠ H.next → Wr (H.get x) := fun x hd hn => by
    rw [hg, if_neg hn] at hd
    by_cases hxb : x = b
    · rw [if_pos hxb] at hd; exact hd.elim
    · rw [if_neg hxb] at hd; exact hd
  refine ⟨⟨fun x T ex => ?_, fun x y T T' ex ey dx dy hT => ?_, fun x T ex => ?_, h.glob.same fun g hgl => heap_setRow_other _ _ _ _ fun he => Nat.lt_irrefl _ (he ▸ Nat.lt_of_lt_of_le hgl (h.high b R e hliveW)), fun x T ex hwr => ?_, fun x hx => by
    rw [Heap.next_add, Heap.next_put] at hx
    rw [hg, if_neg (by omega)]
    by_cases hxb : x = b
    · rw [if_pos hxb]
    · rw [if_neg hxb]; exact h.top x (by omega)⟩, hx, by simp, rfl, rfl, rfl, fun r _ hn => ?_, fun x T ex hd => ?_, by rw [Heap.next_add, Heap.next_put]; omega, fun x hlt ex => by rw [hg, if_neg (by omega), if_neg (fun he => by rw [he, e] at ex; cases ex)], fun x T ex => ?_, fun x hx => by rw [hg, if_neg (fun he => by rw [he, h.top _ (Nat.le_refl _)] at hx; cases hx), if_neg (fun he => by rw [he] at hx; rw [hx] at hliveW; exact hliveW)]; exact hx, rfl⟩
  · rw [hg]
    by_cases hn : x = H.next
    · subst hn
      obtain rfl := new T ex
      rw [if_pos rfl]
      refine ⟨h1, h2, h3, hz, c', et, by rw [hS]; exact setRow_heap w R.blk c c' et (0, 0) hc, h5, fun r row hrow j y hy => ?_⟩
      obtain ⟨v, hv, ho, hv'⟩ := hr r row hrow j y hy
      exact ⟨v, hv, ho, hv'.mono hx⟩
    · rw [if_neg hn]
      by_cases hxb : x = b
      · rw [if_pos hxb]; trivial
      · rw [if_neg hxb]
        have ex' := old x T ex hn
        by_cases hd : H.get x = .dead
        · rw [hd]; trivial
        · exact ((h.blk x T ex').same (heap_setRow_other _ _ _ _ fun he => hxb (h.inj x b T R ex' e hd hlive he))).mono hx
  · by_cases hn : x = H.next <;> by_cases hn' : y = H.next
    · rw [hn, hn']
    · subst hn
      obtain rfl := new T ex
      obtain ⟨hyb, hyd⟩ := live y dy hn'
      exact absurd (h.inj y b T' R (old _ _ ey hn') e hyd hlive (hT.symm.trans hS)) hyb
    · subst hn'
      obtain rfl := new T' ey
      obtain ⟨hxb, hxd⟩ := live x dx hn
      exact absurd (h.inj x b T R (old _ _ ex hn) e hxd hlive (hT.trans hS)) hxb
    · exact h.inj x y T T' (old _ _ ex hn) (old _ _ ey hn') (live x dx hn).2 (live y dy hn').2 hT
  · by_cases hn : x = H.next
    · subst hn
      obtain rfl := new T ex
      exact ⟨by rw [Heap.next_add, Heap.next_put]; omega, by rw [hS]; simpa using (h.dom _ _ e).2⟩
    · have := h.dom _ _ (old x T ex hn)
      exact ⟨by rw [Heap.next_add, Heap.next_put]; omega, by simpa using this.2⟩
  · rw [Heap.gl_add, Heap.gl_put]
    by_cases hn : x = H.next
    · subst hn
      obtain rfl := new T ex
      rw [hS]
      exact h.high _ _ e hliveW
    · exact h.high _ _ (old x T ex hn) (liveW x hwr hn)
  · exact heap_setRow_other _ _ _ _ fun he => hn b R e hliveW he.symm
  · by_cases hn : x = H.next
    · subst hn
      obtain rfl := new T ex
      exact .inr ⟨b, R, e, hliveW, hS.symm⟩
    · exact .inr ⟨x, T, old x T ex hn, liveW x hd hn, rfl⟩
  · by_cases hn : x = H.next
    · exact .inr (by omega)
    · exact .inl (old x T ex hn)

/-! ### What the small functions on lists do -/
theorem llen_eq (l : List AVal) : llen l = l.length := by induction l with | nil => rfl | cons x l ih => simp [llen, ih]
theorem rlen_eq (l : List (List AVal)) : rlen l = l.length := by induction l with | nil => rfl | cons x l ih => simp [rlen, ih]
theorem rget_eq (l : List (List AVal)) : ∀ k, rget l k = l[k]? := by
  induction l with
  | nil => intro k; rfl
  | cons x l ih => intro k; cases k <;> simp [rget, ih]
theorem lget_eq (l : List AVal) : ∀ k, lget l k = l[k]?.getD (.tup []) := by
  induction l with
  | nil => intro k; rfl
  | cons x l ih => intro k; cases k <;> simp [lget, ih]
theorem lset_eq (l : List AVal) (v : AVal) : ∀ k, lset l k v = l.set k v := by
  induction l with
  | nil => intro k; rfl
  | cons x l ih => intro k; cases k <;> simp [lset, ih]
theorem rset_eq (l : List (List AVal)) (v : List AVal) : ∀ k, rset l k v = l.set k v := by
  induction l with
  | nil => intro k; rfl
  | cons x l ih => intro k; cases k <;> simp [rset, ih]
theorem cut_eq (l : List AVal) : ∀ (c n : Nat) (r : List AVal), cut l c n = some r → r = (l.drop c).take n ∧ (n ≠ 0 ∨ True) ∧ r.length = n := by
  induction l with
  | nil =>
    intro c n r h
    cases c <;> cases n <;> simp [cut] at h
    subst h
    simp
  | cons x l ih =>
    intro c n r h
    cases c with
    | succ c =>
      have h' : cut l c n = some r := by simpa [cut] using h
      obtain ⟨a, _, b⟩ := ih c n r h'
      exact ⟨by simpa using a, by simp, b⟩
    | zero =>
      cases n with
      | zero => simp [cut] at h; subst h; simp
      | succ n =>
        simp only [cut] at h
        split at h
        · rename_i s hs
          obtain ⟨a, _, b⟩ := ih 0 n s hs
          simp at h
          subst h
          exact ⟨by simpa using a, by simp, by simp [b]⟩
        · cases h
theorem rtake_eq (l : List (List AVal)) : ∀ (c n : Nat) (r : List (List AVal)), rtake l c n = some r → r = (l.drop c).take n ∧ r.length = n := by
  induction l with
  | nil =>
    intro c n r h
    cases c <;> cases n <;> simp [rtake] at h
    subst h
    simp
  | cons x l ih =>
    intro c n r h
    cases c with
    | succ c =>
      have h' : rtake l c n = some r := by simpa [rtake] using h
      obtain ⟨a, b⟩ := ih c n r h'
      exact ⟨by simpa using a, b⟩
    | zero =>
      cases n with
      | zero => simp [rtake] at h; subst h; simp
      | succ n =>
        simp only [rtake] at h
        split at h
        · rename_i s hs
          obtain ⟨a, b⟩ := ih 0 n s hs
          simp at h
          subst h
          exact ⟨by simpa using a, by simp [b]⟩
        · cases h
theorem splice_get (l : List AVal) : ∀ (c : Nat) (new : List AVal) (i : Nat), (splice l c new)[i]? = if c ≤ i ∧ i < c + new.length ∧ i < l.length then new[i - c]? else l[i]? := by
  induction l with
  | nil => intro c new i; simp [splice]
  | cons x l ih =>
    intro c new i
    cases c with
    | succ c =>
      cases i with
      | zero => simp [splice]
      | succ i =>
        simp only [splice, List.getElem?_cons_succ, ih, List.length_cons]
        by_cases hh : c ≤ i ∧ i < c + new.length ∧ i < l.length
        · rw [if_pos hh, if_pos (by omega)]; congr 1; omega
        · rw [if_neg hh, if_neg (by omega)]
    | zero =>
      cases new with
      | nil => simp [splice]
      | cons y new =>
        cases i with
        | zero => simp [splice]
        | succ i =>
          simp only [splice, List.getElem?_cons_succ, ih, List.length_cons]
          by_cases hh : 0 ≤ i ∧ i < 0 + new.length ∧ i < l.length
          · rw [if_pos hh, if_pos (by omega)]; simp
          · rw [if_neg hh, if_neg (by omega)]
theorem splice_length (l : List AVal) : ∀ (c : Nat) (new : List AVal), (splice l c new).length = l.length := by
  induction l with
  | nil => intro c new; rfl
  | cons x l ih =>
    intro c new
    cases c with
    | succ c => simp [splice, ih]
    | zero => cases new <;> simp [splice, ih]
theorem rsplice_get (l : List (List AVal)) : ∀ (c : Nat) (new : List (List AVal)) (i : Nat), (rsplice l c new)[i]? = if c ≤ i ∧ i < c + new.length ∧ i < l.length then new[i - c]? else l[i]? := by
  induction l with
  | nil => intro c new i; simp [rsplice]
  | cons x l ih =>
    intro c new i
    cases c with
    | succ c =>
      cases i with
      | zero => simp [rsplice]
      | succ i =>
        simp only [rsplice, List.getElem?_cons_succ, ih, List.length_cons]
        by_cases hh : c ≤ i ∧ i < c + new.length ∧ i < l.length
        · rw [if_pos hh, if_pos (by omega)]; congr 1; omega
        · rw [if_neg hh, if_neg (by omega)]
    | zero =>
      cases new with
      | nil => simp [rsplice]
      | cons y new =>
        cases i with
        | zero => simp [rsplice]
        | succ i =>
          simp only [rsplice, List.getElem?_cons_succ, ih, List.length_cons]
          by_cases hh : 0 ≤ i ∧ i < 0 + new.length ∧ i < l.length
          · rw [if_pos hh, if_pos (by omega)]; simp
          · rw [if_neg hh, if_neg (by omega)]
theorem rsplice_length (l : List (List AVal)) : ∀ (c : Nat) (new : List (List AVal)), (rsplice l c new).length = l.length := by
  induction l with
  | nil => intro c new; rfl
  | cons x l ih =>
    intro c new
    cases c with
    | succ c => simp [rsplice, ih]
    | zero => cases new <;> simp [rsplice, ih]
end Dt

namespace Dt
open Go Go.RowKit
set_option linter.all false
variable [LoopTab]
/-- The real cells that stand for some of the abstract ones. -/
theorem cells_list {ρ : Env} (c : Array Value) : ∀ (cs : List AVal) (o : Nat), (∀ (j : Nat) (x : AVal), cs[j]? = some x → ∃ v, c[o + j]? = some v ∧ v.oneCell' = true ∧ VRel ρ x v) →
    ∃ us : List Value, us.length = cs.length ∧ VRels ρ cs us ∧ (∀ u ∈ us, u.oneCell' = true) ∧ ∀ (j : Nat) (u : Value), us[j]? = some u → c[o + j]? = some u
  | [], _, _ => ⟨[], rfl, .nil, by simp, by simp⟩
  | x :: cs, o, h => by
    obtain ⟨v, hv, h1, hr⟩ := h 0 x rfl
    obtain ⟨us, hl, hs, ho, hc⟩ := cells_list c cs (o + 1) (fun j y hy => by
      have := h (j + 1) y (by simpa using hy)
      rwa [show o + (j + 1) = o + 1 + j from by omega] at this)
    refine ⟨v :: us, by simp [hl], .cons hr hs, fun u hu => ?_, fun j u hu => ?_⟩
    · rcases List.mem_cons.1 hu with rfl | hu
      · exact h1
      · exact ho u hu
    · cases j with
      | zero => simp at hu; subst hu; simpa using hv
      | succ j => rw [show o + (j + 1) = o + 1 + j from by omega]; exact hc j u (by simpa using hu)

theorem VRels.of_get {ρ : Env} {x : List AVal} {v : List Value} (h : VRels ρ x v) (i : Nat) : VRel ρ (lget x i) (v[i]?.getD undef) := by
  rw [lget_eq]
  have hl := h.length
  rcases Nat.lt_or_ge i x.length with hlt | hge
  · have : x[i]? = some x[i] := List.getElem?_eq_getElem hlt
    obtain ⟨u, hu, hr⟩ := h.get i _ this
    rw [this, hu]
    exact hr
  · rw [List.getElem?_eq_none hge, List.getElem?_eq_none (by omega)]
    exact .tup .nil

/-! ### The frame -/

/-- A deferred call, or the mark of a range over a function. -/
def DOne (ρ : Env) (x : AVal) (d : Deferred) : Prop := match x with
  | .fn f a c => ∃ u v, VRels ρ a u ∧ VRels ρ c v ∧ d = { target := .fn (.func f) v.toArray, args := u.toArray }
  | .ptr b 0 0 => ∃ R, ρ b = some R ∧ d = { target := .collected R.blk, args := #[] }
  | _ => False
theorem DOne.mono {ρ ρ' : Env} (h : ∀ b R, ρ b = some R → ρ' b = some R) {x : AVal} {d : Deferred} (hd : DOne ρ x d) : DOne ρ' x d := by
  unfold DOne at *
  split at hd
  · obtain ⟨u, v, h1, h2, h3⟩ := hd
    exact ⟨u, v, h1.mono h, h2.mono h, h3⟩
  · obtain ⟨R, h1, h2⟩ := hd
    exact ⟨R, h _ _ h1, h2⟩
  · exact hd.elim
def DRel (ρ : Env) : List AVal → List Deferred → Prop
  | [], [] => True
  | x :: l, d :: ds => DOne ρ x d ∧ DRel ρ l ds
  | _, _ => False
theorem DRel.mono {ρ ρ' : Env} (h : ∀ b R, ρ b = some R → ρ' b = some R) : ∀ {l : List AVal} {ds : List Deferred}, DRel ρ l ds → DRel ρ' l ds
  | [], [], _ => trivial
  | _ :: _, _ :: _, hd => ⟨hd.1.mono h, DRel.mono h hd.2⟩
  | [], _ :: _, hd => hd.elim
  | _ :: _, [], hd => hd.elim
/-- What the frame's place for deferred calls holds. -/
def DVal (ρ : Env) (x : AVal) (ds : List Deferred) : Prop := ∃ l, x = .tup l ∧ DRel ρ l ds
theorem DVal.mono {ρ ρ' : Env} (h : ∀ b R, ρ b = some R → ρ' b = some R) {x : AVal} {ds : List Deferred} (hd : DVal ρ x ds) : DVal ρ' x ds :=
  let ⟨l, h1, h2⟩ := hd
  ⟨l, h1, h2.mono h⟩

/-- The temporaries: 'vm' lists those that have a place of their own, 'names' those that the region has made so far, the last one first. -/
structure ERel (ρ : Env) (vm names : List Nat) (N : Nat) (vs ts : List AVal) (a : Act) : Prop where
  size : N ≤ a.tmps.size
  vars : ∀ i t, vm[i]? = some t → VRel ρ (lget vs i) (a.tmps.getD t undef)
  tmps : ∀ i t, names[i]? = some t → VRel ρ (lget ts i) (a.tmps.getD t undef)
  len : vm.length ≤ vs.length
  dfr : DVal ρ (lget vs vm.length) a.defers

theorem ERel.mono {ρ ρ' : Env} (h : ∀ b R, ρ b = some R → ρ' b = some R) {vm names : List Nat} {N : Nat} {vs ts : List AVal} {a : Act} (e : ERel ρ vm names N vs ts a) : ERel ρ' vm names N vs ts a :=
  ⟨e.size, fun i t ht => (e.vars i t ht).mono h, fun i t ht => (e.tmps i t ht).mono h, e.len, e.dfr.mono h⟩
theorem ERel.forget {ρ : Env} {vm names : List Nat} {N : Nat} {vs ts : List AVal} {a : Act} (e : ERel ρ vm names N vs ts a) (ts' : List AVal) : ERel ρ vm [] N vs ts' a :=
  ⟨e.size, e.vars, fun i t ht => by simp at ht, e.len, e.dfr⟩

theorem findT_some {t : Nat} : ∀ {l : List Nat} {i j : Nat}, findT t l i = some j → ∃ k, j = i + k ∧ l[k]? = some t
  | [], _, _, h => by simp [findT] at h
  | u :: l, i, j, h => by
    simp only [findT] at h
    split at h
    · rename_i hu
      simp at h hu
      exact ⟨0, by omega, by simp [hu]⟩
    · obtain ⟨k, hk, hl⟩ := findT_some h
      exact ⟨k + 1, by omega, by simpa using hl⟩
theorem findT_none {t : Nat} : ∀ {l : List Nat} {i : Nat}, findT t l i = none → t ∉ l
  | [], _, _ => by simp
  | u :: l, i, h => by
    simp only [findT] at h
    split at h
    · cases h
    · rename_i hu
      have := findT_none h
      simp at hu ⊢
      exact ⟨fun e => hu e.symm, this⟩

theorem cVal1_rel {ρ : Env} {v : Value} {x : AVal} (h : cVal1 v = some x) : VRel ρ x v ∧ v.oneCell' = true := by
  unfold cVal1 at h
  split at h <;> simp at h <;> subst h <;> (refine ⟨?_, rfl⟩; constructor)
theorem cVals_rel {ρ : Env} : ∀ {v : List Value} {x : List AVal}, cVals v = some x → VRels ρ x v ∧ ∀ u ∈ v, u.oneCell' = true
  | [], x, h => by simp [cVals] at h; subst h; exact ⟨.nil, by simp⟩
  | u :: v, x, h => by
    simp only [cVals] at h
    split at h
    · rename_i y ys h1 h2
      simp at h
      subst h
      obtain ⟨a, b⟩ := cVal1_rel (ρ := ρ) h1
      obtain ⟨c, d⟩ := cVals_rel (ρ := ρ) h2
      exact ⟨.cons a c, fun z hz => (List.mem_cons.1 hz).elim (fun e => e ▸ b) (d z)⟩
    · cases h
theorem cVal_rel {ρ : Env} {v : Value} {x : AVal} (h : cVal v = some x) : VRel ρ x v := by
  unfold cVal at h
  split at h
  · rename_i cs
    cases hc : cVals cs.toList with
    | none => rw [hc] at h; cases h
    | some l =>
      rw [hc] at h
      simp at h
      subst h
      obtain ⟨a, b⟩ := cVals_rel (ρ := ρ) hc
      have := VRel.agg a b
      simpa using this
  · exact (cVal1_rel h).1

/-- Operands that are looked up stand for what the frame holds. -/
def HOp (ρ : Env) (f : Operand → Option Opd) (vs ts : List AVal) (a : Act) : Prop := ∀ x y, f x = some y → VRel ρ (y.get vs ts) (a.eval x)
theorem HOp.mono {ρ ρ' : Env} (h : ∀ b R, ρ b = some R → ρ' b = some R) {f : Operand → Option Opd} {vs ts : List AVal} {a : Act} (e : HOp ρ f vs ts a) : HOp ρ' f vs ts a := fun x y hx => (e x y hx).mono h
theorem ERel.hop {ρ : Env} {vm names : List Nat} {N : Nat} {vs ts : List AVal} {a : Act} (e : ERel ρ vm names N vs ts a) : HOp ρ (cOpd vm names) vs ts a := by
  intro x y h
  cases x with
  | tmp t =>
    simp only [cOpd] at h
    split at h
    · rename_i i hi
      simp at h; subst h
      obtain ⟨k, hk, hl⟩ := findT_some hi
      have : i = k := by omega
      subst this
      exact e.tmps i t hl
    · split at h
      · rename_i i hi
        simp at h; subst h
        obtain ⟨k, hk, hl⟩ := findT_some hi
        have : i = k := by omega
        subst this
        exact e.vars i t hl
      · cases h
  | const v =>
    simp only [cOpd, Option.map_eq_some_iff] at h
    obtain ⟨x, hx, rfl⟩ := h
    exact cVal_rel hx
  | func f =>
    simp only [cOpd, Option.some.injEq] at h
    subst h
    exact .fn f .nil .nil
  | global g =>
    simp only [cOpd, Option.some.injEq] at h
    subst h
    exact .gp g 0
theorem opd_rel {ρ : Env} {f : Operand → Option Opd} {vs ts : List AVal} {a : Act} (e : HOp ρ f vs ts a) {x : Operand} {y : Opd} (h : f x = some y) :
    VRel ρ (y.get vs ts) (a.eval x) := e x y h

theorem opds_rel {ρ : Env} {f : Operand → Option Opd} {vs ts : List AVal} {a : Act} (e : HOp ρ f vs ts a) : ∀ {x : List Operand} {y : List Opd}, cOpds f x = some y →
    VRels ρ (opds vs ts y) (x.map a.eval)
  | [], y, h => by simp [cOpds] at h; subst h; exact .nil
  | x :: l, y, h => by
    simp only [cOpds] at h
    split at h
    · rename_i u us h1 h2
      simp at h; subst h
      exact .cons (opd_rel e h1) (opds_rel e h2)
    · cases h

/-! ### Memory: reading and writing it -/

theorem row_cells {ρ : Env} {w : World} {R : RB} {z : Nat} {l : List (List AVal)} (h : BRel ρ w R (.rows z l)) {r : Nat} {row : List AVal} (hr : l[r]? = some row) {c n : Nat} {cs : List AVal} (hc : cut row c n = some cs) :
    ∃ us : List Value, us.length = n ∧ VRels ρ cs us ∧ (∀ u ∈ us, u.oneCell' = true) ∧ ∀ (j : Nat) (u : Value), us[j]? = some u → w.cell? ((⟨R.blk, R.off + r * R.esz + c, none⟩ : Addr).add j) = some u := by
  obtain ⟨h1, h2, h3, h4, arr, et, h5, h6, h7⟩ := h
  obtain ⟨hcs, _, hlen⟩ := cut_eq _ _ _ _ hc
  obtain ⟨us, hl, hs, ho, hcell⟩ := cells_list (ρ := ρ) arr cs (R.off + r * R.esz + c) (fun j x hx => by
    have hx' : row[c + j]? = some x := by
      rw [hcs, List.getElem?_take] at hx
      split at hx
      · rw [List.getElem?_drop] at hx; exact hx
      · cases hx
    have := h7 r row hr (c + j) x hx'
    rwa [← Nat.add_assoc] at this)
  refine ⟨us, hl.trans hlen, hs, ho, fun j u hu => ?_⟩
  rw [Addr.add_lit, cell_of_row w R.blk _ arr et (0, 0) h5]
  exact hcell j u hu

/-- The cells of a table. -/
theorem table_cells {ρ : Env} {w : World} {gl : List (List AVal)} (h : GRel w gl) {g c n : Nat} {cs : List AVal} (hc : gcut gl g c n = some cs) :
    ∃ us : List Value, us.length = n ∧ VRels ρ cs us ∧ (∀ u ∈ us, u.oneCell' = true) ∧ g < w.heap.size ∧ ∀ (j : Nat) (u : Value), us[j]? = some u → w.cell? ((⟨g, c, none⟩ : Addr).add j) = some u := by
  unfold gcut at hc
  rw [rget_eq] at hc
  cases hr : gl[g]? with
  | none => rw [hr] at hc; cases hc
  | some row =>
    rw [hr] at hc
    simp only at hc
    obtain ⟨arr, et, fz, h1, h2⟩ := h g row hr
    obtain ⟨hcs, _, hlen⟩ := cut_eq _ _ _ _ hc
    obtain ⟨us, hl, hs, ho, hcell⟩ := cells_list (ρ := ρ) arr cs c (fun j x hx => by
      have hx' : row[c + j]? = some x := by
        rw [hcs, List.getElem?_take] at hx
        split at hx
        · rw [List.getElem?_drop] at hx; exact hx
        · cases hx
      obtain ⟨v, hv, h1, hr⟩ := h2 (c + j) x hx'
      exact ⟨v, hv, h1, hr.mono fun b R e => by cases e⟩)
    refine ⟨us, hl.trans hlen, hs, ho, ?_, fun j u hu => ?_⟩
    · exact (Array.getElem?_eq_some_iff.1 h1).1
    · rw [Addr.add_lit, cell_of_row w g _ arr et fz h1]
      exact hcell j u hu
end Dt

namespace Dt
open Go Go.RowKit
set_option linter.all false
variable [LoopTab]
/-! ### Numbers and strings -/
theorem wrapI_eq (k : IntKind) (n : Int) : wrapI k n = k.wrap n := by
  unfold wrapI
  cases k <;> try rfl
  cases n with
  | ofNat m =>
    simp only
    cases h : Nat.ble m 9223372036854775807
    · rfl
    · have := Nat.le_of_ble_eq_true h
      simp only
      exact (IntWalk.i64_in _ (by constructor <;> simp <;> omega)).symm
  | negSucc m =>
    simp only
    cases h : Nat.ble m 9223372036854775807
    · rfl
    · have := Nat.le_of_ble_eq_true h
      simp only
      exact (IntWalk.i64_in _ (by omega)).symm
theorem ieq_eq (a b : Int) : ieq a b = (a == b) := by
  cases a <;> cases b <;> simp [ieq] <;> rw [Bool.eq_iff_iff] <;> simp <;> omega
theorem ile_eq (a b : Int) : ile a b = decide (a ≤ b) := by
  cases a <;> cases b <;> simp only [ile] <;> rw [Bool.eq_iff_iff] <;> simp <;> omega

theorem codeOf_lt (l : List UInt8) : codeOf l < 256 ^ l.length := by
  induction l with
  | nil => simp [codeOf]
  | cons b l ih =>
    have hb : b.toNat < 256 := b.toNat_lt
    simp only [codeOf, List.length_cons, Nat.pow_succ]
    omega
theorem shr8 (c i : Nat) : Nat.shiftRight c (Nat.mul 8 i) = c / 256 ^ i := by
  have : Nat.shiftRight c (Nat.mul 8 i) = c >>> (8 * i) := rfl
  rw [this, Nat.shiftRight_eq_div_pow, Nat.pow_mul]
theorem sget_eq (c i : Nat) : sget c i = c / 256 ^ i % 256 := by
  unfold sget
  rw [shr8]
  rfl
theorem scut_eq (c l h : Nat) : scut c l h = c / 256 ^ l % 256 ^ (h - l) := by
  unfold scut
  rw [shr8]
  have : Nat.pow 2 (Nat.mul 8 (Nat.sub h l)) = 256 ^ (h - l) := by
    show 2 ^ (8 * (h - l)) = 256 ^ (h - l)
    rw [Nat.pow_mul]
  rw [this]
  rfl
theorem scat_eq (n c d : Nat) : scat n c d = c + 256 ^ n * d := by
  unfold scat
  have : Nat.shiftLeft d (Nat.mul 8 n) = 256 ^ n * d := by
    show d <<< (8 * n) = _
    rw [Nat.shiftLeft_eq, Nat.pow_mul, Nat.mul_comm]
  rw [this]
  rfl
theorem codeOf_get : ∀ (l : List UInt8) (i : Nat) (h : i < l.length), codeOf l / 256 ^ i % 256 = (l[i]'h).toNat
  | b :: l, 0, _ => by
    have hb : b.toNat < 256 := b.toNat_lt
    simp only [codeOf, Nat.pow_zero, Nat.div_one, List.getElem_cons_zero]
    omega
  | b :: l, i + 1, h => by
    have hb : b.toNat < 256 := b.toNat_lt
    simp only [codeOf, List.getElem_cons_succ]
    rw [Nat.pow_succ, Nat.mul_comm (256 ^ i) 256, ← Nat.div_div_eq_div_mul]
    have : (b.toNat + 256 * codeOf l) / 256 = codeOf l := by omega
    rw [this]
    exact codeOf_get l i (by simpa using h)
theorem codeOf_drop : ∀ (l : List UInt8) (i : Nat), codeOf (l.drop i) = codeOf l / 256 ^ i
  | l, 0 => by simp
  | [], i + 1 => by simp [codeOf]
  | b :: l, i + 1 => by
    have hb : b.toNat < 256 := b.toNat_lt
    rw [List.drop_succ_cons, codeOf_drop l i]
    simp only [codeOf]
    rw [Nat.pow_succ, Nat.mul_comm (256 ^ i) 256, ← Nat.div_div_eq_div_mul]
    congr 1
    omega
theorem codeOf_take : ∀ (l : List UInt8) (i : Nat), codeOf (l.take i) = codeOf l % 256 ^ i
  | l, 0 => by simp [codeOf, Nat.mod_one]
  | [], i + 1 => by simp [codeOf]
  | b :: l, i + 1 => by
    have hb : b.toNat < 256 := b.toNat_lt
    rw [List.take_succ_cons]
    simp only [codeOf]
    rw [codeOf_take l i, Nat.pow_succ, Nat.mul_comm (256 ^ i) 256]
    have hp : 0 < 256 ^ i := Nat.pow_pos (by omega)
    rw [Nat.mod_mul]
    have h1 : (b.toNat + 256 * codeOf l) % 256 = b.toNat := by omega
    have h2 : (b.toNat + 256 * codeOf l) / 256 = codeOf l := by omega
    rw [h1, h2]
theorem codeOf_append (l m : List UInt8) : codeOf (l ++ m) = codeOf l + 256 ^ l.length * codeOf m := by
  induction l with
  | nil => simp [codeOf]
  | cons b l ih =>
    simp only [List.cons_append, codeOf, ih, List.length_cons, Nat.pow_succ]
    have : 256 ^ l.length * 256 * codeOf m = 256 * (256 ^ l.length * codeOf m) := by
      rw [Nat.mul_comm (256 ^ l.length) 256, Nat.mul_assoc]
    omega
theorem codeOf_inj : ∀ {l m : List UInt8}, l.length = m.length → codeOf l = codeOf m → l = m
  | [], [], _, _ => rfl
  | b :: l, d :: m, hl, h => by
    have hb : b.toNat < 256 := b.toNat_lt
    have hd : d.toNat < 256 := d.toNat_lt
    simp only [codeOf] at h
    have h1 : b.toNat = d.toNat := by omega
    have h2 : codeOf l = codeOf m := by omega
    rw [codeOf_inj (by simpa using hl) h2, UInt8.toNat_inj.1 h1]
  | [], _ :: _, hl, _ => by simp at hl
  | _ :: _, [], hl, _ => by simp at hl

theorem str_beq (a b : ByteArray) : (Nat.beq a.size b.size && Nat.beq (codeOf a.data.toList) (codeOf b.data.toList)) = (a.toList == b.toList) := by
  rw [ByteArray.toList_eq, ByteArray.toList_eq, Bool.eq_iff_iff]
  have ha : a.size = a.data.toList.length := by simp
  have hb : b.size = b.data.toList.length := by simp
  constructor
  · intro h
    simp only [Bool.and_eq_true, Nat.beq_eq] at h
    have : a.data.toList = b.data.toList := codeOf_inj (by rw [← ha, ← hb]; exact h.1) h.2
    simp [this]
  · intro h
    have h' : a.data.toList = b.data.toList := by simpa using h
    simp only [Bool.and_eq_true, Nat.beq_eq]
    exact ⟨by rw [ha, hb, h'], by rw [h']⟩

/-! ### What one operation does -/

/-- The run of a piece hands back a value, and memory has taken a step. -/
def Yields (P : Program) (s : Sem Value) (ρ : Env) (H : Heap) (w : World) (Q : AVal → Heap → Prop) : Prop :=
  ∃ x H' ρ' v w', Q x H' ∧ s.run P w = .ok v w' ∧ VRel ρ' x v ∧ Step ρ H w ρ' H' w'

theorem Yields.here {P : Program} {s : Sem Value} {ρ : Env} {H : Heap} {w : World} {Q : AVal → Heap → Prop} (h : HRel ρ H w) {x : AVal} {v : Value} (hq : Q x H) (hs : s.run P w = .ok v w) (hv : VRel ρ x v) : Yields P s ρ H w Q :=
  ⟨x, H, ρ, v, w, hq, hs, hv, Step.refl h⟩

/-- The piece hands back a value, whatever the world, and leaves the world be. -/
def Pure (P : Program) (s : Sem Value) (ρ : Env) (H : Heap) (Q : AVal → Heap → Prop) : Prop :=
  ∃ x v, Q x H ∧ (∀ w, s.run P w = .ok v w) ∧ VRel ρ x v
theorem Pure.here {P : Program} {s : Sem Value} {ρ : Env} {H : Heap} {Q : AVal → Heap → Prop} {x : AVal} {v : Value} (hq : Q x H) (hs : ∀ w, s.run P w = .ok v w) (hv : VRel ρ x v) : Pure P s ρ H Q :=
  ⟨x, v, hq, hs, hv⟩
/-- The piece hands back a value that one block of this world tells, and leaves the world be. -/
def Reads (P : Program) (s : Sem Value) (ρ : Env) (H : Heap) (w : World) (Q : AVal → Heap → Prop) : Prop :=
  ∃ x v blk, Q x H ∧ VRel ρ x v ∧ blk < w.heap.size ∧ ∀ w' : World, w'.heap[blk]? = w.heap[blk]? → s.run P w' = .ok v w'
/-- 'Yields', and all blocks that stood stand as they did. -/
def YieldsK (P : Program) (s : Sem Value) (ρ : Env) (H : Heap) (w : World) (Q : AVal → Heap → Prop) : Prop :=
  ∃ x H' ρ' v w', Q x H' ∧ s.run P w = .ok v w' ∧ VRel ρ' x v ∧ Step ρ H w ρ' H' w' ∧ ∀ k, k < w.heap.size → w'.heap[k]? = w.heap[k]?
theorem YieldsK.weak {P : Program} {s : Sem Value} {ρ : Env} {H : Heap} {w : World} {Q : AVal → Heap → Prop} (h : YieldsK P s ρ H w Q) : Yields P s ρ H w Q :=
  let ⟨x, H', ρ', v, w', h1, h2, h3, h4, _⟩ := h
  ⟨x, H', ρ', v, w', h1, h2, h3, h4⟩
theorem cell_same {w w' : World} {a : Addr} (h : w'.heap[a.block]? = w.heap[a.block]?) : w'.cell? a = w.cell? a := by
  unfold World.cell?
  rw [h]

section ops
variable {R : Type} {A : Alg R} {P : Program} {call : Nat → List AVal → Heap → (AVal → Heap → R) → R} {vs ts : List AVal} {ρ : Env} {H : Heap} {w : World} {K : AVal → Heap → R}

theorem run_isAgg_one {t : TypeId} (h : isOne P t = true) (w : World) : (Go.isAgg t).run P w = .ok false w := by
  unfold isOne at h
  cases hu : P.underlying t with
  | none => rw [hu] at h; cases h
  | some d =>
    rw [hu] at h
    simp only [Go.isAgg, Sem.run_bind, run_underlying hu, Result.andThen_ok]
    cases d <;> simp_all
theorem run_isAgg_many {t : TypeId} (h : isMany P t = true) (w : World) : (Go.isAgg t).run P w = .ok true w := by
  unfold isMany at h
  cases hu : P.underlying t with
  | none => rw [hu] at h; cases h
  | some d =>
    rw [hu] at h
    simp only [Go.isAgg, Sem.run_bind, run_underlying hu, Result.andThen_ok]
    cases d <;> simp_all
theorem info_of_one {t : TypeId} (h : isOne P t = true) : ∃ i, P.info? t = some i := by
  unfold isOne Program.underlying at h
  cases hi : P.info? t with
  | none => rw [hi] at h; cases h
  | some i => exact ⟨i, rfl⟩
theorem info_of_many {t : TypeId} (h : isMany P t = true) : ∃ i, P.info? t = some i := by
  unfold isMany Program.underlying at h
  cases hi : P.info? t with
  | none => rw [hi] at h; cases h
  | some i => exact ⟨i, rfl⟩
theorem run_sizeOf {t : TypeId} {i : TypeInfo} (h : P.info? t = some i) (w : World) : (Go.sizeOf t).run P w = .ok (P.cellsOf t) w := by
  simp [Go.sizeOf, typeInfo, h, Program.cellsOf]

theorem loadVar_one {t : TypeId} (ht : isOne P t = true) {a : Addr} {u : Value} (hc : w.cell? a = some u) : (loadVar t a).run P w = .ok u w := by
  simp [loadVar, run_isAgg_one ht, hc]
theorem loadVar_many {t : TypeId} (ht : isMany P t = true) {a : Addr} {us : List Value} (hl : us.length = P.cellsOf t) (hc : ∀ (j : Nat) (u : Value), us[j]? = some u → w.cell? (a.add j) = some u) :
    (loadVar t a).run P w = .ok (.agg us.toArray) w := by
  obtain ⟨i, hi⟩ := info_of_many ht
  have h := run_loadCells_list (P := P) w a us hc
  rw [hl] at h
  simp [loadVar, run_isAgg_many ht, run_sizeOf hi, h]

theorem y_load1 {t : TypeId} (ht : isOne P t = true) {x : Opd} {u : Value} (hx : VRel ρ (x.get vs ts) u) (hH : HRel ρ H w) (h : A.holds (evI A call (.load1 x) vs ts H K)) :
    Reads P (Instr.loadAt t u) ρ H w (fun x H => A.holds (K x H)) := by
  simp only [evI] at h
  generalize x.get vs ts = X at hx h
  cases hx <;> try exact (A.fail_no h).elim
  case gp g c =>
    simp only at h
    cases hc : gcut H.gl g c 1 with
    | none => rw [hc] at h; exact (A.fail_no h).elim
    | some cs =>
      rw [hc] at h
      obtain ⟨us, hl, hs, ho, hg, hcell⟩ := table_cells (ρ := ρ) hH.glob hc
      match us, hl, hs with
      | [v], _, .cons hv .nil =>
        simp only at h
        refine ⟨_, v, g, h, hv, hg, fun w' hw => ?_⟩
        have := hcell 0 v rfl
        rw [Addr.add_zero', ← cell_same (w := w) (w' := w') hw] at this
        simp [Instr.loadAt, Instr.sureAddr, loadVar_one ht this]
  rename_i b S e r c
  simp only at h
  have hB := hH.blk _ _ e
  generalize H.get b = B at hB h
  cases B with
  | dead => exact (A.fail_no h).elim
  | obj o => exact (A.fail_no h).elim
  | ro l => exact (A.fail_no h).elim
  | rows z l =>
    simp only [rget_eq] at h
    cases hr : l[r]? with
    | none => rw [hr] at h; exact (A.fail_no h).elim
    | some row =>
      rw [hr] at h
      simp only at h
      cases hc : cut row c 1 with
      | none => rw [hc] at h; exact (A.fail_no h).elim
      | some cs =>
        rw [hc] at h
        obtain ⟨us, hl, hs, ho, hcell⟩ := row_cells hB hr hc
        match us, hl, hs with
        | [v], _, .cons hv .nil =>
          simp only at h
          refine ⟨_, v, S.blk, h, hv, (hH.dom _ _ e).2, fun w' hw => ?_⟩
          have := hcell 0 v rfl
          rw [Addr.add_zero', ← cell_same (w := w) (w' := w') hw] at this
          simp [Instr.loadAt, Instr.sureAddr, loadVar_one ht this]

theorem y_loadN {t : TypeId} (ht : isMany P t = true) {x : Opd} {u : Value} (hx : VRel ρ (x.get vs ts) u) (hH : HRel ρ H w) (h : A.holds (evI A call (.loadN (P.cellsOf t) x) vs ts H K)) :
    Reads P (Instr.loadAt t u) ρ H w (fun x H => A.holds (K x H)) := by
  simp only [evI] at h
  generalize x.get vs ts = X at hx h
  cases hx <;> try exact (A.fail_no h).elim
  case gp g c =>
    simp only at h
    cases hc : gcut H.gl g c (P.cellsOf t) with
    | none => rw [hc] at h; exact (A.fail_no h).elim
    | some cs =>
      rw [hc] at h
      simp only [fL_eq] at h
      obtain ⟨us, hl, hs, ho, hg, hcell⟩ := table_cells (ρ := ρ) hH.glob hc
      refine ⟨_, _, g, h, .agg hs ho, hg, fun w' hw => ?_⟩
      have hcell' : ∀ (j : Nat) (u : Value), us[j]? = some u → w'.cell? ((⟨g, c, none⟩ : Addr).add j) = some u := fun j u hu => by
        rw [← hcell j u hu]
        exact cell_same (by rw [Addr.add_lit]; exact hw)
      simp [Instr.loadAt, Instr.sureAddr, loadVar_many ht hl hcell']
  rename_i b S e r c
  simp only at h
  have hB := hH.blk _ _ e
  generalize H.get b = B at hB h
  cases B with
  | dead => exact (A.fail_no h).elim
  | obj o => exact (A.fail_no h).elim
  | ro l => exact (A.fail_no h).elim
  | rows z l =>
    simp only [rget_eq] at h
    cases hr : l[r]? with
    | none => rw [hr] at h; exact (A.fail_no h).elim
    | some row =>
      rw [hr] at h
      simp only at h
      cases hc : cut row c (P.cellsOf t) with
      | none => rw [hc] at h; exact (A.fail_no h).elim
      | some cs =>
        rw [hc] at h
        simp only [fL_eq] at h
        obtain ⟨us, hl, hs, ho, hcell⟩ := row_cells hB hr hc
        refine ⟨_, _, S.blk, h, .agg hs ho, (hH.dom _ _ e).2, fun w' hw => ?_⟩
        have hcell' : ∀ (j : Nat) (u : Value), us[j]? = some u → w'.cell? ((⟨S.blk, S.off + r * S.esz + c, none⟩ : Addr).add j) = some u := fun j u hu => by
          rw [← hcell j u hu]
          exact cell_same (by rw [Addr.add_lit]; exact hw)
        simp [Instr.loadAt, Instr.sureAddr, loadVar_many ht hl hcell']

theorem hAdd_holds {x : Blk} {K : Nat → Heap → R} (h : A.holds (hAdd H x K)) : True ∧ A.holds (K H.next (H.add x)) := by
  rw [hAdd_eq] at h
  exact ⟨trivial, h⟩
theorem hPut_holds {b : Nat} {x : Blk} {K : Heap → R} (h : A.holds (hPut H b x K)) : True ∧ A.holds (K (H.put b x)) := by
  rw [hPut_eq] at h
  exact ⟨trivial, h⟩

/-- A new variable of one row. -/
theorem newVar_yields {t : TypeId} {x : List AVal} {us : List Value} (hs : VRels ρ x us) (ho : ∀ u ∈ us, u.oneCell' = true) (hH : HRel ρ H w) (hm : True) {v : Value} (hv : v.cells.toList = us) {Q : AVal → Heap → Prop}
    (hq : Q (.ptr H.next 0 0) (H.add (.rows x.length [x]))) : YieldsK P (do pure (.pointer (some (← newVar t v)))) ρ H w Q := by
  have hl := hs.length
  have hsz : v.cells.size = x.length := by rw [← hl, ← hv]; simp
  refine ⟨_, _, ρ.add H.next ⟨w.heap.size, 0, x.length, 1, x.length⟩, .pointer (some ⟨w.heap.size, 0, none⟩), w.alloc (.cells v.cells t), hq, ?_, ?_, ?_, fun k hk => heap_push_old _ _ _ hk⟩
  · simp [newVar, newRow]
  · have := VRel.ptr (ρ := ρ.add H.next ⟨w.heap.size, 0, x.length, 1, x.length⟩) Env.add_same 0 0
    simpa using this
  · refine Step.alloc hH hm _ _ _ _ _ rfl rfl (by simp) (by simp) (by simp) hsz fun r row hr j y hy => ?_
    match r, hr with
    | 0, hr =>
      simp at hr
      subst hr
      obtain ⟨u, hu, hrel⟩ := hs.get j y hy
      refine ⟨u, ?_, ho u (List.mem_of_getElem? hu), hrel⟩
      simp only [Nat.zero_mul, Nat.zero_add]
      rw [← Array.getElem?_toList, hv]
      exact hu

theorem y_box {t : TypeId} {n : Nat} {x : Opd} {u : Value} (hx : VRel ρ (x.get vs ts) u) (hH : HRel ρ H w) (h : A.holds (evI A call (.box n x) vs ts H K)) :
    YieldsK P (Instr.box t u) ρ H w (fun x H => A.holds (K x H)) := by
  simp only [evI] at h
  cases hc : (x.get vs ts).cells with
  | none => rw [hc] at h; exact (A.fail_no h).elim
  | some cs =>
    rw [hc] at h
    simp only at h
    split at h
    · rename_i hb
      have hn : cs.length = n := by rw [llen_eq] at hb; simpa using hb
      obtain ⟨hm, h⟩ := hAdd_holds h
      obtain ⟨hs, ho⟩ := hx.cells hc
      exact newVar_yields hs ho hH hm rfl (by rw [hn]; exact h)
    · exact (A.fail_no h).elim

theorem zeroRow_some {t : TypeId} {row : List AVal} (h : zeroRow P t = some row) : ∃ i z, P.info? t = some i ∧ i.zero = some z ∧ z.cells.size = i.size ∧ VRels ρ row z.cells.toList ∧ (∀ u ∈ z.cells.toList, u.oneCell' = true) ∧ row.length = i.size := by
  unfold zeroRow at h
  cases hi : P.info? t with
  | none => rw [hi] at h; cases h
  | some i =>
    rw [hi] at h
    simp only at h
    cases hz : i.zero with
    | none => rw [hz] at h; cases h
    | some z =>
      rw [hz] at h
      simp only at h
      cases hc : cVals z.cells.toList with
      | none => rw [hc] at h; cases h
      | some l =>
        rw [hc] at h
        simp only at h
        split at h
        · rename_i hsz
          simp at h
          subst h
          obtain ⟨a, b⟩ := cVals_rel (ρ := ρ) hc
          exact ⟨i, z, rfl, hz, hsz, a, b, by rw [← hsz, ← a.length]; simp⟩
        · cases h
theorem run_zero {t : TypeId} {i : TypeInfo} {z : Value} (hi : P.info? t = some i) (hz : i.zero = some z) (w : World) : (zeroValue t).run P w = .ok z w := by
  simp [zeroValue, typeInfo, hi, hz]

theorem y_alloc {t : TypeId} {row : List AVal} (ht : zeroRow P t = some row) (hH : HRel ρ H w) (h : A.holds (evI A call (.alloc row) vs ts H K)) (old : Value) :
    YieldsK P (Instr.alloc t true old) ρ H w (fun x H => A.holds (K x H)) := by
  simp only [evI] at h
  obtain ⟨hm, h⟩ := hAdd_holds h
  obtain ⟨i, z, hi, hz, _, hs, ho, hl⟩ := zeroRow_some (ρ := ρ) ht
  obtain ⟨x, H', ρ', v, w', hq, hr, hv, hst, hkp⟩ := newVar_yields (P := P) (t := t) (Q := fun x H => A.holds (K x H)) hs ho hH hm rfl (by rw [llen_eq] at h; exact h)
  refine ⟨x, H', ρ', v, w', hq, ?_, hv, hst, hkp⟩
  simpa [Instr.alloc, run_zero hi hz] using hr

theorem y_store {t : TypeId} {i : TypeInfo} (ht : P.info? t = some i) {x v : Opd} {u y : Value} (hx : VRel ρ (x.get vs ts) u) (hv : VRel ρ (v.get vs ts) y) (hH : HRel ρ H w) (h : A.holds (evI A call (.store i.size x v) vs ts H K)) :
    ∃ H' w', A.holds (K (.tup []) H') ∧ (Instr.storeAt t u y).run P w = .ok () w' ∧ Step ρ H w ρ H' w' := by
  simp only [evI, doStore] at h
  generalize x.get vs ts = X at hx h
  cases hx <;> try exact (A.fail_no h).elim
  rename_i b S e r c
  simp only at h
  cases hc : (v.get vs ts).cells with
  | none => rw [hc] at h; exact (A.fail_no h).elim
  | some cs =>
    rw [hc] at h
    simp only at h
    have hB := hH.blk _ _ e
    cases hb : H.get b with
    | dead => rw [hb] at h; exact (A.fail_no h).elim
    | obj o => rw [hb] at h; exact (A.fail_no h).elim
    | ro l => rw [hb] at h; exact (A.fail_no h).elim
    | rows z l =>
      rw [hb] at h hB
      simp only [rget_eq] at h
      cases hr : l[r]? with
      | none => rw [hr] at h; exact (A.fail_no h).elim
      | some row =>
        rw [hr] at h
        simp only at h
        split at h
        · rename_i hbb
          simp only [Bool.and_eq_true, llen_eq] at hbb
          have hn : cs.length = i.size := by simpa using hbb.1
          have hfit : c + i.size ≤ row.length := Nat.le_of_ble_eq_true hbb.2
          simp only [fL_eq] at h
          obtain ⟨hm, h⟩ := hPut_holds h
          obtain ⟨hs, ho⟩ := hv.cells hc
          obtain ⟨h1, h2, h3, h4, arr, et, h5, h6, h7⟩ := hB
          have hrl : row.length = z := h4 row (List.mem_of_getElem? hr)
          have hrn : r < l.length := (List.getElem?_eq_some_iff.1 hr).1
          have hus : y.cells.toList.length = i.size := by rw [hs.length, hn]
          have hus' : y.cells.size = i.size := by rw [← hus]; simp
          have hrz : S.off + r * S.esz + z ≤ S.size := by
            have : (r + 1) * S.esz ≤ S.n * S.esz := Nat.mul_le_mul_right _ (by omega)
            rw [Nat.succ_mul] at this
            omega
          have hst := run_storeCells_at P S.blk (S.off + r * S.esz + c) et y.cells.toList 0 arr w h5 (by omega) ho
          refine ⟨_, _, h, ?_, Step.put hH b S e hm z l _ hb arr (arr.toList.take (S.off + r * S.esz + c + 0) ++ y.cells.toList ++ arr.toList.drop (S.off + r * S.esz + c + 0 + y.cells.toList.length)).toArray et h5 ?_ (by rw [rset_eq, List.length_set]) ?_ ?_⟩
          · simp only [Instr.storeAt, Instr.sureAddr, Sem.run_bind, Sem.run_pure, Result.andThen_ok, storeVar, run_sizeOf ht]
            have : ¬ (y.cells.size ≠ P.cellsOf t) := by
              simp only [Program.cellsOf, ht, Option.map_some, Option.getD_some]
              have : y.cells.size = i.size := by rw [← hus]; simp
              omega
            simp only [this, if_false]
            exact hst
          · simp only [List.size_toArray, List.length_append, List.length_take, List.length_drop, Array.length_toList]
            simp only [Array.length_toList] at hus
            omega
          · intro row' hr'
            rw [rset_eq] at hr'
            rcases List.mem_or_eq_of_mem_set hr' with h' | h'
            · exact h4 row' h'
            · rw [h', splice_length]; exact hrl
          · intro r' row' hr' j x' hx'
            rw [rset_eq, List.getElem?_set] at hr'
            have look : ∀ k, (arr.toList.take (S.off + r * S.esz + c + 0) ++ y.cells.toList ++ arr.toList.drop (S.off + r * S.esz + c + 0 + y.cells.toList.length)).toArray[k]? =
                if S.off + r * S.esz + c ≤ k ∧ k < S.off + r * S.esz + c + i.size then y.cells.toList[k - (S.off + r * S.esz + c)]? else arr[k]? := fun k => by
              simp only [List.getElem?_toArray, List.append_assoc, Nat.add_zero, hus]
              rw [List.getElem?_append]
              have hlt : (arr.toList.take (S.off + r * S.esz + c)).length = S.off + r * S.esz + c := by rw [List.length_take, Array.length_toList]; omega
              rw [hlt]
              by_cases hk : k < S.off + r * S.esz + c
              · rw [if_pos hk, if_neg (by omega), List.getElem?_take, if_pos hk, Array.getElem?_toList]
              · rw [if_neg hk, List.getElem?_append, hus]
                by_cases hk2 : k - (S.off + r * S.esz + c) < i.size
                · rw [if_pos hk2, if_pos (by omega)]
                · rw [if_neg hk2, if_neg (by omega), List.getElem?_drop, Array.getElem?_toList]
                  congr 1
                  omega
            by_cases hrr : r = r'
            · subst hrr
              rw [if_pos rfl, if_pos hrn] at hr'
              simp only [Option.some.injEq] at hr'
              subst hr'
              rw [splice_get, hn] at hx'
              by_cases hin : c ≤ j ∧ j < c + i.size ∧ j < row.length
              · rw [if_pos hin] at hx'
                obtain ⟨q, hq, hqr⟩ := hs.get _ _ hx'
                refine ⟨q, ?_, ho q (List.mem_of_getElem? hq), hqr⟩
                rw [look, if_pos (by omega), ← hq]
                congr 1
                omega
              · rw [if_neg hin] at hx'
                obtain ⟨q, hq, hq1, hqr⟩ := h7 r row hr j x' hx'
                have hj : j < row.length := (List.getElem?_eq_some_iff.1 hx').1
                exact ⟨q, by rw [look, if_neg (by omega)]; exact hq, hq1, hqr⟩
            · rw [if_neg hrr] at hr'
              obtain ⟨q, hq, hq1, hqr⟩ := h7 r' row' hr' j x' hx'
              refine ⟨q, ?_, hq1, hqr⟩
              have hj : j < z := by rw [← h4 row' (List.mem_of_getElem? hr')]; exact (List.getElem?_eq_some_iff.1 hx').1
              rw [look, if_neg ?_]
              · exact hq
              · intro hh
                rcases Nat.lt_or_gt_of_ne hrr with hlt | hgt
                · have : (r + 1) * S.esz ≤ r' * S.esz := Nat.mul_le_mul_right _ hlt
                  rw [Nat.succ_mul] at this
                  omega
                · have : (r' + 1) * S.esz ≤ r * S.esz := Nat.mul_le_mul_right _ hgt
                  rw [Nat.succ_mul] at this
                  omega
        · exact (A.fail_no h).elim
end ops
end Dt

namespace Dt
open Go Go.RowKit
set_option linter.all false
variable [LoopTab]
/-! ### Structs, arrays and slices that are written out -/

theorem setFold_get (us : List Value) : ∀ (off n : Nat) (cells : Array Value) (k : Nat),
    ((us.zipIdx n).foldl (fun cs (c, j) => cs.setIfInBounds (off + j) c) cells)[k]? = if off + n ≤ k ∧ k < off + n + us.length ∧ k < cells.size then us[k - (off + n)]? else cells[k]? := by
  induction us with
  | nil => intro off n cells k; simp; omega
  | cons u us ih =>
    intro off n cells k
    simp only [List.zipIdx_cons, List.foldl_cons]
    rw [ih off (n + 1) (cells.setIfInBounds (off + n) u) k]
    simp only [Array.size_setIfInBounds, List.length_cons]
    by_cases h1 : off + (n + 1) ≤ k ∧ k < off + (n + 1) + us.length ∧ k < cells.size
    · rw [if_pos h1, if_pos (by omega)]
      have : k - (off + n) = (k - (off + (n + 1))) + 1 := by omega
      rw [this, List.getElem?_cons_succ]
    · rw [if_neg h1]
      by_cases h2 : k = off + n
      · subst h2
        by_cases h3 : off + n < cells.size
        · rw [if_pos (by omega)]
          simp [h3]
        · rw [if_neg (by omega)]
          simp [h3]
      · rw [if_neg (by omega), Array.getElem?_setIfInBounds_ne (fun e => h2 e.symm)]
theorem setFold_size (us : List Value) : ∀ (off n : Nat) (cells : Array Value), ((us.zipIdx n).foldl (fun cs (c, j) => cs.setIfInBounds (off + j) c) cells).size = cells.size := by
  induction us with
  | nil => intro off n cells; rfl
  | cons u us ih => intro off n cells; simp only [List.zipIdx_cons, List.foldl_cons]; rw [ih]; simp

theorem setFold_rel {ρ : Env} {row cs : List AVal} {cells us : Array Value} {off : Nat} (hr : VRels ρ row cells.toList) (ho : ∀ u ∈ cells.toList, u.oneCell' = true) (hs : VRels ρ cs us.toList) (hs1 : ∀ u ∈ us.toList, u.oneCell' = true)
    (_hfit : off + us.size ≤ cells.size) :
    VRels ρ (splice row off cs) (us.zipIdx.foldl (fun cs (c, j) => cs.setIfInBounds (off + j) c) cells).toList ∧
    (∀ u ∈ (us.zipIdx.foldl (fun cs (c, j) => cs.setIfInBounds (off + j) c) cells).toList, u.oneCell' = true) ∧ (us.zipIdx.foldl (fun cs (c, j) => cs.setIfInBounds (off + j) c) cells).size = cells.size := by
  have hconv : us.zipIdx.foldl (fun cs (c, j) => cs.setIfInBounds (off + j) c) cells = (us.toList.zipIdx 0).foldl (fun cs (c, j) => cs.setIfInBounds (off + j) c) cells := by
    rw [← Array.foldl_toList, Array.toList_zipIdx]
  rw [hconv]
  have hl1 := hr.length
  have hl2 := hs.length
  simp only [Array.length_toList] at hl1 hl2
  have look := setFold_get us.toList off 0 cells
  simp only [Nat.add_zero, Array.length_toList] at look
  refine ⟨VRels.mk (by rw [Array.length_toList, setFold_size, splice_length, hl1]) fun k x u hx hu => ?_, fun u hu => ?_, setFold_size _ _ _ _⟩
  · rw [Array.getElem?_toList, look] at hu
    rw [splice_get, ← hl2] at hx
    by_cases hh : off ≤ k ∧ k < off + us.size ∧ k < cells.size
    · rw [if_pos hh] at hu
      rw [if_pos (by omega)] at hx
      obtain ⟨u', hu', hrel⟩ := hs.get _ _ hx
      rw [hu] at hu'
      simp at hu'
      subst hu'
      exact hrel
    · rw [if_neg hh] at hu
      rw [if_neg (by omega)] at hx
      obtain ⟨u', hu', hrel⟩ := hr.get _ _ hx
      rw [Array.getElem?_toList, hu] at hu'
      simp at hu'
      subst hu'
      exact hrel
  · obtain ⟨k, hk⟩ := List.getElem?_of_mem hu
    rw [Array.getElem?_toList, look] at hk
    split at hk
    · exact hs1 u (List.mem_of_getElem? hk)
    · exact ho u (List.mem_of_getElem? (by rw [Array.getElem?_toList]; exact hk))

section build
variable {ρ : Env} {f : Operand → Option Opd} {vs ts : List AVal} {a : Act}

theorem fill_rel (e : HOp ρ f vs ts a) (place : Nat → Option (Nat × Nat)) : ∀ (parts : List (Nat × Operand)) (qs : List (Nat × Nat × Opd)) (row : List AVal) (cells : Array Value) (l : List AVal),
    cParts f place parts = some qs → VRels ρ row cells.toList → (∀ u ∈ cells.toList, u.oneCell' = true) → fillP vs ts row qs = some l →
    ∃ cells', Instr.fill place cells (parts.map fun (i, x) => (i, a.eval x)) = some cells' ∧ VRels ρ l cells'.toList ∧ (∀ u ∈ cells'.toList, u.oneCell' = true) ∧ cells'.size = cells.size
  | [], qs, row, cells, l, hq, hr, ho, hf => by
    simp [cParts] at hq
    subst hq
    simp [fillP] at hf
    subst hf
    exact ⟨cells, rfl, hr, ho, rfl⟩
  | (i, x) :: parts, qs, row, cells, l, hq, hr, ho, hf => by
    simp only [cParts] at hq
    cases hp : place i with
    | none => rw [hp] at hq; cases hq
    | some on =>
      obtain ⟨off, n⟩ := on
      rw [hp] at hq
      cases hx : f x with
      | none => rw [hx] at hq; cases hq
      | some y =>
        rw [hx] at hq
        cases hrest : cParts f place parts with
        | none => rw [hrest] at hq; cases hq
        | some qs' =>
          rw [hrest] at hq
          simp at hq
          subst hq
          simp only [fillP] at hf
          cases hc : (y.get vs ts).cells with
          | none => rw [hc] at hf; cases hf
          | some cs =>
            rw [hc] at hf
            simp only at hf
            split at hf
            · rename_i hb
              simp only [Bool.and_eq_true, llen_eq] at hb
              have hn : cs.length = n := by simpa using hb.1
              have hfit : off + n ≤ row.length := Nat.le_of_ble_eq_true hb.2
              obtain ⟨hs, hs1⟩ := (opd_rel e hx).cells hc
              have hl1 := hr.length
              have hl2 := hs.length
              simp only [Array.length_toList] at hl1 hl2
              obtain ⟨h1, h2, h3⟩ := setFold_rel (off := off) hr ho hs hs1 (by omega)
              obtain ⟨cells', g1, g2, g3, g4⟩ := fill_rel e place parts qs' _ _ l hrest h1 h2 hf
              refine ⟨cells', ?_, g2, g3, g4.trans h3⟩
              have hcond : ¬ ((a.eval x).cells.size ≠ n ∨ off + (a.eval x).cells.size > cells.size) := by omega
              simp only [List.map_cons, Instr.fill, hp]
              rw [if_neg (by simpa using hcond)]
              exact g1
            · cases hf

variable {R : Type} {A : Alg R} {P : Program} {call : Nat → List AVal → Heap → (AVal → Heap → R) → R} {H : Heap} {w : World} {K : AVal → Heap → R}

theorem y_build (e : HOp ρ f vs ts a) {t : TypeId} {ps : Array (Nat × Operand)} {di : DI} (hc : cOp P f (.build t ps) = some di) (h : A.holds (evI A call di vs ts H K)) :
    Pure P (Instr.build t (ps.map fun (i, x) => (i, a.eval x))) ρ H (fun x H => A.holds (K x H)) := by
  simp only [cOp] at hc
  cases hz : zeroRow P t with
  | none => rw [hz] at hc; cases hc
  | some z =>
    rw [hz] at hc
    simp only at hc
    obtain ⟨i, zv, hi, hzv, hsz, hzr, hzo, hzl⟩ := zeroRow_some (ρ := ρ) hz
    have key : ∀ (place : Nat → Option (Nat × Nat)) (qs : List (Nat × Nat × Opd)), cParts f place ps.toList = some qs → di = .build z qs →
        (∀ cells, Instr.fill place zv.cells (ps.toList.map fun (i, x) => (i, a.eval x)) = some cells → P.built t (ps.map fun (i, x) => (i, a.eval x)).toList = some cells) →
        Pure P (Instr.build t (ps.map fun (i, x) => (i, a.eval x))) ρ H (fun x H => A.holds (K x H)) := by
      intro place qs hqs hdi hb
      subst hdi
      simp only [evI] at h
      cases hf : fillP vs ts z qs with
      | none => rw [hf] at h; exact (A.fail_no h).elim
      | some l =>
        rw [hf] at h
        simp only [fL_eq] at h
        obtain ⟨cells, g1, g2, g3, _⟩ := fill_rel e place ps.toList qs z zv.cells l hqs hzr hzo hf
        have hrun := fun w => run_build (P := P) w t _ cells (hb cells g1)
        refine Pure.here h hrun ?_
        have := VRel.agg g2 g3
        simpa using this
    cases hu : P.underlying t with
    | none => rw [hu] at hc; cases hc
    | some d =>
      rw [hu] at hc
      cases d <;> try (simp at hc; done)
      case array n el =>
        simp only at hc
        cases hie : P.info? el with
        | none => rw [hie] at hc; cases hc
        | some ie =>
          rw [hie] at hc
          simp only [Option.map_eq_some_iff] at hc
          obtain ⟨qs, hqs, rfl⟩ := hc
          refine key _ qs hqs rfl fun cells hcells => ?_
          simp only [Program.built, hi, hu, hzv, hie]
          simpa using hcells
      case struct fs =>
        simp only at hc
        cases hp : fs.toList.mapM (fun f => (P.info? f.type).map fun i => (f.offset, i.size)) with
        | none => rw [hp] at hc; cases hc
        | some places =>
          rw [hp] at hc
          simp only [Option.map_eq_some_iff] at hc
          obtain ⟨qs, hqs, rfl⟩ := hc
          refine key _ qs hqs rfl fun cells hcells => ?_
          simp only [Program.built, hi, hu, hzv, hp]
          simpa using hcells
end build

/-! Rows, one behind the other -/
theorem flat_get {z : Nat} : ∀ {l : List (List AVal)}, (∀ row ∈ l, row.length = z) → ∀ {r : Nat} {row : List AVal}, l[r]? = some row → ∀ {j : Nat} {x : AVal}, row[j]? = some x → l.flatten[r * z + j]? = some x
  | [], _, r, row, h, _, _, _ => by simp at h
  | y :: l, hz, 0, row, h, j, x, hx => by
    simp at h
    subst h
    have hj : j < y.length := (List.getElem?_eq_some_iff.1 hx).1
    rw [List.flatten_cons, List.getElem?_append_left (by omega)]
    simpa using hx
  | y :: l, hz, r + 1, row, h, j, x, hx => by
    have hy : y.length = z := hz y (by simp)
    rw [List.flatten_cons, List.getElem?_append_right (by rw [hy, Nat.succ_mul]; omega), hy]
    rw [show (r + 1) * z + j - z = r * z + j from by rw [Nat.succ_mul]; omega]
    exact flat_get (fun q hq => hz q (by simp [hq])) (by simpa using h) hx
theorem flat_length {z : Nat} : ∀ {l : List (List AVal)}, (∀ row ∈ l, row.length = z) → l.flatten.length = l.length * z
  | [], _ => by simp
  | y :: l, hz => by
    rw [List.flatten_cons, List.length_append, flat_length (fun q hq => hz q (by simp [hq])), hz y (by simp), List.length_cons, Nat.succ_mul]
    omega
theorem flat_set {z : Nat} : ∀ {l : List (List AVal)}, (∀ row ∈ l, row.length = z) → ∀ (i : Nat) (cs : List AVal), cs.length = z → i < l.length → (l.set i cs).flatten = splice l.flatten (i * z) cs
  | [], _, i, cs, _, hi => by simp at hi
  | y :: l, hz, 0, cs, hc, _ => by
    have hy : y.length = z := hz y (by simp)
    apply List.ext_getElem?
    intro k
    rw [List.set_cons_zero, List.flatten_cons, List.flatten_cons, splice_get, List.length_append]
    simp only [Nat.zero_mul, Nat.zero_add, Nat.zero_le, true_and, Nat.sub_zero]
    by_cases hk : k < z
    · rw [List.getElem?_append_left (by omega), if_pos (by omega)]
    · rw [List.getElem?_append_right (by omega), if_neg (by omega), List.getElem?_append_right (by omega), hc, hy]
  | y :: l, hz, i + 1, cs, hc, hi => by
    have hy : y.length = z := hz y (by simp)
    have ih := flat_set (l := l) (fun q hq => hz q (by simp [hq])) i cs hc (by simpa using hi)
    apply List.ext_getElem?
    intro k
    rw [List.set_cons_succ, List.flatten_cons, List.flatten_cons, splice_get, List.length_append, ih]
    by_cases hk : k < z
    · rw [List.getElem?_append_left (by omega), if_neg (by rw [Nat.succ_mul]; omega), List.getElem?_append_left (by omega)]
    · rw [List.getElem?_append_right (by omega), splice_get, hy]
      by_cases hh : (i + 1) * z ≤ k ∧ k < (i + 1) * z + cs.length ∧ k < z + l.flatten.length
      · have := hh
        rw [Nat.succ_mul] at this
        rw [if_pos hh, if_pos (by omega)]
        congr 1
        rw [Nat.succ_mul]
        omega
      · have := hh
        rw [Nat.succ_mul] at this
        rw [if_neg hh, if_neg (by omega), List.getElem?_append_right (by omega), hy]

theorem flat_replicate {z : Nat} {row : List AVal} (hz : row.length = z) : ∀ (n k : Nat), k < n * z → (List.replicate n row).flatten[k]? = row[k % z]?
  | 0, k, h => by simp at h
  | n + 1, k, h => by
    rw [List.replicate_succ, List.flatten_cons]
    by_cases hk : k < z
    · rw [List.getElem?_append_left (by omega), Nat.mod_eq_of_lt hk]
    · rw [List.getElem?_append_right (by omega), hz, flat_replicate hz n (k - z) (by rw [Nat.succ_mul] at h; omega)]
      congr 1
      exact (Nat.mod_eq_sub_mod (by omega)).symm

/-- Zeros, one behind the other. -/
theorem zeros_rel {ρ : Env} {row : List AVal} {zs : Array Value} (h : VRels ρ row zs.toList) (h1 : ∀ u ∈ zs.toList, u.oneCell' = true) (hpos : 0 < zs.size) (n : Nat) :
    VRels ρ (List.replicate n row).flatten ((Array.range (n * zs.size)).map (zs[· % zs.size]!)).toList ∧ ∀ u ∈ ((Array.range (n * zs.size)).map (zs[· % zs.size]!)).toList, u.oneCell' = true := by
  have hl := h.length
  simp only [Array.length_toList] at hl
  have look : ∀ k, k < n * zs.size → ((Array.range (n * zs.size)).map (zs[· % zs.size]!)).toList[k]? = zs.toList[k % zs.size]? := fun k hk => by
    have hm : k % zs.size < zs.size := Nat.mod_lt _ hpos
    rw [Array.getElem?_toList, Array.getElem?_map, Array.getElem?_range, if_pos hk, Option.map_some, Array.getElem?_toList, Array.getElem?_eq_getElem hm, getElem!_pos zs (k % zs.size) hm]
  have hlen : (List.replicate n row).flatten.length = n * zs.size := by
    rw [flat_length (z := zs.size) (fun q hq => by rw [(List.mem_replicate.1 hq).2, hl]), List.length_replicate]
  refine ⟨VRels.mk (by rw [hlen]; simp) fun k x u hx hu => ?_, fun u hu => ?_⟩
  · have hk : k < n * zs.size := by rw [← hlen]; exact (List.getElem?_eq_some_iff.1 hx).1
    rw [flat_replicate hl.symm n k hk] at hx
    rw [look k hk] at hu
    obtain ⟨u', hu', hrel⟩ := h.get _ _ hx
    rw [hu] at hu'
    simp at hu'
    subst hu'
    exact hrel
  · obtain ⟨k, hk⟩ := List.getElem?_of_mem hu
    have hk' : k < n * zs.size := by
      have := (List.getElem?_eq_some_iff.1 hk).1
      simpa using this
    rw [look k hk'] at hk
    exact h1 u (List.mem_of_getElem? hk)

section slices
variable {ρ : Env} {f : Operand → Option Opd} {vs ts : List AVal} {a : Act}

theorem fillR_rel {z : Nat} : ∀ (parts : List (Nat × Operand)) (qs : List (Nat × Opd)) (rows l : List (List AVal)), cPartsR f parts = some qs → (∀ row ∈ rows, row.length = z) → fillR vs ts z rows qs = some l →
    ∃ qs', cParts f (fun i => some (i * z, z)) parts = some qs' ∧ fillP vs ts rows.flatten qs' = some l.flatten ∧ (∀ row ∈ l, row.length = z) ∧ l.length = rows.length
  | [], qs, rows, l, hq, hz, hf => by
    simp [cPartsR] at hq
    subst hq
    simp [fillR] at hf
    subst hf
    exact ⟨[], rfl, rfl, hz, rfl⟩
  | (i, x) :: parts, qs, rows, l, hq, hz, hf => by
    simp only [cPartsR] at hq
    cases hx : f x with
    | none => rw [hx] at hq; cases hq
    | some y =>
      rw [hx] at hq
      cases hrest : cPartsR f parts with
      | none => rw [hrest] at hq; cases hq
      | some qs1 =>
        rw [hrest] at hq
        simp at hq
        subst hq
        simp only [fillR] at hf
        cases hc : (y.get vs ts).cells with
        | none => rw [hc] at hf; cases hf
        | some cs =>
          rw [hc] at hf
          simp only at hf
          split at hf
          · rename_i hb
            simp only [Bool.and_eq_true, llen_eq, rlen_eq] at hb
            have hn : cs.length = z := by simpa using hb.1
            have hi : i < rows.length := by
              have := hb.2
              unfold Nat.blt at this
              exact Nat.le_of_ble_eq_true this
            rw [rset_eq] at hf
            have hz' : ∀ row ∈ rows.set i cs, row.length = z := fun row hrow => by
              rcases List.mem_or_eq_of_mem_set hrow with h | h
              · exact hz row h
              · rw [h]; exact hn
            obtain ⟨qs', g1, g2, g3, g4⟩ := fillR_rel parts qs1 _ l hrest hz' hf
            refine ⟨(i * z, z, y) :: qs', by simp [cParts, hx, g1], ?_, g3, by rw [g4, List.length_set]⟩
            rw [flat_set hz i cs hn hi] at g2
            have hfl := flat_length hz
            have hle : i * z + z ≤ rows.length * z := by
              have : (i + 1) * z ≤ rows.length * z := Nat.mul_le_mul_right _ hi
              rwa [Nat.succ_mul] at this
            simp only [fillP, hc, llen_eq, hn, hfl]
            have : (Nat.beq z z && Nat.ble (i * z + z) (rows.length * z)) = true := by
              rw [Bool.and_eq_true]
              exact ⟨by simp, by rw [Nat.ble_eq]; exact hle⟩
            rw [this]
            exact g2
          · cases hf

variable {R : Type} {A : Alg R} {P : Program} {call : Nat → List AVal → Heap → (AVal → Heap → R) → R} {H : Heap} {w : World} {K : AVal → Heap → R}

/-- A new array, whole. -/
theorem newRow_yields {t : TypeId} {l : List (List AVal)} {z : Nat} (hz : ∀ row ∈ l, row.length = z) {cells : Array Value} (hs : VRels ρ l.flatten cells.toList) (ho : ∀ u ∈ cells.toList, u.oneCell' = true) (hH : HRel ρ H w) (hm : True) (m : Nat) (hml : m ≤ l.length)
    {Q : AVal → Heap → Prop} (hq : Q (.slc H.next 0 m (some l.length) z) (H.add (.rows z l))) :
    YieldsK P (do pure (.slice (some (← newRow t cells)) m l.length)) ρ H w Q := by
  have hl := hs.length
  rw [flat_length hz] at hl
  simp only [Array.length_toList] at hl
  refine ⟨_, _, ρ.add H.next ⟨w.heap.size, 0, l.length * z, l.length, z⟩, .slice (some ⟨w.heap.size, 0, none⟩) m l.length, w.alloc (.cells cells t), hq, by simp [newRow], ?_, ?_, fun k hk => heap_push_old _ _ _ hk⟩
  · refine VRel.slc (R := ⟨w.heap.size, 0, l.length * z, l.length, z⟩) Env.add_same 0 m l.length (some l.length) _ hml (fun c hc => by simpa using hc) (fun h => by cases h) (.inr ⟨by simp, by simp⟩)
  · refine Step.alloc hH hm _ _ _ _ _ rfl rfl rfl (by simp) hz hl fun r row hr j y hy => ?_
    obtain ⟨u, hu, hrel⟩ := hs.get _ _ (flat_get hz hr hy)
    exact ⟨u, by simpa using hu, ho u (List.mem_of_getElem? hu), hrel⟩

theorem y_buildS (e : HOp ρ f vs ts a) {t : TypeId} {n : Nat} {ps : Array (Nat × Operand)} {di : DI} (hc : cOp P f (.buildSlice t n ps) = some di) (hH : HRel ρ H w) (h : A.holds (evI A call di vs ts H K)) :
    YieldsK P (Instr.buildSlice t n (ps.map fun (i, x) => (i, a.eval x))) ρ H w (fun x H => A.holds (K x H)) := by
  simp only [cOp] at hc
  cases hu : P.underlying t with
  | none => rw [hu] at hc; cases hc
  | some d =>
    rw [hu] at hc
    cases d <;> try (simp at hc; done)
    rename_i el
    simp only at hc
    cases hz : zeroRow P el with
    | none => rw [hz] at hc; cases hc
    | some z =>
      rw [hz] at hc
      simp only at hc
      split at hc
      · rename_i hpos
        simp only [Option.map_eq_some_iff] at hc
        obtain ⟨qs, hqs, rfl⟩ := hc
        simp only [evI] at h
        cases hf : fillR vs ts (P.cellsOf el) (List.replicate n z) qs with
        | none => rw [hf] at h; exact (A.fail_no h).elim
        | some l =>
          rw [hf] at h
          simp only [fL_eq] at h
          obtain ⟨hm, h⟩ := hAdd_holds h
          simp only [fN_eq, rlen_eq] at h
          obtain ⟨i, zv, hi, hzv, hsz, hzr, hzo, hzl⟩ := zeroRow_some (ρ := ρ) hz
          have hcell : P.cellsOf el = i.size := by simp [Program.cellsOf, hi]
          rw [hcell] at hpos hf h
          obtain ⟨qs', g1, g2, g3, g4⟩ := fillR_rel ps.toList qs _ l hqs (fun row hrow => by rw [(List.mem_replicate.1 hrow).2, hzl]) hf
          obtain ⟨z1, z2⟩ := zeros_rel hzr hzo (by omega) n
          obtain ⟨cells, f1, f2, f3, _⟩ := fill_rel e _ ps.toList qs' _ _ l.flatten g1 z1 z2 g2
          have hln : l.length = n := by rw [g4, List.length_replicate]
          obtain ⟨x, H', ρ', v, w', k1, k2, k3, k4, k5⟩ := newRow_yields (P := P) (t := el) g3 f2 f3 hH hm n (by omega) (Q := fun x H => A.holds (K x H)) (by rw [hln]; rw [hln] at h; exact h)
          refine ⟨x, H', ρ', v, w', k1, ?_, k3, k4, k5⟩
          rw [hsz] at f1
          have e1 : (fun (p : Nat × Operand) => match p with | (i, x) => (i, a.eval x)) = fun x => (x.fst, a.eval x.snd) := by funext ⟨i, x⟩; rfl
          rw [e1] at f1
          have hrs := run_sizeOf (P := P) hi
          simp only [Program.cellsOf, hi, Option.map_some, Option.getD_some] at hrs
          by_cases h0 : n = 0
          · subst h0
            have hl0 : l = [] := List.length_eq_zero_iff.1 hln
            subst hl0
            have hr0 : Array.range (0 * i.size) = #[] := by simp
            rw [hr0] at f1
            simp only [Array.map_empty] at f1
            simp only [Instr.buildSlice, Sem.run_bind, run_underlying hu, Result.andThen_ok, hrs]
            have hr1 : Array.range 0 = #[] := by simp
            simp [f1, hr1]
            simpa using k2
          · have hnz : ¬ (n * i.size = 0) := Nat.mul_ne_zero h0 (by omega)
            simp only [Instr.buildSlice, Sem.run_bind, run_underlying hu, Result.andThen_ok, hrs]
            rw [if_neg (show ¬ (n * i.size > 2 ^ 24) by omega), if_neg hnz]
            simp [run_zero hi hzv, hsz, f1]
            simpa [hln] using k2
      · cases hc
end slices
end Dt

namespace Dt
open Go Go.RowKit
set_option linter.all false
variable [LoopTab]
/-! ### Operations that only reckon -/
section pure_
variable {R : Type} {A : Alg R} {P : Program} {call : Nat → List AVal → Heap → (AVal → Heap → R) → R} {vs ts : List AVal} {ρ : Env} {H : Heap} {w : World} {K : AVal → Heap → R}

theorem ltS_list : ∀ l m : List UInt8, ltS l.length (codeOf l) m.length (codeOf m) = Op.bytesLess l m
  | [], [] => rfl
  | _ :: _, [] => rfl
  | [], _ :: _ => rfl
  | a :: l, b :: m => by
    have ha : a.toNat < 256 := a.toNat_lt
    have hb : b.toNat < 256 := b.toNat_lt
    have h1 : Nat.mod (codeOf (a :: l)) 256 = a.toNat := by show codeOf (a :: l) % 256 = _; simp only [codeOf]; omega
    have h2 : Nat.mod (codeOf (b :: m)) 256 = b.toNat := by show codeOf (b :: m) % 256 = _; simp only [codeOf]; omega
    have h3 : Nat.div (codeOf (a :: l)) 256 = codeOf l := by show codeOf (a :: l) / 256 = _; simp only [codeOf]; omega
    have h4 : Nat.div (codeOf (b :: m)) 256 = codeOf m := by show codeOf (b :: m) / 256 = _; simp only [codeOf]; omega
    have ih := ltS_list l m
    simp only [List.length_cons]
    rw [ltS]
    simp only [h1, h2, h3, h4]
    unfold Op.bytesLess
    cases hlt : Nat.blt a.toNat b.toNat with
    | true =>
      have : a < b := UInt8.lt_iff_toNat_lt.2 (Nat.le_of_ble_eq_true hlt)
      simp [this]
    | false =>
      have hn : ¬ a < b := fun h => by
        have h' : Nat.blt a.toNat b.toNat = true := Nat.ble_eq_true_of_le (UInt8.lt_iff_toNat_lt.1 h)
        rw [h'] at hlt
        cases hlt
      cases heq : Nat.beq a.toNat b.toNat with
      | true =>
        have : a = b := UInt8.toNat_inj.1 (Nat.eq_of_beq_eq_true heq)
        subst this
        simp [ih]
      | false =>
        have : a ≠ b := fun he => by
          rw [he, Nat.beq_refl] at heq
          cases heq
        simp [hn, this]
theorem ltS_eq (a b : ByteArray) : ltS a.size (codeOf a.data.toList) b.size (codeOf b.data.toList) = Op.bytesLess a.toList b.toList := by
  have := ltS_list a.data.toList b.data.toList
  rw [ByteArray.toList_eq, ByteArray.toList_eq]
  simpa using this

theorem y_bin {op : BinOp} {t : TypeId} {ox oy : Operand} {x y : Opd} {u v : Value} (hx : VRel ρ (x.get vs ts) u) (hy : VRel ρ (y.get vs ts) v) (h : A.holds (evI A call (.bin op x y) vs ts H K)) :
    Pure P (do eqGuard op t ox oy u v; binOp op t u v) ρ H (fun x H => A.holds (K x H)) := by
  simp only [evI] at h
  generalize x.get vs ts = X at hx h
  generalize y.get vs ts = Y at hy h
  cases hb : binV op X Y with
  | none => rw [hb] at h; exact (A.fail_no h).elim
  | some z =>
    rw [hb] at h
    simp only [fV_eq] at h
    cases hx <;> cases hy <;> try (simp [binV] at hb; done)
    case int.int k a k' b =>
      simp only [binV] at hb
      cases hsh : isSh op with
      | true =>
        rw [hsh] at hb
        cases b with
        | negSucc m => simp [shI] at hb
        | ofNat m =>
          cases op <;> simp [isSh] at hsh <;> simp [shI] at hb <;> subst hb <;> refine Pure.here h (fun w => ?_) (.int _ _) <;>
            simp [binOp, Op.shift, eqGuard_at_int]
          all_goals omega
      | false =>
        rw [hsh] at hb
        simp only at hb
        by_cases hk : k = k'
        · subst hk
          rw [decide_eq_true rfl] at hb
          simp only [wrapI_eq, ieq_eq, ile_eq] at hb
          by_cases hqr : op = .quo ∨ op = .rem
          · rcases hqr with rfl | rfl
            · simp only at hb
              split at hb
              · cases hb
              · rename_i h0
                have h0' : b ≠ 0 := fun he => by rw [he] at h0; simp at h0
                simp at hb
                subst hb
                refine Pure.here h (fun w => ?_) (.int _ _)
                simp [binOp, Op.intDiv, eqGuard_at_int, h0']
            · simp only at hb
              split at hb
              · cases hb
              · rename_i h0
                have h0' : b ≠ 0 := fun he => by rw [he] at h0; simp at h0
                simp at hb
                subst hb
                refine Pure.here h (fun w => ?_) (.int _ _)
                simp [binOp, Op.intDiv, eqGuard_at_int, h0']
          have hq1 : op ≠ .quo := fun he => hqr (.inl he)
          have hq2 : op ≠ .rem := fun he => hqr (.inr he)
          cases op <;> (first | exact absurd rfl hq1 | exact absurd rfl hq2 | skip) <;> simp [bitI, isSh] at hb hsh <;> subst hb <;> refine Pure.here h (fun w => ?_) (by first | exact .int _ _ | exact .bool _) <;>
            simp [binOp, Op.intArith, Op.intCmp, Op.intBits, eqGuard_at_int, bne]
          all_goals (rw [Bool.eq_iff_iff]; simp; try omega)
        · rw [decide_eq_false hk] at hb
          cases hb
    case str.str a b =>
      simp only [binV] at hb
      rw [str_beq] at hb
      cases op <;> simp at hb
      case add =>
        split at hb
        · rename_i hsz
          have hsz' := Nat.le_of_ble_eq_true hsz
          simp at hb
          subst hb
          refine Pure.here (v := .string (a ++ b)) h (fun w => ?_) ?_
          · have : ¬ (9223372036854775807 < (a.size : Int) + (b.size : Int)) := by omega
            simp [binOp, Op.stringOp, eqGuard_at_string, this]
          · have := VRel.str (ρ := ρ) (a ++ b)
            have e1 : (a ++ b).size = a.size + b.size := by simp
            have e2 : codeOf (a ++ b).data.toList = scat a.size (codeOf a.data.toList) (codeOf b.data.toList) := by
              rw [scat_eq]
              have : (a ++ b).data.toList = a.data.toList ++ b.data.toList := by simp
              rw [this, codeOf_append]
              congr 3
            rw [e1, e2] at this
            exact this
        · cases hb
      all_goals
        subst hb
        refine Pure.here h (fun w => ?_) (.bool _)
        simp [binOp, Op.stringOp, eqGuard_at_string, ltS_eq]

theorem y_binB {op : BinOp} {t : TypeId} (ht : P.underlying t = some .bool) {ox oy : Operand} {x y : Opd} {u v : Value} (hx : VRel ρ (x.get vs ts) u) (hy : VRel ρ (y.get vs ts) v) (h : A.holds (evI A call (.binB op x y) vs ts H K)) :
    Pure P (do eqGuard op t ox oy u v; binOp op t u v) ρ H (fun x H => A.holds (K x H)) := by
  simp only [evI] at h
  generalize x.get vs ts = X at hx h
  generalize y.get vs ts = Y at hy h
  cases hb : binB op X Y with
  | none => rw [hb] at h; exact (A.fail_no h).elim
  | some z =>
    rw [hb] at h
    simp only [fV_eq] at h
    cases hx <;> cases hy <;> try (simp [binB] at hb; done)
    case bool.bool a b =>
      have he1 : ∀ (w : World) d, (Op.equalIn (d + 1) t (.bool a) (.bool b)).run P w = .ok (a == b) w := fun w d => by simp [Op.equalIn, run_underlying ht]
      have he : ∀ w, (Op.equal t (.bool a) (.bool b)).run P w = .ok (a == b) w := fun w => he1 w 9999
      simp only [binB] at hb
      cases op <;> simp at hb <;> subst hb <;> refine Pure.here h (fun w => ?_) (.bool _) <;> simp [binOp, eqGuard_at_bool, he]

theorem y_binP {op : BinOp} {t e : TypeId} (ht : P.underlying t = some (.pointer e)) {ox oy : Operand} {x y : Opd} {u v : Value} (hx : VRel ρ (x.get vs ts) u) (hy : VRel ρ (y.get vs ts) v) (h : A.holds (evI A call (.binP op x y) vs ts H K)) :
    Pure P (do eqGuard op t ox oy u v; binOp op t u v) ρ H (fun x H => A.holds (K x H)) := by
  simp only [evI] at h
  generalize x.get vs ts = X at hx h
  generalize y.get vs ts = Y at hy h
  cases hb : binP op X Y with
  | none => rw [hb] at h; exact (A.fail_no h).elim
  | some z =>
    rw [hb] at h
    simp only [fV_eq] at h
    cases hx <;> cases hy <;> try (simp [binP] at hb; done)
    case nilp.nilp =>
      have he1 : ∀ (w : World) d, (Op.equalIn (d + 1) t (.pointer none) (.pointer none)).run P w = .ok true w := fun w d => by simp [Op.equalIn, run_underlying ht]
      have he : ∀ w, (Op.equal t (.pointer none) (.pointer none)).run P w = .ok true w := fun w => he1 w 9999
      simp only [binP] at hb
      cases op <;> simp at hb <;> subst hb <;> refine Pure.here h (fun w => ?_) (.bool _) <;> simp [binOp, eqGuard_at_pointer, he]
    case nilp.ptr b S es r c =>
      have he1 : ∀ (w : World) d, (Op.equalIn (d + 1) t (.pointer none) (.pointer (some ⟨S.blk, S.off + r * S.esz + c, none⟩))).run P w = .ok false w := fun w d => by simp [Op.equalIn, run_underlying ht]
      have he : ∀ w, (Op.equal t (.pointer none) (.pointer (some ⟨S.blk, S.off + r * S.esz + c, none⟩))).run P w = .ok false w := fun w => he1 w 9999
      simp only [binP] at hb
      cases op <;> simp at hb <;> subst hb <;> refine Pure.here h (fun w => ?_) (.bool _) <;> simp [binOp, eqGuard_at_pointer, he]
    case ptr.nilp b S es r c =>
      have he1 : ∀ (w : World) d, (Op.equalIn (d + 1) t (.pointer (some ⟨S.blk, S.off + r * S.esz + c, none⟩)) (.pointer none)).run P w = .ok false w := fun w d => by simp [Op.equalIn, run_underlying ht]
      have he : ∀ w, (Op.equal t (.pointer (some ⟨S.blk, S.off + r * S.esz + c, none⟩)) (.pointer none)).run P w = .ok false w := fun w => he1 w 9999
      simp only [binP] at hb
      cases op <;> simp at hb <;> subst hb <;> refine Pure.here h (fun w => ?_) (.bool _) <;> simp [binOp, eqGuard_at_pointer, he]

theorem y_not {t : TypeId} {x : Opd} {u : Value} (hx : VRel ρ (x.get vs ts) u) (h : A.holds (evI A call (.not x) vs ts H K)) :
    Pure P (Op.unary .not u) ρ H (fun x H => A.holds (K x H)) := by
  have _ := t
  simp only [evI] at h
  generalize x.get vs ts = X at hx h
  cases hx <;> try exact (A.fail_no h).elim
  rename_i b
  cases b
  · exact Pure.here h (fun w => by simp [Op.unary]) (.bool _)
  · exact Pure.here h (fun w => by simp [Op.unary]) (.bool _)

theorem y_un1 {neg : Bool} {x : Opd} {u : Value} (hx : VRel ρ (x.get vs ts) u) (h : A.holds (evI A call (.un1 neg x) vs ts H K)) :
    Pure P (Op.unary (cond neg .neg .xor) u) ρ H (fun x H => A.holds (K x H)) := by
  simp only [evI] at h
  generalize x.get vs ts = X at hx h
  cases hx <;> try exact (A.fail_no h).elim
  rename_i k n
  cases neg
  · simp only [un1V, bitI, Option.map_some, fV_eq] at h
    refine Pure.here h (fun w => ?_) (.int _ _)
    cases hs : k.signed <;> simp [Op.unary, Op.intBits, hs]
  · simp only [un1V, fV_eq, wrapI_eq] at h
    exact Pure.here h (fun w => by simp [Op.unary, Op.intArith]) (.int _ _)

theorem y_pick {c x y : Opd} {t u v : Value} (hc : VRel ρ (c.get vs ts) t) (hx : VRel ρ (x.get vs ts) u) (hy : VRel ρ (y.get vs ts) v) (h : A.holds (evI A call (.pick c x y) vs ts H K)) :
    Pure P (do pure (if ← asBool t then u else v)) ρ H (fun x H => A.holds (K x H)) := by
  simp only [evI] at h
  generalize c.get vs ts = C at hc h
  cases hc <;> try exact (A.fail_no h).elim
  rename_i b
  cases b
  · exact Pure.here h (fun w => by simp [asBool]) hy
  · exact Pure.here h (fun w => by simp [asBool]) hx

theorem y_conv {s d : TypeId} {k k' : IntKind} (hs : P.underlying s = some (.int k')) (hd : P.underlying d = some (.int k)) {x : Opd} {u : Value} (hx : VRel ρ (x.get vs ts) u) (h : A.holds (evI A call (.conv k x) vs ts H K)) :
    Pure P (convert s d u) ρ H (fun x H => A.holds (K x H)) := by
  simp only [evI] at h
  generalize x.get vs ts = X at hx h
  cases hx <;> try exact (A.fail_no h).elim
  rename_i k2 n
  simp only [fI_eq, wrapI_eq] at h
  exact Pure.here h (fun w => by simp [convert, run_underlying hs, run_underlying hd, Conv.intToInt]) (.int _ _)

theorem y_fadr {t : TypeId} {fs : Array Field} {f : Field} {i : Nat} (ht : P.underlying t = some (.struct fs)) (hf : fs[i]? = some f) (hz : P.cellsOf f.type ≠ 0) {x : Opd} {u : Value} (hx : VRel ρ (x.get vs ts) u) (h : A.holds (evI A call (.fadr f.offset x) vs ts H K)) :
    Pure P (Instr.fieldAt t u i) ρ H (fun x H => A.holds (K x H)) := by
  simp only [evI] at h
  generalize x.get vs ts = X at hx h
  cases hx <;> try exact (A.fail_no h).elim
  case gp g c =>
    simp only [fN_eq] at h
    refine Pure.here (v := .pointer (some ⟨g, c + f.offset, none⟩)) h (fun w => ?_) (.gp _ _)
    obtain ⟨j, hj⟩ : ∃ j, P.info? f.type = some j := by
      unfold Program.cellsOf at hz
      cases hj : P.info? f.type with
      | none => rw [hj] at hz; simp at hz
      | some j => exact ⟨j, rfl⟩
    simp [Instr.fieldAt, run_underlying ht, hf, Instr.sureAddr, fieldPlace, run_sizeOf hj, hz, Addr.add_lit]
  rename_i b S e r c
  simp only [fN_eq] at h
  refine Pure.here (v := .pointer (some ⟨S.blk, S.off + r * S.esz + c + f.offset, none⟩)) h (fun w => ?_) ?_
  · have hi : ∃ j, P.info? f.type = some j := by
      unfold Program.cellsOf at hz
      cases hj : P.info? f.type with
      | none => rw [hj] at hz; simp at hz
      | some j => exact ⟨j, rfl⟩
    obtain ⟨j, hj⟩ := hi
    simp [Instr.fieldAt, run_underlying ht, hf, Instr.sureAddr, fieldPlace, run_sizeOf hj, hz, Addr.add_lit]
  · have := VRel.ptr e r (c + f.offset)
    rwa [← Nat.add_assoc] at this

theorem one_cell {l : List AVal} {us : List Value} (hs : VRels ρ l us) {off : Nat} {v : AVal} {r : List AVal} (hc : cut l off 1 = some (v :: r)) : ∃ u, us[off]? = some u ∧ VRel ρ v u := by
  obtain ⟨h1, _, _⟩ := cut_eq _ _ _ _ hc
  have : l[off]? = some v := by
    have h2 : ((l.drop off).take 1)[0]? = some v := by rw [← h1]; rfl
    rw [List.getElem?_take, if_pos (by omega), List.getElem?_drop] at h2
    simpa using h2
  exact hs.get _ _ this

theorem y_fld1 {t : TypeId} {fs : Array Field} {f : Field} {i : Nat} (ht : P.underlying t = some (.struct fs)) (hf : fs[i]? = some f) (ho : isOne P f.type = true) {x : Opd} {u : Value} (hx : VRel ρ (x.get vs ts) u) (h : A.holds (evI A call (.fld1 f.offset x) vs ts H K)) :
    Pure P (Instr.field t u i) ρ H (fun x H => A.holds (K x H)) := by
  simp only [evI] at h
  generalize x.get vs ts = X at hx h
  cases hx <;> try exact (A.fail_no h).elim
  rename_i l us hs h1
  simp only at h
  split at h
  · rename_i v r hc
    obtain ⟨u, hu, hv⟩ := one_cell hs hc
    refine Pure.here h (fun w => ?_) hv
    simp [Instr.field, run_underlying ht, hf, asAgg, part, run_isAgg_one ho, hu]
  · exact (A.fail_no h).elim

theorem y_fldN {t : TypeId} {fs : Array Field} {f : Field} {i : Nat} (ht : P.underlying t = some (.struct fs)) (hf : fs[i]? = some f) (ho : isMany P f.type = true) {x : Opd} {u : Value} (hx : VRel ρ (x.get vs ts) u) (h : A.holds (evI A call (.fldN f.offset (P.cellsOf f.type) x) vs ts H K)) :
    Pure P (Instr.field t u i) ρ H (fun x H => A.holds (K x H)) := by
  simp only [evI] at h
  generalize x.get vs ts = X at hx h
  cases hx <;> try exact (A.fail_no h).elim
  rename_i l us hs h1
  simp only at h
  cases hc : cut l f.offset (P.cellsOf f.type) with
  | none => rw [hc] at h; exact (A.fail_no h).elim
  | some cs =>
    rw [hc] at h
    simp only [fL_eq] at h
    obtain ⟨hcs, _, hlen⟩ := cut_eq _ _ _ _ hc
    obtain ⟨j, hj⟩ := info_of_many ho
    have hl := hs.length
    refine Pure.here (v := .agg ((us.drop f.offset).take (P.cellsOf f.type)).toArray) h (fun w => ?_) (.agg (VRels.mk ?_ ?_) ?_)
    · simp [Instr.field, run_underlying ht, hf, asAgg, part, run_isAgg_many ho, run_sizeOf hj, List.extract_toArray]
    · rw [hcs, List.length_take, List.length_take, List.length_drop, List.length_drop, hl]
    · intro k a u ha hu
      rw [hcs, List.getElem?_take] at ha
      rw [List.getElem?_take] at hu
      split at ha
      · rename_i hk
        rw [if_pos hk, List.getElem?_drop] at hu
        rw [List.getElem?_drop] at ha
        obtain ⟨u', hu', hr⟩ := hs.get _ _ ha
        rw [hu] at hu'
        simp at hu'
        subst hu'
        exact hr
      · cases ha
    · intro u hu
      exact h1 u (List.mem_of_mem_drop (List.mem_of_mem_take hu))

theorem y_idxS {t e : TypeId} (ht : P.underlying t = some (.slice e)) (hz : P.cellsOf e ≠ 0) {x i : Opd} {u v : Value} (hx : VRel ρ (x.get vs ts) u) (hi : VRel ρ (i.get vs ts) v) (h : A.holds (evI A call (.idxS (P.cellsOf e) x i) vs ts H K)) :
    Pure P (Instr.indexAt t u v) ρ H (fun x H => A.holds (K x H)) := by
  simp only [evI] at h
  generalize x.get vs ts = X at hx h
  generalize i.get vs ts = I at hi h
  cases hx <;> cases hi <;> try exact (A.fail_no h).elim
  case slc.int b S es r len cap' cap a' hl hc ho ha k n =>
    cases n with
    | negSucc m => exact (A.fail_no h).elim
    | ofNat m =>
      simp only at h
      split at h
      · rename_i hb
        rw [Bool.and_eq_true] at hb
        have hlt : m < len := by
          have := hb.1
          unfold Nat.blt at this
          exact Nat.le_of_ble_eq_true this
        have hsz : S.esz = P.cellsOf e := by simpa using hb.2
        simp only [fN_eq] at h
        rcases ha with ⟨h0, _⟩ | ⟨rfl, hb2⟩
        · omega
        refine Pure.here (v := .pointer (some ⟨S.blk, S.off + (r + m) * S.esz + 0, none⟩)) h (fun w => ?_) (.ptr es _ _)
        obtain ⟨j, hj⟩ : ∃ j, P.info? e = some j := by
          unfold Program.cellsOf at hz
          cases hj : P.info? e with
          | none => rw [hj] at hz; simp at hz
          | some j => exact ⟨j, rfl⟩
        have hadd : S.off + r * S.esz + m * P.cellsOf e = S.off + (r + m) * S.esz + 0 := by rw [← hsz, Nat.add_mul]; omega
        simp [Instr.indexAt, asIntOf, run_underlying ht, hlt, run_sizeOf hj, Addr.add_lit, hadd]
      · exact (A.fail_no h).elim

theorem y_idxA {t e : TypeId} {n : Nat} (ht : P.underlying t = some (.array n e)) (hz : P.cellsOf e ≠ 0) {x i : Opd} {u v : Value} (hx : VRel ρ (x.get vs ts) u) (hi : VRel ρ (i.get vs ts) v) (h : A.holds (evI A call (.idxA n (P.cellsOf e) x i) vs ts H K)) :
    Pure P (Instr.indexAt t u v) ρ H (fun x H => A.holds (K x H)) := by
  simp only [evI] at h
  generalize x.get vs ts = X at hx h
  generalize i.get vs ts = I at hi h
  cases hx <;> cases hi <;> try exact (A.fail_no h).elim
  case ptr.int b S es r c k m =>
    cases m with
    | negSucc m => exact (A.fail_no h).elim
    | ofNat m =>
      simp only at h
      split at h
      · rename_i hb
        have hlt : m < n := by
          unfold Nat.blt at hb
          exact Nat.le_of_ble_eq_true hb
        simp only [fN_eq] at h
        refine Pure.here (v := .pointer (some ⟨S.blk, S.off + r * S.esz + (c + m * P.cellsOf e), none⟩)) h (fun w => ?_) (.ptr es _ _)
        obtain ⟨j, hj⟩ : ∃ j, P.info? e = some j := by
          unfold Program.cellsOf at hz
          cases hj : P.info? e with
          | none => rw [hj] at hz; simp at hz
          | some j => exact ⟨j, rfl⟩
        simp [Instr.indexAt, asIntOf, run_underlying ht, Instr.sureAddr, hlt, run_sizeOf hj, Addr.add_lit, Nat.add_assoc]
      · exact (A.fail_no h).elim
  case gp.int g c k m =>
    cases m with
    | negSucc m => exact (A.fail_no h).elim
    | ofNat m =>
      simp only at h
      split at h
      · rename_i hb
        have hlt : m < n := by
          unfold Nat.blt at hb
          exact Nat.le_of_ble_eq_true hb
        simp only [fN_eq] at h
        refine Pure.here (v := .pointer (some ⟨g, c + m * P.cellsOf e, none⟩)) h (fun w => ?_) (.gp _ _)
        obtain ⟨j, hj⟩ : ∃ j, P.info? e = some j := by
          unfold Program.cellsOf at hz
          cases hj : P.info? e with
          | none => rw [hj] at hz; simp at hz
          | some j => exact ⟨j, rfl⟩
        simp [Instr.indexAt, asIntOf, run_underlying ht, Instr.sureAddr, hlt, run_sizeOf hj, Addr.add_lit, Nat.add_assoc]
      · exact (A.fail_no h).elim

theorem y_idxStr {t : TypeId} (ht : P.underlying t = some .string) {x i : Opd} {u v : Value} (hx : VRel ρ (x.get vs ts) u) (hi : VRel ρ (i.get vs ts) v) (h : A.holds (evI A call (.idxStr x i) vs ts H K)) :
    Pure P (Instr.index t u v) ρ H (fun x H => A.holds (K x H)) := by
  simp only [evI] at h
  generalize x.get vs ts = X at hx h
  generalize i.get vs ts = I at hi h
  cases hx <;> cases hi <;> try exact (A.fail_no h).elim
  case str.int s k m =>
    cases m with
    | negSucc m => exact (A.fail_no h).elim
    | ofNat m =>
      simp only at h
      split at h
      · rename_i hb
        have hlt : m < s.size := by
          unfold Nat.blt at hb
          exact Nat.le_of_ble_eq_true hb
        simp only [fN_eq] at h
        have hl : m < s.data.toList.length := by simpa using hlt
        have hg : sget (codeOf s.data.toList) m = (s.data.toList[m]'hl).toNat := by rw [sget_eq, codeOf_get]
        rw [hg] at h
        refine Pure.here (v := .int .u8 (s[m]'hlt).toNat) h (fun w => ?_) ?_
        · have hin : (0 : Int) ≤ (Int.ofNat m) ∧ (Int.ofNat m) < (s.size : Int) := by simp; omega
          rw [run_index_string w t s k _ ht, dif_pos hin]
          rfl
        · exact .int _ _
      · exact (A.fail_no h).elim

theorem y_len {t ty : TypeId} {str : Bool} (ht : match str with | true => P.underlying t = some .string | false => ∃ e, P.underlying t = some (.slice e)) {x : Opd} {u : Value} (hx : VRel ρ (x.get vs ts) u) 
    (h : A.holds (evI A call (.len str x) vs ts H K)) :
    Pure P (Builtin.len_ #[t] ty #[u]) ρ H (fun x H => A.holds (K x H)) := by
  simp only [evI] at h
  generalize x.get vs ts = X at hx h
  cases str <;> simp only at ht
  · obtain ⟨e, he⟩ := ht
    cases hx <;> try exact (A.fail_no h).elim
    case slc b S es r len cap' cap a' hl hc ho ha => exact Pure.here h (fun w => by simp [Builtin.len_, run_underlying he, goInt]) (.int _ _)
    case nils => exact Pure.here h (fun w => by simp [Builtin.len_, run_underlying he, goInt]) (.int _ _)
  · cases hx <;> try exact (A.fail_no h).elim
    case str s => exact Pure.here h (fun w => by simp [Builtin.len_, run_underlying ht, goInt]) (.int _ _)

theorem y_ext {x : Opd} {i : Nat} {u : Value} (hx : VRel ρ (x.get vs ts) u) (h : A.holds (evI A call (.ext x i) vs ts H K)) :
    Pure P (Instr.extract u i) ρ H (fun x H => A.holds (K x H)) := by
  simp only [evI] at h
  generalize x.get vs ts = X at hx h
  cases hx <;> try exact (A.fail_no h).elim
  rename_i l us hs
  simp only at h
  split at h
  · rename_i hb
    have hlt : i < l.length := by
      rw [llen_eq] at hb
      unfold Nat.blt at hb
      exact Nat.le_of_ble_eq_true hb
    have hl := hs.length
    have hr := hs.of_get i
    have hu : us[i]? = some (us[i]'(by omega)) := List.getElem?_eq_getElem (by omega)
    rw [hu] at hr
    refine Pure.here h (fun w => ?_) hr
    simp [Instr.extract, hu]
  · exact (A.fail_no h).elim
end pure_
end Dt
