/- A part of the abstract machine and of the proof that the program does what it reckons; no conditions. -/
import Derived.Test.YtpljolocgeicfaaDoorDp
namespace Dt
open Go Go.RowKit
/-! ### Reasoning: numbers as casts, heaps by what is known of them -/
theorem n_of (n : Nat) : Int.ofNat n = (n : Int) := (rfl)
theorem il_eq {c k : Nat} : ((c : Int) = (OfNat.ofNat k : Int)) = (c = OfNat.ofNat k) := propext ⟨fun h => by exact Int.ofNat.inj h, fun h => by subst h; rfl⟩
theorem il_lt {c k : Nat} : ((c : Int) < (OfNat.ofNat k : Int)) = (c < OfNat.ofNat k) := propext (Int.ofNat_lt (n := c) (m := k))
theorem il_le {c k : Nat} : ((c : Int) ≤ (OfNat.ofNat k : Int)) = (c ≤ OfNat.ofNat k) := propext (Int.ofNat_le (m := c) (n := k))
theorem li_lt {c k : Nat} : ((OfNat.ofNat k : Int) < (c : Int)) = (OfNat.ofNat k < c) := propext (Int.ofNat_lt (n := k) (m := c))
theorem li_le {c k : Nat} : ((OfNat.ofNat k : Int) ≤ (c : Int)) = (OfNat.ofNat k ≤ c) := propext (Int.ofNat_le (m := k) (n := c))
theorem ii_eq {a b : Nat} : ((a : Int) = (b : Int)) = (a = b) := propext ⟨fun h => Int.ofNat.inj h, congrArg _⟩
theorem ii_lt {a b : Nat} : ((a : Int) < (b : Int)) = (a < b) := propext Int.ofNat_lt
theorem ii_le {a b : Nat} : ((a : Int) ≤ (b : Int)) = (a ≤ b) := propext Int.ofNat_le
theorem w_n {n : Nat} (h : n < 9223372036854775808) : IntKind.i64.wrap (n : Int) = (n : Int) := wrap64 (by omega) (by omega)
theorem w_i {n : Int} (h1 : -9223372036854775808 ≤ n) (h2 : n < 9223372036854775808) : IntKind.i64.wrap n = n := wrap64 h1 h2
theorem w_add {a b : Nat} (h : a + b < 9223372036854775808) : IntKind.i64.wrap ((a : Int) + (b : Int)) = ((a + b : Nat) : Int) := by
  rw [← w_n h]; rfl
theorem w_add1 {a : Nat} (h : a + 1 < 9223372036854775808) : IntKind.i64.wrap ((a : Int) + 1) = ((a + 1 : Nat) : Int) := w_add (b := 1) h
theorem w_sub {a b : Nat} (h : b ≤ a) (h' : a < 9223372036854775808) : IntKind.i64.wrap ((a : Int) - (b : Int)) = ((a - b : Nat) : Int) := by
  rw [wrap64 (by omega) (by omega)]; omega
theorem w_sub1 {a : Nat} (h : 0 < a) (h' : a < 9223372036854775808) : IntKind.i64.wrap ((a : Int) - 1) = ((a - 1 : Nat) : Int) := w_sub (b := 1) h h'

theorem v_lenS {n c : Nat} : lenV true (.str n c) = some (.int .i64 (n : Int)) := (rfl)
theorem v_lenL {b r n z : Nat} {cap : Option Nat} : lenV false (.slc b r n cap z) = some (.int .i64 (n : Int)) := (rfl)
theorem v_lenN : lenV false .nils = some (.int .i64 0) := (rfl)
theorem v_chr {n c j : Nat} {k : IntKind} (h : j < n) : chrV (.str n c) (.int k (j : Int)) = some (.int .u8 ((sget c j : Nat) : Int)) := r_chr h
theorem v_idx {z b r len n : Nat} {cap : Option Nat} {k : IntKind} (h : n < len) : idxV z (.slc b r len cap z) (.int k (n : Int)) = some (.ptr b (r + n) 0) := r_idx h
theorem v_idx0 {z b r len : Nat} {cap : Option Nat} {k : IntKind} (h : 0 < len) : idxV z (.slc b r len cap z) (.int k 0) = some (.ptr b r 0) := r_idx h
theorem v_conv {k k' : IntKind} {n : Int} : convV k (.int k' n) = some (.int k (k.wrap n)) := (rfl)
theorem v_ckp {b r c : Nat} : ckV (.ptr b r c) = some (.ptr b r c) := (rfl)
theorem v_ckf {f : Nat} {a b : List AVal} : ckV (.fn f a b) = some (.fn f a b) := (rfl)
theorem v_fadr {b r c o : Nat} : fadrV o (.ptr b r c) = some (.ptr b r (c + o)) := (rfl)
theorem v_not {b : Bool} : notV (.bool b) = some (.bool !b) := (rfl)
theorem v_callf {call : Nat → List AVal → Heap → (AVal → Heap → Prop) → Prop} {f : Nat} {a b l : List AVal} {H : Heap} {kv : AVal → Heap → Prop} : callK call (.fn f a b) l H kv = call f (a ++ (l ++ b)) H kv := (rfl)
theorem v_eqs {n c m d : Nat} : binV .eql (.str n c) (.str m d) = some (.bool (Nat.beq n m && Nat.beq c d)) := (rfl)
theorem v_nes {n c m d : Nat} : binV .neq (.str n c) (.str m d) = some (.bool (!(Nat.beq n m && Nat.beq c d))) := (rfl)
theorem v_cat {n c m d : Nat} (h : n + m ≤ 9223372036854775807) : binV .add (.str n c) (.str m d) = some (.str (n + m) (scat n c d)) := by
  have : Nat.ble (n + m) 9223372036854775807 = true := Nat.ble_eq_true_of_le h
  simp only [binV, this]

/-! cells of rows -/
def rdRow : List AVal → Nat → Option AVal
  | [], _ => none
  | x :: _, 0 => some x
  | _ :: l, c + 1 => rdRow l c
theorem rdRow_0 {x : AVal} {l : List AVal} : rdRow (x :: l) 0 = some x := (rfl)
theorem rdRow_s {x : AVal} {l : List AVal} {c : Nat} : rdRow (x :: l) (c + 1) = rdRow l c := (rfl)
theorem cut_0 (l : List AVal) : cut l 0 0 = some [] := by cases l <;> rfl
theorem cut_1 : ∀ (l : List AVal) (c : Nat), (match cut l c 1 with | some (v :: _) => some v | _ => none) = rdRow l c
  | [], c => by cases c <;> rfl
  | x :: l, 0 => by simp only [cut, cut_0]; rfl
  | x :: l, c + 1 => by simp only [cut]; exact cut_1 l c
theorem cut_all : ∀ (l : List AVal) (n : Nat), llen l = n → cut l 0 n = some l
  | [], n, h => by subst h; rfl
  | x :: l, n, h => by
    subst h
    simp only [llen, cut, cut_all l _ rfl]
theorem v_rd {z r c : Nat} {R : List (List AVal)} {row : List AVal} (h : rget R r = some row) : rdC1 (.rows z R) r c = rdRow row c := by
  simp only [rdC1, h]
  exact cut_1 row c
theorem rget_0 {x : List AVal} {R : List (List AVal)} : rget (x :: R) 0 = some x := (rfl)
theorem rget_get : ∀ (R : List (List AVal)) (r : Nat), rget R r = R[r]?
  | [], r => by simp [rget]
  | x :: R, 0 => by simp [rget]
  | x :: R, r + 1 => by simp [rget, rget_get R r]
theorem v_rd0 {z c : Nat} {row : List AVal} : rdC1 (.rows z [row]) 0 c = rdRow row c := v_rd rget_0
theorem v_rdA {z r n : Nat} {R : List (List AVal)} {row : List AVal} (h : rget R r = some row) (hn : llen row = n) : rdCN n (.rows z R) r 0 = some (.agg row) := by
  simp only [rdCN, h, cut_all row n hn]
theorem v_rdA0 {z n : Nat} {row : List AVal} (hn : llen row = n) : rdCN n (.rows z [row]) 0 0 = some (.agg row) := v_rdA rget_0 hn
theorem llen_0 : llen [] = 0 := (rfl)
theorem llen_s {x : AVal} {l : List AVal} : llen (x :: l) = llen l + 1 := (rfl)
theorem llen_len : ∀ l : List AVal, llen l = l.length
  | [] => rfl
  | _ :: l => by simp [llen, llen_len l]
theorem rlen_len : ∀ l : List (List AVal), rlen l = l.length
  | [] => rfl
  | _ :: l => by simp [rlen, rlen_len l]
def putRow : List AVal → Nat → AVal → List AVal
  | [], _, _ => []
  | _ :: l, 0, v => v :: l
  | x :: l, c + 1, v => x :: putRow l c v
theorem putRow_0 {x v : AVal} {l : List AVal} : putRow (x :: l) 0 v = v :: l := (rfl)
theorem putRow_s {x v : AVal} {l : List AVal} {c : Nat} : putRow (x :: l) (c + 1) v = x :: putRow l c v := (rfl)
theorem splice_nil (l : List AVal) : splice l 0 [] = l := by cases l <;> rfl
theorem splice_1 : ∀ (l : List AVal) (c : Nat) (v : AVal), splice l c [v] = putRow l c v
  | [], _, _ => rfl
  | x :: l, 0, v => by simp only [splice, putRow, splice_nil]
  | x :: l, c + 1, v => by simp only [splice, putRow, splice_1 l c v]
theorem splice_all : ∀ (l m : List AVal), llen l = llen m → splice l 0 m = m
  | [], m, h => by cases m <;> simp [llen] at h ⊢ <;> rfl
  | x :: l, [], h => by simp [llen] at h
  | x :: l, y :: m, h => by simp only [splice, splice_all l m (by simpa [llen] using h)]
theorem v_wr {z c : Nat} {row : List AVal} {v : AVal} (h : c < llen row) : wrC 1 (.rows z [row]) 0 c [v] = some (.rows z [putRow row c v]) := by
  simp only [wrC, rget, llen, splice_1, rset]
  rw [show Nat.ble (c + 1) (llen row) = true from Nat.ble_eq_true_of_le h]
  rfl
theorem v_wrR {z r c : Nat} {R : List (List AVal)} {row : List AVal} {v : AVal} (hr : rget R r = some row) (h : c < llen row) : wrC 1 (.rows z R) r c [v] = some (.rows z (rset R r (putRow row c v))) := by
  simp only [wrC, hr, llen, splice_1]
  rw [show Nat.ble (c + 1) (llen row) = true from Nat.ble_eq_true_of_le h]
  rfl
theorem v_wrA {z n : Nat} {row cs : List AVal} (h : llen row = n) (h' : llen cs = n) : wrC n (.rows z [row]) 0 0 cs = some (.rows z [cs]) := by
  subst h'
  simp only [wrC, rget, Nat.zero_add, splice_all row cs h, rset]
  rw [show Nat.beq (llen cs) (llen cs) = true from by rw [Nat.beq_eq], show Nat.ble (llen cs) (llen row) = true from Nat.ble_eq_true_of_le (by omega)]
  rfl
theorem v_wrAR {z n r : Nat} {R : List (List AVal)} {row cs : List AVal} (hr : rget R r = some row) (h : llen row = n) (h' : llen cs = n) : wrC n (.rows z R) r 0 cs = some (.rows z (rset R r cs)) := by
  subst h'
  simp only [wrC, hr, Nat.zero_add, splice_all row cs h]
  rw [show Nat.beq (llen cs) (llen cs) = true from by rw [Nat.beq_eq], show Nat.ble (llen cs) (llen row) = true from Nat.ble_eq_true_of_le (by omega)]
  rfl
theorem v_wrV {n b r c : Nat} {H : Heap} {cs : List AVal} : wrV n H (.ptr b r c) (some cs) = (match wrC n (H.get b) r c cs with | some B => some (H.put b B) | none => none) := (rfl)
theorem v_some {H : Heap} {b : Nat} {B : Blk} : (match (some B : Option Blk) with | some B => some (H.put b B) | none => none) = some (H.put b B) := (rfl)
theorem c_agg {l : List AVal} : (AVal.agg l).cells = some l := (rfl)
theorem c_int {k : IntKind} {n : Int} : (AVal.int k n).cells = some [.int k n] := (rfl)
theorem c_bool {b : Bool} : (AVal.bool b).cells = some [.bool b] := (rfl)
theorem c_str {n c : Nat} : (AVal.str n c).cells = some [.str n c] := (rfl)
theorem c_slc {b r l z : Nat} {c : Option Nat} : (AVal.slc b r l c z).cells = some [.slc b r l c z] := (rfl)
theorem c_nils : AVal.nils.cells = some [.nils] := (rfl)
theorem c_fn {f : Nat} {a b : List AVal} : (AVal.fn f a b).cells = some [.fn f a b] := (rfl)
theorem c_ptr {b r c : Nat} : (AVal.ptr b r c).cells = some [.ptr b r c] := (rfl)
theorem fill_0 {vs ts row : List AVal} : fillP vs ts row [] = some row := (rfl)
def fillK (vs ts row : List AVal) (off n : Nat) (o : Option (List AVal)) (rest : List (Nat × Nat × Opd)) : Option (List AVal) := match o with
  | none => none
  | some cs => match Nat.beq (llen cs) n && Nat.ble (off + n) (llen row) with
      | true => fillP vs ts (splice row off cs) rest
      | false => none
theorem fill_s {vs ts row : List AVal} {off n : Nat} {x : Opd} {rest : List (Nat × Nat × Opd)} : fillP vs ts row ((off, n, x) :: rest) = fillK vs ts row off n ((x.get vs ts).cells) rest := (rfl)
theorem fillK_1 {vs ts row : List AVal} {off : Nat} {v : AVal} {rest : List (Nat × Nat × Opd)} (h : off < llen row) : fillK vs ts row off 1 (some [v]) rest = fillP vs ts (putRow row off v) rest := by
  simp only [fillK, llen, splice_1]
  rw [show Nat.ble (off + 1) (llen row) = true from Nat.ble_eq_true_of_le h]
  rfl
def fillO (z : Nat) (o : Option (List AVal)) : Option (List (List AVal)) := match o with
  | none => none
  | some cs => match Nat.beq (llen cs) z with
    | true => some [cs]
    | false => none
theorem fillR_1 {vs ts : List AVal} {z : Nat} {x : Opd} {row : List AVal} : fillR vs ts z [row] [(0, x)] = fillO z ((x.get vs ts).cells) := by
  simp only [fillR, fillO]
  cases (x.get vs ts).cells with
  | none => rfl
  | some cs =>
    simp only
    cases h : Nat.beq (llen cs) z <;> rfl
theorem fillO_1 {z : Nat} {cs : List AVal} (h : llen cs = z) : fillO z (some cs) = some [cs] := by
  subst h
  simp only [fillO]
  rw [show Nat.beq (llen cs) (llen cs) = true from by rw [Nat.beq_eq]]
theorem r_roundN {call : Nat → List AVal → Heap → (AVal → Heap → Prop) → Prop} {c d : DC} (h : c = d) {n : Nat} {vs : List AVal} {H : Heap} {K : DX → List AVal → List AVal → Heap → Prop} : loopOf call c (n + 1) vs H K = evC AP call d vs [] H (kLoop call c n K) := by
  rw [r_round]
  subst h
  rfl
/-! heaps -/
theorem Tr.set_set : ∀ (f : Nat) (t : Tr) (k : Nat) (x y : Blk), Tr.set f (Tr.set f t k x) k y = Tr.set f t k y := by
  intro f
  induction f with
  | zero => intros; rfl
  | succ f ih =>
    intro t k x y
    cases t <;> cases k <;> simp only [Tr.set] <;> split <;> simp_all [Tr.set]
theorem put_put {H : Heap} {b : Nat} {x y : Blk} : (H.put b x).put b y = H.put b y := by simp only [Heap.put, Tr.set_set]
theorem add_put {H : Heap} {x y : Blk} : (H.add x).put H.next y = H.add y := by simp only [Heap.put, Heap.add, Tr.set_set]
theorem Tr.set_get : ∀ (f : Nat) (t : Tr) (k : Nat), t.get k ≠ .dead → Tr.set f t k (t.get k) = t := by
  intro f
  induction f with
  | zero => intros; rfl
  | succ f ih =>
    intro t k h
    cases t with
    | nil => exact absurd rfl h
    | node l v r =>
      cases k with
      | zero => rfl
      | succ k =>
        rcases Nat.mod_two_eq_zero_or_one k with e | e
        · simp only [Tr.get, e] at h
          simp only [Tr.set, Tr.get, e, ih l (k / 2) h]
        · simp only [Tr.get, e] at h
          simp only [Tr.set, Tr.get, e, ih r (k / 2) h]
theorem add_put' {H : Heap} {b : Nat} {x y : Blk} (h : b = H.next) : (H.add x).put b y = H.add y := by
  subst h; exact add_put
theorem put_same {H : Heap} {b z : Nat} {R : List (List AVal)} (h : H.get b = .rows z R) : H.put b (.rows z R) = H := by
  have h' : H.tr.get b = .rows z R := h
  have := Tr.set_get (b + 1) H.tr b (by rw [h']; simp)
  rw [h'] at this
  cases H
  simp only [Heap.put] at this ⊢
  rw [this]
theorem get_put {H : Heap} {b j : Nat} {x : Blk} : (H.put b x).get j = if j = b then x else H.get j := Heap.get_put H b j x trivial
theorem get_add {H : Heap} {j : Nat} {x : Blk} : (H.add x).get j = if j = H.next then x else H.get j := Heap.get_add H j x trivial
theorem next_put {H : Heap} {b : Nat} {x : Blk} : (H.put b x).next = H.next := (rfl)
theorem next_add {H : Heap} {x : Blk} : (H.add x).next = H.next + 1 := (rfl)
theorem ne_s {n : Nat} : (n = n + 1) = False := by simp
theorem ne_s' {n : Nat} : (n + 1 = n) = False := by simp
theorem ne_ss {n : Nat} : (n = n + 1 + 1) = False := by simp; omega
theorem ne_ss' {n : Nat} : (n + 1 + 1 = n) = False := by simp; omega
theorem lt_ne0 {p n : Nat} (h : p < n) : (p = n) = False := by simp; omega
theorem lt_ne1 {p n : Nat} (h : p < n) : (p = n + 1) = False := by simp; omega
theorem lt_ne2 {p n : Nat} (h : p < n) : (p = n + 1 + 1) = False := by simp; omega
theorem lt_ne3 {p n : Nat} (h : p < n) : (p = n + 1 + 1 + 1) = False := by simp; omega
theorem lt_ne4 {p n : Nat} (h : p < n) : (p = n + 1 + 1 + 1 + 1) = False := by simp; omega
theorem lt_ne0' {p n : Nat} (h : p < n) : (n = p) = False := by simp; omega
theorem lt_ne1' {p n : Nat} (h : p < n) : (n + 1 = p) = False := by simp; omega
theorem lt_ne2' {p n : Nat} (h : p < n) : (n + 1 + 1 = p) = False := by simp; omega

/-- All that was there is there, unchanged. -/
def Grow (H H' : Heap) : Prop := H.next ≤ H'.next ∧ ∀ b, b < H.next → H'.get b = H.get b
theorem Grow.refl (H : Heap) : Grow H H := ⟨Nat.le_refl _, fun _ _ => rfl⟩
theorem Grow.trans {H H' H'' : Heap} (h : Grow H H') (h' : Grow H' H'') : Grow H H'' := ⟨Nat.le_trans h.1 h'.1, fun b hb => (h'.2 b (Nat.lt_of_lt_of_le hb h.1)).trans (h.2 b hb)⟩
theorem Grow.add {H : Heap} {x : Blk} : Grow H (H.add x) := ⟨by rw [next_add]; omega, fun b hb => by rw [get_add, if_neg (by omega)]⟩
theorem Grow.put {H H' : Heap} {b : Nat} {x : Blk} (h : Grow H H') (hb : H.next ≤ b) : Grow H (H'.put b x) := ⟨h.1, fun c hc => by rw [get_put, if_neg (by omega)]; exact h.2 c hc⟩

/-- What is known of the blocks that are let be. -/
abbrev Fr := Nat → Option Blk
def Sees (F : Fr) (H : Heap) : Prop := ∀ b B, F b = some B → b < H.next ∧ H.get b = B
def Fr.set (F : Fr) (b : Nat) (B : Blk) : Fr := fun c => if c = b then some B else F c
theorem Fr.set_same {F : Fr} {b : Nat} {B : Blk} : F.set b B b = some B := by simp [Fr.set]
theorem Fr.set_ne {F : Fr} {b c : Nat} {B : Blk} (h : c ≠ b) : F.set b B c = F c := by simp [Fr.set, h]
theorem Sees.grow {F : Fr} {H H' : Heap} (h : Sees F H) (g : Grow H H') : Sees F H' := fun b B hb => ⟨Nat.lt_of_lt_of_le (h b B hb).1 g.1, (g.2 b (h b B hb).1).trans (h b B hb).2⟩
theorem Sees.fresh {F : Fr} {H : Heap} (h : Sees F H) {b : Nat} (hb : H.next ≤ b) : F b = none := by
  cases e : F b with
  | none => rfl
  | some B => exact absurd (h b B e).1 (by omega)
theorem Sees.set {F : Fr} {H : Heap} {b : Nat} {B : Blk} (h : Sees F H) (hb : b < H.next) (hB : H.get b = B) : Sees (F.set b B) H := fun c C hc => by
  by_cases e : c = b
  · subst e
    rw [Fr.set_same] at hc
    cases hc
    exact ⟨hb, hB⟩
  · rw [Fr.set_ne e] at hc
    exact h c C hc
theorem Sees.put {F : Fr} {H : Heap} {b : Nat} {B : Blk} (h : Sees F H) (hb : F b = none) : Sees F (H.put b B) := fun c C hc => by
  have hne : c ≠ b := fun e => by rw [e, hb] at hc; cases hc
  rw [get_put, if_neg hne]
  exact h c C hc
/-- Frame of all that is there. -/
def Heap.all (H : Heap) : Fr := fun b => if b < H.next then some (H.get b) else none
theorem Sees.all (H : Heap) : Sees H.all H := fun b B h => by
  unfold Heap.all at h
  split at h
  · cases h; exact ⟨by assumption, rfl⟩
  · cases h
theorem Sees.toGrow {H H' : Heap} (h : Sees H.all H') (hn : H.next ≤ H'.next) : Grow H H' := ⟨hn, fun b hb => (h b _ (by simp [Heap.all, hb])).2⟩
theorem all_none {H : Heap} {b : Nat} (h : H.next ≤ b) : H.all b = none := by simp [Heap.all]; omega

/-! slices that are owned -/
def blkOf : AVal → Option Nat
  | .slc b _ _ _ _ => some b
  | _ => none
/-- v shows rows, in a block that nobody else has. -/
def Sl (F : Fr) (H : Heap) (v : AVal) (z : Nat) (rows : List (List AVal)) : Prop :=
  (v = .nils ∧ rows = []) ∨ ∃ b R, v = .slc b 0 rows.length none z ∧ b < H.next ∧ F b = none ∧ H.get b = .rows z R ∧ R.take rows.length = rows
theorem rtake_ok : ∀ (R : List (List AVal)) (r n : Nat), r + n ≤ R.length → rtake R r n = some ((R.drop r).take n)
  | [], 0, 0, _ => rfl
  | [], r + 1, n, h => by simp at h
  | [], 0, n + 1, h => by simp at h
  | x :: R, r + 1, n, h => by
    simp only [rtake, List.drop_succ_cons]
    exact rtake_ok R r n (by simp at h; omega)
  | x :: R, 0, 0, _ => by simp [rtake]
  | x :: R, 0, n + 1, h => by
    have := rtake_ok R 0 n (by simp at h; omega)
    simp only [rtake, this]
    simp
theorem rsplice_nil (l : List (List AVal)) : rsplice l 0 [] = l := by cases l <;> rfl
theorem rsplice_ok : ∀ (R : List (List AVal)) (c : Nat) (x : List AVal), c < R.length → rsplice R c [x] = R.set c x
  | [], _, _, h => by simp at h
  | y :: R, 0, x, _ => by simp [rsplice, rsplice_nil]
  | y :: R, c + 1, x, h => by simp only [rsplice, List.set_cons_succ, rsplice_ok R c x (by simpa using h)]
theorem take_len {α : Type} {R rows : List α} (h : R.take rows.length = rows) : rows.length ≤ R.length := by
  have := congrArg List.length h
  simp at this
  omega
/-- One row is appended to an owned slice. -/
theorem app1 {F : Fr} {H : Heap} {v y : AVal} {z bytes : Nat} {rows : List (List AVal)} {x : List AVal} {kv : AVal → Heap → Prop}
    (hF : Sees F H) (hv : Sl F H v z rows) (hy : rowsOf H z y = some [x]) (hb : (rows.length + 1) * bytes ≤ 1000000000)
    (hK : ∀ v' H', H.next ≤ H'.next → Sees F H' → Sl F H' v' z (rows ++ [x]) → (∃ b, v' = .slc b 0 (rows.length + 1) none z ∧ (blkOf v = some b ∨ H.next ≤ b)) →
      (∀ c, c < H.next → blkOf v ≠ some c → H'.get c = H.get c) → kv v' H') :
    doAppend AP z bytes v y H kv := by
  rcases hv with ⟨rfl, rfl⟩ | ⟨b, R, rfl, hlt, hFb, hR, hrows⟩
  · have h1 : Nat.ble (Nat.mul (rlen [x]) bytes) 1000000000 = true := Nat.ble_eq_true_of_le (by simpa [rlen] using hb)
    simp only [doAppend, hy, h1, fL_eq, fN_eq, hAdd_eq]
    refine hK _ _ (by rw [next_add]; omega) (hF.grow Grow.add) (Or.inr ⟨H.next, [x], rfl, by rw [next_add]; omega, hF.fresh (Nat.le_refl _), by rw [get_add, if_pos rfl], rfl⟩) ⟨H.next, rfl, Or.inr (Nat.le_refl _)⟩ (fun c hc _ => by rw [get_add, if_neg (by omega)])
  · have hz : Nat.beq z z = true := by rw [Nat.beq_eq]
    have hle := take_len hrows
    have h1 : Nat.ble (Nat.mul (rows.length + rlen [x]) bytes) 1000000000 = true := Nat.ble_eq_true_of_le (by simpa [rlen] using hb)
    have hold : rowsOf H z (.slc b 0 rows.length none z) = some rows := by
      simp only [rowsOf, hz]
      cases hn : rows.length with
      | zero => simp [List.length_eq_zero_iff.1 hn]
      | succ n =>
        simp only [hR]
        rw [rtake_ok R 0 (n + 1) (by omega), List.drop_zero, ← hn, hrows]
    simp only [doAppend, hy, hz, h1, Bool.and_self, hold, hR]
    cases h2 : Nat.ble (0 + (rows.length + rlen [x])) (rlen R) with
    | true =>
      have h3 : rows.length < R.length := by
        have := Nat.le_of_ble_eq_true h2
        simp only [rlen_len, List.length_singleton] at this
        omega
      simp only [fL_eq, fN_eq, hPut_eq]
      rw [Nat.zero_add, rsplice_ok R _ x h3]
      have hlen : (rows ++ [x]).length = rows.length + 1 := by simp
      refine hK _ _ (Nat.le_refl _) (hF.put hFb) (Or.inr ⟨b, R.set rows.length x, by rw [hlen]; rfl, hlt, hFb, by rw [get_put, if_pos rfl], ?_⟩) ⟨b, rfl, Or.inl rfl⟩ (fun c hc hne => ?_)
      · rw [hlen, List.take_succ_eq_append_getElem (by simpa using h3)]
        simp only [List.getElem_set_self]
        congr 1
        rw [List.take_set_of_le (Nat.le_refl _)]
        exact hrows
      · rw [get_put, if_neg (fun e => hne (by rw [e]; rfl))]
    | false =>
      simp only [fL_eq, fN_eq, hPut_eq, hAdd_eq, rlen_len]
      have hlen : (rows ++ [x]).length = rows.length + 1 := by simp
      rw [hlen]
      have hs : Sees F ((H.put b .dead).add (.rows z (rows ++ [x]))) := (hF.put hFb).grow Grow.add
      refine hK _ _ (by rw [next_add, next_put]; omega) hs (Or.inr ⟨H.next, rows ++ [x], by rw [hlen]; rfl, by rw [next_add, next_put]; omega, hF.fresh (Nat.le_refl _), by rw [get_add, next_put, if_pos rfl], by rw [hlen, ← hlen, List.take_length]⟩) ⟨H.next, rfl, Or.inr (Nat.le_refl _)⟩ (fun c hc hne => ?_)
      rw [get_add, next_put, if_neg (by omega), get_put, if_neg (fun e => hne (by rw [e]; rfl))]

theorem Sl.add {F : Fr} {H : Heap} {v : AVal} {z : Nat} {rows : List (List AVal)} {B : Blk} (h : Sl F H v z rows) : Sl F (H.add B) v z rows := by
  rcases h with ⟨rfl, rfl⟩ | ⟨b, R, rfl, hlt, hFb, hR, hrows⟩
  · exact Or.inl ⟨rfl, rfl⟩
  · exact Or.inr ⟨b, R, rfl, by rw [next_add]; omega, hFb, by rw [get_add, if_neg (by omega)]; exact hR, hrows⟩
theorem Sl.put {F : Fr} {H : Heap} {v : AVal} {z b : Nat} {rows : List (List AVal)} {B : Blk} (h : Sl F H v z rows) (hb : blkOf v ≠ some b) : Sl F (H.put b B) v z rows := by
  rcases h with ⟨rfl, rfl⟩ | ⟨c, R, rfl, hlt, hFb, hR, hrows⟩
  · exact Or.inl ⟨rfl, rfl⟩
  · exact Or.inr ⟨c, R, rfl, hlt, hFb, by rw [get_put, if_neg (fun e => hb (by rw [← e]; rfl))]; exact hR, hrows⟩
theorem Sl.lt {F : Fr} {H : Heap} {v : AVal} {z b : Nat} {rows : List (List AVal)} (h : Sl F H v z rows) (hb : blkOf v = some b) : b < H.next := by
  rcases h with ⟨rfl, rfl⟩ | ⟨c, R, rfl, hlt, hFb, hR, hrows⟩
  · cases hb
  · cases hb; exact hlt
theorem Sl.ne {F : Fr} {H : Heap} {v : AVal} {z b : Nat} {rows : List (List AVal)} (h : Sl F H v z rows) (hb : H.next ≤ b) : blkOf v ≠ some b := fun e => by
  have := h.lt e
  omega
/-- Its length, as it is read. -/
theorem Sl.len {F : Fr} {H : Heap} {v : AVal} {z : Nat} {rows : List (List AVal)} (h : Sl F H v z rows) : lenV false v = some (.int .i64 (rows.length : Int)) := by
  rcases h with ⟨rfl, rfl⟩ | ⟨c, R, rfl, hlt, hFb, hR, hrows⟩
  · rfl
  · rfl
theorem Sl.cells {F : Fr} {H : Heap} {v : AVal} {z : Nat} {rows : List (List AVal)} (h : Sl F H v z rows) : v.cells = some [v] := by
  rcases h with ⟨rfl, rfl⟩ | ⟨c, R, rfl, hlt, hFb, hR, hrows⟩
  · rfl
  · rfl
theorem rows_one {H : Heap} {z : Nat} {x : List AVal} : rowsOf (H.add (.rows z [x])) z (.slc H.next 0 1 (some 1) z) = some [x] := by
  simp only [rowsOf, get_add, if_true, rtake]
  rw [show Nat.beq z z = true from by rw [Nat.beq_eq]]
theorem r_rowsK1 {z : Nat} {x : List AVal} {kv : AVal → Heap → Prop} {H : Heap} : rowsK z (some [x]) kv H = kv (.slc H.next 0 1 (some 1) z) (H.add (.rows z [x])) := (rfl)

/-! parts of strings -/
def subK (x : AVal) (lo hi : Option AVal) : Option AVal := match x with
  | .str n c => match (match hi with | none => some n | some h => bound h n) with
    | none => none
    | some h => match (match lo with | none => some 0 | some l => bound l h) with
      | none => none
      | some l => some (.str (h - l) (scut c l h))
  | _ => none
theorem v_sub {vs ts : List AVal} {x : AVal} {lo hi : Option Opd} : subV vs ts x lo hi = subK x (lo.map fun a => a.get vs ts) (hi.map fun a => a.get vs ts) := by
  cases x <;> try rfl
  rename_i n c
  simp only [subV, subK, bounds]
  cases hi with
  | none =>
    cases lo with
    | none => rfl
    | some a => simp only [Option.map]; cases bound (a.get vs ts) n <;> rfl
  | some b =>
    simp only [Option.map]
    cases bound (b.get vs ts) n with
    | none => rfl
    | some h =>
      cases lo with
      | none => rfl
      | some a => simp only; cases bound (a.get vs ts) h <;> rfl
theorem map_some {f : Opd → AVal} {a : Opd} : (Option.some a).map f = some (f a) := (rfl)
theorem map_none {f : Opd → AVal} : (Option.none).map f = none := (rfl)
theorem bound_nat {k : IntKind} {a b : Nat} (h : a ≤ b) : bound (.int k (a : Int)) b = some a := by
  show (match Nat.ble a b with | true => some a | false => none) = some a
  rw [Nat.ble_eq_true_of_le h]
theorem code_cut {l : List UInt8} {lo hi : Nat} (h : lo ≤ hi) (h' : hi ≤ l.length) : (hi - lo = ((l.drop lo).take (hi - lo)).length) ∧ scut (codeOf l) lo hi = codeOf ((l.drop lo).take (hi - lo)) := by
  refine ⟨by simp; omega, ?_⟩
  rw [scut_eq, codeOf_take, codeOf_drop]
theorem sub_both {l : List UInt8} {lo hi : Nat} {k k' : IntKind} (h : lo ≤ hi) (h' : hi ≤ l.length) : subK (.str l.length (codeOf l)) (some (.int k (lo : Int))) (some (.int k' (hi : Int))) = some (.str ((l.drop lo).take (hi - lo)).length (codeOf ((l.drop lo).take (hi - lo)))) := by
  simp only [subK, bound_nat h', bound_nat h]
  rw [(code_cut h h').2, ← (code_cut h h').1]
theorem sub_lo {l : List UInt8} {lo : Nat} {k : IntKind} (h : lo ≤ l.length) : subK (.str l.length (codeOf l)) (some (.int k (lo : Int))) none = some (.str (l.drop lo).length (codeOf (l.drop lo))) := by
  have e := code_cut h (Nat.le_refl _)
  have e3 : (l.drop lo).take (l.length - lo) = l.drop lo := by rw [← List.length_drop, List.take_length]
  rw [e3] at e
  simp only [subK, bound_nat h]
  rw [e.2, e.1]
theorem sub_hi {l : List UInt8} {hi : Nat} {k : IntKind} (h : hi ≤ l.length) : subK (.str l.length (codeOf l)) none (some (.int k (hi : Int))) = some (.str (l.take hi).length (codeOf (l.take hi))) := by
  have e := code_cut (Nat.zero_le hi) h
  simp only [subK, bound_nat h]
  rw [e.2]
  simp only [List.drop_zero, Nat.sub_zero] at e ⊢
  rw [← e.1]

/-! a second look -/
def agK (o : Option AVal) (w : AVal) (kv : AVal → Heap → Prop) (H : Heap) : Prop := match o with
  | some v => match same v w with
    | true => kv (.tup []) H
    | false => False
  | none => False
theorem r_again1 {call : Nat → List AVal → Heap → (AVal → Heap → Prop) → Prop} {vs ts : List AVal} {H : Heap} {kv : AVal → Heap → Prop} {x y : Opd} : evI AP call (.again1 x y) vs ts H kv = agK (rd1 H (x.get vs ts)) (y.get vs ts) kv H := by
  simp only [evI, rd1, rdC1]
  generalize x.get vs ts = X
  cases X with
  | ptr b r c =>
    simp only
    cases H.get b with
    | dead => rfl
    | obj o => rfl
    | ro l => rfl
    | rows z l =>
      simp only
      cases rget l r with
      | none => rfl
      | some row =>
        simp only
        rcases cut row c 1 with _ | q
        · rfl
        · rcases q with _ | ⟨q, q'⟩
          · rfl
          · simp only [agK]; cases same q (y.get vs ts) <;> rfl
  | gp g c =>
    simp only [rdG1]
    rcases gcut H.gl g c 1 with _ | q
    · rfl
    · rcases q with _ | ⟨q, q'⟩
      · rfl
      · simp only [agK]; cases same q (y.get vs ts) <;> rfl
  | _ => rfl
theorem r_againN {call : Nat → List AVal → Heap → (AVal → Heap → Prop) → Prop} {vs ts : List AVal} {H : Heap} {kv : AVal → Heap → Prop} {x y : Opd} {n : Nat} : evI AP call (.againN n x y) vs ts H kv = agK (rdN n H (x.get vs ts)) (y.get vs ts) kv H := by
  simp only [evI, rdN, rdCN]
  generalize x.get vs ts = X
  cases X with
  | ptr b r c =>
    simp only
    cases H.get b with
    | dead => rfl
    | obj o => rfl
    | ro l => rfl
    | rows z l =>
      simp only
      cases rget l r with
      | none => rfl
      | some row =>
        simp only
        rcases cut row c n with _ | q
        · rfl
        · simp only [agK]; cases same (.agg q) (y.get vs ts) <;> rfl
  | gp g c =>
    simp only [rdGN]
    rcases gcut H.gl g c n with _ | q
    · rfl
    · simp only [agK]; cases same (.agg q) (y.get vs ts) <;> rfl
  | _ => rfl
theorem ag_int {k : IntKind} {n : Int} {kv : AVal → Heap → Prop} {H : Heap} : agK (some (.int k n)) (.int k n) kv H = kv (.tup []) H := by
  simp only [agK, same, same1, decide_true, ieq_eq, beq_self_eq_true, Bool.and_self]
theorem ag_bool {b : Bool} {kv : AVal → Heap → Prop} {H : Heap} : agK (some (.bool b)) (.bool b) kv H = kv (.tup []) H := by
  cases b <;> rfl
theorem ag_str {n c : Nat} {kv : AVal → Heap → Prop} {H : Heap} : agK (some (.str n c)) (.str n c) kv H = kv (.tup []) H := by
  simp only [agK, same, same1]
  rw [show Nat.beq n n = true from by rw [Nat.beq_eq], show Nat.beq c c = true from by rw [Nat.beq_eq]]
  rfl
theorem ag_agg {l : List AVal} {kv : AVal → Heap → Prop} {H : Heap} (h : sameL l l = true) : agK (some (.agg l)) (.agg l) kv H = kv (.tup []) H := by
  simp only [agK, same, h]
theorem same1_int {k : IntKind} {n : Int} : same1 (.int k n) (.int k n) = true := by simp only [same1, decide_true, ieq_eq, beq_self_eq_true, Bool.and_self]
theorem same1_str {n c : Nat} : same1 (.str n c) (.str n c) = true := by
  simp only [same1]
  rw [show Nat.beq n n = true from by rw [Nat.beq_eq], show Nat.beq c c = true from by rw [Nat.beq_eq]]
  rfl

/-! slices of slices -/
def bnd (len cap : Nat) (lo hi : Option AVal) : Option (Nat × Nat) := match (match hi with | none => some len | some h => bound h cap) with
  | none => none
  | some h => match (match lo with | none => some 0 | some l => bound l h) with
    | none => none
    | some l => some (l, h)
theorem bnd_eq {vs ts : List AVal} {len cap : Nat} {lo hi : Option Opd} : bounds vs ts len cap lo hi = bnd len cap (lo.map fun a => a.get vs ts) (hi.map fun a => a.get vs ts) := by
  cases lo <;> cases hi <;> rfl
def slV (z : Nat) (x : AVal) (lo hi : Option AVal) : Option AVal := match x with
  | .slc b r len cap z' => match Nat.beq z' z with
    | false => none
    | true => match cap with
      | some cp => match bnd len cp lo hi with
        | some (l, h) => some (.slc b (r + l) (h - l) (some (cp - l)) z')
        | none => none
      | none => match bnd len len lo hi with
        | some (l, h) => some (.slc b (r + l) (h - l) none z')
        | none => none
  | .nils => match bnd 0 0 lo hi with
    | some _ => some .nils
    | none => none
  | _ => none
theorem r_slcS {call : Nat → List AVal → Heap → (AVal → Heap → Prop) → Prop} {vs ts : List AVal} {H : Heap} {kv : AVal → Heap → Prop} {x : Opd} {z : Nat} {lo hi : Option Opd} : evI AP call (.slcS z x lo hi none) vs ts H kv = optK (slV z (x.get vs ts) (lo.map fun a => a.get vs ts) (hi.map fun a => a.get vs ts)) kv H := by
  simp only [evI, slV, bnd_eq, fN_eq]
  generalize x.get vs ts = X
  cases X with
  | slc b r len cap z' =>
    simp only
    cases Nat.beq z' z with
    | false => rfl
    | true =>
      cases cap with
      | none =>
        simp only
        cases bnd len len (lo.map fun a => a.get vs ts) (hi.map fun a => a.get vs ts) <;> rfl
      | some cp =>
        simp only
        cases bnd len cp (lo.map fun a => a.get vs ts) (hi.map fun a => a.get vs ts) <;> rfl
  | nils =>
    simp only
    cases bnd 0 0 (lo.map fun a => a.get vs ts) (hi.map fun a => a.get vs ts) <;> rfl
  | _ => rfl
theorem slV_hi {z b r len h : Nat} {k : IntKind} (hh : h ≤ len) : slV z (.slc b r len none z) none (some (.int k (h : Int))) = some (.slc b r h none z) := by
  simp only [slV, bnd, bound_nat hh]
  rw [show Nat.beq z z = true from by rw [Nat.beq_eq]]
  rfl
theorem slV_hic {z b r len h c : Nat} {k : IntKind} (hh : h ≤ c) : slV z (.slc b r len (some c) z) none (some (.int k (h : Int))) = some (.slc b r h (some c) z) := by
  simp only [slV, bnd, bound_nat hh]
  rw [show Nat.beq z z = true from by rw [Nat.beq_eq]]
  rfl
/-- An owned slice made shorter. -/
theorem Sl.short {F : Fr} {H : Heap} {b z : Nat} {rows : List (List AVal)} {x : List AVal} (h : Sl F H (.slc b 0 (rows.length + 1) none z) z (rows ++ [x])) : Sl F H (.slc b 0 rows.length none z) z rows := by
  rcases h with ⟨e, _⟩ | ⟨c, R, e, hlt, hFb, hR, hrows⟩
  · cases e
  · simp only [AVal.slc.injEq] at e
    obtain ⟨rfl, _⟩ := e
    refine Or.inr ⟨_, R, rfl, hlt, hFb, hR, ?_⟩
    have := congrArg (List.take rows.length) hrows
    rw [List.take_take] at this
    simpa using this

theorem v_pnn : binP .eql .nilp .nilp = some (.bool true) := (rfl)
theorem v_ppn {b r c : Nat} : binP .eql (.ptr b r c) .nilp = some (.bool false) := (rfl)
theorem v_qnn : binP .neq .nilp .nilp = some (.bool false) := (rfl)
theorem v_qpn {b r c : Nat} : binP .neq (.ptr b r c) .nilp = some (.bool true) := (rfl)

theorem fillR_0 {vs ts : List AVal} {z : Nat} {rows : List (List AVal)} : fillR vs ts z rows [] = some rows := (rfl)
def fillRK (vs ts : List AVal) (z : Nat) (rows : List (List AVal)) (i : Nat) (o : Option (List AVal)) (rest : List (Nat × Opd)) : Option (List (List AVal)) := match o with
  | none => none
  | some cs => match Nat.beq (llen cs) z && Nat.blt i (rlen rows) with
    | true => fillR vs ts z (rset rows i cs) rest
    | false => none
theorem fillR_s {vs ts : List AVal} {z : Nat} {rows : List (List AVal)} {i : Nat} {x : Opd} {rest : List (Nat × Opd)} : fillR vs ts z rows ((i, x) :: rest) = fillRK vs ts z rows i ((x.get vs ts).cells) rest := (rfl)
theorem fillRK_1 {vs ts : List AVal} {z : Nat} {rows : List (List AVal)} {i : Nat} {cs : List AVal} {rest : List (Nat × Opd)} (h : llen cs = z) (h' : i < rlen rows) : fillRK vs ts z rows i (some cs) rest = fillR vs ts z (rset rows i cs) rest := by
  subst h
  simp only [fillRK]
  rw [show Nat.beq (llen cs) (llen cs) = true from by rw [Nat.beq_eq], show Nat.blt i (rlen rows) = true from by unfold Nat.blt; exact Nat.ble_eq_true_of_le h']
  rfl
theorem rset_0 {x y : List AVal} {R : List (List AVal)} : rset (x :: R) 0 y = y :: R := (rfl)
theorem rset_s {x y : List AVal} {R : List (List AVal)} {i : Nat} : rset (x :: R) (i + 1) y = x :: rset R i y := (rfl)
theorem rlen_0 : rlen [] = 0 := (rfl)
theorem rlen_s {x : List AVal} {R : List (List AVal)} : rlen (x :: R) = rlen R + 1 := (rfl)

theorem v_ext0 {x : AVal} {l : List AVal} : extV (.tup (x :: l)) 0 = some x := (rfl)
theorem v_exts {x : AVal} {l : List AVal} {i : Nat} : extV (.tup (x :: l)) (i + 1) = extV (.tup l) i := (rfl)
end Dt
