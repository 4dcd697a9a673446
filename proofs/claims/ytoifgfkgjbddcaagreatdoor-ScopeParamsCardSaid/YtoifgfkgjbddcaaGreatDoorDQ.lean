/- A part of the abstract machine and of the proof that the program does what it reckons; no conditions. -/
import Derived.Test.YtoifgfkgjbddcaaGreatDoorDa
set_option linter.all false
namespace Dt
namespace Q
open Go
set_option linter.all false
noncomputable section

def fN {R : Type} (n : Nat) (k : Nat → R) : R := Nat.rec (k 0) (fun m _ => k m) (Nat.succ n)
theorem fN_eq {R : Type} (n : Nat) (k : Nat → R) : fN n k = k n := rfl
def fI {R : Type} (n : Int) (k : Int → R) : R := Int.rec (fun m => fN m fun m => k (.ofNat m)) (fun m => fN m fun m => k (.negSucc m)) n
theorem fI_eq {R : Type} (n : Int) (k : Int → R) : fI n k = k n := by
  cases n with
  | ofNat m => exact fN_eq m fun m => k (.ofNat m)
  | negSucc m => exact fN_eq m fun m => k (.negSucc m)
def fB {R : Type} (b : Bool) (k : Bool → R) : R := Bool.rec (k false) (k true) b
theorem fB_eq {R : Type} (b : Bool) (k : Bool → R) : fB b k = k b := by cases b <;> rfl
def fV {R : Type} (v : AVal) (k : AVal → R) : R := match v with
  | .int kk n => fI n fun n => k (.int kk n)
  | .bool b => fB b fun b => k (.bool b)
  | .str n c => fN n fun n => fN c fun c => k (.str n c)
  | .ptr b r c => fN b fun b => fN r fun r => fN c fun c => k (.ptr b r c)
  | .slc b r l cap z => fN b fun b => fN r fun r => fN l fun l => match cap with
    | none => k (.slc b r l none z)
    | some c => fN c fun c => k (.slc b r l (some c) z)
  | v => k v
theorem fV_eq {R : Type} (v : AVal) (k : AVal → R) : fV v k = k v := by
  cases v <;> simp [fV, fN_eq, fI_eq, fB_eq]
  split <;> simp
def fL {α R : Type} (l : List α) : (List α → R) → R := List.rec (fun k => k []) (fun x _ ih k => ih fun l' => k (x :: l')) l
theorem fL_eq {α R : Type} (l : List α) (k : List α → R) : fL l k = k l := by
  induction l generalizing k with
  | nil => rfl
  | cons x l ih => exact ih _
def tget (t : Tr) : Nat → Blk := Tr.rec (fun _ => .dead) (fun _ v _ ihl ihr k => Nat.rec v (fun k _ => Nat.rec (ihl (Nat.div k 2)) (fun _ _ => ihr (Nat.div k 2)) (Nat.mod k 2)) k) t
theorem tget_eq : ∀ (t : Tr) (k : Nat), tget t k = t.get k
  | .nil, _ => rfl
  | .node l v r, 0 => rfl
  | .node l v r, k + 1 => by
    show (Nat.rec (tget l (k / 2)) (fun _ _ => tget r (k / 2)) (k % 2) : Blk) = _
    simp only [Tr.get]
    rcases Nat.mod_two_eq_zero_or_one k with e | e
    · rw [e]; exact tget_eq l _
    · rw [e]; exact tget_eq r _
def tset {R : Type} (f : Nat) : Tr → Nat → Blk → (Tr → R) → R :=
  Nat.rec (fun t _ _ K => K t) (fun _ ih t k x K => Tr.rec
    (Nat.rec (K (.node .nil x .nil)) (fun k _ => Nat.rec (ih .nil (Nat.div k 2) x fun t => K (.node t .dead .nil)) (fun _ _ => ih .nil (Nat.div k 2) x fun t => K (.node .nil .dead t)) (Nat.mod k 2)) k)
    (fun l v r _ _ => Nat.rec (K (.node l x r)) (fun k _ => Nat.rec (ih l (Nat.div k 2) x fun t => K (.node t v r)) (fun _ _ => ih r (Nat.div k 2) x fun t => K (.node l v t)) (Nat.mod k 2)) k) t) f
theorem tset_eq {R : Type} : ∀ (f : Nat) (t : Tr) (k : Nat) (x : Blk) (K : Tr → R), tset f t k x K = K (Tr.set f t k x)
  | 0, _, _, _, _ => rfl
  | f + 1, .nil, 0, x, K => rfl
  | f + 1, .node l v r, 0, x, K => rfl
  | f + 1, .nil, k + 1, x, K => by
    show (Nat.rec (tset f .nil (k / 2) x fun t => K (.node t .dead .nil)) (fun _ _ => tset f .nil (k / 2) x fun t => K (.node .nil .dead t)) (k % 2) : R) = _
    simp only [Tr.set]
    rcases Nat.mod_two_eq_zero_or_one k with e | e
    · rw [e]; exact tset_eq f _ _ _ _
    · rw [e]; exact tset_eq f _ _ _ _
  | f + 1, .node l v r, k + 1, x, K => by
    show (Nat.rec (tset f l (k / 2) x fun t => K (.node t v r)) (fun _ _ => tset f r (k / 2) x fun t => K (.node l v t)) (k % 2) : R) = _
    simp only [Tr.set]
    rcases Nat.mod_two_eq_zero_or_one k with e | e
    · rw [e]; exact tset_eq f _ _ _ _
    · rw [e]; exact tset_eq f _ _ _ _
def hget (H : Heap) (b : Nat) : Blk := Heap.rec (fun _ tr _ => tget tr b) H
theorem hget_eq (H : Heap) (b : Nat) : hget H b = H.get b := tget_eq H.tr b
def hAdd {R : Type} (H : Heap) (x : Blk) (K : Nat → Heap → R) : R := Heap.rec (fun next tr gl => fN (Nat.add next 1) fun n => tset n tr next x fun t => K next ⟨n, t, gl⟩) H
theorem hAdd_eq {R : Type} (H : Heap) (x : Blk) (K : Nat → Heap → R) : hAdd H x K = Dt.hAdd H x K := by
  rw [Dt.hAdd_eq]
  obtain ⟨next, tr, gl⟩ := H
  show fN (next + 1) (fun n => tset n tr next x fun t => K next ⟨n, t, gl⟩) = _
  rw [fN_eq, tset_eq]
  rfl
def hPut {R : Type} (H : Heap) (b : Nat) (x : Blk) (K : Heap → R) : R := Heap.rec (fun next tr gl => tset (Nat.add b 1) tr b x fun t => K ⟨next, t, gl⟩) H
theorem hPut_eq {R : Type} (H : Heap) (b : Nat) (x : Blk) (K : Heap → R) : hPut H b x K = Dt.hPut H b x K := by
  rw [Dt.hPut_eq]
  obtain ⟨next, tr, gl⟩ := H
  show tset (b + 1) tr b x (fun t => K ⟨next, t, gl⟩) = _
  rw [tset_eq]
  rfl
def lget (l : List AVal) : Nat → AVal := List.rec (fun _ => .tup []) (fun x _ ih k => Nat.rec x (fun k _ => ih k) k) l
theorem lget_eq : ∀ (l : List AVal) (k : Nat), lget l k = Dt.lget l k
  | [], _ => rfl
  | _ :: _, 0 => rfl
  | _ :: l, k + 1 => lget_eq l k
def lsetK {R : Type} (l : List AVal) (k : Nat) (v : AVal) (K : List AVal → R) : R := List.rec (motive := fun _ => Nat → (List AVal → R) → R) (fun _ K => K []) (fun x l ih k K => Nat.rec (K (v :: l)) (fun k _ => ih k fun l' => K (x :: l')) k) l k K
theorem lsetK_eq {R : Type} (v : AVal) : ∀ (l : List AVal) (k : Nat) (K : List AVal → R), lsetK l k v K = K (lset l k v)
  | [], _, _ => rfl
  | _ :: _, 0, _ => rfl
  | _ :: l, k + 1, K => lsetK_eq v l k _
def rget (l : List (List AVal)) : Nat → Option (List AVal) := List.rec (fun _ => none) (fun x _ ih k => Nat.rec (some x) (fun k _ => ih k) k) l
theorem rget_eq : ∀ (l : List (List AVal)) (k : Nat), rget l k = Dt.rget l k
  | [], _ => rfl
  | _ :: _, 0 => rfl
  | _ :: l, k + 1 => rget_eq l k
def rsetK {R : Type} (l : List (List AVal)) (k : Nat) (v : List AVal) (K : List (List AVal) → R) : R := List.rec (motive := fun _ => Nat → (List (List AVal) → R) → R) (fun _ K => K []) (fun x l ih k K => Nat.rec (K (v :: l)) (fun k _ => ih k fun l' => K (x :: l')) k) l k K
theorem rsetK_eq {R : Type} (v : List AVal) : ∀ (l : List (List AVal)) (k : Nat) (K : List (List AVal) → R), rsetK l k v K = K (rset l k v)
  | [], _, _ => rfl
  | _ :: _, 0, _ => rfl
  | _ :: l, k + 1, K => rsetK_eq v l k _
def spliceK {R : Type} (l : List AVal) : Nat → List AVal → (List AVal → R) → R := List.rec (fun _ _ K => K []) (fun x l ih c new K => Nat.rec (List.rec (K (x :: l)) (fun y new _ => ih 0 new fun l' => K (y :: l')) new) (fun c _ => ih c new fun l' => K (x :: l')) c) l
theorem spliceK_eq {R : Type} : ∀ (l : List AVal) (c : Nat) (new : List AVal) (K : List AVal → R), spliceK l c new K = K (splice l c new)
  | [], _, _, _ => rfl
  | _ :: _, 0, [], _ => rfl
  | _ :: l, 0, y :: new, K => spliceK_eq l 0 new _
  | _ :: l, c + 1, new, K => spliceK_eq l c new _
def llen (l : List AVal) : Nat := List.rec 0 (fun _ _ ih => Nat.succ ih) l
theorem llen_eq : ∀ (l : List AVal), llen l = Dt.llen l
  | [] => rfl
  | _ :: l => congrArg Nat.succ (llen_eq l)
def rlen (l : List (List AVal)) : Nat := List.rec (motive := fun _ => Nat → Nat) (fun n => n) (fun _ _ ih n => fN (Nat.add n 1) ih) l 0
theorem rlen_aux : ∀ (l : List (List AVal)) (n : Nat), (List.rec (motive := fun _ => Nat → Nat) (fun n => n) (fun _ _ ih n => fN (Nat.add n 1) ih) l n : Nat) = n + Dt.rlen l
  | [], _ => rfl
  | _ :: l, n => by
    show fN (n + 1) _ = _
    rw [fN_eq, rlen_aux l (n + 1)]
    simp only [Dt.rlen]
    omega
theorem rlen_eq (l : List (List AVal)) : rlen l = Dt.rlen l := by
  have := rlen_aux l 0
  rw [Nat.zero_add] at this
  exact this
def cutK {R : Type} (F : R) (l : List AVal) : Nat → Nat → (List AVal → R) → R := List.rec
  (fun c n K => Nat.rec (Nat.rec (K []) (fun _ _ => F) n) (fun _ _ => Nat.rec F (fun _ _ => F) n) c)
  (fun x _ ih c n K => Nat.rec (Nat.rec (K []) (fun n _ => ih 0 n fun r => K (x :: r)) n) (fun c _ => ih c n K) c) l
theorem cutK_eq {R : Type} (F : R) : ∀ (l : List AVal) (c n : Nat) (K : List AVal → R), cutK F l c n K = match cut l c n with | some cs => K cs | none => F
  | [], 0, 0, _ => rfl
  | [], 0, _ + 1, _ => rfl
  | [], _ + 1, 0, _ => rfl
  | [], _ + 1, _ + 1, _ => rfl
  | x :: l, 0, 0, _ => rfl
  | x :: l, 0, n + 1, K => by
    show cutK F l 0 n (fun r => K (x :: r)) = _
    rw [cutK_eq F l 0 n]
    simp only [cut]
    cases cut l 0 n <;> rfl
  | x :: l, c + 1, n, K => by
    show cutK F l c n K = _
    rw [cutK_eq F l c n]
    cases n <;> simp only [cut]

def cut (l : List AVal) : Nat → Nat → Option (List AVal) := List.rec
  (fun c n => Nat.rec (Nat.rec (some []) (fun _ _ => none) n) (fun _ _ => none) c)
  (fun x _ ih c n => Nat.rec (Nat.rec (some []) (fun n _ => Option.rec none (fun r => some (x :: r)) (ih 0 n)) n) (fun c _ => ih c n) c) l
theorem cut_eq : ∀ (l : List AVal) (c n : Nat), cut l c n = Dt.cut l c n
  | [], 0, 0 => rfl
  | [], 0, _ + 1 => rfl
  | [], _ + 1, 0 => rfl
  | [], _ + 1, _ + 1 => rfl
  | x :: l, 0, 0 => rfl
  | x :: l, 0, n + 1 => by
    show (Option.rec none (fun r => some (x :: r)) (cut l 0 n) : Option (List AVal)) = _
    rw [cut_eq l 0 n]
    simp only [Dt.cut]
    cases Dt.cut l 0 n <;> rfl
  | x :: l, c + 1, n => by
    show cut l c n = _
    rw [cut_eq l c n]
    cases n <;> simp only [Dt.cut]
def rtake (l : List (List AVal)) : Nat → Nat → Option (List (List AVal)) := List.rec
  (fun c n => Nat.rec (Nat.rec (some []) (fun _ _ => none) n) (fun _ _ => none) c)
  (fun x _ ih c n => Nat.rec (Nat.rec (some []) (fun n _ => Option.rec none (fun r => some (x :: r)) (ih 0 n)) n) (fun c _ => ih c n) c) l
theorem rtake_eq : ∀ (l : List (List AVal)) (c n : Nat), rtake l c n = Dt.rtake l c n
  | [], 0, 0 => rfl
  | [], 0, _ + 1 => rfl
  | [], _ + 1, 0 => rfl
  | [], _ + 1, _ + 1 => rfl
  | x :: l, 0, 0 => rfl
  | x :: l, 0, n + 1 => by
    show (Option.rec none (fun r => some (x :: r)) (rtake l 0 n) : Option (List (List AVal))) = _
    rw [rtake_eq l 0 n]
    simp only [Dt.rtake]
    cases Dt.rtake l 0 n <;> rfl
  | x :: l, c + 1, n => by
    show rtake l c n = _
    rw [rtake_eq l c n]
    cases n <;> simp only [Dt.rtake]
def rspliceK {R : Type} (l : List (List AVal)) : Nat → List (List AVal) → (List (List AVal) → R) → R := List.rec (fun _ _ K => K []) (fun x l ih c new K => Nat.rec (List.rec (K (x :: l)) (fun y new _ => ih 0 new fun l' => K (y :: l')) new) (fun c _ => ih c new fun l' => K (x :: l')) c) l
theorem rspliceK_eq {R : Type} : ∀ (l : List (List AVal)) (c : Nat) (new : List (List AVal)) (K : List (List AVal) → R), rspliceK l c new K = K (rsplice l c new)
  | [], _, _, _ => rfl
  | _ :: _, 0, [], _ => rfl
  | _ :: l, 0, y :: new, K => rspliceK_eq l 0 new _
  | _ :: l, c + 1, new, K => rspliceK_eq l c new _
def appK {α R : Type} (l m : List α) (K : List α → R) : R := List.rec (motive := fun _ => (List α → R) → R) (fun K => K m) (fun x _ ih K => ih fun l' => K (x :: l')) l K
theorem appK_eq {α R : Type} (m : List α) : ∀ (l : List α) (K : List α → R), appK l m K = K (l ++ m)
  | [], _ => rfl
  | _ :: l, K => appK_eq m l _
def sameL (l : List AVal) : List AVal → Bool := List.rec (fun m => List.rec true (fun _ _ _ => false) m) (fun x _ ih m => List.rec false (fun y m _ => Bool.rec false (ih m) (same1 x y)) m) l
theorem sameL_eq : ∀ l m : List AVal, sameL l m = Dt.sameL l m
  | [], [] => rfl
  | [], _ :: _ => rfl
  | _ :: _, [] => rfl
  | x :: l, y :: m => by
    show (Bool.rec false (sameL l m) (same1 x y) : Bool) = (same1 x y && Dt.sameL l m)
    rw [sameL_eq l m]
    cases same1 x y <;> rfl
def same (x y : AVal) : Bool := match x, y with
  | .agg l, .agg m => sameL l m
  | .tup l, .tup m => sameL l m
  | x, y => same1 x y
theorem same_eq (x y : AVal) : same x y = Dt.same x y := by
  unfold same Dt.same
  simp only [sameL_eq]
  rfl
/-- A value is reckoned to its form. -/
def fA {R : Type} (v : AVal) (k : AVal → R) : R := match v with
  | .bool b => k (.bool b)
  | .int i n => k (.int i n)
  | .str n c => k (.str n c)
  | .ptr b r c => k (.ptr b r c)
  | .nilp => k .nilp
  | .slc b r l c z => k (.slc b r l c z)
  | .nils => k .nils
  | .fn f a c => k (.fn f a c)
  | .nilf => k .nilf
  | .iface t v => k (.iface t v)
  | .nili => k .nili
  | .mp b => k (.mp b)
  | .nilm => k .nilm
  | .agg l => k (.agg l)
  | .tup l => k (.tup l)
  | .gp g c => k (.gp g c)
  | .yl b => k (.yl b)
  | .un => k .un
theorem fA_eq {R : Type} (v : AVal) (k : AVal → R) : fA v k = k v := by cases v <;> rfl
def oget (vs ts : List AVal) (x : Opd) : AVal := Opd.rec (fun i => lget vs i) (fun i => lget ts i) (fun v => v) x
theorem oget_eq (vs ts : List AVal) (x : Opd) : oget vs ts x = x.get vs ts := by
  cases x
  · exact lget_eq _ _
  · exact lget_eq _ _
  · rfl
def opdsK {R : Type} (vs ts : List AVal) (l : List Opd) (K : List AVal → R) : R := List.rec (motive := fun _ => (List AVal → R) → R) (fun K => K []) (fun x _ ih K => fA (oget vs ts x) fun v => ih fun l' => K (v :: l')) l K
theorem opdsK_eq {R : Type} (vs ts : List AVal) : ∀ (l : List Opd) (K : List AVal → R), opdsK vs ts l K = K (opds vs ts l)
  | [], _ => rfl
  | x :: l, K => by
    show fA (oget vs ts x) (fun v => opdsK vs ts l fun l' => K (v :: l')) = _
    rw [fA_eq, opdsK_eq vs ts l, oget_eq]
    rfl
def fillP (vs ts : List AVal) (row : List AVal) (parts : List (Nat × Nat × Opd)) : Option (List AVal) := List.rec (motive := fun _ => List AVal → Option (List AVal)) (fun row => some row)
  (fun p _ ih row => match (oget vs ts p.2.2).cells with
    | none => none
    | some cs => match Nat.beq (llen cs) p.2.1 && Nat.ble (Nat.add p.1 p.2.1) (llen row) with
      | true => spliceK row p.1 cs ih
      | false => none) parts row
theorem fillP_eq (vs ts : List AVal) : ∀ (parts : List (Nat × Nat × Opd)) (row : List AVal), fillP vs ts row parts = Dt.fillP vs ts row parts
  | [], _ => rfl
  | (off, n, x) :: parts, row => by
    show (match (oget vs ts x).cells with
      | none => none
      | some cs => match Nat.beq (llen cs) n && Nat.ble (Nat.add off n) (llen row) with
        | true => spliceK row off cs fun row => fillP vs ts row parts
        | false => none) = _
    rw [oget_eq]
    simp only [Dt.fillP, llen_eq, spliceK_eq, fillP_eq vs ts parts]
    rfl
def fillR (vs ts : List AVal) (esz : Nat) (rows : List (List AVal)) (parts : List (Nat × Opd)) : Option (List (List AVal)) := List.rec (motive := fun _ => List (List AVal) → Option (List (List AVal))) (fun rows => some rows)
  (fun p _ ih rows => match (oget vs ts p.2).cells with
    | none => none
    | some cs => match Nat.beq (llen cs) esz && Nat.blt p.1 (rlen rows) with
      | true => rsetK rows p.1 cs ih
      | false => none) parts rows
theorem fillR_eq (vs ts : List AVal) (esz : Nat) : ∀ (parts : List (Nat × Opd)) (rows : List (List AVal)), fillR vs ts esz rows parts = Dt.fillR vs ts esz rows parts
  | [], _ => rfl
  | (i, x) :: parts, rows => by
    show (match (oget vs ts x).cells with
      | none => none
      | some cs => match Nat.beq (llen cs) esz && Nat.blt i (rlen rows) with
        | true => rsetK rows i cs fun rows => fillR vs ts esz rows parts
        | false => none) = _
    rw [oget_eq]
    simp only [Dt.fillR, llen_eq, rlen_eq, rsetK_eq, fillR_eq vs ts esz parts]
    rfl
def rowsOf (H : Heap) (esz : Nat) (x : AVal) : Option (List (List AVal)) := match x with
  | .nils => some []
  | .slc b r len _ z => match Nat.beq z esz with
    | false => none
    | true => match len with
      | 0 => some []
      | len + 1 => match hget H b with
        | .rows _ l => rtake l r (len + 1)
        | .ro l => rtake l r (len + 1)
        | _ => none
  | _ => none
theorem rowsOf_eq (H : Heap) (esz : Nat) (x : AVal) : rowsOf H esz x = Dt.rowsOf H esz x := by
  unfold rowsOf Dt.rowsOf
  simp only [hget_eq, rtake_eq]
  rfl
def bounds (vs ts : List AVal) (len cap : Nat) (lo hi : Option Opd) : Option (Nat × Nat) :=
  match (match hi with | none => some len | some h => bound (oget vs ts h) cap) with
  | none => none
  | some h => match (match lo with | none => some 0 | some l => bound (oget vs ts l) h) with
    | none => none
    | some l => some (l, h)
theorem bounds_eq (vs ts : List AVal) (len cap : Nat) (lo hi : Option Opd) : bounds vs ts len cap lo hi = Dt.bounds vs ts len cap lo hi := by
  unfold bounds Dt.bounds
  simp only [oget_eq]
  rfl
def mfind (kk : Nat) (k : AVal) (l : List (AVal × AVal)) : Nat → Option (Option (Nat × AVal)) := List.rec (fun _ => match goodKey kk k with | true => some none | false => none)
  (fun e _ ih i => match eqKey kk k e.1 with
    | none => none
    | some b => Bool.rec (fN (Nat.add i 1) ih) (some (some (i, e.2))) b) l
theorem mfind_eq (kk : Nat) (k : AVal) : ∀ (l : List (AVal × AVal)) (i : Nat), mfind kk k l i = Dt.mfind kk k l i
  | [], _ => rfl
  | e :: l, i => by
    show (match eqKey kk k e.1 with
      | none => none
      | some b => Bool.rec (fN (Nat.add i 1) (mfind kk k l)) (some (some (i, e.2))) b) = _
    simp only [Dt.mfind]
    cases eqKey kk k e.1 with
    | none => rfl
    | some b => cases b with
      | true => rfl
      | false =>
        show fN (i + 1) (mfind kk k l) = _
        rw [fN_eq]
        exact mfind_eq kk k l (i + 1)
def msetK {R : Type} (l : List (AVal × AVal)) (i : Nat) (x : AVal) (K : List (AVal × AVal) → R) : R := List.rec (motive := fun _ => Nat → (List (AVal × AVal) → R) → R) (fun _ K => K []) (fun e l ih i K => Nat.rec (Prod.rec (fun k _ => K ((k, x) :: l)) e) (fun i _ => ih i fun l' => K (e :: l')) i) l i K
theorem msetK_eq {R : Type} (x : AVal) : ∀ (l : List (AVal × AVal)) (i : Nat) (K : List (AVal × AVal) → R), msetK l i x K = K (mset l i x)
  | [], _, _ => rfl
  | (_, _) :: _, 0, _ => rfl
  | (_, _) :: l, i + 1, K => msetK_eq x l i _
def maddK {R : Type} (l : List (AVal × AVal)) (k v : AVal) (K : List (AVal × AVal) → R) : R := List.rec (motive := fun _ => (List (AVal × AVal) → R) → R) (fun K => K [(k, v)]) (fun e _ ih K => ih fun l' => K (e :: l')) l K
theorem maddK_eq {R : Type} (k v : AVal) : ∀ (l : List (AVal × AVal)) (K : List (AVal × AVal) → R), maddK l k v K = K (madd l k v)
  | [], _ => rfl
  | _ :: l, K => maddK_eq k v l _
def mlen (l : List (AVal × AVal)) : Nat := List.rec (motive := fun _ => Nat → Nat) (fun n => n) (fun _ _ ih n => fN (Nat.add n 1) ih) l 0
theorem mlen_aux : ∀ (l : List (AVal × AVal)) (n : Nat), (List.rec (motive := fun _ => Nat → Nat) (fun n => n) (fun _ _ ih n => fN (Nat.add n 1) ih) l n : Nat) = n + Dt.mlen l
  | [], _ => rfl
  | _ :: l, n => by
    show fN (n + 1) _ = _
    rw [fN_eq, mlen_aux l (n + 1)]
    simp only [Dt.mlen]
    omega
theorem mlen_eq (l : List (AVal × AVal)) : mlen l = Dt.mlen l := by
  have := mlen_aux l 0
  rw [Nat.zero_add] at this
  exact this
def mget (l : List (AVal × AVal)) : Nat → Option (AVal × AVal) := List.rec (fun _ => none) (fun x _ ih k => Nat.rec (some x) (fun k _ => ih k) k) l
theorem mget_eq : ∀ (l : List (AVal × AVal)) (k : Nat), mget l k = Dt.mget l k
  | [], _ => rfl
  | _ :: _, 0 => rfl
  | _ :: l, k + 1 => mget_eq l k
def mapOf (H : Heap) (x : AVal) : Option (List (AVal × AVal)) := match x with
  | .nilm => some []
  | .mp b => match hget H b with
    | .obj (.map l) => some l
    | _ => none
  | _ => none
theorem mapOf_eq (H : Heap) (x : AVal) : mapOf H x = Dt.mapOf H x := by
  unfold mapOf Dt.mapOf
  simp only [hget_eq]
  rfl
section
variable {R : Type}
def doAppend (A : Alg R) (esz bytes : Nat) (x y : AVal) (H : Heap) (K : AVal → Heap → R) : R :=
  match rowsOf H esz y with
  | none => A.fail
  | some new =>
    match x with
    | .nils => match new with
      | [] => K .nils H
      | _ => match Nat.ble (Nat.mul (rlen new) bytes) 1000000000 with
        | false => A.fail
        | true => fN (rlen new) fun n => hAdd H (.rows esz new) fun b H => K (.slc b 0 n none esz) H
    | .slc b r len cap z => match Nat.beq z esz && Nat.ble (Nat.mul (Nat.add len (rlen new)) bytes) 1000000000 with
      | false => A.fail
      | true => match rowsOf H esz x with
        | none => A.fail
        | some old => match cap with
          | some c => match Nat.ble (Nat.add len (rlen new)) c with
            | true => match new with
              | [] => K x H
              | _ => match hget H b with
                | .rows z' l => match Nat.ble (Nat.add r (Nat.add len (rlen new))) (rlen l) with
                  | true => fL (rsplice l (Nat.add r len) new) fun l => hPut H b (.rows z' l) fun H => fN (Nat.add len (rlen new)) fun n => K (.slc b r n cap z) H
                  | false => A.fail
                | _ => A.fail
            | false => appK old new fun l => fN (rlen l) fun n => hAdd H (.rows esz l) fun b H => K (.slc b 0 n none esz) H
          | none => match new with
            | [] => K x H
            | _ => match hget H b with
              | .rows z' l => match Nat.ble (Nat.add r (Nat.add len (rlen new))) (rlen l) with
                | true => fL (rsplice l (Nat.add r len) new) fun l => hPut H b (.rows z' l) fun H => fN (Nat.add len (rlen new)) fun n => K (.slc b r n none z) H
                | false => appK old new fun l => fN (rlen l) fun n => hPut H b .dead fun H => hAdd H (.rows esz l) fun b H => K (.slc b 0 n none esz) H
              | _ => A.fail
    | _ => A.fail
theorem doAppend_eq (A : Alg R) (esz bytes : Nat) (x y : AVal) (H : Heap) (K : AVal → Heap → R) : doAppend A esz bytes x y H K = Dt.doAppend A esz bytes x y H K := by
  unfold doAppend Dt.doAppend
  (simp only [fN_eq, fI_eq, fB_eq, fV_eq, Dt.fN_eq, Dt.fI_eq, Dt.fB_eq, Dt.fV_eq, fL_eq, Dt.fL_eq, hget_eq, hAdd_eq, hPut_eq, Dt.hAdd_eq, Dt.hPut_eq, lget_eq, lsetK_eq, rget_eq, rsetK_eq, spliceK_eq, llen_eq, rlen_eq, cut_eq, rtake_eq, rspliceK_eq, appK_eq, same_eq, fA_eq, oget_eq, opdsK_eq, fillP_eq, fillR_eq, rowsOf_eq, bounds_eq, mfind_eq, msetK_eq, maddK_eq, mlen_eq, mget_eq, mapOf_eq]) <;> rfl
def doStore (A : Alg R) (n : Nat) (X V : AVal) (H : Heap) (K : Heap → R) : R := match X with
  | .ptr b r c => match V.cells with
    | none => A.fail
    | some cs => match hget H b with
      | .rows z l => match rget l r with
        | some row => match Nat.beq (llen cs) n && Nat.ble (Nat.add c n) (llen row) with
          | true => spliceK row c cs fun row => rsetK l r row fun l => hPut H b (.rows z l) K
          | false => A.fail
        | none => A.fail
      | _ => A.fail
  | _ => A.fail
theorem doStore_eq (A : Alg R) (n : Nat) (X V : AVal) (H : Heap) (K : Heap → R) : doStore A n X V H K = Dt.doStore A n X V H K := by
  unfold doStore Dt.doStore
  (simp only [fN_eq, fI_eq, fB_eq, fV_eq, Dt.fN_eq, Dt.fI_eq, Dt.fB_eq, Dt.fV_eq, fL_eq, Dt.fL_eq, hget_eq, hAdd_eq, hPut_eq, Dt.hAdd_eq, Dt.hPut_eq, lget_eq, lsetK_eq, rget_eq, rsetK_eq, spliceK_eq, llen_eq, rlen_eq, cut_eq, rtake_eq, rspliceK_eq, appK_eq, same_eq, fA_eq, oget_eq, opdsK_eq, fillP_eq, fillR_eq, rowsOf_eq, bounds_eq, mfind_eq, msetK_eq, maddK_eq, mlen_eq, mget_eq, mapOf_eq]) <;> rfl
def o_build (A : Alg R) (call : Nat → List AVal → Heap → (AVal → Heap → R) → R) (zero : List AVal) (parts : List (Nat × Nat × Opd)) (vs ts : List AVal) (H : Heap) (K : AVal → Heap → R) : R := match fillP vs ts zero parts with
    | some l => K (.agg l) H
    | none => A.fail
theorem o_build_eq (A : Alg R) (call : Nat → List AVal → Heap → (AVal → Heap → R) → R) (zero : List AVal) (parts : List (Nat × Nat × Opd)) (vs ts : List AVal) (H : Heap) (K : AVal → Heap → R) : o_build A call zero parts vs ts H K = Dt.evI A call (.build zero parts) vs ts H K := by
  unfold o_build
  (simp only [Dt.evI, fL_eq, Dt.fL_eq, fillP_eq]) <;> rfl
def o_buildS (A : Alg R) (call : Nat → List AVal → Heap → (AVal → Heap → R) → R) (esz : Nat) (rows : List (List AVal)) (parts : List (Nat × Opd)) (vs ts : List AVal) (H : Heap) (K : AVal → Heap → R) : R := match fillR vs ts esz rows parts with
    | some l => hAdd H (.rows esz l) fun b H => fN (rlen l) fun n => K (.slc b 0 n (some n) esz) H
    | none => A.fail
theorem o_buildS_eq (A : Alg R) (call : Nat → List AVal → Heap → (AVal → Heap → R) → R) (esz : Nat) (rows : List (List AVal)) (parts : List (Nat × Opd)) (vs ts : List AVal) (H : Heap) (K : AVal → Heap → R) : o_buildS A call esz rows parts vs ts H K = Dt.evI A call (.buildS esz rows parts) vs ts H K := by
  unfold o_buildS
  (simp only [Dt.evI, fN_eq, Dt.fN_eq, fL_eq, Dt.fL_eq, hAdd_eq, Dt.hAdd_eq, rlen_eq, fillR_eq]) <;> rfl
def o_binB (A : Alg R) (call : Nat → List AVal → Heap → (AVal → Heap → R) → R) (op : BinOp) (x : Opd) (y : Opd) (vs ts : List AVal) (H : Heap) (K : AVal → Heap → R) : R := match binB op (oget vs ts x) (oget vs ts y) with
    | some v => fV v fun v => K v H
    | none => A.fail
theorem o_binB_eq (A : Alg R) (call : Nat → List AVal → Heap → (AVal → Heap → R) → R) (op : BinOp) (x : Opd) (y : Opd) (vs ts : List AVal) (H : Heap) (K : AVal → Heap → R) : o_binB A call op x y vs ts H K = Dt.evI A call (.binB op x y) vs ts H K := by
  unfold o_binB
  (simp only [Dt.evI, fV_eq, Dt.fV_eq, oget_eq]) <;> rfl
def o_binP (A : Alg R) (call : Nat → List AVal → Heap → (AVal → Heap → R) → R) (op : BinOp) (x : Opd) (y : Opd) (vs ts : List AVal) (H : Heap) (K : AVal → Heap → R) : R := match binP op (oget vs ts x) (oget vs ts y) with
    | some v => fV v fun v => K v H
    | none => A.fail
theorem o_binP_eq (A : Alg R) (call : Nat → List AVal → Heap → (AVal → Heap → R) → R) (op : BinOp) (x : Opd) (y : Opd) (vs ts : List AVal) (H : Heap) (K : AVal → Heap → R) : o_binP A call op x y vs ts H K = Dt.evI A call (.binP op x y) vs ts H K := by
  unfold o_binP
  (simp only [Dt.evI, fV_eq, Dt.fV_eq, oget_eq]) <;> rfl
def o_eqAgg (A : Alg R) (call : Nat → List AVal → Heap → (AVal → Heap → R) → R) (neg : Bool) (ks : List Nat) (x : Opd) (y : Opd) (vs ts : List AVal) (H : Heap) (K : AVal → Heap → R) : R := match oget vs ts x, oget vs ts y with
    | .agg l, .agg m => match eqCells ks l m with
      | some b => fB (b != neg) fun b => K (.bool b) H
      | none => A.fail
    | _, _ => A.fail
theorem o_eqAgg_eq (A : Alg R) (call : Nat → List AVal → Heap → (AVal → Heap → R) → R) (neg : Bool) (ks : List Nat) (x : Opd) (y : Opd) (vs ts : List AVal) (H : Heap) (K : AVal → Heap → R) : o_eqAgg A call neg ks x y vs ts H K = Dt.evI A call (.eqAgg neg ks x y) vs ts H K := by
  unfold o_eqAgg
  (simp only [Dt.evI, fB_eq, Dt.fB_eq, oget_eq]) <;> rfl
def o_conv (A : Alg R) (call : Nat → List AVal → Heap → (AVal → Heap → R) → R) (k : IntKind) (x : Opd) (vs ts : List AVal) (H : Heap) (K : AVal → Heap → R) : R := match oget vs ts x with
    | .int _ n => fI (wrapI k n) fun n => K (.int k n) H
    | _ => A.fail
theorem o_conv_eq (A : Alg R) (call : Nat → List AVal → Heap → (AVal → Heap → R) → R) (k : IntKind) (x : Opd) (vs ts : List AVal) (H : Heap) (K : AVal → Heap → R) : o_conv A call k x vs ts H K = Dt.evI A call (.conv k x) vs ts H K := by
  unfold o_conv
  (simp only [Dt.evI, fI_eq, Dt.fI_eq, oget_eq]) <;> rfl
def o_idxA (A : Alg R) (call : Nat → List AVal → Heap → (AVal → Heap → R) → R) (len : Nat) (esz : Nat) (x : Opd) (i : Opd) (vs ts : List AVal) (H : Heap) (K : AVal → Heap → R) : R := match oget vs ts x, oget vs ts i with
    | .ptr b r c, .int _ (.ofNat n) => match Nat.blt n len with
      | true => fN (Nat.add c (Nat.mul n esz)) fun c => K (.ptr b r c) H
      | false => A.fail
    | .gp g c, .int _ (.ofNat n) => match Nat.blt n len with
      | true => fN (Nat.add c (Nat.mul n esz)) fun c => K (.gp g c) H
      | false => A.fail
    | _, _ => A.fail
theorem o_idxA_eq (A : Alg R) (call : Nat → List AVal → Heap → (AVal → Heap → R) → R) (len : Nat) (esz : Nat) (x : Opd) (i : Opd) (vs ts : List AVal) (H : Heap) (K : AVal → Heap → R) : o_idxA A call len esz x i vs ts H K = Dt.evI A call (.idxA len esz x i) vs ts H K := by
  unfold o_idxA
  (simp only [Dt.evI, fN_eq, Dt.fN_eq, oget_eq]) <;> rfl
def o_len (A : Alg R) (call : Nat → List AVal → Heap → (AVal → Heap → R) → R) (str : Bool) (x : Opd) (vs ts : List AVal) (H : Heap) (K : AVal → Heap → R) : R := match oget vs ts x with
    | .str n _ => match str with | true => K (.int .i64 (.ofNat n)) H | false => A.fail
    | .slc _ _ n _ _ => match str with | true => A.fail | false => K (.int .i64 (.ofNat n)) H
    | .nils => match str with | true => A.fail | false => K (.int .i64 (.ofNat 0)) H
    | _ => A.fail
theorem o_len_eq (A : Alg R) (call : Nat → List AVal → Heap → (AVal → Heap → R) → R) (str : Bool) (x : Opd) (vs ts : List AVal) (H : Heap) (K : AVal → Heap → R) : o_len A call str x vs ts H K = Dt.evI A call (.len str x) vs ts H K := by
  unfold o_len
  (simp only [Dt.evI, oget_eq]) <;> rfl
def o_append (A : Alg R) (call : Nat → List AVal → Heap → (AVal → Heap → R) → R) (esz : Nat) (bytes : Nat) (x : Opd) (y : Opd) (vs ts : List AVal) (H : Heap) (K : AVal → Heap → R) : R := doAppend A esz bytes (oget vs ts x) (oget vs ts y) H K
theorem o_append_eq (A : Alg R) (call : Nat → List AVal → Heap → (AVal → Heap → R) → R) (esz : Nat) (bytes : Nat) (x : Opd) (y : Opd) (vs ts : List AVal) (H : Heap) (K : AVal → Heap → R) : o_append A call esz bytes x y vs ts H K = Dt.evI A call (.append esz bytes x y) vs ts H K := by
  unfold o_append
  (simp only [Dt.evI, oget_eq, doAppend_eq]) <;> rfl
def o_slcStr (A : Alg R) (call : Nat → List AVal → Heap → (AVal → Heap → R) → R) (x : Opd) (lo : Option Opd) (hi : Option Opd) (vs ts : List AVal) (H : Heap) (K : AVal → Heap → R) : R := match oget vs ts x with
    | .str n c => match bounds vs ts n n lo hi with
      | some (l, h) => fN (Nat.sub h l) fun n => fN (scut c l h) fun c => K (.str n c) H
      | none => A.fail
    | _ => A.fail
theorem o_slcStr_eq (A : Alg R) (call : Nat → List AVal → Heap → (AVal → Heap → R) → R) (x : Opd) (lo : Option Opd) (hi : Option Opd) (vs ts : List AVal) (H : Heap) (K : AVal → Heap → R) : o_slcStr A call x lo hi vs ts H K = Dt.evI A call (.slcStr x lo hi) vs ts H K := by
  unfold o_slcStr
  (simp only [Dt.evI, fN_eq, Dt.fN_eq, oget_eq, bounds_eq]) <;> rfl
def o_slcS (A : Alg R) (call : Nat → List AVal → Heap → (AVal → Heap → R) → R) (esz : Nat) (x : Opd) (lo : Option Opd) (hi : Option Opd) (mx : Option Opd) (vs ts : List AVal) (H : Heap) (K : AVal → Heap → R) : R := match oget vs ts x with
    | .slc b r len cap z => match Nat.beq z esz with
      | false => A.fail
      | true => match cap with
        | some cp => match (match mx with | none => some cp | some m => bound (oget vs ts m) cp) with
          | none => A.fail
          | some m => match bounds vs ts len (match mx with | none => cp | some _ => m) lo hi with
            | some (l, h) => fN (Nat.add r l) fun r => fN (Nat.sub h l) fun n => fN (Nat.sub m l) fun m => K (.slc b r n (some m) z) H
            | none => A.fail
        | none => match mx with
          | none => match bounds vs ts len len lo hi with
            | some (l, h) => fN (Nat.add r l) fun r => fN (Nat.sub h l) fun n => K (.slc b r n none z) H
            | none => A.fail
          | some m => match bound (oget vs ts m) len with
            | none => A.fail
            | some m => match bounds vs ts len m lo hi with
              | some (l, h) => fN (Nat.add r l) fun r => fN (Nat.sub h l) fun n => fN (Nat.sub m l) fun m => K (.slc b r n (some m) z) H
              | none => A.fail
    | .nils => match bounds vs ts 0 0 lo hi, mx with
      | some _, none => K .nils H
      | some _, some m => match bound (oget vs ts m) 0 with
        | some _ => K .nils H
        | none => A.fail
      | none, _ => A.fail
    | _ => A.fail
theorem o_slcS_eq (A : Alg R) (call : Nat → List AVal → Heap → (AVal → Heap → R) → R) (esz : Nat) (x : Opd) (lo : Option Opd) (hi : Option Opd) (mx : Option Opd) (vs ts : List AVal) (H : Heap) (K : AVal → Heap → R) : o_slcS A call esz x lo hi mx vs ts H K = Dt.evI A call (.slcS esz x lo hi mx) vs ts H K := by
  unfold o_slcS
  (simp only [Dt.evI, fN_eq, Dt.fN_eq, oget_eq, bounds_eq]) <;> rfl
def o_mkS (A : Alg R) (call : Nat → List AVal → Heap → (AVal → Heap → R) → R) (zero : List AVal) (bytes : Nat) (len : Opd) (cap : Opd) (vs ts : List AVal) (H : Heap) (K : AVal → Heap → R) : R := match oget vs ts len, oget vs ts cap with
    | .int _ (.ofNat n), .int _ (.ofNat c) => match Nat.ble n c && Nat.ble (Nat.mul c bytes) 1000000000 && Nat.ble c 1000000000 with
      | true => fL (List.replicate c zero) fun l => hAdd H (.rows (llen zero) l) fun b H => K (.slc b 0 n (some c) (llen zero)) H
      | false => A.fail
    | _, _ => A.fail
theorem o_mkS_eq (A : Alg R) (call : Nat → List AVal → Heap → (AVal → Heap → R) → R) (zero : List AVal) (bytes : Nat) (len : Opd) (cap : Opd) (vs ts : List AVal) (H : Heap) (K : AVal → Heap → R) : o_mkS A call zero bytes len cap vs ts H K = Dt.evI A call (.mkS zero bytes len cap) vs ts H K := by
  unfold o_mkS
  (simp only [Dt.evI, fL_eq, Dt.fL_eq, hAdd_eq, Dt.hAdd_eq, llen_eq, oget_eq]) <;> rfl
def o_callv (A : Alg R) (call : Nat → List AVal → Heap → (AVal → Heap → R) → R) (x : Opd) (args : List Opd) (vs ts : List AVal) (H : Heap) (K : AVal → Heap → R) : R := match oget vs ts x with
    | .fn f first capt => opdsK vs ts args fun l => appK l capt fun l => appK first l fun l => call f l H K
    | .yl b => match hget H b with
      | .obj (.loop f vs') => hPut H b (.obj .busy) fun H => opdsK vs ts args fun l => appK l vs' fun l' => call f (mark (llen l) :: l') H fun _ H => hPut H b (.obj (.loop f vs')) fun H => K (.bool true) H
      | _ => A.fail
    | _ => A.fail
theorem o_callv_eq (A : Alg R) (call : Nat → List AVal → Heap → (AVal → Heap → R) → R) (x : Opd) (args : List Opd) (vs ts : List AVal) (H : Heap) (K : AVal → Heap → R) : o_callv A call x args vs ts H K = Dt.evI A call (.callv x args) vs ts H K := by
  unfold o_callv
  (simp only [Dt.evI, fL_eq, Dt.fL_eq, hget_eq, hPut_eq, Dt.hPut_eq, llen_eq, appK_eq, oget_eq, opdsK_eq]) <;> rfl
def o_mkfn (A : Alg R) (call : Nat → List AVal → Heap → (AVal → Heap → R) → R) (f : Nat) (first : List Opd) (capt : List Opd) (vs ts : List AVal) (H : Heap) (K : AVal → Heap → R) : R := opdsK vs ts first fun a => opdsK vs ts capt fun b => K (.fn f a b) H
theorem o_mkfn_eq (A : Alg R) (call : Nat → List AVal → Heap → (AVal → Heap → R) → R) (f : Nat) (first : List Opd) (capt : List Opd) (vs ts : List AVal) (H : Heap) (K : AVal → Heap → R) : o_mkfn A call f first capt vs ts H K = Dt.evI A call (.mkfn f first capt) vs ts H K := by
  unfold o_mkfn
  (simp only [Dt.evI, fL_eq, Dt.fL_eq, opdsK_eq]) <;> rfl
def o_again1 (A : Alg R) (call : Nat → List AVal → Heap → (AVal → Heap → R) → R) (x : Opd) (y : Opd) (vs ts : List AVal) (H : Heap) (K : AVal → Heap → R) : R := match oget vs ts x with
    | .ptr b r c => match hget H b with
      | .rows _ l => match rget l r with
        | some row => match cut row c 1 with
          | some (v :: _) => match same v (oget vs ts y) with | true => K (.tup []) H | false => A.fail
          | _ => A.fail
        | none => A.fail
      | _ => A.fail
    | .gp g c => match gcut H.gl g c 1 with
      | some (v :: _) => match same v (oget vs ts y) with | true => K (.tup []) H | false => A.fail
      | _ => A.fail
    | _ => A.fail
theorem o_again1_eq (A : Alg R) (call : Nat → List AVal → Heap → (AVal → Heap → R) → R) (x : Opd) (y : Opd) (vs ts : List AVal) (H : Heap) (K : AVal → Heap → R) : o_again1 A call x y vs ts H K = Dt.evI A call (.again1 x y) vs ts H K := by
  unfold o_again1
  (simp only [Dt.evI, hget_eq, rget_eq, cut_eq, same_eq, oget_eq]) <;> rfl
def o_againN (A : Alg R) (call : Nat → List AVal → Heap → (AVal → Heap → R) → R) (n : Nat) (x : Opd) (y : Opd) (vs ts : List AVal) (H : Heap) (K : AVal → Heap → R) : R := match oget vs ts x with
    | .ptr b r c => match hget H b with
      | .rows _ l => match rget l r with
        | some row => match cut row c n with
          | some cs => match same (.agg cs) (oget vs ts y) with | true => K (.tup []) H | false => A.fail
          | _ => A.fail
        | none => A.fail
      | _ => A.fail
    | .gp g c => match gcut H.gl g c n with
      | some cs => match same (.agg cs) (oget vs ts y) with | true => K (.tup []) H | false => A.fail
      | _ => A.fail
    | _ => A.fail
theorem o_againN_eq (A : Alg R) (call : Nat → List AVal → Heap → (AVal → Heap → R) → R) (n : Nat) (x : Opd) (y : Opd) (vs ts : List AVal) (H : Heap) (K : AVal → Heap → R) : o_againN A call n x y vs ts H K = Dt.evI A call (.againN n x y) vs ts H K := by
  unfold o_againN
  (simp only [Dt.evI, hget_eq, rget_eq, cut_eq, same_eq, oget_eq]) <;> rfl
def o_againL (A : Alg R) (call : Nat → List AVal → Heap → (AVal → Heap → R) → R) (zero : AVal) (kk : Nat) (ok : Bool) (x : Opd) (k : Opd) (y : Opd) (vs ts : List AVal) (H : Heap) (K : AVal → Heap → R) : R := match mapOf H (oget vs ts x) with
    | none => A.fail
    | some l => match mfind kk (oget vs ts k) l 0 with
      | none => A.fail
      | some r => match same (match r with | some e => (match ok with | true => .tup [e.2, .bool true] | false => e.2) | none => (match ok with | true => .tup [zero, .bool false] | false => zero)) (oget vs ts y) with
        | true => K (.tup []) H
        | false => A.fail
theorem o_againL_eq (A : Alg R) (call : Nat → List AVal → Heap → (AVal → Heap → R) → R) (zero : AVal) (kk : Nat) (ok : Bool) (x : Opd) (k : Opd) (y : Opd) (vs ts : List AVal) (H : Heap) (K : AVal → Heap → R) : o_againL A call zero kk ok x k y vs ts H K = Dt.evI A call (.againL zero kk ok x k y) vs ts H K := by
  unfold o_againL
  (simp only [Dt.evI, same_eq, oget_eq, mfind_eq, mapOf_eq]) <;> rfl
def o_un1 (A : Alg R) (call : Nat → List AVal → Heap → (AVal → Heap → R) → R) (neg : Bool) (x : Opd) (vs ts : List AVal) (H : Heap) (K : AVal → Heap → R) : R := match un1V neg (oget vs ts x) with
    | some v => fV v fun v => K v H
    | none => A.fail
theorem o_un1_eq (A : Alg R) (call : Nat → List AVal → Heap → (AVal → Heap → R) → R) (neg : Bool) (x : Opd) (vs ts : List AVal) (H : Heap) (K : AVal → Heap → R) : o_un1 A call neg x vs ts H K = Dt.evI A call (.un1 neg x) vs ts H K := by
  unfold o_un1
  (simp only [Dt.evI, fV_eq, Dt.fV_eq, oget_eq]) <;> rfl
def o_convBS (A : Alg R) (call : Nat → List AVal → Heap → (AVal → Heap → R) → R) (x : Opd) (vs ts : List AVal) (H : Heap) (K : AVal → Heap → R) : R := match rowsOf H 1 (oget vs ts x) with
    | none => A.fail
    | some rows => match bcode rows with
      | none => A.fail
      | some c => fN (rlen rows) fun n => fN c fun c => K (.str n c) H
theorem o_convBS_eq (A : Alg R) (call : Nat → List AVal → Heap → (AVal → Heap → R) → R) (x : Opd) (vs ts : List AVal) (H : Heap) (K : AVal → Heap → R) : o_convBS A call x vs ts H K = Dt.evI A call (.convBS x) vs ts H K := by
  unfold o_convBS
  (simp only [Dt.evI, fN_eq, Dt.fN_eq, rlen_eq, oget_eq, rowsOf_eq]) <;> rfl
def o_convIS (A : Alg R) (call : Nat → List AVal → Heap → (AVal → Heap → R) → R) (x : Opd) (vs ts : List AVal) (H : Heap) (K : AVal → Heap → R) : R := match oget vs ts x with
    | .int _ r => fN (encN r).1 fun n => fN (encN r).2 fun c => K (.str n c) H
    | _ => A.fail
theorem o_convIS_eq (A : Alg R) (call : Nat → List AVal → Heap → (AVal → Heap → R) → R) (x : Opd) (vs ts : List AVal) (H : Heap) (K : AVal → Heap → R) : o_convIS A call x vs ts H K = Dt.evI A call (.convIS x) vs ts H K := by
  unfold o_convIS
  (simp only [Dt.evI, fN_eq, Dt.fN_eq, oget_eq]) <;> rfl
def o_rngS (A : Alg R) (call : Nat → List AVal → Heap → (AVal → Heap → R) → R) (x : Opd) (vs ts : List AVal) (H : Heap) (K : AVal → Heap → R) : R := match oget vs ts x with
    | .str n c => hAdd H (.obj (.siter n c 0)) fun b H => K (.ptr b 0 0) H
    | _ => A.fail
theorem o_rngS_eq (A : Alg R) (call : Nat → List AVal → Heap → (AVal → Heap → R) → R) (x : Opd) (vs ts : List AVal) (H : Heap) (K : AVal → Heap → R) : o_rngS A call x vs ts H K = Dt.evI A call (.rngS x) vs ts H K := by
  unfold o_rngS
  (simp only [Dt.evI, hAdd_eq, Dt.hAdd_eq, oget_eq]) <;> rfl
def o_nxtS (A : Alg R) (call : Nat → List AVal → Heap → (AVal → Heap → R) → R) (x : Opd) (vs ts : List AVal) (H : Heap) (K : AVal → Heap → R) : R := match oget vs ts x with
    | .ptr b 0 0 => match hget H b with
      | .obj (.siter n c pos) => match Nat.blt pos n with
        | false => K (.tup [.bool false]) H
        | true => fN (decN n c pos).1 fun r => fN (pos + (decN n c pos).2) fun p => hPut H b (.obj (.siter n c p)) fun H => K (.tup [.bool true, .int .i64 (.ofNat pos), .int .i32 (.ofNat r)]) H
      | _ => A.fail
    | _ => A.fail
theorem o_nxtS_eq (A : Alg R) (call : Nat → List AVal → Heap → (AVal → Heap → R) → R) (x : Opd) (vs ts : List AVal) (H : Heap) (K : AVal → Heap → R) : o_nxtS A call x vs ts H K = Dt.evI A call (.nxtS x) vs ts H K := by
  unfold o_nxtS
  (simp only [Dt.evI, fN_eq, Dt.fN_eq, hget_eq, hPut_eq, Dt.hPut_eq, oget_eq]) <;> rfl
def o_mkmap (A : Alg R) (call : Nat → List AVal → Heap → (AVal → Heap → R) → R)  (vs ts : List AVal) (H : Heap) (K : AVal → Heap → R) : R := hAdd H (.obj (.map [])) fun b H => K (.mp b) H
theorem o_mkmap_eq (A : Alg R) (call : Nat → List AVal → Heap → (AVal → Heap → R) → R)  (vs ts : List AVal) (H : Heap) (K : AVal → Heap → R) : o_mkmap A call  vs ts H K = Dt.evI A call (.mkmap ) vs ts H K := by
  unfold o_mkmap
  (simp only [Dt.evI, hAdd_eq, Dt.hAdd_eq]) <;> rfl
def o_lkp (A : Alg R) (call : Nat → List AVal → Heap → (AVal → Heap → R) → R) (zero : AVal) (kk : Nat) (ok : Bool) (x : Opd) (k : Opd) (vs ts : List AVal) (H : Heap) (K : AVal → Heap → R) : R := match mapOf H (oget vs ts x) with
    | none => A.fail
    | some l => match mfind kk (oget vs ts k) l 0 with
      | none => A.fail
      | some (some e) => match ok with
        | true => K (.tup [e.2, .bool true]) H
        | false => K e.2 H
      | some none => match ok with
        | true => K (.tup [zero, .bool false]) H
        | false => K zero H
theorem o_lkp_eq (A : Alg R) (call : Nat → List AVal → Heap → (AVal → Heap → R) → R) (zero : AVal) (kk : Nat) (ok : Bool) (x : Opd) (k : Opd) (vs ts : List AVal) (H : Heap) (K : AVal → Heap → R) : o_lkp A call zero kk ok x k vs ts H K = Dt.evI A call (.lkp zero kk ok x k) vs ts H K := by
  unfold o_lkp
  (simp only [Dt.evI, oget_eq, mfind_eq, mapOf_eq]) <;> rfl
def o_mupd (A : Alg R) (call : Nat → List AVal → Heap → (AVal → Heap → R) → R) (kk : Nat) (m : Opd) (k : Opd) (v : Opd) (vs ts : List AVal) (H : Heap) (K : AVal → Heap → R) : R := match oget vs ts m with
    | .mp b => match hget H b with
      | .obj (.map l) => match mfind kk (oget vs ts k) l 0 with
        | none => A.fail
        | some (some e) => msetK l e.1 (oget vs ts v) fun l => hPut H b (.obj (.map l)) fun H => K (.tup []) H
        | some none => maddK l (oget vs ts k) (oget vs ts v) fun l => hPut H b (.obj (.map l)) fun H => K (.tup []) H
      | _ => A.fail
    | _ => A.fail
theorem o_mupd_eq (A : Alg R) (call : Nat → List AVal → Heap → (AVal → Heap → R) → R) (kk : Nat) (m : Opd) (k : Opd) (v : Opd) (vs ts : List AVal) (H : Heap) (K : AVal → Heap → R) : o_mupd A call kk m k v vs ts H K = Dt.evI A call (.mupd kk m k v) vs ts H K := by
  unfold o_mupd
  (simp only [Dt.evI, fL_eq, Dt.fL_eq, hget_eq, hPut_eq, Dt.hPut_eq, oget_eq, mfind_eq, msetK_eq, maddK_eq]) <;> rfl
def o_die (A : Alg R) (call : Nat → List AVal → Heap → (AVal → Heap → R) → R)  (vs ts : List AVal) (H : Heap) (K : AVal → Heap → R) : R := A.fail
theorem o_die_eq (A : Alg R) (call : Nat → List AVal → Heap → (AVal → Heap → R) → R)  (vs ts : List AVal) (H : Heap) (K : AVal → Heap → R) : o_die A call  vs ts H K = Dt.evI A call (.die ) vs ts H K := by
  unfold o_die
  (simp only [Dt.evI]) <;> rfl
def o_binN (A : Alg R) (call : Nat → List AVal → Heap → (AVal → Heap → R) → R) (neg : Bool) (k : Nat) (x : Opd) (vs ts : List AVal) (H : Heap) (K : AVal → Heap → R) : R := match isNil k (oget vs ts x) with
    | some b => fB (b != neg) fun b => K (.bool b) H
    | none => A.fail
theorem o_binN_eq (A : Alg R) (call : Nat → List AVal → Heap → (AVal → Heap → R) → R) (neg : Bool) (k : Nat) (x : Opd) (vs ts : List AVal) (H : Heap) (K : AVal → Heap → R) : o_binN A call neg k x vs ts H K = Dt.evI A call (.binN neg k x) vs ts H K := by
  unfold o_binN
  (simp only [Dt.evI, fB_eq, Dt.fB_eq, oget_eq]) <;> rfl
def o_binPP (A : Alg R) (call : Nat → List AVal → Heap → (AVal → Heap → R) → R) (neg : Bool) (x : Opd) (y : Opd) (vs ts : List AVal) (H : Heap) (K : AVal → Heap → R) : R := match oget vs ts x, oget vs ts y with
    | .nilp, .nilp => K (.bool (!neg)) H
    | .ptr _ _ _, .nilp => K (.bool neg) H
    | .nilp, .ptr _ _ _ => K (.bool neg) H
    | .ptr b r c, .ptr b' r' c' => match Nat.beq b b' with
      | true => match Nat.beq r r' && Nat.beq c c' with
        | true => K (.bool (!neg)) H
        | false => A.fail
      | false => match hget H b, hget H b' with
        | .rows _ _, .rows _ _ => K (.bool neg) H
        | _, _ => A.fail
    | _, _ => A.fail
theorem o_binPP_eq (A : Alg R) (call : Nat → List AVal → Heap → (AVal → Heap → R) → R) (neg : Bool) (x : Opd) (y : Opd) (vs ts : List AVal) (H : Heap) (K : AVal → Heap → R) : o_binPP A call neg x y vs ts H K = Dt.evI A call (.binPP neg x y) vs ts H K := by
  unfold o_binPP
  (simp only [Dt.evI, hget_eq, oget_eq]) <;> rfl
def o_mkif (A : Alg R) (call : Nat → List AVal → Heap → (AVal → Heap → R) → R) (t : Nat) (x : Opd) (vs ts : List AVal) (H : Heap) (K : AVal → Heap → R) : R := fA (oget vs ts x) fun v => K (.iface t v) H
theorem o_mkif_eq (A : Alg R) (call : Nat → List AVal → Heap → (AVal → Heap → R) → R) (t : Nat) (x : Opd) (vs ts : List AVal) (H : Heap) (K : AVal → Heap → R) : o_mkif A call t x vs ts H K = Dt.evI A call (.mkif t x) vs ts H K := by
  unfold o_mkif
  (simp only [Dt.evI, fA_eq, oget_eq]) <;> rfl
def o_tas (A : Alg R) (call : Nat → List AVal → Heap → (AVal → Heap → R) → R) (t : Nat) (zero : AVal) (x : Opd) (vs ts : List AVal) (H : Heap) (K : AVal → Heap → R) : R := match oget vs ts x with
    | .iface u v => match Nat.beq u t with
      | true => K (.tup [v, .bool true]) H
      | false => K (.tup [zero, .bool false]) H
    | .nili => K (.tup [zero, .bool false]) H
    | _ => A.fail
theorem o_tas_eq (A : Alg R) (call : Nat → List AVal → Heap → (AVal → Heap → R) → R) (t : Nat) (zero : AVal) (x : Opd) (vs ts : List AVal) (H : Heap) (K : AVal → Heap → R) : o_tas A call t zero x vs ts H K = Dt.evI A call (.tas t zero x) vs ts H K := by
  unfold o_tas
  (simp only [Dt.evI, oget_eq]) <;> rfl
def o_idxAg (A : Alg R) (call : Nat → List AVal → Heap → (AVal → Heap → R) → R) (n : Nat) (esz : Nat) (x : Opd) (i : Opd) (vs ts : List AVal) (H : Heap) (K : AVal → Heap → R) : R := match oget vs ts x, oget vs ts i with
    | .agg l, .int _ (.ofNat j) => match Nat.blt j n with
      | true => match cut l (j * esz) esz with
        | some cs => K (.agg cs) H
        | none => A.fail
      | false => A.fail
    | _, _ => A.fail
theorem o_idxAg_eq (A : Alg R) (call : Nat → List AVal → Heap → (AVal → Heap → R) → R) (n : Nat) (esz : Nat) (x : Opd) (i : Opd) (vs ts : List AVal) (H : Heap) (K : AVal → Heap → R) : o_idxAg A call n esz x i vs ts H K = Dt.evI A call (.idxAg n esz x i) vs ts H K := by
  unfold o_idxAg
  (simp only [Dt.evI, fL_eq, Dt.fL_eq, cut_eq, oget_eq]) <;> rfl
def o_ment (A : Alg R) (call : Nat → List AVal → Heap → (AVal → Heap → R) → R) (zero : AVal) (kk : Nat) (m : Opd) (k : Opd) (vs ts : List AVal) (H : Heap) (K : AVal → Heap → R) : R := match oget vs ts m with
    | .mp b => match hget H b with
      | .obj (.map l) => match mfind kk (oget vs ts k) l 0 with
        | none => A.fail
        | some (some e) => K (.tup [e.2, .int .i64 (.ofNat e.1)]) H
        | some none => maddK l (oget vs ts k) zero fun l' => hPut H b (.obj (.map l')) fun H => fN (mlen l) fun n => K (.tup [zero, .int .i64 (.ofNat n)]) H
      | _ => A.fail
    | _ => A.fail
theorem o_ment_eq (A : Alg R) (call : Nat → List AVal → Heap → (AVal → Heap → R) → R) (zero : AVal) (kk : Nat) (m : Opd) (k : Opd) (vs ts : List AVal) (H : Heap) (K : AVal → Heap → R) : o_ment A call zero kk m k vs ts H K = Dt.evI A call (.ment zero kk m k) vs ts H K := by
  unfold o_ment
  (simp only [Dt.evI, fN_eq, Dt.fN_eq, fL_eq, Dt.fL_eq, hget_eq, hPut_eq, Dt.hPut_eq, oget_eq, mfind_eq, maddK_eq, mlen_eq]) <;> rfl
def o_esto (A : Alg R) (call : Nat → List AVal → Heap → (AVal → Heap → R) → R) (m : Opd) (s : Opd) (v : Opd) (vs ts : List AVal) (H : Heap) (K : AVal → Heap → R) : R := match oget vs ts m, oget vs ts s with
    | .mp b, .int _ (.ofNat i) => match hget H b with
      | .obj (.map l) => match Nat.blt i (mlen l) with
        | true => msetK l i (oget vs ts v) fun l => hPut H b (.obj (.map l)) fun H => K (.tup []) H
        | false => A.fail
      | _ => A.fail
    | _, _ => A.fail
theorem o_esto_eq (A : Alg R) (call : Nat → List AVal → Heap → (AVal → Heap → R) → R) (m : Opd) (s : Opd) (v : Opd) (vs ts : List AVal) (H : Heap) (K : AVal → Heap → R) : o_esto A call m s v vs ts H K = Dt.evI A call (.esto m s v) vs ts H K := by
  unfold o_esto
  (simp only [Dt.evI, fL_eq, Dt.fL_eq, hget_eq, hPut_eq, Dt.hPut_eq, oget_eq, msetK_eq, mlen_eq]) <;> rfl
def o_rngM (A : Alg R) (call : Nat → List AVal → Heap → (AVal → Heap → R) → R) (x : Opd) (vs ts : List AVal) (H : Heap) (K : AVal → Heap → R) : R := match oget vs ts x with
    | .mp b => match hget H b with
      | .obj (.map l) => fN (mlen l) fun n => hAdd H (.obj (.miter b n [] n)) fun b H => K (.ptr b 0 0) H
      | _ => A.fail
    | _ => A.fail
theorem o_rngM_eq (A : Alg R) (call : Nat → List AVal → Heap → (AVal → Heap → R) → R) (x : Opd) (vs ts : List AVal) (H : Heap) (K : AVal → Heap → R) : o_rngM A call x vs ts H K = Dt.evI A call (.rngM x) vs ts H K := by
  unfold o_rngM
  (simp only [Dt.evI, fN_eq, Dt.fN_eq, hget_eq, hAdd_eq, Dt.hAdd_eq, oget_eq, mlen_eq]) <;> rfl
def o_nxtM (A : Alg R) (call : Nat → List AVal → Heap → (AVal → Heap → R) → R) (x : Opd) (vs ts : List AVal) (H : Heap) (K : AVal → Heap → R) : R := match oget vs ts x with
    | .ptr i 0 0 => match hget H i with
      | .obj (.miter b since seen last) => match hget H b with
        | .obj (.map l) => match Nat.beq (mlen l) since && Nat.beq last since with
          | true => match (List.range since).filter fun j => !isIn j seen with
            | [] => K (.tup [.bool false]) H
            | js => js.foldr (fun j r => A.both (match mget l j with
                | some e => fL (seen ++ [j]) fun seen => hPut H i (.obj (.miter b since seen since)) fun H => K (.tup [.bool true, e.1, e.2]) H
                | none => A.fail) r) A.yes
          | false => A.fail
        | _ => A.fail
      | _ => A.fail
    | _ => A.fail
theorem o_nxtM_eq (A : Alg R) (call : Nat → List AVal → Heap → (AVal → Heap → R) → R) (x : Opd) (vs ts : List AVal) (H : Heap) (K : AVal → Heap → R) : o_nxtM A call x vs ts H K = Dt.evI A call (.nxtM x) vs ts H K := by
  unfold o_nxtM
  (simp only [Dt.evI, fL_eq, Dt.fL_eq, hget_eq, hPut_eq, Dt.hPut_eq, oget_eq, mlen_eq, mget_eq]) <;> rfl
def o_ent (A : Alg R) (call : Nat → List AVal → Heap → (AVal → Heap → R) → R) (x : Opd) (vs ts : List AVal) (H : Heap) (K : AVal → Heap → R) : R := match oget vs ts x with
    | .ptr i 0 0 => match hget H i with
      | .obj (.miter b since seen last) => match hget H b with
        | .obj (.map l) => match Nat.beq (mlen l) last with
          | true => match lastOf seen with
            | some j => match mget l j with
              | some e => K (.tup [e.1, e.2]) H
              | none => A.fail
            | none => A.fail
          | false => A.fail
        | _ => A.fail
      | _ => A.fail
    | _ => A.fail
theorem o_ent_eq (A : Alg R) (call : Nat → List AVal → Heap → (AVal → Heap → R) → R) (x : Opd) (vs ts : List AVal) (H : Heap) (K : AVal → Heap → R) : o_ent A call x vs ts H K = Dt.evI A call (.ent x) vs ts H K := by
  unfold o_ent
  (simp only [Dt.evI, hget_eq, oget_eq, mlen_eq, mget_eq]) <;> rfl
def o_minI (A : Alg R) (call : Nat → List AVal → Heap → (AVal → Heap → R) → R) (x : Opd) (y : Opd) (vs ts : List AVal) (H : Heap) (K : AVal → Heap → R) : R := match oget vs ts x, oget vs ts y with
    | .int k a, .int _ b => match ile a b with
      | true => K (.int k a) H
      | false => K (.int k b) H
    | _, _ => A.fail
theorem o_minI_eq (A : Alg R) (call : Nat → List AVal → Heap → (AVal → Heap → R) → R) (x : Opd) (y : Opd) (vs ts : List AVal) (H : Heap) (K : AVal → Heap → R) : o_minI A call x y vs ts H K = Dt.evI A call (.minI x y) vs ts H K := by
  unfold o_minI
  (simp only [Dt.evI, oget_eq]) <;> rfl
def o_dfr (A : Alg R) (call : Nat → List AVal → Heap → (AVal → Heap → R) → R) (hid : Nat) (x : Opd) (args : List Opd) (vs ts : List AVal) (H : Heap) (K : AVal → Heap → R) : R := match Nat.blt hid (llen vs) with
    | true => match oget vs ts x with
      | .fn f first capt => match pushD (.fn f (first ++ opds vs ts args) capt) (lget vs hid) with
        | some v => K v H
        | none => A.fail
      | _ => A.fail
    | false => A.fail
theorem o_dfr_eq (A : Alg R) (call : Nat → List AVal → Heap → (AVal → Heap → R) → R) (hid : Nat) (x : Opd) (args : List Opd) (vs ts : List AVal) (H : Heap) (K : AVal → Heap → R) : o_dfr A call hid x args vs ts H K = Dt.evI A call (.dfr hid x args) vs ts H K := by
  unfold o_dfr
  (simp only [Dt.evI, lget_eq, llen_eq, oget_eq]) <;> rfl
def o_store2 (A : Alg R) (call : Nat → List AVal → Heap → (AVal → Heap → R) → R) (n : Nat) (x : Opd) (v : Opd) (m : Nat) (y : Opd) (u : Opd) (vs ts : List AVal) (H : Heap) (K : AVal → Heap → R) : R := match oget vs ts x, oget vs ts y with
    | .ptr b _ _, .ptr c _ _ => match Nat.beq b c with
      | true => A.fail
      | false => doStore A n (oget vs ts x) (oget vs ts v) H fun H => doStore A m (oget vs ts y) (oget vs ts u) H fun H => K (.tup []) H
    | _, _ => A.fail
theorem o_store2_eq (A : Alg R) (call : Nat → List AVal → Heap → (AVal → Heap → R) → R) (n : Nat) (x : Opd) (v : Opd) (m : Nat) (y : Opd) (u : Opd) (vs ts : List AVal) (H : Heap) (K : AVal → Heap → R) : o_store2 A call n x v m y u vs ts H K = Dt.evI A call (.store2 n x v m y u) vs ts H K := by
  unfold o_store2
  (simp only [Dt.evI, oget_eq, doStore_eq]) <;> rfl
def o_kill (A : Alg R) (call : Nat → List AVal → Heap → (AVal → Heap → R) → R) (x : Opd) (vs ts : List AVal) (H : Heap) (K : AVal → Heap → R) : R := match oget vs ts x with
    | .slc b _ _ _ _ => match hget H b with
      | .rows _ _ => hPut H b .dead fun H => K (.tup []) H
      | _ => A.fail
    | _ => A.fail
theorem o_kill_eq (A : Alg R) (call : Nat → List AVal → Heap → (AVal → Heap → R) → R) (x : Opd) (vs ts : List AVal) (H : Heap) (K : AVal → Heap → R) : o_kill A call x vs ts H K = Dt.evI A call (.kill x) vs ts H K := by
  unfold o_kill
  (simp only [Dt.evI, hget_eq, hPut_eq, Dt.hPut_eq, oget_eq]) <;> rfl
def evR (vs : List AVal) (H : Heap) (l : List DR) : Option (List AVal) := List.rec (some []) (fun r _ ih => match (match r with
      | .opd x => some (oget vs [] x)
      | .cell1 x => match oget vs [] x with
        | .ptr b r c => match hget H b with
          | .rows _ l => match rget l r with
            | some row => match cut row c 1 with
              | some (v :: _) => some v
              | _ => none
            | none => none
          | _ => none
        | _ => none
      | .cellN n x => match oget vs [] x with
        | .ptr b r c => match hget H b with
          | .rows _ l => match rget l r with
            | some row => match cut row c n with
              | some cs => some (.agg cs)
              | none => none
            | none => none
          | _ => none
        | _ => none) with
    | none => none
    | some v => Option.rec none (fun vs => some (v :: vs)) ih) l
theorem evR_eq (vs : List AVal) (H : Heap) : ∀ l : List DR, evR vs H l = Dt.evR vs H l
  | [] => rfl
  | r :: l => by
    show (match (match r with
      | .opd x => some (oget vs [] x)
      | .cell1 x => match oget vs [] x with
        | .ptr b r c => match hget H b with
          | .rows _ l => match rget l r with
            | some row => match cut row c 1 with
              | some (v :: _) => some v
              | _ => none
            | none => none
          | _ => none
        | _ => none
      | .cellN n x => match oget vs [] x with
        | .ptr b r c => match hget H b with
          | .rows _ l => match rget l r with
            | some row => match cut row c n with
              | some cs => some (.agg cs)
              | none => none
            | none => none
          | _ => none
        | _ => none) with
    | none => none
    | some v => (Option.rec none (fun vs => some (v :: vs)) (evR vs H l) : Option (List AVal))) = _
    rw [evR_eq vs H l]
    simp only [Dt.evR, oget_eq, hget_eq, rget_eq, cut_eq]
    cases Dt.evR vs H l <;> rfl
def evE (A : Alg R) (F : DF) (vs : List AVal) (H : Heap) (K : AVal → Heap → R) : R := match evR vs H F.res with
  | none => A.fail
  | some l => match l with
    | [v] => fV v fun v => K v H
    | l => fL l fun l => K (.tup l) H
theorem evE_eq (A : Alg R) (F : DF) (vs : List AVal) (H : Heap) (K : AVal → Heap → R) : evE A F vs H K = Dt.evE A F vs H K := by
  unfold evE Dt.evE
  rw [evR_eq]
  cases Dt.evR vs H F.res with
  | none => rfl
  | some l =>
    simp only
    rcases l with _ | ⟨v, _ | ⟨u, l⟩⟩
    · rfl
    · simp only [fV_eq, Dt.fV_eq]
    · simp only [fL_eq, Dt.fL_eq]
end
end
end Q
end Dt
