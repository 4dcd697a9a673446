/- A part of the abstract machine and of the proof that the program does what it reckons; no conditions. -/
import Derived.Test.YtoifgfkgjbddcaaGreatDoorDQ
set_option linter.all false
namespace Dt
namespace Q
namespace Z
open Go
set_option linter.all false
noncomputable section
abbrev C := Nat → List AVal → Heap → (AVal → Heap → Bool) → Bool
/-! Ways to look at a value; each is closed. -/
def ptrK : AVal → ((Nat → Nat → Nat → Bool) → (Nat → Nat → Bool) → Bool) := AVal.rec (motive_1 := fun _ => ((Nat → Nat → Nat → Bool) → (Nat → Nat → Bool) → Bool)) (motive_2 := fun _ => Unit) (fun _ => fun _ _ => false) (fun _ _ => fun _ _ => false) (fun _ _ => fun _ _ => false) (fun b r c => fun k _ => k b r c) (fun _ _ => false) (fun _ _ _ _ _ => fun _ _ => false) (fun _ _ => false) (fun _ _ _ _ _ => fun _ _ => false) (fun _ _ => false) (fun _ _ _ => fun _ _ => false) (fun _ _ => false) (fun _ => fun _ _ => false) (fun _ _ => false) (fun _ _ => fun _ _ => false) (fun _ _ => fun _ _ => false) (fun x c => fun _ g => g x c) (fun _ => fun _ _ => false) (fun _ _ => false) () (fun _ _ _ _ => ())
theorem ptrK_eq (v : AVal) (k : Nat → Nat → Nat → Bool) (g : Nat → Nat → Bool) : ptrK v k g = (match v with | .ptr b r c => k b r c | .gp x c => g x c | _ => false) := by cases v <;> rfl
def slcK : AVal → ((Nat → Nat → Nat → Option Nat → Nat → Bool) → Bool → Bool) := AVal.rec (motive_1 := fun _ => ((Nat → Nat → Nat → Option Nat → Nat → Bool) → Bool → Bool)) (motive_2 := fun _ => Unit) (fun _ => fun _ _ => false) (fun _ _ => fun _ _ => false) (fun _ _ => fun _ _ => false) (fun _ _ _ => fun _ _ => false) (fun _ _ => false) (fun b r l c z => fun k _ => k b r l c z) (fun _ n => n) (fun _ _ _ _ _ => fun _ _ => false) (fun _ _ => false) (fun _ _ _ => fun _ _ => false) (fun _ _ => false) (fun _ => fun _ _ => false) (fun _ _ => false) (fun _ _ => fun _ _ => false) (fun _ _ => fun _ _ => false) (fun _ _ => fun _ _ => false) (fun _ => fun _ _ => false) (fun _ _ => false) () (fun _ _ _ _ => ())
theorem slcK_eq (v : AVal) (k : Nat → Nat → Nat → Option Nat → Nat → Bool) (n : Bool) : slcK v k n = (match v with | .slc b r l c z => k b r l c z | .nils => n | _ => false) := by cases v <;> rfl
def intK : AVal → ((IntKind → Int → Bool) → Bool) := AVal.rec (motive_1 := fun _ => ((IntKind → Int → Bool) → Bool)) (motive_2 := fun _ => Unit) (fun _ => fun _ => false) (fun i n => fun k => k i n) (fun _ _ => fun _ => false) (fun _ _ _ => fun _ => false) (fun _ => false) (fun _ _ _ _ _ => fun _ => false) (fun _ => false) (fun _ _ _ _ _ => fun _ => false) (fun _ => false) (fun _ _ _ => fun _ => false) (fun _ => false) (fun _ => fun _ => false) (fun _ => false) (fun _ _ => fun _ => false) (fun _ _ => fun _ => false) (fun _ _ => fun _ => false) (fun _ => fun _ => false) (fun _ => false) () (fun _ _ _ _ => ())
theorem intK_eq (v : AVal) (k : IntKind → Int → Bool) : intK v k = (match v with | .int i n => k i n | _ => false) := by cases v <;> rfl
def strK : AVal → ((Nat → Nat → Bool) → Bool) := AVal.rec (motive_1 := fun _ => ((Nat → Nat → Bool) → Bool)) (motive_2 := fun _ => Unit) (fun _ => fun _ => false) (fun _ _ => fun _ => false) (fun n c => fun k => k n c) (fun _ _ _ => fun _ => false) (fun _ => false) (fun _ _ _ _ _ => fun _ => false) (fun _ => false) (fun _ _ _ _ _ => fun _ => false) (fun _ => false) (fun _ _ _ => fun _ => false) (fun _ => false) (fun _ => fun _ => false) (fun _ => false) (fun _ _ => fun _ => false) (fun _ _ => fun _ => false) (fun _ _ => fun _ => false) (fun _ => fun _ => false) (fun _ => false) () (fun _ _ _ _ => ())
theorem strK_eq (v : AVal) (k : Nat → Nat → Bool) : strK v k = (match v with | .str n c => k n c | _ => false) := by cases v <;> rfl
def boolK : AVal → (Bool → Bool → Bool) := AVal.rec (motive_1 := fun _ => (Bool → Bool → Bool)) (motive_2 := fun _ => Unit) (fun b => fun x y => Bool.rec y x b) (fun _ _ => fun _ _ => false) (fun _ _ => fun _ _ => false) (fun _ _ _ => fun _ _ => false) (fun _ _ => false) (fun _ _ _ _ _ => fun _ _ => false) (fun _ _ => false) (fun _ _ _ _ _ => fun _ _ => false) (fun _ _ => false) (fun _ _ _ => fun _ _ => false) (fun _ _ => false) (fun _ => fun _ _ => false) (fun _ _ => false) (fun _ _ => fun _ _ => false) (fun _ _ => fun _ _ => false) (fun _ _ => fun _ _ => false) (fun _ => fun _ _ => false) (fun _ _ => false) () (fun _ _ _ _ => ())
theorem boolK_eq (v : AVal) (x y : Bool) : boolK v x y = (match v with | .bool true => x | .bool false => y | _ => false) := by cases v <;> first | rfl | (rename_i b; cases b <;> rfl)
def aggK : AVal → ((List AVal → Bool) → Bool) := AVal.rec (motive_1 := fun _ => ((List AVal → Bool) → Bool)) (motive_2 := fun _ => Unit) (fun _ => fun _ => false) (fun _ _ => fun _ => false) (fun _ _ => fun _ => false) (fun _ _ _ => fun _ => false) (fun _ => false) (fun _ _ _ _ _ => fun _ => false) (fun _ => false) (fun _ _ _ _ _ => fun _ => false) (fun _ => false) (fun _ _ _ => fun _ => false) (fun _ => false) (fun _ => fun _ => false) (fun _ => false) (fun l _ => fun k => k l) (fun _ _ => fun _ => false) (fun _ _ => fun _ => false) (fun _ => fun _ => false) (fun _ => false) () (fun _ _ _ _ => ())
theorem aggK_eq (v : AVal) (k : List AVal → Bool) : aggK v k = (match v with | .agg l => k l | _ => false) := by cases v <;> rfl
def tupK : AVal → ((List AVal → Bool) → Bool) := AVal.rec (motive_1 := fun _ => ((List AVal → Bool) → Bool)) (motive_2 := fun _ => Unit) (fun _ => fun _ => false) (fun _ _ => fun _ => false) (fun _ _ => fun _ => false) (fun _ _ _ => fun _ => false) (fun _ => false) (fun _ _ _ _ _ => fun _ => false) (fun _ => false) (fun _ _ _ _ _ => fun _ => false) (fun _ => false) (fun _ _ _ => fun _ => false) (fun _ => false) (fun _ => fun _ => false) (fun _ => false) (fun _ _ => fun _ => false) (fun l _ => fun k => k l) (fun _ _ => fun _ => false) (fun _ => fun _ => false) (fun _ => false) () (fun _ _ _ _ => ())
theorem tupK_eq (v : AVal) (k : List AVal → Bool) : tupK v k = (match v with | .tup l => k l | _ => false) := by cases v <;> rfl
def fnK : AVal → ((Nat → List AVal → List AVal → Bool) → Bool) := AVal.rec (motive_1 := fun _ => ((Nat → List AVal → List AVal → Bool) → Bool)) (motive_2 := fun _ => Unit) (fun _ => fun _ => false) (fun _ _ => fun _ => false) (fun _ _ => fun _ => false) (fun _ _ _ => fun _ => false) (fun _ => false) (fun _ _ _ _ _ => fun _ => false) (fun _ => false) (fun f a c _ _ => fun k => k f a c) (fun _ => false) (fun _ _ _ => fun _ => false) (fun _ => false) (fun _ => fun _ => false) (fun _ => false) (fun _ _ => fun _ => false) (fun _ _ => fun _ => false) (fun _ _ => fun _ => false) (fun _ => fun _ => false) (fun _ => false) () (fun _ _ _ _ => ())
theorem fnK_eq (v : AVal) (k : Nat → List AVal → List AVal → Bool) : fnK v k = (match v with | .fn f a c => k f a c | _ => false) := by cases v <;> rfl
def fA : AVal → ((AVal → Bool) → Bool) := AVal.rec (motive_1 := fun _ => ((AVal → Bool) → Bool)) (motive_2 := fun _ => Unit) (fun x0 => fun K => K (.bool x0)) (fun x0 x1 => fun K => K (.int x0 x1)) (fun x0 x1 => fun K => K (.str x0 x1)) (fun x0 x1 x2 => fun K => K (.ptr x0 x1 x2)) (fun K => K .nilp) (fun x0 x1 x2 x3 x4 => fun K => K (.slc x0 x1 x2 x3 x4)) (fun K => K .nils) (fun x0 x1 x2 _ _ => fun K => K (.fn x0 x1 x2)) (fun K => K .nilf) (fun x0 x1 _ => fun K => K (.iface x0 x1)) (fun K => K .nili) (fun x0 => fun K => K (.mp x0)) (fun K => K .nilm) (fun x0 _ => fun K => K (.agg x0)) (fun x0 _ => fun K => K (.tup x0)) (fun x0 x1 => fun K => K (.gp x0 x1)) (fun x0 => fun K => K (.yl x0)) (fun K => K .un) () (fun _ _ _ _ => ())
theorem fA_eq (v : AVal) (k : AVal → Bool) : fA v k = k v := by cases v <;> rfl
def nilK : AVal → ((AVal → Bool) → Bool) := AVal.rec (motive_1 := fun _ => ((AVal → Bool) → Bool)) (motive_2 := fun _ => Unit) (fun _ => fun _ => false) (fun _ _ => fun _ => false) (fun _ _ => fun _ => false) (fun x0 x1 x2 => fun K => K (.ptr x0 x1 x2)) (fun _ => false) (fun _ _ _ _ _ => fun _ => false) (fun _ => false) (fun x0 x1 x2 _ _ => fun K => K (.fn x0 x1 x2)) (fun _ => false) (fun _ _ _ => fun _ => false) (fun _ => false) (fun _ => fun _ => false) (fun _ => false) (fun _ _ => fun _ => false) (fun _ _ => fun _ => false) (fun x0 x1 => fun K => K (.gp x0 x1)) (fun _ => fun _ => false) (fun _ => false) () (fun _ _ _ _ => ())
theorem nilK_eq (v : AVal) (k : AVal → Bool) : nilK v k = (match v with | .ptr b r c => k (.ptr b r c) | .fn f a c => k (.fn f a c) | .gp x c => k (.gp x c) | _ => false) := by cases v <;> rfl
def cellsK : AVal → ((List AVal → Bool) → Bool) := AVal.rec (motive_1 := fun _ => ((List AVal → Bool) → Bool)) (motive_2 := fun _ => Unit) (fun x0 => fun K => K [.bool x0]) (fun x0 x1 => fun K => K [.int x0 x1]) (fun x0 x1 => fun K => K [.str x0 x1]) (fun x0 x1 x2 => fun K => K [.ptr x0 x1 x2]) (fun K => K [.nilp]) (fun x0 x1 x2 x3 x4 => fun K => K [.slc x0 x1 x2 x3 x4]) (fun K => K [.nils]) (fun x0 x1 x2 _ _ => fun K => K [.fn x0 x1 x2]) (fun K => K [.nilf]) (fun x0 x1 _ => fun K => K [.iface x0 x1]) (fun K => K [.nili]) (fun x0 => fun K => K [.mp x0]) (fun K => K [.nilm]) (fun l _ => fun K => K l) (fun _ _ => fun _ => false) (fun x0 x1 => fun K => K [.gp x0 x1]) (fun x0 => fun K => K [.yl x0]) (fun _ => false) () (fun _ _ _ _ => ())
theorem cellsK_eq (v : AVal) (k : List AVal → Bool) : cellsK v k = (match v.cells with | none => false | some cs => k cs) := by cases v <;> rfl
def natI : Int → (Nat → Bool) → Bool := Int.rec (fun n k => k n) (fun _ _ => false)
theorem natI_eq (n : Int) (k : Nat → Bool) : natI n k = (match n with | .ofNat m => k m | _ => false) := by cases n <;> rfl
def rowsK : Blk → (Nat → List (List AVal) → Bool) → Bool := Blk.rec (fun z l k => k z l) (fun _ => false) (fun _ _ => false) (fun _ _ => false)
theorem rowsK_eq (B : Blk) (k : Nat → List (List AVal) → Bool) : rowsK B k = (match B with | .rows z l => k z l | _ => false) := by cases B <;> rfl
def rgetK : List (List AVal) → Nat → (List AVal → Bool) → Bool := List.rec (fun _ _ => false) (fun x _ ih r k => Nat.rec (k x) (fun r _ => ih r k) r)
theorem rgetK_eq : ∀ (l : List (List AVal)) (r : Nat) (k : List AVal → Bool), rgetK l r k = (match Dt.rget l r with | some row => k row | none => false)
  | [], _, _ => rfl
  | _ :: _, 0, _ => rfl
  | _ :: l, r + 1, k => rgetK_eq l r k
def cellK : List AVal → Nat → (AVal → Bool) → Bool := List.rec (fun _ _ => false) (fun x _ ih c k => Nat.rec (fA x k) (fun c _ => ih c k) c)
theorem cut_one : ∀ (l : List AVal) (c : Nat), Dt.cut l c 1 = (match l[c]? with | some v => some [v] | none => none)
  | [], 0 => rfl
  | [], _ + 1 => rfl
  | x :: l, 0 => by simp [Dt.cut]
  | x :: l, c + 1 => by simp only [Dt.cut]; rw [cut_one l c]; rfl
theorem cellK_aux : ∀ (l : List AVal) (c : Nat) (k : AVal → Bool), cellK l c k = (match l[c]? with | some v => k v | none => false)
  | [], _, _ => rfl
  | x :: _, 0, k => fA_eq x k
  | _ :: l, c + 1, k => cellK_aux l c k
theorem cellK_eq (l : List AVal) (c : Nat) (k : AVal → Bool) : cellK l c k = (match Dt.cut l c 1 with | some (v :: _) => k v | _ => false) := by
  rw [cellK_aux, cut_one]
  cases l[c]? <;> rfl
def cutK : List AVal → Nat → Nat → (List AVal → Bool) → Bool := List.rec
  (fun c n k => Nat.rec (Nat.rec (k []) (fun _ _ => false) n) (fun _ _ => false) c)
  (fun x _ ih c n k => Nat.rec (Nat.rec (k []) (fun n _ => ih 0 n fun r => k (x :: r)) n) (fun c _ => ih c n k) c)
theorem cutK_eq : ∀ (l : List AVal) (c n : Nat) (k : List AVal → Bool), cutK l c n k = (match Dt.cut l c n with | some cs => k cs | _ => false)
  | [], 0, 0, _ => rfl
  | [], 0, _ + 1, _ => rfl
  | [], _ + 1, 0, _ => rfl
  | [], _ + 1, _ + 1, _ => rfl
  | x :: l, 0, 0, _ => rfl
  | x :: l, 0, n + 1, k => by
    show cutK l 0 n (fun r => k (x :: r)) = _
    rw [cutK_eq l 0 n]
    simp only [Dt.cut]
    cases Dt.cut l 0 n <;> rfl
  | x :: l, c + 1, n, k => by
    show cutK l c n k = _
    rw [cutK_eq l c n]
    cases n <;> simp only [Dt.cut]
def andB : Bool → Bool → Bool := Bool.rec (fun _ => false) (fun b => b)
theorem andB_eq (a b : Bool) : andB a b = (a && b) := by cases a <;> rfl
def ifB (b : Bool) (x y : Bool) : Bool := Bool.rec y x b
theorem ifB_eq (b x y : Bool) : ifB b x y = (match b with | true => x | false => y) := by cases b <;> rfl
def lenIs : List AVal → Nat → Bool := List.rec (fun n => Nat.beq n 0) (fun _ _ ih n => Nat.rec false (fun m _ => ih m) n)
theorem lenIs_eq : ∀ (l : List AVal) (n : Nat), lenIs l n = Nat.beq n (Dt.llen l)
  | [], n => rfl
  | _ :: l, 0 => rfl
  | _ :: l, n + 1 => lenIs_eq l n
theorem lenIs_eq2 (l : List AVal) (n : Nat) : lenIs l n = Nat.beq (Dt.llen l) n := by
  rw [lenIs_eq]
  cases h : Nat.beq n (Dt.llen l) with
  | true => rw [Nat.eq_of_beq_eq_true h]; simp
  | false => cases h' : Nat.beq (Dt.llen l) n with
    | false => rfl
    | true => rw [Nat.eq_of_beq_eq_true h'] at h; simp at h
theorem cut_all : ∀ l : List AVal, Dt.cut l 0 (Dt.llen l) = some l
  | [] => rfl
  | x :: l => by
    simp only [Dt.llen, Dt.cut]
    rw [cut_all l]
theorem splice_all : ∀ (row cs : List AVal), Dt.llen cs = Dt.llen row → splice row 0 cs = cs
  | [], [], _ => rfl
  | _ :: l, _ :: m, h => by simp only [splice]; rw [splice_all l m (by simpa [Dt.llen] using h)]
  | [], _ :: _, h => by simp [Dt.llen] at h
  | _ :: _, [], h => by simp [Dt.llen] at h
/-- Has a list n members? If so the one, else the other. -/
def lenE (x y : Bool) : List AVal → Nat → Bool := List.rec (fun n => Nat.rec x (fun _ _ => y) n) (fun _ _ ih n => Nat.rec y (fun m _ => ih m) n)
theorem lenE_eq (x y : Bool) : ∀ (l : List AVal) (n : Nat), lenE x y l n = ifB (lenIs l n) x y
  | [], 0 => rfl
  | [], _ + 1 => rfl
  | _ :: _, 0 => rfl
  | _ :: l, n + 1 => lenE_eq x y l n
def wholeL0 (row : List AVal) (n : Nat) (k : List AVal → Bool) : Bool := lenE (k row) (cutK row 0 n k) row n
/-- A part of a row; the whole of it as it stands. -/
def wholeL (row : List AVal) (c n : Nat) (k : List AVal → Bool) : Bool := Nat.rec (wholeL0 row n k) (fun c _ => cutK row (Nat.succ c) n k) c
theorem wholeL_eq (row : List AVal) (c n : Nat) (k : List AVal → Bool) : wholeL row c n k = (match Dt.cut row c n with | some cs => k cs | _ => false) := by
  cases c with
  | succ c => exact cutK_eq row (c + 1) n k
  | zero =>
    show lenE (k row) (cutK row 0 n k) row n = _
    rw [lenE_eq, ifB_eq, lenIs_eq, cutK_eq]
    cases h : (Nat.beq n (Dt.llen row)) with
    | false => rfl
    | true => rw [Nat.eq_of_beq_eq_true h, cut_all]
/-- A part of a row is written over, where it fits. -/
def splZ (K : List AVal → Bool) : Nat → List AVal → Bool := Nat.rec (List.rec (K []) (fun _ _ _ => false)) (fun _ _ _ => false)
def splF : List AVal → Nat → List AVal → (List AVal → Bool) → Bool := List.rec (fun c new K => splZ K c new)
  (fun x l ih c new K => Nat.rec (List.rec (K (x :: l)) (fun y new _ => ih 0 new fun l' => K (y :: l')) new) (fun c _ => ih c new fun l' => K (x :: l')) c)
theorem splF_eq : ∀ (row : List AVal) (c : Nat) (cs : List AVal) (K : List AVal → Bool), splF row c cs K = (match Nat.ble (c + Dt.llen cs) (Dt.llen row) with | true => K (splice row c cs) | false => false)
  | [], 0, [], K => rfl
  | [], 0, _ :: _, K => by
    show false = _
    simp only [Dt.llen, Nat.zero_add]
    rfl
  | [], c + 1, cs, K => by
    show false = _
    have : Nat.ble (c + 1 + Dt.llen cs) (Dt.llen []) = false := by
      rw [show c + 1 + Dt.llen cs = (c + Dt.llen cs) + 1 by omega]
      rfl
    rw [this]
  | x :: l, 0, [], K => by
    show K (x :: l) = _
    have : Nat.ble (0 + Dt.llen []) (Dt.llen (x :: l)) = true := by simp [Dt.llen]
    rw [this]
    simp only [splice]
  | x :: l, 0, y :: cs, K => by
    show splF l 0 cs (fun l' => K (y :: l')) = _
    rw [splF_eq l 0 cs]
    have : Nat.ble (0 + Dt.llen (y :: cs)) (Dt.llen (x :: l)) = Nat.ble (0 + Dt.llen cs) (Dt.llen l) := by
      simp only [Dt.llen, Nat.zero_add]
      rfl
    rw [this]
    simp only [splice]
  | x :: l, c + 1, cs, K => by
    show splF l c cs (fun l' => K (x :: l')) = _
    rw [splF_eq l c cs]
    have : Nat.ble (c + 1 + Dt.llen cs) (Dt.llen (x :: l)) = Nat.ble (c + Dt.llen cs) (Dt.llen l) := by
      rw [show c + 1 + Dt.llen cs = (c + Dt.llen cs) + 1 by omega]
      rfl
    rw [this]
    simp only [splice]
def wholeS (row : List AVal) (c n : Nat) (cs : List AVal) (k : List AVal → Bool) : Bool := lenE (splF row c cs k) false cs n
theorem wholeS_eq (row : List AVal) (c n : Nat) (cs : List AVal) (k : List AVal → Bool) : wholeS row c n cs k = (match Nat.beq (Dt.llen cs) n && Nat.ble (c + n) (Dt.llen row) with | true => k (splice row c cs) | false => false) := by
  unfold wholeS
  rw [lenE_eq, ifB_eq, lenIs_eq, splF_eq]
  cases h : Nat.beq n (Dt.llen cs) with
  | false =>
    have : Nat.beq (Dt.llen cs) n = false := by
      cases h' : Nat.beq (Dt.llen cs) n with
      | false => rfl
      | true => rw [Nat.eq_of_beq_eq_true h'] at h; simp at h
    rw [this]
    rfl
  | true =>
    have h1 := Nat.eq_of_beq_eq_true h
    subst h1
    have : Nat.beq (Dt.llen cs) (Dt.llen cs) = true := by simp
    rw [this, Bool.true_and]
def lgK : List AVal → Nat → (AVal → Bool) → Bool := List.rec (fun _ K => K (.tup [])) (fun x _ ih i K => Nat.rec (K x) (fun i _ => ih i K) i)
theorem lgK_eq : ∀ (l : List AVal) (i : Nat) (K : AVal → Bool), lgK l i K = K (Dt.lget l i)
  | [], _, _ => rfl
  | _ :: _, 0, _ => rfl
  | _ :: l, i + 1, K => lgK_eq l i K
def og : Opd → List AVal → List AVal → (AVal → Bool) → Bool := Opd.rec (fun i vs _ K => lgK vs i K) (fun i _ ts K => lgK ts i K) (fun x _ _ K => K x)
theorem og_eq (x : Opd) (vs ts : List AVal) (K : AVal → Bool) : og x vs ts K = K (x.get vs ts) := by
  cases x
  · exact lgK_eq _ _ _
  · exact lgK_eq _ _ _
  · rfl
def tg0 : Nat → Nat → (Nat → (Blk → Bool) → Bool) → (Nat → (Blk → Bool) → Bool) → (Blk → Bool) → Bool := Nat.rec (fun q l _ K => l q K) (fun _ _ q _ r K => r q K)
def tg1 : Nat → Blk → (Nat → (Blk → Bool) → Bool) → (Nat → (Blk → Bool) → Bool) → (Blk → Bool) → Bool := Nat.rec (fun v _ _ K => K v) (fun k _ _ l r K => tg0 (Nat.mod k 2) (Nat.div k 2) l r K)
def tgK : Tr → Nat → (Blk → Bool) → Bool := Tr.rec (fun _ K => K .dead) (fun _ v _ l r k K => tg1 k v l r K)
theorem tgK_eq : ∀ (t : Tr) (k : Nat) (K : Blk → Bool), tgK t k K = K (t.get k)
  | .nil, _, _ => rfl
  | .node l v r, 0, _ => rfl
  | .node l v r, k + 1, K => by
    show tg0 (k % 2) (k / 2) (tgK l) (tgK r) K = _
    simp only [Tr.get]
    rcases Nat.mod_two_eq_zero_or_one k with e | e
    · rw [e]; exact tgK_eq l _ _
    · rw [e]; exact tgK_eq r _ _
def hg : Heap → Nat → (Blk → Bool) → Bool := Heap.rec fun _ tr _ b K => tgK tr b K
theorem hg_eq (H : Heap) (b : Nat) (K : Blk → Bool) : hg H b K = K (H.get b) := tgK_eq H.tr b K
def opZ (vs ts : List AVal) : List Opd → (List AVal → Bool) → Bool := List.rec (fun K => K []) (fun x _ ih K => og x vs ts fun v => ih fun l => K (v :: l))
theorem opZ_eq (vs ts : List AVal) : ∀ (l : List Opd) (K : List AVal → Bool), opZ vs ts l K = K (opds vs ts l)
  | [], _ => rfl
  | x :: l, K => by
    show og x vs ts (fun v => opZ vs ts l fun l => K (v :: l)) = _
    rw [og_eq, opZ_eq vs ts l]
    rfl
abbrev TS := Tr → Nat → Blk → (Tr → Bool) → Bool
def tsN0 : Nat → Nat → TS → Blk → (Tr → Bool) → Bool := Nat.rec (fun q ih x K => ih .nil q x fun t => K (.node t .dead .nil)) (fun _ _ q ih x K => ih .nil q x fun t => K (.node .nil .dead t))
def tsN : Nat → TS → Blk → (Tr → Bool) → Bool := Nat.rec (fun _ x K => K (.node .nil x .nil)) (fun k _ ih x K => tsN0 (Nat.mod k 2) (Nat.div k 2) ih x K)
def tsL (v : Blk) (r : Tr) (K : Tr → Bool) (t : Tr) : Bool := K (.node t v r)
def tsR (l : Tr) (v : Blk) (K : Tr → Bool) (t : Tr) : Bool := K (.node l v t)
def tsM0 : Nat → Nat → Tr → Blk → Tr → TS → Blk → (Tr → Bool) → Bool := Nat.rec (fun q l v r ih x K => ih l q x (tsL v r K)) (fun _ _ q l v r ih x K => ih r q x (tsR l v K))
def tsM : Nat → Tr → Blk → Tr → TS → Blk → (Tr → Bool) → Bool := Nat.rec (fun l _ r _ x K => K (.node l x r)) (fun k _ l v r ih x K => tsM0 (Nat.mod k 2) (Nat.div k 2) l v r ih x K)
def ts1 : Tr → TS → Nat → Blk → (Tr → Bool) → Bool := Tr.rec (fun ih k => tsN k ih) (fun l v r _ _ ih k => tsM k l v r ih)
def tset : Nat → TS := Nat.rec (fun t _ _ K => K t) (fun _ ih t => ts1 t ih)
theorem tset_eq : ∀ (f : Nat) (t : Tr) (k : Nat) (x : Blk) (K : Tr → Bool), tset f t k x K = K (Tr.set f t k x)
  | 0, _, _, _, _ => rfl
  | f + 1, .nil, 0, x, K => rfl
  | f + 1, .node l v r, 0, x, K => rfl
  | f + 1, .nil, k + 1, x, K => by
    show tsN0 (k % 2) (k / 2) (tset f) x K = _
    simp only [Tr.set]
    rcases Nat.mod_two_eq_zero_or_one k with e | e
    · rw [e]; exact tset_eq f _ _ _ _
    · rw [e]; exact tset_eq f _ _ _ _
  | f + 1, .node l v r, k + 1, x, K => by
    show tsM0 (k % 2) (k / 2) l v r (tset f) x K = _
    simp only [Tr.set]
    rcases Nat.mod_two_eq_zero_or_one k with e | e
    · rw [e]; exact tset_eq f _ _ _ _
    · rw [e]; exact tset_eq f _ _ _ _
def hAddK (next : Nat) (gl : List (List AVal)) (K : Nat → Heap → Bool) (n : Nat) (t : Tr) : Bool := K next ⟨n, t, gl⟩
def hAdd : Heap → Blk → (Nat → Heap → Bool) → Bool := Heap.rec fun next tr gl x K => Q.fN (Nat.succ next) fun n => tset n tr next x (hAddK next gl K n)
theorem hAdd_eq (H : Heap) (x : Blk) (K : Nat → Heap → Bool) : hAdd H x K = K H.next (H.add x) := by
  obtain ⟨next, tr, gl⟩ := H
  show Q.fN (next + 1) (fun n => tset n tr next x fun t => K next ⟨n, t, gl⟩) = _
  rw [Q.fN_eq, tset_eq]
  rfl
def hPutK (next : Nat) (gl : List (List AVal)) (K : Heap → Bool) (t : Tr) : Bool := K ⟨next, t, gl⟩
def hPut : Heap → Nat → Blk → (Heap → Bool) → Bool := Heap.rec fun next tr gl b x K => tset (Nat.succ b) tr b x (hPutK next gl K)
theorem hPut_eq (H : Heap) (b : Nat) (x : Blk) (K : Heap → Bool) : hPut H b x K = K (H.put b x) := by
  obtain ⟨next, tr, gl⟩ := H
  show tset (b + 1) tr b x (fun t => K ⟨next, t, gl⟩) = _
  rw [tset_eq]
  rfl
def kn : IntKind → Nat := IntKind.rec 0 1 2 3 4 5 6 7
theorem kn_eq (a b : IntKind) : Nat.beq (kn a) (kn b) = decide (a = b) := by cases a <;> cases b <;> rfl
def iadd : Int → Int → Int := Int.rec (fun a => Int.rec (fun b => .ofNat (Nat.add a b)) (fun b => Int.ofNat a + Int.negSucc b)) (fun a y => Int.negSucc a + y)
theorem iadd_eq (a b : Int) : iadd a b = a + b := by cases a <;> cases b <;> rfl
def isub : Int → Int → Int := Int.rec (fun a => Int.rec (fun b => Bool.rec (Int.ofNat a - Int.ofNat b) (.ofNat (Nat.sub a b)) (Nat.ble b a)) (fun b => Int.ofNat a - Int.negSucc b)) (fun a y => Int.negSucc a - y)
theorem isub_eq (a b : Int) : isub a b = a - b := by
  cases a with
  | negSucc a => rfl
  | ofNat a => cases b with
    | negSucc b => rfl
    | ofNat b =>
      show (Bool.rec (Int.ofNat a - Int.ofNat b) (.ofNat (Nat.sub a b)) (Nat.ble b a) : Int) = _
      cases h : Nat.ble b a with
      | false => rfl
      | true =>
        have := Nat.le_of_ble_eq_true h
        show Int.ofNat (a - b) = _
        exact Int.ofNat_sub this
def wrap : IntKind → Int → Int := IntKind.rec (fun n => IntKind.i8.wrap n) (fun n => IntKind.i16.wrap n) (fun n => IntKind.i32.wrap n)
  (Int.rec (fun m => Bool.rec (IntKind.i64.wrap (.ofNat m)) (.ofNat m) (Nat.ble m 9223372036854775807)) (fun m => Bool.rec (IntKind.i64.wrap (.negSucc m)) (.negSucc m) (Nat.ble m 9223372036854775807)))
  (fun n => IntKind.u8.wrap n) (fun n => IntKind.u16.wrap n) (fun n => IntKind.u32.wrap n) (fun n => IntKind.u64.wrap n)
theorem wrap_eq (k : IntKind) (n : Int) : wrap k n = wrapI k n := by
  cases k <;> try rfl
  cases n with
  | ofNat m =>
    show (Bool.rec _ _ (Nat.ble m 9223372036854775807) : Int) = _
    simp only [wrapI]
    cases Nat.ble m 9223372036854775807 <;> rfl
  | negSucc m =>
    show (Bool.rec _ _ (Nat.ble m 9223372036854775807) : Int) = _
    simp only [wrapI]
    cases Nat.ble m 9223372036854775807 <;> rfl
def eqI : Int → Int → Bool := Int.rec (fun a => Int.rec (fun b => Nat.beq a b) (fun _ => false)) (fun a => Int.rec (fun _ => false) (fun b => Nat.beq a b))
theorem eqI_eq (a b : Int) : eqI a b = ieq a b := by cases a <;> cases b <;> rfl
def leI : Int → Int → Bool := Int.rec (fun a => Int.rec (fun b => Nat.ble a b) (fun _ => false)) (fun a => Int.rec (fun _ => true) (fun b => Nat.ble b a))
theorem leI_eq (a b : Int) : leI a b = ile a b := by cases a <;> cases b <;> rfl
def yes (b : Bool) (K : AVal → Bool) : Bool := Bool.rec (K (.bool false)) (K (.bool true)) b
def no (b : Bool) (K : AVal → Bool) : Bool := Bool.rec (K (.bool true)) (K (.bool false)) b
theorem yes_eq (b : Bool) (K : AVal → Bool) : yes b K = K (.bool b) := by cases b <;> rfl
theorem no_eq (b : Bool) (K : AVal → Bool) : no b K = K (.bool (!b)) := by cases b <;> rfl
/-- Two whole numbers of one kind. -/
def slow (op : BinOp) (k : IntKind) (a b : Int) (K : AVal → Bool) : Bool := match binV op (.int k a) (.int k b) with
  | some v => fV v K
  | none => false
def opI : BinOp → IntKind → Int → Int → (AVal → Bool) → Bool := BinOp.rec
  (fun k a b K => fI (wrap k (iadd a b)) fun n => K (.int k n))
  (fun k a b K => fI (wrap k (isub a b)) fun n => K (.int k n))
  (slow .mul) (slow .quo) (slow .rem) (slow .and) (slow .or) (slow .xor) (slow .shl) (slow .shr) (slow .andNot)
  (fun _ a b K => yes (eqI a b) K) (fun _ a b K => no (eqI a b) K) (fun _ a b K => no (leI b a) K) (fun _ a b K => yes (leI a b) K) (fun _ a b K => no (leI a b) K) (fun _ a b K => yes (leI b a) K)
theorem opI_eq (op : BinOp) (k : IntKind) (a b : Int) (K : AVal → Bool) : opI op k a b K = slow op k a b K := by
  cases op <;> first
    | rfl
    | (simp only [opI, slow, binV, isSh, decide_true, Q.fI_eq, Q.fV_eq, wrap_eq, iadd_eq, isub_eq]; done)
    | (simp only [opI, slow, binV, isSh, decide_true, Q.fI_eq, Q.fV_eq, yes_eq, no_eq, eqI_eq, leI_eq]; done)
def opS : BinOp → Nat → Nat → Nat → Nat → (AVal → Bool) → Bool := fun op n c m d K => match binV op (.str n c) (.str m d) with
  | some v => fV v K
  | none => false
def isShZ : BinOp → Bool := BinOp.rec false false false false false false false false true true false false false false false false false
theorem isShZ_eq (op : BinOp) : isShZ op = isSh op := by cases op <;> rfl
def binS : BinOp → Nat → Nat → Nat → Nat → (AVal → Bool) → Bool := BinOp.rec (opS .add) (opS .sub) (opS .mul) (opS .quo) (opS .rem) (opS .and) (opS .or) (opS .xor) (opS .shl) (opS .shr) (opS .andNot)
  (fun n c m d K => yes (andB (Nat.beq n m) (Nat.beq c d)) K) (fun n c m d K => no (andB (Nat.beq n m) (Nat.beq c d)) K) (opS .lss) (opS .leq) (opS .gtr) (opS .geq)
theorem binS_eq (op : BinOp) (n c m d : Nat) (K : AVal → Bool) : binS op n c m d K = opS op n c m d K := by
  cases op <;> first
    | rfl
    | (simp only [binS, opS, binV, Q.fV_eq, yes_eq, no_eq, andB_eq]; done)
def kSame (x : Bool) : IntKind → IntKind → Bool := IntKind.rec (IntKind.rec x false false false false false false false) (IntKind.rec false x false false false false false false) (IntKind.rec false false x false false false false false) (IntKind.rec false false false x false false false false) (IntKind.rec false false false false x false false false) (IntKind.rec false false false false false x false false) (IntKind.rec false false false false false false x false) (IntKind.rec false false false false false false false x)
theorem kSame_eq (x : Bool) (a b : IntKind) : kSame x a b = ifB (Nat.beq (kn a) (kn b)) x false := by cases a <;> cases b <;> rfl
def eqC : Int → Int → (AVal → Bool) → Bool := Int.rec (fun a => Int.rec (fun b K => yes (Nat.beq a b) K) (fun _ K => K (.bool false))) (fun a => Int.rec (fun _ K => K (.bool false)) (fun b K => yes (Nat.beq a b) K))
theorem eqC_eq (a b : Int) (K : AVal → Bool) : eqC a b K = yes (eqI a b) K := by cases a <;> cases b <;> rfl
def shfI (op : BinOp) (k : IntKind) (a : Int) (y : AVal) (K : AVal → Bool) : Bool := intK y fun _ b => (match (shI op k a b).map (.int k) with | some v => fV v K | none => false)
def comI (op : BinOp) (k : IntKind) (a : Int) (y : AVal) (K : AVal → Bool) : Bool := intK y fun k' b => kSame (opI op k a b K) k k'
def eqlI (k : IntKind) (a : Int) (y : AVal) (K : AVal → Bool) : Bool := intK y fun k' b => kSame (eqC a b K) k k'
def binI : BinOp → IntKind → Int → AVal → (AVal → Bool) → Bool := BinOp.rec (comI .add) (comI .sub) (comI .mul) (comI .quo) (comI .rem) (comI .and) (comI .or) (comI .xor) (shfI .shl) (shfI .shr) (comI .andNot) eqlI (comI .neq) (comI .lss) (comI .leq) (comI .gtr) (comI .geq)
theorem binI_eq (op : BinOp) (k : IntKind) (a : Int) (y : AVal) (K : AVal → Bool) : binI op k a y K = intK y fun k' b => ifB (isShZ op) (match (shI op k a b).map (.int k) with | some v => fV v K | none => false) (ifB (Nat.beq (kn k) (kn k')) (opI op k a b K) false) := by
  cases op <;> first
    | (simp only [binI, comI, kSame_eq]; rfl)
    | (simp only [binI, eqlI, kSame_eq, eqC_eq]; rfl)
    | rfl
def binK : AVal → (BinOp → AVal → (AVal → Bool) → Bool) := AVal.rec (motive_1 := fun _ => (BinOp → AVal → (AVal → Bool) → Bool)) (motive_2 := fun _ => Unit) (fun _ => fun _ _ _ => false) (fun k a => fun op y K => binI op k a y K) (fun n c => fun op y K => strK y fun m d => binS op n c m d K) (fun _ _ _ => fun _ _ _ => false) (fun _ _ _ => false) (fun _ _ _ _ _ => fun _ _ _ => false) (fun _ _ _ => false) (fun _ _ _ _ _ => fun _ _ _ => false) (fun _ _ _ => false) (fun _ _ _ => fun _ _ _ => false) (fun _ _ _ => false) (fun _ => fun _ _ _ => false) (fun _ _ _ => false) (fun _ _ => fun _ _ _ => false) (fun _ _ => fun _ _ _ => false) (fun _ _ => fun _ _ _ => false) (fun _ => fun _ _ _ => false) (fun _ _ _ => false) () (fun _ _ _ _ => ())

theorem binK_eq (op : BinOp) (x y : AVal) (K : AVal → Bool) : binK x op y K = (match binV op x y with | some v => Dt.fV v K | none => false) := by
  cases x <;> try rfl
  · rename_i k a
    show binI op k a y K = _
    rw [binI_eq]
    cases y <;> try rfl
    rename_i k' b
    simp only [intK_eq, ifB_eq, isShZ_eq, kn_eq, opI_eq]
    unfold slow
    simp only [Q.fV_eq, Dt.fV_eq]
    cases hs : isSh op with
    | true =>
      simp only [binV, hs]
      all_goals (cases (shI op k a b) <;> rfl)
    | false =>
      cases hk : decide (k = k') with
      | false => simp only [binV, hs, hk]
      | true =>
        have := of_decide_eq_true hk
        subst this
        all_goals rfl
  · rename_i n c
    show (strK y fun m d => binS op n c m d K) = _
    cases y <;> try rfl
    rename_i m d
    simp only [strK_eq, binS_eq, opS, Q.fV_eq, Dt.fV_eq]
def z_move (x : Opd) (call : C) (vs ts : List AVal) (H : Heap) (K : AVal → Heap → Bool) : Bool := og x vs ts fun v => K v H
theorem z_move_eq (x : Opd) (call : C) (vs ts : List AVal) (H : Heap) (K : AVal → Heap → Bool) : z_move x call vs ts H K = Dt.evI AB call (.move x) vs ts H K := by
  unfold z_move
  simp only [Dt.evI, Dt.fV_eq, AB, og_eq]
  all_goals (first | done | rfl)
def z_pick (c : Opd) (a : Opd) (b : Opd) (call : C) (vs ts : List AVal) (H : Heap) (K : AVal → Heap → Bool) : Bool := og c vs ts fun v => boolK v (og a vs ts fun v => K v H) (og b vs ts fun v => K v H)
theorem z_pick_eq (c : Opd) (a : Opd) (b : Opd) (call : C) (vs ts : List AVal) (H : Heap) (K : AVal → Heap → Bool) : z_pick c a b call vs ts H K = Dt.evI AB call (.pick c a b) vs ts H K := by
  unfold z_pick
  simp only [Dt.evI, Dt.fV_eq, AB, boolK_eq, og_eq]
  all_goals (first | done | rfl)
def z_alloc (row : List AVal) (call : C) (vs ts : List AVal) (H : Heap) (K : AVal → Heap → Bool) : Bool := fN (llen row) fun n => hAdd H (.rows n [row]) fun b H => K (.ptr b 0 0) H
theorem z_alloc_eq (row : List AVal) (call : C) (vs ts : List AVal) (H : Heap) (K : AVal → Heap → Bool) : z_alloc row call vs ts H K = Dt.evI AB call (.alloc row) vs ts H K := by
  unfold z_alloc
  simp only [Dt.evI, Dt.fV_eq, AB, Q.fN_eq, Dt.fN_eq, hAdd_eq, Dt.hAdd_eq, Q.llen_eq]
  all_goals (first | done | rfl)
def z_box (n : Nat) (x : Opd) (call : C) (vs ts : List AVal) (H : Heap) (K : AVal → Heap → Bool) : Bool := og x vs ts fun v => cellsK v fun cs => lenE (hAdd H (.rows n [cs]) fun b H => K (.ptr b 0 0) H) false cs n
theorem z_box_eq (n : Nat) (x : Opd) (call : C) (vs ts : List AVal) (H : Heap) (K : AVal → Heap → Bool) : z_box n x call vs ts H K = Dt.evI AB call (.box n x) vs ts H K := by
  unfold z_box
  simp only [Dt.evI, Dt.fV_eq, AB, cellsK_eq, hAdd_eq, Dt.hAdd_eq, og_eq, lenE_eq, ifB_eq, lenIs_eq2]
  all_goals (first | done | rfl)
def z_build (zero : List AVal) (parts : List (Nat × Nat × Opd)) (call : C) (vs ts : List AVal) (H : Heap) (K : AVal → Heap → Bool) : Bool := Q.o_build AB call zero parts vs ts H K
theorem z_build_eq (zero : List AVal) (parts : List (Nat × Nat × Opd)) (call : C) (vs ts : List AVal) (H : Heap) (K : AVal → Heap → Bool) : z_build zero parts call vs ts H K = Dt.evI AB call (.build zero parts) vs ts H K := Q.o_build_eq AB call _ _ vs ts H K
def z_buildS (esz : Nat) (rows : List (List AVal)) (parts : List (Nat × Opd)) (call : C) (vs ts : List AVal) (H : Heap) (K : AVal → Heap → Bool) : Bool := Q.o_buildS AB call esz rows parts vs ts H K
theorem z_buildS_eq (esz : Nat) (rows : List (List AVal)) (parts : List (Nat × Opd)) (call : C) (vs ts : List AVal) (H : Heap) (K : AVal → Heap → Bool) : z_buildS esz rows parts call vs ts H K = Dt.evI AB call (.buildS esz rows parts) vs ts H K := Q.o_buildS_eq AB call _ _ _ vs ts H K
def z_load1 (x : Opd) (call : C) (vs ts : List AVal) (H : Heap) (K : AVal → Heap → Bool) : Bool := og x vs ts fun v => ptrK v (fun b r c => hg H b fun B => rowsK B fun _ l => rgetK l r fun row => cellK row c fun v => K v H) fun g c => Dt.evI AB call (.load1 (.c (.gp g c))) vs ts H K
theorem z_load1_eq (x : Opd) (call : C) (vs ts : List AVal) (H : Heap) (K : AVal → Heap → Bool) : z_load1 x call vs ts H K = Dt.evI AB call (.load1 x) vs ts H K := by
  unfold z_load1
  simp only [Dt.evI, Dt.fV_eq, AB, ptrK_eq, rowsK_eq, rgetK_eq, cellK_eq, og_eq, hg_eq]
  all_goals (cases x.get vs ts <;> rfl)
def z_loadN (n : Nat) (x : Opd) (call : C) (vs ts : List AVal) (H : Heap) (K : AVal → Heap → Bool) : Bool := og x vs ts fun v => ptrK v (fun b r c => hg H b fun B => rowsK B fun _ l => rgetK l r fun row => wholeL row c n fun cs => K (.agg cs) H) fun g c => Dt.evI AB call (.loadN n (.c (.gp g c))) vs ts H K
theorem z_loadN_eq (n : Nat) (x : Opd) (call : C) (vs ts : List AVal) (H : Heap) (K : AVal → Heap → Bool) : z_loadN n x call vs ts H K = Dt.evI AB call (.loadN n x) vs ts H K := by
  unfold z_loadN
  simp only [Dt.evI, Dt.doStore, Dt.fV_eq, Dt.fL_eq, AB, wholeL_eq, ptrK_eq, rowsK_eq, rgetK_eq, og_eq, hg_eq]
  all_goals (cases x.get vs ts <;> rfl)
def z_store (n : Nat) (x : Opd) (v : Opd) (call : C) (vs ts : List AVal) (H : Heap) (K : AVal → Heap → Bool) : Bool := og x vs ts fun p => ptrK p (fun b r c => og v vs ts fun v => cellsK v fun cs => hg H b fun B => rowsK B fun z l => rgetK l r fun row => wholeS row c n cs fun row => rsetK l r row fun l => hPut H b (.rows z l) fun H => K (.tup []) H) fun _ _ => false
theorem z_store_eq (n : Nat) (x : Opd) (v : Opd) (call : C) (vs ts : List AVal) (H : Heap) (K : AVal → Heap → Bool) : z_store n x v call vs ts H K = Dt.evI AB call (.store n x v) vs ts H K := by
  unfold z_store
  simp only [Dt.evI, Dt.doStore, Dt.fV_eq, Dt.fL_eq, AB, wholeS_eq, Q.llen_eq, ptrK_eq, cellsK_eq, rowsK_eq, rgetK_eq, hPut_eq, Dt.hPut_eq, Q.rsetK_eq, og_eq, hg_eq]
  all_goals (generalize x.get vs ts = X; cases X <;> rfl)
def z_nilck (x : Opd) (call : C) (vs ts : List AVal) (H : Heap) (K : AVal → Heap → Bool) : Bool := og x vs ts fun v => nilK v fun v => K v H
theorem z_nilck_eq (x : Opd) (call : C) (vs ts : List AVal) (H : Heap) (K : AVal → Heap → Bool) : z_nilck x call vs ts H K = Dt.evI AB call (.nilck x) vs ts H K := by
  unfold z_nilck
  simp only [Dt.evI, Dt.fV_eq, AB, nilK_eq, og_eq]
  all_goals (first | done | rfl)
def z_bin (op : BinOp) (x : Opd) (y : Opd) (call : C) (vs ts : List AVal) (H : Heap) (K : AVal → Heap → Bool) : Bool := og x vs ts fun x => og y vs ts fun y => binK x op y fun v => K v H
theorem z_bin_eq (op : BinOp) (x : Opd) (y : Opd) (call : C) (vs ts : List AVal) (H : Heap) (K : AVal → Heap → Bool) : z_bin op x y call vs ts H K = Dt.evI AB call (.bin op x y) vs ts H K := by
  unfold z_bin
  simp only [Dt.evI, Dt.doStore, Dt.fV_eq, Dt.fL_eq, AB, binK_eq, og_eq]
  all_goals (first | done | rfl)
def z_binB (op : BinOp) (x : Opd) (y : Opd) (call : C) (vs ts : List AVal) (H : Heap) (K : AVal → Heap → Bool) : Bool := Q.o_binB AB call op x y vs ts H K
theorem z_binB_eq (op : BinOp) (x : Opd) (y : Opd) (call : C) (vs ts : List AVal) (H : Heap) (K : AVal → Heap → Bool) : z_binB op x y call vs ts H K = Dt.evI AB call (.binB op x y) vs ts H K := Q.o_binB_eq AB call _ _ _ vs ts H K
def z_binP (op : BinOp) (x : Opd) (y : Opd) (call : C) (vs ts : List AVal) (H : Heap) (K : AVal → Heap → Bool) : Bool := Q.o_binP AB call op x y vs ts H K
theorem z_binP_eq (op : BinOp) (x : Opd) (y : Opd) (call : C) (vs ts : List AVal) (H : Heap) (K : AVal → Heap → Bool) : z_binP op x y call vs ts H K = Dt.evI AB call (.binP op x y) vs ts H K := Q.o_binP_eq AB call _ _ _ vs ts H K
def z_eqAgg (neg : Bool) (ks : List Nat) (x : Opd) (y : Opd) (call : C) (vs ts : List AVal) (H : Heap) (K : AVal → Heap → Bool) : Bool := Q.o_eqAgg AB call neg ks x y vs ts H K
theorem z_eqAgg_eq (neg : Bool) (ks : List Nat) (x : Opd) (y : Opd) (call : C) (vs ts : List AVal) (H : Heap) (K : AVal → Heap → Bool) : z_eqAgg neg ks x y call vs ts H K = Dt.evI AB call (.eqAgg neg ks x y) vs ts H K := Q.o_eqAgg_eq AB call _ _ _ _ vs ts H K
def z_not (x : Opd) (call : C) (vs ts : List AVal) (H : Heap) (K : AVal → Heap → Bool) : Bool := og x vs ts fun v => boolK v (K (.bool false) H) (K (.bool true) H)
theorem z_not_eq (x : Opd) (call : C) (vs ts : List AVal) (H : Heap) (K : AVal → Heap → Bool) : z_not x call vs ts H K = Dt.evI AB call (.not x) vs ts H K := by
  unfold z_not
  simp only [Dt.evI, Dt.fV_eq, AB, boolK_eq, og_eq]
  all_goals (first | done | rfl)
def z_conv (k : IntKind) (x : Opd) (call : C) (vs ts : List AVal) (H : Heap) (K : AVal → Heap → Bool) : Bool := Q.o_conv AB call k x vs ts H K
theorem z_conv_eq (k : IntKind) (x : Opd) (call : C) (vs ts : List AVal) (H : Heap) (K : AVal → Heap → Bool) : z_conv k x call vs ts H K = Dt.evI AB call (.conv k x) vs ts H K := Q.o_conv_eq AB call _ _ vs ts H K
def z_fadr (off : Nat) (x : Opd) (call : C) (vs ts : List AVal) (H : Heap) (K : AVal → Heap → Bool) : Bool := og x vs ts fun v => ptrK v (fun b r c => fN (Nat.add c off) fun c => K (.ptr b r c) H) fun g c => fN (Nat.add c off) fun c => K (.gp g c) H
theorem z_fadr_eq (off : Nat) (x : Opd) (call : C) (vs ts : List AVal) (H : Heap) (K : AVal → Heap → Bool) : z_fadr off x call vs ts H K = Dt.evI AB call (.fadr off x) vs ts H K := by
  unfold z_fadr
  simp only [Dt.evI, Dt.fV_eq, AB, ptrK_eq, Q.fN_eq, Dt.fN_eq, og_eq]
  all_goals (first | done | rfl)
def z_fld1 (off : Nat) (x : Opd) (call : C) (vs ts : List AVal) (H : Heap) (K : AVal → Heap → Bool) : Bool := og x vs ts fun v => aggK v fun l => cellK l off fun v => K v H
theorem z_fld1_eq (off : Nat) (x : Opd) (call : C) (vs ts : List AVal) (H : Heap) (K : AVal → Heap → Bool) : z_fld1 off x call vs ts H K = Dt.evI AB call (.fld1 off x) vs ts H K := by
  unfold z_fld1
  simp only [Dt.evI, Dt.fV_eq, AB, aggK_eq, cellK_eq, og_eq]
  all_goals (first | done | rfl)
def z_fldN (off : Nat) (n : Nat) (x : Opd) (call : C) (vs ts : List AVal) (H : Heap) (K : AVal → Heap → Bool) : Bool := og x vs ts fun v => aggK v fun l => cutK l off n fun cs => K (.agg cs) H
theorem z_fldN_eq (off : Nat) (n : Nat) (x : Opd) (call : C) (vs ts : List AVal) (H : Heap) (K : AVal → Heap → Bool) : z_fldN off n x call vs ts H K = Dt.evI AB call (.fldN off n x) vs ts H K := by
  unfold z_fldN
  simp only [Dt.evI, Dt.doStore, Dt.fV_eq, Dt.fL_eq, AB, aggK_eq, cutK_eq, og_eq]
  all_goals (first | done | rfl)
def z_idxS (esz : Nat) (x : Opd) (i : Opd) (call : C) (vs ts : List AVal) (H : Heap) (K : AVal → Heap → Bool) : Bool := og x vs ts fun v => og i vs ts fun w => slcK v (fun b r len _ z => intK w fun _ n => natI n fun n => ifB (andB (Nat.blt n len) (Nat.beq z esz)) (fN (Nat.add r n) fun r => K (.ptr b r 0) H) false) false
theorem z_idxS_eq (esz : Nat) (x : Opd) (i : Opd) (call : C) (vs ts : List AVal) (H : Heap) (K : AVal → Heap → Bool) : z_idxS esz x i call vs ts H K = Dt.evI AB call (.idxS esz x i) vs ts H K := by
  unfold z_idxS
  simp only [Dt.evI, Dt.fV_eq, AB, slcK_eq, intK_eq, natI_eq, andB_eq, ifB_eq, Q.fN_eq, Dt.fN_eq, og_eq]
  all_goals (generalize x.get vs ts = X; generalize i.get vs ts = I; cases X <;> first | rfl | (cases I <;> first | rfl | (rename_i n; cases n <;> rfl)))
def z_idxA (len : Nat) (esz : Nat) (x : Opd) (i : Opd) (call : C) (vs ts : List AVal) (H : Heap) (K : AVal → Heap → Bool) : Bool := Q.o_idxA AB call len esz x i vs ts H K
theorem z_idxA_eq (len : Nat) (esz : Nat) (x : Opd) (i : Opd) (call : C) (vs ts : List AVal) (H : Heap) (K : AVal → Heap → Bool) : z_idxA len esz x i call vs ts H K = Dt.evI AB call (.idxA len esz x i) vs ts H K := Q.o_idxA_eq AB call _ _ _ _ vs ts H K
def z_idxStr (x : Opd) (i : Opd) (call : C) (vs ts : List AVal) (H : Heap) (K : AVal → Heap → Bool) : Bool := og x vs ts fun v => og i vs ts fun w => strK v fun n c => intK w fun _ j => natI j fun j => ifB (Nat.blt j n) (fN (sget c j) fun d => K (.int .u8 (.ofNat d)) H) false
theorem z_idxStr_eq (x : Opd) (i : Opd) (call : C) (vs ts : List AVal) (H : Heap) (K : AVal → Heap → Bool) : z_idxStr x i call vs ts H K = Dt.evI AB call (.idxStr x i) vs ts H K := by
  unfold z_idxStr
  simp only [Dt.evI, Dt.fV_eq, AB, intK_eq, strK_eq, natI_eq, ifB_eq, Q.fN_eq, Dt.fN_eq, og_eq]
  all_goals (generalize x.get vs ts = X; generalize i.get vs ts = I; cases X <;> first | rfl | (cases I <;> first | rfl | (rename_i n; cases n <;> rfl)))
def z_len (str : Bool) (x : Opd) (call : C) (vs ts : List AVal) (H : Heap) (K : AVal → Heap → Bool) : Bool := Q.o_len AB call str x vs ts H K
theorem z_len_eq (str : Bool) (x : Opd) (call : C) (vs ts : List AVal) (H : Heap) (K : AVal → Heap → Bool) : z_len str x call vs ts H K = Dt.evI AB call (.len str x) vs ts H K := Q.o_len_eq AB call _ _ vs ts H K
def z_append (esz : Nat) (bytes : Nat) (x : Opd) (y : Opd) (call : C) (vs ts : List AVal) (H : Heap) (K : AVal → Heap → Bool) : Bool := Q.o_append AB call esz bytes x y vs ts H K
theorem z_append_eq (esz : Nat) (bytes : Nat) (x : Opd) (y : Opd) (call : C) (vs ts : List AVal) (H : Heap) (K : AVal → Heap → Bool) : z_append esz bytes x y call vs ts H K = Dt.evI AB call (.append esz bytes x y) vs ts H K := Q.o_append_eq AB call _ _ _ _ vs ts H K
def z_slcStr (x : Opd) (lo : Option Opd) (hi : Option Opd) (call : C) (vs ts : List AVal) (H : Heap) (K : AVal → Heap → Bool) : Bool := Q.o_slcStr AB call x lo hi vs ts H K
theorem z_slcStr_eq (x : Opd) (lo : Option Opd) (hi : Option Opd) (call : C) (vs ts : List AVal) (H : Heap) (K : AVal → Heap → Bool) : z_slcStr x lo hi call vs ts H K = Dt.evI AB call (.slcStr x lo hi) vs ts H K := Q.o_slcStr_eq AB call _ _ _ vs ts H K
def z_slcS (esz : Nat) (x : Opd) (lo : Option Opd) (hi : Option Opd) (mx : Option Opd) (call : C) (vs ts : List AVal) (H : Heap) (K : AVal → Heap → Bool) : Bool := Q.o_slcS AB call esz x lo hi mx vs ts H K
theorem z_slcS_eq (esz : Nat) (x : Opd) (lo : Option Opd) (hi : Option Opd) (mx : Option Opd) (call : C) (vs ts : List AVal) (H : Heap) (K : AVal → Heap → Bool) : z_slcS esz x lo hi mx call vs ts H K = Dt.evI AB call (.slcS esz x lo hi mx) vs ts H K := Q.o_slcS_eq AB call _ _ _ _ _ vs ts H K
def z_mkS (zero : List AVal) (bytes : Nat) (len : Opd) (cap : Opd) (call : C) (vs ts : List AVal) (H : Heap) (K : AVal → Heap → Bool) : Bool := Q.o_mkS AB call zero bytes len cap vs ts H K
theorem z_mkS_eq (zero : List AVal) (bytes : Nat) (len : Opd) (cap : Opd) (call : C) (vs ts : List AVal) (H : Heap) (K : AVal → Heap → Bool) : z_mkS zero bytes len cap call vs ts H K = Dt.evI AB call (.mkS zero bytes len cap) vs ts H K := Q.o_mkS_eq AB call _ _ _ _ vs ts H K
def z_call (f : Nat) (args : List Opd) (call : C) (vs ts : List AVal) (H : Heap) (K : AVal → Heap → Bool) : Bool := opZ vs ts args fun l => call f l H K
theorem z_call_eq (f : Nat) (args : List Opd) (call : C) (vs ts : List AVal) (H : Heap) (K : AVal → Heap → Bool) : z_call f args call vs ts H K = Dt.evI AB call (.call f args) vs ts H K := by
  unfold z_call
  simp only [Dt.evI, Dt.doStore, Dt.fV_eq, Dt.fL_eq, AB, opZ_eq]
  all_goals (first | done | rfl)
def z_callv (x : Opd) (args : List Opd) (call : C) (vs ts : List AVal) (H : Heap) (K : AVal → Heap → Bool) : Bool := Q.o_callv AB call x args vs ts H K
theorem z_callv_eq (x : Opd) (args : List Opd) (call : C) (vs ts : List AVal) (H : Heap) (K : AVal → Heap → Bool) : z_callv x args call vs ts H K = Dt.evI AB call (.callv x args) vs ts H K := Q.o_callv_eq AB call _ _ vs ts H K
def z_ext (x : Opd) (i : Nat) (call : C) (vs ts : List AVal) (H : Heap) (K : AVal → Heap → Bool) : Bool := og x vs ts fun v => tupK v fun l => ifB (Nat.blt i (llen l)) (lgK l i fun v => K v H) false
theorem z_ext_eq (x : Opd) (i : Nat) (call : C) (vs ts : List AVal) (H : Heap) (K : AVal → Heap → Bool) : z_ext x i call vs ts H K = Dt.evI AB call (.ext x i) vs ts H K := by
  unfold z_ext
  simp only [Dt.evI, Dt.fV_eq, AB, tupK_eq, ifB_eq, Q.llen_eq, og_eq, lgK_eq]
  all_goals (first | done | rfl)
def z_mkfn (f : Nat) (first : List Opd) (capt : List Opd) (call : C) (vs ts : List AVal) (H : Heap) (K : AVal → Heap → Bool) : Bool := Q.o_mkfn AB call f first capt vs ts H K
theorem z_mkfn_eq (f : Nat) (first : List Opd) (capt : List Opd) (call : C) (vs ts : List AVal) (H : Heap) (K : AVal → Heap → Bool) : z_mkfn f first capt call vs ts H K = Dt.evI AB call (.mkfn f first capt) vs ts H K := Q.o_mkfn_eq AB call _ _ _ vs ts H K
def z_again1 (x : Opd) (y : Opd) (call : C) (vs ts : List AVal) (H : Heap) (K : AVal → Heap → Bool) : Bool := Q.o_again1 AB call x y vs ts H K
theorem z_again1_eq (x : Opd) (y : Opd) (call : C) (vs ts : List AVal) (H : Heap) (K : AVal → Heap → Bool) : z_again1 x y call vs ts H K = Dt.evI AB call (.again1 x y) vs ts H K := Q.o_again1_eq AB call _ _ vs ts H K
def z_againN (n : Nat) (x : Opd) (y : Opd) (call : C) (vs ts : List AVal) (H : Heap) (K : AVal → Heap → Bool) : Bool := Q.o_againN AB call n x y vs ts H K
theorem z_againN_eq (n : Nat) (x : Opd) (y : Opd) (call : C) (vs ts : List AVal) (H : Heap) (K : AVal → Heap → Bool) : z_againN n x y call vs ts H K = Dt.evI AB call (.againN n x y) vs ts H K := Q.o_againN_eq AB call _ _ _ vs ts H K
def z_againL (zero : AVal) (kk : Nat) (ok : Bool) (x : Opd) (k : Opd) (y : Opd) (call : C) (vs ts : List AVal) (H : Heap) (K : AVal → Heap → Bool) : Bool := Q.o_againL AB call zero kk ok x k y vs ts H K
theorem z_againL_eq (zero : AVal) (kk : Nat) (ok : Bool) (x : Opd) (k : Opd) (y : Opd) (call : C) (vs ts : List AVal) (H : Heap) (K : AVal → Heap → Bool) : z_againL zero kk ok x k y call vs ts H K = Dt.evI AB call (.againL zero kk ok x k y) vs ts H K := Q.o_againL_eq AB call _ _ _ _ _ _ vs ts H K
def z_un1 (neg : Bool) (x : Opd) (call : C) (vs ts : List AVal) (H : Heap) (K : AVal → Heap → Bool) : Bool := Q.o_un1 AB call neg x vs ts H K
theorem z_un1_eq (neg : Bool) (x : Opd) (call : C) (vs ts : List AVal) (H : Heap) (K : AVal → Heap → Bool) : z_un1 neg x call vs ts H K = Dt.evI AB call (.un1 neg x) vs ts H K := Q.o_un1_eq AB call _ _ vs ts H K
def z_convBS (x : Opd) (call : C) (vs ts : List AVal) (H : Heap) (K : AVal → Heap → Bool) : Bool := Q.o_convBS AB call x vs ts H K
theorem z_convBS_eq (x : Opd) (call : C) (vs ts : List AVal) (H : Heap) (K : AVal → Heap → Bool) : z_convBS x call vs ts H K = Dt.evI AB call (.convBS x) vs ts H K := Q.o_convBS_eq AB call _ vs ts H K
def z_convIS (x : Opd) (call : C) (vs ts : List AVal) (H : Heap) (K : AVal → Heap → Bool) : Bool := Q.o_convIS AB call x vs ts H K
theorem z_convIS_eq (x : Opd) (call : C) (vs ts : List AVal) (H : Heap) (K : AVal → Heap → Bool) : z_convIS x call vs ts H K = Dt.evI AB call (.convIS x) vs ts H K := Q.o_convIS_eq AB call _ vs ts H K
def z_rngS (x : Opd) (call : C) (vs ts : List AVal) (H : Heap) (K : AVal → Heap → Bool) : Bool := Q.o_rngS AB call x vs ts H K
theorem z_rngS_eq (x : Opd) (call : C) (vs ts : List AVal) (H : Heap) (K : AVal → Heap → Bool) : z_rngS x call vs ts H K = Dt.evI AB call (.rngS x) vs ts H K := Q.o_rngS_eq AB call _ vs ts H K
def z_nxtS (x : Opd) (call : C) (vs ts : List AVal) (H : Heap) (K : AVal → Heap → Bool) : Bool := Q.o_nxtS AB call x vs ts H K
theorem z_nxtS_eq (x : Opd) (call : C) (vs ts : List AVal) (H : Heap) (K : AVal → Heap → Bool) : z_nxtS x call vs ts H K = Dt.evI AB call (.nxtS x) vs ts H K := Q.o_nxtS_eq AB call _ vs ts H K
def z_mkmap  (call : C) (vs ts : List AVal) (H : Heap) (K : AVal → Heap → Bool) : Bool := Q.o_mkmap AB call  vs ts H K
theorem z_mkmap_eq  (call : C) (vs ts : List AVal) (H : Heap) (K : AVal → Heap → Bool) : z_mkmap  call vs ts H K = Dt.evI AB call (.mkmap ) vs ts H K := Q.o_mkmap_eq AB call  vs ts H K
def z_lkp (zero : AVal) (kk : Nat) (ok : Bool) (x : Opd) (k : Opd) (call : C) (vs ts : List AVal) (H : Heap) (K : AVal → Heap → Bool) : Bool := Q.o_lkp AB call zero kk ok x k vs ts H K
theorem z_lkp_eq (zero : AVal) (kk : Nat) (ok : Bool) (x : Opd) (k : Opd) (call : C) (vs ts : List AVal) (H : Heap) (K : AVal → Heap → Bool) : z_lkp zero kk ok x k call vs ts H K = Dt.evI AB call (.lkp zero kk ok x k) vs ts H K := Q.o_lkp_eq AB call _ _ _ _ _ vs ts H K
def z_mupd (kk : Nat) (m : Opd) (k : Opd) (v : Opd) (call : C) (vs ts : List AVal) (H : Heap) (K : AVal → Heap → Bool) : Bool := Q.o_mupd AB call kk m k v vs ts H K
theorem z_mupd_eq (kk : Nat) (m : Opd) (k : Opd) (v : Opd) (call : C) (vs ts : List AVal) (H : Heap) (K : AVal → Heap → Bool) : z_mupd kk m k v call vs ts H K = Dt.evI AB call (.mupd kk m k v) vs ts H K := Q.o_mupd_eq AB call _ _ _ _ vs ts H K
def z_die  (call : C) (vs ts : List AVal) (H : Heap) (K : AVal → Heap → Bool) : Bool := Q.o_die AB call  vs ts H K
theorem z_die_eq  (call : C) (vs ts : List AVal) (H : Heap) (K : AVal → Heap → Bool) : z_die  call vs ts H K = Dt.evI AB call (.die ) vs ts H K := Q.o_die_eq AB call  vs ts H K
def z_binN (neg : Bool) (k : Nat) (x : Opd) (call : C) (vs ts : List AVal) (H : Heap) (K : AVal → Heap → Bool) : Bool := Q.o_binN AB call neg k x vs ts H K
theorem z_binN_eq (neg : Bool) (k : Nat) (x : Opd) (call : C) (vs ts : List AVal) (H : Heap) (K : AVal → Heap → Bool) : z_binN neg k x call vs ts H K = Dt.evI AB call (.binN neg k x) vs ts H K := Q.o_binN_eq AB call _ _ _ vs ts H K
def z_binPP (neg : Bool) (x : Opd) (y : Opd) (call : C) (vs ts : List AVal) (H : Heap) (K : AVal → Heap → Bool) : Bool := Q.o_binPP AB call neg x y vs ts H K
theorem z_binPP_eq (neg : Bool) (x : Opd) (y : Opd) (call : C) (vs ts : List AVal) (H : Heap) (K : AVal → Heap → Bool) : z_binPP neg x y call vs ts H K = Dt.evI AB call (.binPP neg x y) vs ts H K := Q.o_binPP_eq AB call _ _ _ vs ts H K
def z_mkif (t : Nat) (x : Opd) (call : C) (vs ts : List AVal) (H : Heap) (K : AVal → Heap → Bool) : Bool := Q.o_mkif AB call t x vs ts H K
theorem z_mkif_eq (t : Nat) (x : Opd) (call : C) (vs ts : List AVal) (H : Heap) (K : AVal → Heap → Bool) : z_mkif t x call vs ts H K = Dt.evI AB call (.mkif t x) vs ts H K := Q.o_mkif_eq AB call _ _ vs ts H K
def z_tas (t : Nat) (zero : AVal) (x : Opd) (call : C) (vs ts : List AVal) (H : Heap) (K : AVal → Heap → Bool) : Bool := Q.o_tas AB call t zero x vs ts H K
theorem z_tas_eq (t : Nat) (zero : AVal) (x : Opd) (call : C) (vs ts : List AVal) (H : Heap) (K : AVal → Heap → Bool) : z_tas t zero x call vs ts H K = Dt.evI AB call (.tas t zero x) vs ts H K := Q.o_tas_eq AB call _ _ _ vs ts H K
def z_idxAg (n : Nat) (esz : Nat) (x : Opd) (i : Opd) (call : C) (vs ts : List AVal) (H : Heap) (K : AVal → Heap → Bool) : Bool := Q.o_idxAg AB call n esz x i vs ts H K
theorem z_idxAg_eq (n : Nat) (esz : Nat) (x : Opd) (i : Opd) (call : C) (vs ts : List AVal) (H : Heap) (K : AVal → Heap → Bool) : z_idxAg n esz x i call vs ts H K = Dt.evI AB call (.idxAg n esz x i) vs ts H K := Q.o_idxAg_eq AB call _ _ _ _ vs ts H K
def z_ment (zero : AVal) (kk : Nat) (m : Opd) (k : Opd) (call : C) (vs ts : List AVal) (H : Heap) (K : AVal → Heap → Bool) : Bool := Q.o_ment AB call zero kk m k vs ts H K
theorem z_ment_eq (zero : AVal) (kk : Nat) (m : Opd) (k : Opd) (call : C) (vs ts : List AVal) (H : Heap) (K : AVal → Heap → Bool) : z_ment zero kk m k call vs ts H K = Dt.evI AB call (.ment zero kk m k) vs ts H K := Q.o_ment_eq AB call _ _ _ _ vs ts H K
def z_esto (m : Opd) (s : Opd) (v : Opd) (call : C) (vs ts : List AVal) (H : Heap) (K : AVal → Heap → Bool) : Bool := Q.o_esto AB call m s v vs ts H K
theorem z_esto_eq (m : Opd) (s : Opd) (v : Opd) (call : C) (vs ts : List AVal) (H : Heap) (K : AVal → Heap → Bool) : z_esto m s v call vs ts H K = Dt.evI AB call (.esto m s v) vs ts H K := Q.o_esto_eq AB call _ _ _ vs ts H K
def z_rngM (x : Opd) (call : C) (vs ts : List AVal) (H : Heap) (K : AVal → Heap → Bool) : Bool := Q.o_rngM AB call x vs ts H K
theorem z_rngM_eq (x : Opd) (call : C) (vs ts : List AVal) (H : Heap) (K : AVal → Heap → Bool) : z_rngM x call vs ts H K = Dt.evI AB call (.rngM x) vs ts H K := Q.o_rngM_eq AB call _ vs ts H K
def z_nxtM (x : Opd) (call : C) (vs ts : List AVal) (H : Heap) (K : AVal → Heap → Bool) : Bool := Q.o_nxtM AB call x vs ts H K
theorem z_nxtM_eq (x : Opd) (call : C) (vs ts : List AVal) (H : Heap) (K : AVal → Heap → Bool) : z_nxtM x call vs ts H K = Dt.evI AB call (.nxtM x) vs ts H K := Q.o_nxtM_eq AB call _ vs ts H K
def z_ent (x : Opd) (call : C) (vs ts : List AVal) (H : Heap) (K : AVal → Heap → Bool) : Bool := Q.o_ent AB call x vs ts H K
theorem z_ent_eq (x : Opd) (call : C) (vs ts : List AVal) (H : Heap) (K : AVal → Heap → Bool) : z_ent x call vs ts H K = Dt.evI AB call (.ent x) vs ts H K := Q.o_ent_eq AB call _ vs ts H K
def z_minI (x : Opd) (y : Opd) (call : C) (vs ts : List AVal) (H : Heap) (K : AVal → Heap → Bool) : Bool := Q.o_minI AB call x y vs ts H K
theorem z_minI_eq (x : Opd) (y : Opd) (call : C) (vs ts : List AVal) (H : Heap) (K : AVal → Heap → Bool) : z_minI x y call vs ts H K = Dt.evI AB call (.minI x y) vs ts H K := Q.o_minI_eq AB call _ _ vs ts H K
def z_dfr (hid : Nat) (x : Opd) (args : List Opd) (call : C) (vs ts : List AVal) (H : Heap) (K : AVal → Heap → Bool) : Bool := Q.o_dfr AB call hid x args vs ts H K
theorem z_dfr_eq (hid : Nat) (x : Opd) (args : List Opd) (call : C) (vs ts : List AVal) (H : Heap) (K : AVal → Heap → Bool) : z_dfr hid x args call vs ts H K = Dt.evI AB call (.dfr hid x args) vs ts H K := Q.o_dfr_eq AB call _ _ _ vs ts H K
def z_store2 (n : Nat) (x : Opd) (v : Opd) (m : Nat) (y : Opd) (u : Opd) (call : C) (vs ts : List AVal) (H : Heap) (K : AVal → Heap → Bool) : Bool := Q.o_store2 AB call n x v m y u vs ts H K
theorem z_store2_eq (n : Nat) (x : Opd) (v : Opd) (m : Nat) (y : Opd) (u : Opd) (call : C) (vs ts : List AVal) (H : Heap) (K : AVal → Heap → Bool) : z_store2 n x v m y u call vs ts H K = Dt.evI AB call (.store2 n x v m y u) vs ts H K := Q.o_store2_eq AB call _ _ _ _ _ _ vs ts H K
def z_kill (x : Opd) (call : C) (vs ts : List AVal) (H : Heap) (K : AVal → Heap → Bool) : Bool := Q.o_kill AB call x vs ts H K
theorem z_kill_eq (x : Opd) (call : C) (vs ts : List AVal) (H : Heap) (K : AVal → Heap → Bool) : z_kill x call vs ts H K = Dt.evI AB call (.kill x) vs ts H K := Q.o_kill_eq AB call _ vs ts H K
def evI : DI → C → List AVal → List AVal → Heap → (AVal → Heap → Bool) → Bool := DI.rec z_move z_pick z_alloc z_box z_build z_buildS z_load1 z_loadN z_store z_nilck z_bin z_binB z_binP z_eqAgg z_not z_conv z_fadr z_fld1 z_fldN z_idxS z_idxA z_idxStr z_len z_append z_slcStr z_slcS z_mkS z_call z_callv z_ext z_mkfn z_again1 z_againN z_againL z_un1 z_convBS z_convIS z_rngS z_nxtS z_mkmap z_lkp z_mupd z_die z_binN z_binPP z_mkif z_tas z_idxAg z_ment z_esto z_rngM z_nxtM z_ent z_minI z_dfr z_store2 z_kill
theorem evI_eq (i : DI) (call : C) (vs ts : List AVal) (H : Heap) (K : AVal → Heap → Bool) : evI i call vs ts H K = Dt.evI AB call i vs ts H K := by
  cases i
  · exact z_move_eq _ call vs ts H K
  · exact z_pick_eq _ _ _ call vs ts H K
  · exact z_alloc_eq _ call vs ts H K
  · exact z_box_eq _ _ call vs ts H K
  · exact z_build_eq _ _ call vs ts H K
  · exact z_buildS_eq _ _ _ call vs ts H K
  · exact z_load1_eq _ call vs ts H K
  · exact z_loadN_eq _ _ call vs ts H K
  · exact z_store_eq _ _ _ call vs ts H K
  · exact z_nilck_eq _ call vs ts H K
  · exact z_bin_eq _ _ _ call vs ts H K
  · exact z_binB_eq _ _ _ call vs ts H K
  · exact z_binP_eq _ _ _ call vs ts H K
  · exact z_eqAgg_eq _ _ _ _ call vs ts H K
  · exact z_not_eq _ call vs ts H K
  · exact z_conv_eq _ _ call vs ts H K
  · exact z_fadr_eq _ _ call vs ts H K
  · exact z_fld1_eq _ _ call vs ts H K
  · exact z_fldN_eq _ _ _ call vs ts H K
  · exact z_idxS_eq _ _ _ call vs ts H K
  · exact z_idxA_eq _ _ _ _ call vs ts H K
  · exact z_idxStr_eq _ _ call vs ts H K
  · exact z_len_eq _ _ call vs ts H K
  · exact z_append_eq _ _ _ _ call vs ts H K
  · exact z_slcStr_eq _ _ _ call vs ts H K
  · exact z_slcS_eq _ _ _ _ _ call vs ts H K
  · exact z_mkS_eq _ _ _ _ call vs ts H K
  · exact z_call_eq _ _ call vs ts H K
  · exact z_callv_eq _ _ call vs ts H K
  · exact z_ext_eq _ _ call vs ts H K
  · exact z_mkfn_eq _ _ _ call vs ts H K
  · exact z_again1_eq _ _ call vs ts H K
  · exact z_againN_eq _ _ _ call vs ts H K
  · exact z_againL_eq _ _ _ _ _ _ call vs ts H K
  · exact z_un1_eq _ _ call vs ts H K
  · exact z_convBS_eq _ call vs ts H K
  · exact z_convIS_eq _ call vs ts H K
  · exact z_rngS_eq _ call vs ts H K
  · exact z_nxtS_eq _ call vs ts H K
  · exact z_mkmap_eq  call vs ts H K
  · exact z_lkp_eq _ _ _ _ _ call vs ts H K
  · exact z_mupd_eq _ _ _ _ call vs ts H K
  · exact z_die_eq  call vs ts H K
  · exact z_binN_eq _ _ _ call vs ts H K
  · exact z_binPP_eq _ _ _ call vs ts H K
  · exact z_mkif_eq _ _ call vs ts H K
  · exact z_tas_eq _ _ _ call vs ts H K
  · exact z_idxAg_eq _ _ _ _ call vs ts H K
  · exact z_ment_eq _ _ _ _ call vs ts H K
  · exact z_esto_eq _ _ _ call vs ts H K
  · exact z_rngM_eq _ call vs ts H K
  · exact z_nxtM_eq _ call vs ts H K
  · exact z_ent_eq _ call vs ts H K
  · exact z_minI_eq _ _ call vs ts H K
  · exact z_dfr_eq _ _ _ call vs ts H K
  · exact z_store2_eq _ _ _ _ _ _ call vs ts H K
  · exact z_kill_eq _ call vs ts H K

def sink : Dst → List AVal → List AVal → AVal → (List AVal → List AVal → Bool) → Bool := Dst.rec (fun vs ts _ K => K vs ts) (fun i vs ts v K => lsetK vs i v fun vs => K vs ts) (fun vs ts v K => K vs (v :: ts))
theorem sink_eq (d : Dst) (vs ts : List AVal) (v : AVal) (K : List AVal → List AVal → Bool) : sink d vs ts v K = Dt.sink d vs ts v K := by
  cases d
  · rfl
  · show lsetK _ _ _ _ = _
    rw [Q.lsetK_eq]
    simp only [Dt.sink, Dt.fL_eq]
  · rfl
def says : AVal → Bool → Bool := AVal.rec (motive_1 := fun _ => (Bool → Bool)) (motive_2 := fun _ => Unit) (fun b => Bool.rec (fun w => Bool.rec true false w) (fun w => w) b) (fun _ _ => fun _ => false) (fun _ _ => fun _ => false) (fun _ _ _ => fun _ => false) (fun _ => false) (fun _ _ _ _ _ => fun _ => false) (fun _ => false) (fun _ _ _ _ _ => fun _ => false) (fun _ => false) (fun _ _ _ => fun _ => false) (fun _ => false) (fun _ => fun _ => false) (fun _ => false) (fun _ _ => fun _ => false) (fun _ _ => fun _ => false) (fun _ _ => fun _ => false) (fun _ => fun _ => false) (fun _ => false) () (fun _ _ _ _ => ())
theorem says_eq (v : AVal) (want : Bool) : says v want = (match v with | .bool b => b == want | _ => false) := by
  cases v <;> first | rfl | (rename_i b; cases b <;> cases want <;> rfl)
def plainO (dst : Dst) (op : DI) (call : C) (vs ts : List AVal) (H : Heap) (K : List AVal → List AVal → Heap → Bool) : Bool := evI op call vs ts H fun v H => sink dst vs ts v fun vs ts => K vs ts H
def guardO (g : Opd × Bool) (dst : Dst) (op : DI) (call : C) (vs ts : List AVal) (H : Heap) (K : List AVal → List AVal → Heap → Bool) : Bool :=
  Prod.rec (fun x want => og x vs ts fun v => ifB (says v want) (plainO dst op call vs ts H K) (sink dst vs ts (.tup []) fun vs ts => K vs ts H)) g
def evO : DO → C → List AVal → List AVal → Heap → (List AVal → List AVal → Heap → Bool) → Bool := DO.rec fun dst op guard => Option.rec plainO guardO guard dst op
def evOps : List DO → C → List AVal → List AVal → Heap → (List AVal → List AVal → Heap → Bool) → Bool := List.rec (fun _ vs ts H K => K vs ts H)
  (fun o _ ih call vs ts H K => evO o call vs ts H fun vs ts H => ih call vs ts H K)
theorem evOps_eq (call : C) : ∀ (ops : List DO) (vs ts : List AVal) (H : Heap) (K : List AVal → List AVal → Heap → Bool), evOps ops call vs ts H K = Dt.evOps AB call ops vs ts H K
  | [], _, _, _, _ => rfl
  | ⟨dst, op, none⟩ :: l, vs, ts, H, K => by
    show evI op call vs ts H (fun v H => sink dst vs ts v fun vs ts => evOps l call vs ts H K) = _
    simp only [Dt.evOps, evI_eq, sink_eq, evOps_eq call l]
  | ⟨dst, op, some (x, want)⟩ :: l, vs, ts, H, K => by
    show (og x vs ts fun v => ifB (says v want) (evI op call vs ts H fun v H => sink dst vs ts v fun vs ts => evOps l call vs ts H K) (sink dst vs ts (.tup []) fun vs ts => evOps l call vs ts H K)) = _
    simp only [Dt.evOps, evI_eq, sink_eq, evOps_eq call l, says_eq, og_eq, ifB_eq]
    generalize x.get vs ts = X
    cases X <;> try rfl
def rounds (body : C → List AVal → List AVal → Heap → (DX → List AVal → List AVal → Heap → Bool) → Bool) (n : Nat) : C → List AVal → Heap → (DX → List AVal → List AVal → Heap → Bool) → Bool := Nat.rec (fun _ _ _ _ => false)
  (fun _ ih call vs H K => body call vs [] H fun x vs ts H => DX.rec (ih call vs H K) (fun id => K (.exit id) vs ts H) (K .ret vs ts H) x) n
theorem rounds_eq (call : C) (body : C → List AVal → List AVal → Heap → (DX → List AVal → List AVal → Heap → Bool) → Bool) : ∀ (n : Nat) (vs : List AVal) (H : Heap) (K : DX → List AVal → List AVal → Heap → Bool), rounds body n call vs H K = Dt.rounds AB (fun vs H K => body call vs [] H K) n vs H K
  | 0, _, _, _ => rfl
  | n + 1, vs, H, K => by
    show body call vs [] H (fun x vs ts H => (DX.rec (rounds body n call vs H K) (fun id => K (.exit id) vs ts H) (K .ret vs ts H) x : Bool)) = _
    simp only [Dt.rounds]
    congr 1
    funext x vs ts H
    cases x
    · exact rounds_eq call body n vs H K
    · rfl
    · rfl
def evC : DC → C → List AVal → List AVal → Heap → (DX → List AVal → List AVal → Heap → Bool) → Bool := DC.rec
  (fun _ vs ts H K => K .normal vs ts H)
  (fun ops call vs _ H K => evOps ops call vs [] H fun vs ts H => K .normal vs ts H)
  (fun _ _ iha ihb call vs ts H K => iha call vs ts H fun x vs ts H => DX.rec (ihb call vs ts H K) (fun id => K (.exit id) vs ts H) (K .ret vs ts H) x)
  (fun c _ _ iha ihb call vs ts H K => og c vs ts fun v => boolK v (iha call vs ts H K) (ihb call vs ts H K))
  (fun id _ ih call vs ts H K => ih call vs ts H fun x vs ts H => DX.rec (K .normal vs ts H) (fun j => ifB (Nat.beq j id) (K .normal vs ts H) (K (.exit j) vs ts H)) (K .ret vs ts H) x)
  (fun _ ih call vs _ H K => rounds ih manyRounds call vs H K)
  (fun id _ vs ts H K => K (.exit id) vs ts H)
  (fun _ vs ts H K => K .ret vs ts H)
  (fun _ _ _ _ _ => false)
  (fun x f hid g0 call vs ts H K => Dt.evC AB call (.rngF x f hid g0) vs ts H K)
  (fun _ _ us p off _ ihb call vs _ H K => ifB (apartF H (oget vs [] p) off) (ihb call vs [] H fun x vs ts H => DX.rec (ifB (noBool us vs) (Q.fL (clr us vs) fun vs => K .normal vs ts H) false) (fun _ => false) false x) false)
theorem evC_eq (call : C) : ∀ (c : DC) (vs ts : List AVal) (H : Heap) (K : DX → List AVal → List AVal → Heap → Bool), evC c call vs ts H K = Dt.evC AB call c vs ts H K
  | .skip, _, _, _, _ => rfl
  | .reg ops, vs, ts, H, K => by
    show evOps ops call vs [] H _ = _
    rw [evOps_eq]
    simp only [Dt.evC]
  | .seq a b, vs, ts, H, K => by
    show evC a call vs ts H (fun x vs ts H => (DX.rec (evC b call vs ts H K) (fun id => K (.exit id) vs ts H) (K .ret vs ts H) x : Bool)) = _
    rw [evC_eq call a]
    simp only [Dt.evC]
    congr 1
    funext x vs ts H
    cases x
    · exact evC_eq call b vs ts H K
    · rfl
    · rfl
  | .cond c a b, vs, ts, H, K => by
    show (og c vs ts fun v => boolK v (evC a call vs ts H K) (evC b call vs ts H K)) = _
    rw [og_eq, boolK_eq]
    simp only [Dt.evC]
    cases c.get vs ts <;> try rfl
    rename_i q
    cases q
    · exact evC_eq call b vs ts H K
    · exact evC_eq call a vs ts H K
  | .block id c, vs, ts, H, K => by
    show evC c call vs ts H (fun x vs ts H => (DX.rec (K .normal vs ts H) (fun j => ifB (Nat.beq j id) (K .normal vs ts H) (K (.exit j) vs ts H)) (K .ret vs ts H) x : Bool)) = _
    rw [evC_eq call c]
    simp only [Dt.evC]
    congr 1
    funext x vs ts H
    cases x
    · rfl
    · rename_i j
      simp only [ifB_eq]
      cases Nat.beq j id <;> rfl
    · rfl
  | .loop c, vs, ts, H, K => by
    show rounds (evC c) manyRounds call vs H K = _
    rw [rounds_eq]
    simp only [Dt.evC]
    have : (fun vs H K => evC c call vs [] H K) = (fun vs H K => Dt.evC AB call c vs [] H K) := by
      funext vs H K
      exact evC_eq call c vs [] H K
    rw [this]
  | .exit _, _, _, _, _ => rfl
  | .ret, _, _, _, _ => rfl
  | .die, _, _, _, _ => rfl
  | .rngF _ _ _ _, _, _, _, _ => rfl
  | .condF a b us p off, vs, ts, H, K => by
    show ifB (apartF H (oget vs [] p) off) (evC b call vs [] H fun x vs ts H => (DX.rec (ifB (noBool us vs) (Q.fL (clr us vs) fun vs => K .normal vs ts H) false) (fun _ => false) false x : Bool)) false = _
    rw [Q.oget_eq, ifB_eq]
    simp only [Dt.evC]
    cases apartF H (p.get vs []) off
    · rfl
    · simp only
      rw [evC_eq call b]
      congr 1
      funext x vs ts H
      cases x
      · simp only [Q.fL_eq, Dt.fL_eq, ifB_eq]
        rfl
      · rfl
      · rfl
def initVK (args : List AVal) (l : List (Option Nat)) (K : List AVal → Bool) : Bool := List.rec (motive := fun _ => (List AVal → Bool) → Bool) (fun K => K []) (fun o _ ih K => Option.rec (ih fun l' => K (.tup [] :: l')) (fun i => lgK args i fun v => ih fun l' => K (v :: l')) o) l K
theorem initVK_eq (args : List AVal) : ∀ (l : List (Option Nat)) (K : List AVal → Bool), initVK args l K = K (initV args l)
  | [], _ => rfl
  | some i :: l, K => by
    show lgK args i (fun v => initVK args l fun l' => K (v :: l')) = _
    rw [lgK_eq, initVK_eq args l]
    rfl
  | none :: l, K => by
    show initVK args l (fun l' => K (.tup [] :: l')) = _
    rw [initVK_eq args l]
    rfl
def evB : DF → C → List AVal → Heap → (List AVal → List AVal → Heap → Bool) → Bool := DF.rec fun init code _ hid _ call args H D =>
  initVK args init fun vs => evC code call vs [] H fun x vs _ H => DX.rec (tupK (lget vs hid) fun ds => D ds vs H) (fun _ => false) (tupK (lget vs hid) fun ds => D ds vs H) x
theorem evB_eq (call : C) (F : DF) (args : List AVal) (H : Heap) (D : List AVal → List AVal → Heap → Bool) : evB F call args H D = Dt.evB AB call F args H D := by
  obtain ⟨init, code, res, hid, rnd⟩ := F
  show initVK args init (fun vs => evC code call vs [] H fun x vs _ H => (DX.rec (tupK (lget vs hid) fun ds => D ds vs H) (fun _ => false) (tupK (lget vs hid) fun ds => D ds vs H) x : Bool)) = _
  rw [initVK_eq, evC_eq]
  simp only [Dt.evB, Dt.fL_eq]
  congr 1
  funext x vs ts H
  cases x <;> simp only [Q.lget_eq, tupK_eq] <;> rfl
def evF (T : Prog) (n : Nat) : C := Nat.rec (fun _ _ _ _ => false)
  (fun _ ih f args H K => match isMark args with
    | some k => match T.funs f with
      | none => false
      | some F => match F.rnd with
        | none => false
        | some j => match Nat.beq j k with
          | true => evRnd AB ih F args H K
          | false => false
    | none => match T.known H.gl f args with
      | some a => match a with
        | .val x => K x H
        | .map l => Dt.hAdd H (.obj (.map l)) fun b H => K (.mp b) H
        | .put p n v x => Dt.doStore AB n p v H fun H => K x H
      | none => match T.funs f with
        | none => false
        | some F => match F.rnd with
          | some _ => false
          | none => evB F ih args H fun ds vs H => match ds with
            | [] => Q.evE AB F vs H K
            | d :: ds => runD AB (evD AB T.funs ih) (d :: ds) H fun H => Dt.evE AB F vs H K) n
theorem evF_eq (T : Prog) : ∀ (n : Nat), evF T n = Dt.evF AB T n
  | 0 => by
    funext f args H K
    rfl
  | n + 1 => by
    funext f args H K
    have ih := evF_eq T n
    show (match isMark args with
    | some k => match T.funs f with
      | none => false
      | some F => match F.rnd with
        | none => false
        | some j => match Nat.beq j k with
          | true => evRnd AB (evF T n) F args H K
          | false => false
    | none => match T.known H.gl f args with
      | some a => match a with
        | .val x => K x H
        | .map l => Dt.hAdd H (.obj (.map l)) fun b H => K (.mp b) H
        | .put p n v x => Dt.doStore AB n p v H fun H => K x H
      | none => match T.funs f with
        | none => false
        | some F => match F.rnd with
          | some _ => false
          | none => evB F (evF T n) args H fun ds vs H => match ds with
            | [] => Q.evE AB F vs H K
            | d :: ds => runD AB (evD AB T.funs (evF T n)) (d :: ds) H fun H => Dt.evE AB F vs H K) = _
    rw [ih]
    simp only [Dt.evF, evB_eq, Q.evE_eq]
    have : ∀ F, (fun (ds vs : List AVal) H => match ds with
            | [] => Dt.evE AB F vs H K
            | d :: ds => runD AB (evD AB T.funs (Dt.evF AB T n)) (d :: ds) H fun H => Dt.evE AB F vs H K) = fun ds vs H => runD AB (evD AB T.funs (Dt.evF AB T n)) ds H fun H => Dt.evE AB F vs H K := fun F => by
      funext ds vs H
      cases ds <;> rfl
    simp only [this]
    rfl
end
end Z
end Q
end Dt
