/- The abstract machine: values, memory, operations, and how code is turned into it (definitions). -/
import Derived.WalkKit
import GoSem.Step
import GoSem.Core.Layout
import GoSem.Op.Equal
import Derived.Orders
import Derived.OrdersIn
import Derived.LoopNIn
import Derived.RangeFuncRecord
import Derived.MapKept
import Derived.LaidEql
import Derived.Laws.BytesString
set_option linter.all false
/-
  DEFINITIONS (plain, no program in sight): an abstract machine for the loader's code: values without addresses of memory, memory as blocks of rows.
  What it computes does not hang on the order that a region draws, nor on the capacity that an append draws: later texts show that each run of the program does what this machine computes.
-/
namespace Dt
open Go

/-- Values of the abstract machine. 'str n c': n bytes, byte i is the i-th digit of c to the base 256. 'ptr b r c': block b, row r, column c. 'slc b r len cap esz': rows r, .. of block b, each of esz cells; 'cap none': up to wherever the array ends. 'gp g c': cell c of the table that block g of the world is. 'yl b': the yield of the loop that block b is. 'un': nothing is known but that it is no truth value. -/
inductive AVal where
  | bool (b : Bool)
  | int (k : IntKind) (n : Int)
  | str (n c : Nat)
  | ptr (b r c : Nat)
  | nilp
  | slc (b r len : Nat) (cap : Option Nat) (esz : Nat)
  | nils
  | fn (f : Nat) (first capt : List AVal)
  | nilf
  | iface (t : Nat) (v : AVal)
  | nili
  | mp (b : Nat)
  | nilm
  | agg (l : List AVal)
  | tup (l : List AVal)
  | gp (g c : Nat)
  | yl (b : Nat)
  | un

/-- Blocks; 'ro': rows of one cell that nobody writes; 'map': keys and values, in the order of their coming; 'siter': a range over a string; 'miter': a range over a map; 'loop': a range over a function under way: its body, what the frame held when it began; 'dfr': the place of a loop's deferred calls; 'busy': a loop that is within a round, or is over. -/
inductive OB where
  | map (l : List (AVal × AVal))
  | siter (n c pos : Nat)
  | miter (b since : Nat) (seen : List Nat) (last : Nat)
  | loop (f : Nat) (vs : List AVal)
  | dfr
  | busy
inductive Blk where
  | rows (esz : Nat) (l : List (List AVal))
  | dead
  | obj (o : OB)
  | ro (l : List (List AVal))

/-- A tree of blocks by number. -/
inductive Tr where
  | nil
  | node (l : Tr) (v : Blk) (r : Tr)

def Tr.get : Tr → Nat → Blk
  | .nil, _ => .dead
  | .node l v r, k => match k with
    | 0 => v
    | k + 1 => match k % 2 with
      | 0 => l.get (k / 2)
      | _ => r.get (k / 2)

def Tr.set : Nat → Tr → Nat → Blk → Tr
  | 0, t, _, _ => t
  | f + 1, .nil, k, x => match k with
    | 0 => .node .nil x .nil
    | k + 1 => match k % 2 with
      | 0 => .node (Tr.set f .nil (k / 2) x) .dead .nil
      | _ => .node .nil .dead (Tr.set f .nil (k / 2) x)
  | f + 1, .node l v r, k, x => match k with
    | 0 => .node l x r
    | k + 1 => match k % 2 with
      | 0 => .node (Tr.set f l (k / 2) x) v r
      | _ => .node l v (Tr.set f r (k / 2) x)

theorem Tr.get_set (f : Nat) : ∀ (t : Tr) (k j : Nat) (x : Blk), k + 1 < 2 ^ f → (Tr.set f t k x).get j = if j = k then x else t.get j := by
  induction f with
  | zero => intro t k j x h; simp at h
  | succ f ih =>
    intro t k j x h
    have hp : 2 ^ (f + 1) = 2 * 2 ^ f := by rw [Nat.pow_succ]; omega
    cases t with
    | nil =>
      cases k with
      | zero =>
        cases j with
        | zero => simp [Tr.set, Tr.get]
        | succ j => simp only [Tr.set, Tr.get]; split <;> simp
      | succ k =>
        have hk : k / 2 + 1 < 2 ^ f := by omega
        cases j with
        | zero =>
          simp only [Tr.set]
          split <;> simp [Tr.get]
        | succ j =>
          rcases Nat.mod_two_eq_zero_or_one k with e | e <;> rcases Nat.mod_two_eq_zero_or_one j with e' | e'
          · simp only [Tr.set, Tr.get, e, e']
            rw [ih _ _ _ _ hk]
            by_cases hj : j = k
            · subst hj; simp
            · rw [if_neg (by omega), if_neg (by omega)]; simp [Tr.get]
          · simp only [Tr.set, Tr.get, e, e']
            rw [if_neg (by omega)]
          · simp only [Tr.set, Tr.get, e, e']
            rw [if_neg (by omega)]
          · simp only [Tr.set, Tr.get, e, e']
            rw [ih _ _ _ _ hk]
            by_cases hj : j = k
            · subst hj; simp
            · rw [if_neg (by omega), if_neg (by omega)]; simp [Tr.get]
    | node l v r =>
      cases k with
      | zero =>
        cases j with
        | zero => simp [Tr.set, Tr.get]
        | succ j => simp [Tr.set, Tr.get]
      | succ k =>
        have hk : k / 2 + 1 < 2 ^ f := by omega
        cases j with
        | zero =>
          simp only [Tr.set]
          split <;> simp [Tr.get]
        | succ j =>
          rcases Nat.mod_two_eq_zero_or_one k with e | e <;> rcases Nat.mod_two_eq_zero_or_one j with e' | e'
          · simp only [Tr.set, Tr.get, e, e']
            rw [ih _ _ _ _ hk]
            by_cases hj : j = k
            · subst hj; simp
            · rw [if_neg (by omega), if_neg (by omega)]
          · simp only [Tr.set, Tr.get, e, e']
            rw [if_neg (by omega)]
          · simp only [Tr.set, Tr.get, e, e']
            rw [if_neg (by omega)]
          · simp only [Tr.set, Tr.get, e, e']
            rw [ih _ _ _ _ hk]
            by_cases hj : j = k
            · subst hj; simp
            · rw [if_neg (by omega), if_neg (by omega)]

/-! ### Forcing: each of these is application; written so that a checker that computes lazily holds values, not unreckoned terms -/

def fN {R : Type} (n : Nat) (k : Nat → R) : R := match n with
  | 0 => k 0
  | m + 1 => k (m + 1)
theorem fN_eq {R : Type} (n : Nat) (k : Nat → R) : fN n k = k n := by cases n <;> rfl

def fI {R : Type} (n : Int) (k : Int → R) : R := match n with
  | .ofNat m => fN m fun m => k (.ofNat m)
  | .negSucc m => fN m fun m => k (.negSucc m)
theorem fI_eq {R : Type} (n : Int) (k : Int → R) : fI n k = k n := by cases n <;> simp [fI, fN_eq]

def fB {R : Type} (b : Bool) (k : Bool → R) : R := match b with
  | true => k true
  | false => k false
theorem fB_eq {R : Type} (b : Bool) (k : Bool → R) : fB b k = k b := by cases b <;> rfl

def fV {R : Type} (v : AVal) (k : AVal → R) : R := match v with
  | .int kk n => fI n fun n => k (.int kk n)
  | .bool b => fB b fun b => k (.bool b)
  | .str n c => fN n fun n => fN c fun c => k (.str n c)
  | .ptr b r c => fN b fun b => fN r fun r => fN c fun c => k (.ptr b r c)
  | .slc b r l cap z => fN b fun b => fN r fun r => fN l fun l => match cap with
    | none => k (.slc b r l none z)
    | some c => fN c fun c => k (.slc b r l (some c) z)
  | v => k v
theorem fV_eq {R : Type} (v : AVal) (k : AVal → R) : fV v k = k v := by
  cases v <;> simp [fV, fN_eq, fI_eq, fB_eq]
  split <;> simp

def fL {α R : Type} : List α → (List α → R) → R
  | [], k => k []
  | x :: l, k => fL l fun l' => k (x :: l')
theorem fL_eq {α R : Type} (l : List α) : ∀ k : List α → R, fL l k = k l := by
  induction l with
  | nil => intro k; rfl
  | cons x l ih => intro k; simp [fL, ih]

def Tr.setK {R : Type} : Nat → Tr → Nat → Blk → (Tr → R) → R
  | 0, t, _, _, K => K t
  | f + 1, .nil, k, x, K => match k with
    | 0 => K (.node .nil x .nil)
    | k + 1 => match k % 2 with
      | 0 => Tr.setK f .nil (k / 2) x fun t => K (.node t .dead .nil)
      | _ => Tr.setK f .nil (k / 2) x fun t => K (.node .nil .dead t)
  | f + 1, .node l v r, k, x, K => match k with
    | 0 => K (.node l x r)
    | k + 1 => match k % 2 with
      | 0 => Tr.setK f l (k / 2) x fun t => K (.node t v r)
      | _ => Tr.setK f r (k / 2) x fun t => K (.node l v t)
theorem Tr.setK_eq {R : Type} (f : Nat) : ∀ (t : Tr) (k : Nat) (x : Blk) (K : Tr → R), Tr.setK f t k x K = K (Tr.set f t k x) := by
  induction f with
  | zero => intro t k x K; rfl
  | succ f ih =>
    intro t k x K
    cases t <;> cases k <;> simp only [Tr.setK, Tr.set] <;> split <;> simp [ih]

/-! ### Memory -/

structure Heap where
  next : Nat
  tr : Tr
  gl : List (List AVal)

def Heap.get (H : Heap) (b : Nat) : Blk := H.tr.get b
def Heap.put (H : Heap) (b : Nat) (x : Blk) : Heap := ⟨H.next, Tr.set (b + 1) H.tr b x, H.gl⟩
def Heap.add (H : Heap) (x : Blk) : Heap := ⟨H.next + 1, Tr.set (H.next + 1) H.tr H.next x, H.gl⟩

theorem lt_pow2 : ∀ k : Nat, k + 1 < 2 ^ (k + 1)
  | 0 => by decide
  | k + 1 => by
    have := lt_pow2 k
    rw [Nat.pow_succ]
    omega
theorem Heap.get_put (H : Heap) (b j : Nat) (x : Blk) (_h : True) : (H.put b x).get j = if j = b then x else H.get j :=
  Tr.get_set (b + 1) H.tr b j x (lt_pow2 b)
theorem Heap.get_add (H : Heap) (j : Nat) (x : Blk) (_h : True) : (H.add x).get j = if j = H.next then x else H.get j :=
  Tr.get_set (H.next + 1) H.tr H.next j x (lt_pow2 H.next)
theorem Heap.next_put (H : Heap) (b : Nat) (x : Blk) : (H.put b x).next = H.next := rfl
theorem Heap.gl_put (H : Heap) (b : Nat) (x : Blk) : (H.put b x).gl = H.gl := rfl
theorem Heap.gl_add (H : Heap) (x : Blk) : (H.add x).gl = H.gl := rfl
theorem Heap.next_add (H : Heap) (x : Blk) : (H.add x).next = H.next + 1 := rfl

/-! ### What an answer is -/

/-- Answers: a failure, two answers that both must hold, and when an answer holds. -/
structure Alg (R : Type) where
  fail : R
  both : R → R → R
  holds : R → Prop
  fail_no : ¬ holds fail
  both_yes : ∀ a b, holds (both a b) → holds a ∧ holds b
  yes : R

def AB : Alg Bool := ⟨false, and, (· = true), by simp, by intro a b; simp, true⟩
def AP : Alg Prop := ⟨False, And, id, id, fun _ _ h => h, True⟩

section
variable {R : Type} (A : Alg R)

def hAdd (H : Heap) (x : Blk) (K : Nat → Heap → R) : R :=
  fN (H.next + 1) fun n => Tr.setK n H.tr H.next x fun t => K H.next ⟨n, t, H.gl⟩

def hPut (H : Heap) (b : Nat) (x : Blk) (K : Heap → R) : R :=
  Tr.setK (b + 1) H.tr b x fun t => K ⟨H.next, t, H.gl⟩

theorem hAdd_eq (H : Heap) (x : Blk) (K : Nat → Heap → R) : hAdd H x K = K H.next (H.add x) := by
  unfold hAdd Heap.add
  rw [fN_eq, Tr.setK_eq]

theorem hPut_eq (H : Heap) (b : Nat) (x : Blk) (K : Heap → R) : hPut H b x K = K (H.put b x) := by
  unfold hPut Heap.put
  rw [Tr.setK_eq]

/-! ### Lists of values -/

def lget : List AVal → Nat → AVal
  | [], _ => .tup []
  | x :: l, k => match k with
    | 0 => x
    | k + 1 => lget l k

def lset : List AVal → Nat → AVal → List AVal
  | [], _, _ => []
  | x :: l, k, v => match k with
    | 0 => v :: l
    | k + 1 => x :: lset l k v

def rget : List (List AVal) → Nat → Option (List AVal)
  | [], _ => none
  | x :: l, k => match k with
    | 0 => some x
    | k + 1 => rget l k

def rset : List (List AVal) → Nat → List AVal → List (List AVal)
  | [], _, _ => []
  | x :: l, k, v => match k with
    | 0 => v :: l
    | k + 1 => x :: rset l k v

/-- Cells c, .. of a row are replaced. -/
def splice : List AVal → Nat → List AVal → List AVal
  | [], _, _ => []
  | x :: l, c, new => match c with
    | c + 1 => x :: splice l c new
    | 0 => match new with
      | [] => x :: l
      | y :: new => y :: splice l 0 new

def llen : List AVal → Nat
  | [] => 0
  | _ :: l => llen l + 1
def rlen : List (List AVal) → Nat
  | [] => 0
  | _ :: l => rlen l + 1

/-- The cells that a value takes; 'none': it is no value of cells. -/
def AVal.cells : AVal → Option (List AVal)
  | .agg l => some l
  | .tup _ => none
  | .un => none
  | v => some [v]

/-- n cells of a row from c on. -/
def cut : List AVal → Nat → Nat → Option (List AVal)
  | _, 0, 0 => some []
  | [], _, _ => none
  | x :: l, c, n => match c with
    | c + 1 => cut l c n
    | 0 => match n with
      | 0 => some []
      | n + 1 => match cut l 0 n with
        | some r => some (x :: r)
        | none => none
end

/-! ### Operations -/

inductive Opd where
  | v (i : Nat)
  | t (i : Nat)
  | c (x : AVal)

def Opd.get (vs ts : List AVal) : Opd → AVal
  | .v i => lget vs i
  | .t i => lget ts i
  | .c x => x

/-- The operations, types resolved. -/
inductive DI where
  | move (x : Opd)
  | pick (c a b : Opd)
  | alloc (row : List AVal)
  | box (n : Nat) (x : Opd)
  | build (zero : List AVal) (parts : List (Nat × Nat × Opd))
  | buildS (esz : Nat) (rows : List (List AVal)) (parts : List (Nat × Opd))
  | load1 (x : Opd)
  | loadN (n : Nat) (x : Opd)
  | store (n : Nat) (x v : Opd)
  | nilck (x : Opd)
  | bin (op : BinOp) (x y : Opd)
  | binB (op : BinOp) (x y : Opd)
  | binP (op : BinOp) (x y : Opd)
  | eqAgg (neg : Bool) (ks : List Nat) (x y : Opd)
  | not (x : Opd)
  | conv (k : IntKind) (x : Opd)
  | fadr (off : Nat) (x : Opd)
  | fld1 (off : Nat) (x : Opd)
  | fldN (off n : Nat) (x : Opd)
  | idxS (esz : Nat) (x i : Opd)
  | idxA (len esz : Nat) (x i : Opd)
  | idxStr (x i : Opd)
  | len (str : Bool) (x : Opd)
  | append (esz bytes : Nat) (x y : Opd)
  | slcStr (x : Opd) (lo hi : Option Opd)
  | slcS (esz : Nat) (x : Opd) (lo hi mx : Option Opd)
  | mkS (zero : List AVal) (bytes : Nat) (len cap : Opd)
  | call (f : Nat) (args : List Opd)
  | callv (x : Opd) (args : List Opd)
  | ext (x : Opd) (i : Nat)
  | mkfn (f : Nat) (first capt : List Opd)
  | again1 (x y : Opd)
  | againN (n : Nat) (x y : Opd)
  | againL (zero : AVal) (kk : Nat) (ok : Bool) (x k y : Opd)
  | un1 (neg : Bool) (x : Opd)
  | convBS (x : Opd)
  | convIS (x : Opd)
  | rngS (x : Opd)
  | nxtS (x : Opd)
  | mkmap
  | lkp (zero : AVal) (kk : Nat) (ok : Bool) (x k : Opd)
  | mupd (kk : Nat) (m k v : Opd)
  | die
  | binN (neg : Bool) (k : Nat) (x : Opd)
  | binPP (neg : Bool) (x y : Opd)
  | mkif (t : Nat) (x : Opd)
  | tas (t : Nat) (zero : AVal) (x : Opd)
  | idxAg (n esz : Nat) (x i : Opd)
  | ment (zero : AVal) (kk : Nat) (m k : Opd)
  | esto (m s v : Opd)
  | rngM (x : Opd)
  | nxtM (x : Opd)
  | ent (x : Opd)
  | minI (x y : Opd)
  | dfr (hid : Nat) (x : Opd) (args : List Opd)
  | store2 (n : Nat) (x v : Opd) (m : Nat) (y u : Opd)
  | kill (x : Opd)

/-- Where a value goes. -/
inductive Dst where
  | no
  | var (i : Nat)
  | tmp

structure DO where
  dst : Dst
  op : DI
  guard : Option (Opd × Bool)

inductive DC where
  | skip
  | reg (ops : List DO)
  | seq (a b : DC)
  | cond (x : Opd) (a b : DC)
  | block (id : Nat) (c : DC)
  | loop (c : DC)
  | exit (id : Nat)
  | ret
  | die
  | rngF (x : Opd) (f hid g : Nat)
  | condF (a b : DC) (us : List Nat) (p : Opd) (off : Nat)

inductive DX where
  | normal
  | exit (id : Nat)
  | ret

inductive DR where
  | opd (x : Opd)
  | cell1 (x : Opd)
  | cellN (n : Nat) (x : Opd)

structure DF where
  init : List (Option Nat)
  code : DC
  res : List DR
  hid : Nat
  rnd : Option Nat

/-- What stands ahead of a round's arguments: no value of the run is such a one. -/
def mark (n : Nat) : AVal := .agg [.tup [.int .i64 (.ofNat n)]]
def isMark : List AVal → Option Nat
  | [] => none
  | x :: _ => match x with
    | .agg l => match l with
      | [] => none
      | y :: _ => match y with
        | .tup m => match m with
          | [] => none
          | z :: _ => match z with
            | .int _ k => match k with
              | .ofNat n => some n
              | _ => none
            | _ => none
        | _ => none
    | _ => none

/-! Strings: n bytes, the number c. -/
def sget (c i : Nat) : Nat := Nat.mod (Nat.shiftRight c (Nat.mul 8 i)) 256
def scut (c l h : Nat) : Nat := Nat.mod (Nat.shiftRight c (Nat.mul 8 l)) (Nat.pow 2 (Nat.mul 8 (Nat.sub h l)))
def scat (n c d : Nat) : Nat := Nat.add c (Nat.shiftLeft d (Nat.mul 8 n))

def wrapI (k : IntKind) (n : Int) : Int := match k with
  | .i64 => match n with
    | .ofNat m => match Nat.ble m 9223372036854775807 with
      | true => .ofNat m
      | false => IntKind.i64.wrap (.ofNat m)
    | .negSucc m => match Nat.ble m 9223372036854775807 with
      | true => .negSucc m
      | false => IntKind.i64.wrap (.negSucc m)
  | k => k.wrap n

def ieq (a b : Int) : Bool := match a, b with
  | .ofNat a, .ofNat b => Nat.beq a b
  | .negSucc a, .negSucc b => Nat.beq a b
  | _, _ => false
def ile (a b : Int) : Bool := match a, b with
  | .ofNat a, .ofNat b => Nat.ble a b
  | .negSucc a, .negSucc b => Nat.ble b a
  | .negSucc _, .ofNat _ => true
  | .ofNat _, .negSucc _ => false

/-- Bit by bit. -/
def bitI (op : BinOp) (k : IntKind) (x y : Int) : Option Int := match op with
  | .and => some (k.wrap (BitVec.ofInt k.bits x &&& BitVec.ofInt k.bits y).toNat)
  | .or => some (k.wrap (BitVec.ofInt k.bits x ||| BitVec.ofInt k.bits y).toNat)
  | .xor => some (k.wrap (BitVec.ofInt k.bits x ^^^ BitVec.ofInt k.bits y).toNat)
  | .andNot => some (k.wrap (BitVec.ofInt k.bits x &&& ~~~(BitVec.ofInt k.bits y)).toNat)
  | _ => none
/-- Shifts. -/
def shI (op : BinOp) (k : IntKind) (x y : Int) : Option Int := match y with
  | .negSucc _ => none
  | .ofNat m => match op with
    | .shl => some (k.wrap (x * 2 ^ min m k.bits))
    | .shr => some (x.fdiv (2 ^ min m k.bits))
    | _ => none
def isSh (op : BinOp) : Bool := match op with | .shl | .shr => true | _ => false

/-- Does the one string come ahead of the other? -/
def ltS : Nat → Nat → Nat → Nat → Bool
  | n, c, m, d => match m with
    | 0 => false
    | m + 1 => match n with
      | 0 => true
      | n + 1 => match Nat.blt (Nat.mod c 256) (Nat.mod d 256) with
        | true => true
        | false => match Nat.beq (Nat.mod c 256) (Nat.mod d 256) with
          | true => ltS n (Nat.div c 256) m (Nat.div d 256)
          | false => false
def binV (op : BinOp) (x y : AVal) : Option AVal := match x, y with
  | .int k a, .int k' b => match isSh op with
   | true => (shI op k a b).map (.int k)
   | false => match decide (k = k') with
    | false => none
    | true => match op with
      | .and | .or | .xor | .andNot => (bitI op k a b).map (.int k)
      | .add => some (.int k (wrapI k (a + b)))
      | .sub => some (.int k (wrapI k (a - b)))
      | .mul => some (.int k (wrapI k (a * b)))
      | .quo => match ieq b 0 with | true => none | false => some (.int k (wrapI k (a.tdiv b)))
      | .rem => match ieq b 0 with | true => none | false => some (.int k (a.tmod b))
      | .eql => some (.bool (ieq a b))
      | .neq => some (.bool (!ieq a b))
      | .lss => some (.bool (!ile b a))
      | .leq => some (.bool (ile a b))
      | .gtr => some (.bool (!ile a b))
      | .geq => some (.bool (ile b a))
      | _ => none
  | .str n c, .str m d => match op with
    | .add => match Nat.ble (n + m) 9223372036854775807 with
      | true => some (.str (n + m) (scat n c d))
      | false => none
    | .eql => some (.bool (Nat.beq n m && Nat.beq c d))
    | .neq => some (.bool !(Nat.beq n m && Nat.beq c d))
    | .lss => some (.bool (ltS n c m d))
    | _ => none
  | _, _ => none

/-- What stands before one number. -/
def un1V (neg : Bool) (x : AVal) : Option AVal := match x with
  | .int k n => match neg with
    | true => some (.int k (wrapI k (0 - n)))
    | false => (bitI .xor k (match k.signed with | true => -1 | false => k.max) n).map (.int k)
  | _ => none

def binB (op : BinOp) (x y : AVal) : Option AVal := match x, y with
  | .bool a, .bool b => match op with
    | .eql => some (.bool (a == b))
    | .neq => some (.bool !(a == b))
    | _ => none
  | _, _ => none

def binP (op : BinOp) (x y : AVal) : Option AVal :=
  match (match x, y with | .nilp, .nilp => some true | .ptr _ _ _, .nilp => some false | .nilp, .ptr _ _ _ => some false | _, _ => none) with
  | some b => match op with
    | .eql => some (.bool b)
    | .neq => some (.bool !b)
    | _ => none
  | none => none

/-- Are two cells of plain values one? 'none': not to be told. The kind: 0 a number, 1 a string, 2 a bool. -/
def eqCell (k : Nat) (x y : AVal) : Option Bool := match k, x, y with
  | 0, .int k a, .int k' b => match decide (k = k') with
    | false => none
    | true => some (ieq a b)
  | 1, .str n c, .str m d => some (Nat.beq n m && Nat.beq c d)
  | 2, .bool a, .bool b => some (a == b)
  | _, _, _ => none
def eqCells : List Nat → List AVal → List AVal → Option Bool
  | [], [], [] => some true
  | k :: ks, x :: l, y :: m => match eqCell k x y with
    | some true => eqCells ks l m
    | some false => some false
    | none => none
  | _, _, _ => none

/-- Are two values that stand for one real value each the same? -/
def same1 (x y : AVal) : Bool := match x, y with
  | .int k a, .int k' b => decide (k = k') && ieq a b
  | .bool a, .bool b => a == b
  | .str n c, .str m d => Nat.beq n m && Nat.beq c d
  | .ptr b r c, .ptr b' r' c' => Nat.beq b b' && (Nat.beq r r' && Nat.beq c c')
  | .nilp, .nilp => true
  | .nils, .nils => true
  | .nili, .nili => true
  | .nilm, .nilm => true
  | .nilf, .nilf => true
  | .mp b, .mp c => Nat.beq b c
  | .slc b r l c z, .slc b' r' l' c' z' => Nat.beq b b' && (Nat.beq r r' && (Nat.beq l l' && (Nat.beq z z' && (match c, c' with | none, none => true | some c, some c' => Nat.beq c c' | _, _ => false))))
  | _, _ => false
def sameL : List AVal → List AVal → Bool
  | [], [] => true
  | x :: l, y :: m => same1 x y && sameL l m
  | _, _ => false
def same (x y : AVal) : Bool := match x, y with
  | .agg l, .agg m => sameL l m
  | .tup l, .tup m => sameL l m
  | x, y => same1 x y

def bound (x : AVal) (hi : Nat) : Option Nat := match x with
  | .int _ (.ofNat n) => match Nat.ble n hi with
    | true => some n
    | false => none
  | _ => none

/-- low and high of s[lo:hi]. -/
def bounds (vs ts : List AVal) (len cap : Nat) (lo hi : Option Opd) : Option (Nat × Nat) :=
  match (match hi with | none => some len | some h => bound (h.get vs ts) cap) with
  | none => none
  | some h => match (match lo with | none => some 0 | some l => bound (l.get vs ts) h) with
    | none => none
    | some l => some (l, h)

def opds (vs ts : List AVal) : List Opd → List AVal
  | [] => []
  | x :: l => x.get vs ts :: opds vs ts l

/-- The parts of a struct or an array are laid in. -/
def fillP (vs ts : List AVal) : List AVal → List (Nat × Nat × Opd) → Option (List AVal)
  | row, [] => some row
  | row, (off, n, x) :: rest => match (x.get vs ts).cells with
    | none => none
    | some cs => match Nat.beq (llen cs) n && Nat.ble (off + n) (llen row) with
      | true => fillP vs ts (splice row off cs) rest
      | false => none
def fillR (vs ts : List AVal) (esz : Nat) : List (List AVal) → List (Nat × Opd) → Option (List (List AVal))
  | rows, [] => some rows
  | rows, (i, x) :: rest => match (x.get vs ts).cells with
    | none => none
    | some cs => match Nat.beq (llen cs) esz && Nat.blt i (rlen rows) with
      | true => fillR vs ts esz (rset rows i cs) rest
      | false => none

def rtake : List (List AVal) → Nat → Nat → Option (List (List AVal))
  | _, 0, 0 => some []
  | [], _, _ => none
  | x :: l, c, n => match c with
    | c + 1 => rtake l c n
    | 0 => match n with
      | 0 => some []
      | n + 1 => match rtake l 0 n with
        | some r => some (x :: r)
        | none => none

/-- Rows r, .. are replaced. -/
def rsplice : List (List AVal) → Nat → List (List AVal) → List (List AVal)
  | [], _, _ => []
  | x :: l, c, new => match c with
    | c + 1 => x :: rsplice l c new
    | 0 => match new with
      | [] => x :: l
      | y :: new => y :: rsplice l 0 new

/-- The rows that a slice shows. -/
def rowsOf (H : Heap) (esz : Nat) (x : AVal) : Option (List (List AVal)) := match x with
  | .nils => some []
  | .slc b r len _ z => match Nat.beq z esz with
    | false => none
    | true => match len with
      | 0 => some []
      | len + 1 => match H.get b with
        | .rows _ l => rtake l r (len + 1)
        | .ro l => rtake l r (len + 1)
        | _ => none
  | _ => none

/-! Strings once more: the rune at a place, a rune's bytes, the bytes of a slice. -/
def decN (n c i : Nat) : Nat × Nat :=
  let at' (k : Nat) : Nat := sget c (i + k)
  let cont (k : Nat) : Bool := i + k < n && at' k / 64 == 2
  let b0 := at' 0
  if b0 < 0x80 then (b0, 1)
  else if b0 / 32 == 6 && cont 1 then
    let r := (b0 % 32) * 64 + at' 1 % 64
    if r ≥ 0x80 then (r, 2) else (0xFFFD, 1)
  else if b0 / 16 == 14 && cont 1 && cont 2 then
    let r := (b0 % 16) * 4096 + (at' 1 % 64) * 64 + at' 2 % 64
    if r ≥ 0x800 && Utf8.valid r then (r, 3) else (0xFFFD, 1)
  else if b0 / 8 == 30 && cont 1 && cont 2 && cont 3 then
    let r := (b0 % 8) * 262144 + (at' 1 % 64) * 4096 + (at' 2 % 64) * 64 + at' 3 % 64
    if r ≥ 0x10000 && Utf8.valid r then (r, 4) else (0xFFFD, 1)
  else (0xFFFD, 1)
def encN (r : Int) : Nat × Nat :=
  let c := if Utf8.valid r then r.toNat else 0xFFFD
  if c < 0x80 then (1, c % 256)
  else if c < 0x800 then (2, (0xC0 + c / 64) % 256 + 256 * ((0x80 + c % 64) % 256))
  else if c < 0x10000 then (3, (0xE0 + c / 4096) % 256 + 256 * ((0x80 + c / 64 % 64) % 256 + 256 * ((0x80 + c % 64) % 256)))
  else (4, (0xF0 + c / 262144) % 256 + 256 * ((0x80 + c / 4096 % 64) % 256 + 256 * ((0x80 + c / 64 % 64) % 256 + 256 * ((0x80 + c % 64) % 256))))
def bcode : List (List AVal) → Option Nat
  | [] => some 0
  | row :: l => match row with
    | [.int .u8 (.ofNat d)] => match bcode l with
      | some c => some (d % 256 + 256 * c)
      | none => none
    | _ => none

/-! Maps. -/
/-- Are two keys one? The kind: 0 a number, 1 a string, 2 a bool, 3 a struct of a string and a bool. -/
def eqKey (kk : Nat) (x y : AVal) : Option Bool := match kk with
  | 3 => match x, y with
    | .agg l, .agg m => eqCells [1, 2] l m
    | _, _ => none
  | kk => eqCell kk x y
def goodKey (kk : Nat) (k : AVal) : Bool := match kk with
  | 3 => match k with
    | .agg [.str _ _, .bool _] => true
    | _ => false
  | _ => true
def mfind (kk : Nat) (k : AVal) : List (AVal × AVal) → Nat → Option (Option (Nat × AVal))
  | [], _ => match goodKey kk k with
    | true => some none
    | false => none
  | e :: l, i => match eqKey kk k e.1 with
    | none => none
    | some true => some (some (i, e.2))
    | some false => mfind kk k l (i + 1)
def mset : List (AVal × AVal) → Nat → AVal → List (AVal × AVal)
  | [], _, _ => []
  | (k, v) :: l, i, x => match i with
    | 0 => (k, x) :: l
    | i + 1 => (k, v) :: mset l i x
def madd : List (AVal × AVal) → AVal → AVal → List (AVal × AVal)
  | [], k, v => [(k, v)]
  | e :: l, k, v => e :: madd l k v
def mapOf (H : Heap) (x : AVal) : Option (List (AVal × AVal)) := match x with
  | .nilm => some []
  | .mp b => match H.get b with
    | .obj (.map l) => some l
    | _ => none
  | _ => none

def mlen : List (AVal × AVal) → Nat
  | [] => 0
  | _ :: l => mlen l + 1
def mget : List (AVal × AVal) → Nat → Option (AVal × AVal)
  | [], _ => none
  | e :: l, i => match i with
    | 0 => some e
    | i + 1 => mget l i
/-- Is a number in a list? -/
def isIn (i : Nat) : List Nat → Bool
  | [] => false
  | j :: l => match Nat.beq i j with | true => true | false => isIn i l
def lastOf : List Nat → Option Nat
  | [] => none
  | i :: l => match lastOf l with | none => some i | some j => some j
/-- Is a value nil? The kind: 0 an interface, 1 a slice, 2 a map, 3 a function. 'none': it is none of those. -/
def isNil (k : Nat) (x : AVal) : Option Bool := match k with
  | 0 => match x with | .nili => some true | .iface _ _ => some false | _ => none
  | 1 => match x with | .nils => some true | .slc _ _ _ _ _ => some false | _ => none
  | 2 => match x with | .nilm => some true | .mp _ => some false | _ => none
  | 3 => match x with | .nilf => some true | .fn _ _ _ => some false | _ => none
  | _ => none
/-- A deferred call more. -/
def pushD (x l : AVal) : Option AVal := match l with
  | .tup l => some (.tup (x :: l))
  | _ => none
/-- n cells of a table. -/
def gcut (gl : List (List AVal)) (g c n : Nat) : Option (List AVal) := match rget gl g with
  | some row => cut row c n
  | none => none

section
variable {R : Type} (A : Alg R)

/-- append(x, y...). -/
def doAppend (esz bytes : Nat) (x y : AVal) (H : Heap) (K : AVal → Heap → R) : R :=
  match rowsOf H esz y with
  | none => A.fail
  | some new =>
    match x with
    | .nils => match new with
      | [] => K .nils H
      | _ => match Nat.ble (Nat.mul (rlen new) bytes) 1000000000 with
        | false => A.fail
        | true => fL new fun new => fN (rlen new) fun n => hAdd H (.rows esz new) fun b H => K (.slc b 0 n none esz) H
    | .slc b r len cap z => match Nat.beq z esz && Nat.ble (Nat.mul (len + rlen new) bytes) 1000000000 with
      | false => A.fail
      | true => match rowsOf H esz x with
        | none => A.fail
        | some old => match cap with
          | some c => match Nat.ble (len + rlen new) c with
            | true => match new with
              | [] => K x H
              | _ => match H.get b with
                | .rows z' l => match Nat.ble (r + (len + rlen new)) (rlen l) with
                  | true => fL (rsplice l (r + len) new) fun l => hPut H b (.rows z' l) fun H => fN (len + rlen new) fun n => K (.slc b r n cap z) H
                  | false => A.fail
                | _ => A.fail
            | false => fL (old ++ new) fun l => fN (rlen l) fun n => hAdd H (.rows esz l) fun b H => K (.slc b 0 n none esz) H
          | none => match new with
            | [] => K x H
            | _ => match H.get b with
              | .rows z' l => match Nat.ble (r + (len + rlen new)) (rlen l) with
                | true => fL (rsplice l (r + len) new) fun l => hPut H b (.rows z' l) fun H => fN (len + rlen new) fun n => K (.slc b r n none z) H
                | false => fL (old ++ new) fun l => fN (rlen l) fun n => hPut H b .dead fun H => hAdd H (.rows esz l) fun b H => K (.slc b 0 n none esz) H
              | _ => A.fail
    | _ => A.fail

/-- A store. -/
def doStore (n : Nat) (X V : AVal) (H : Heap) (K : Heap → R) : R := match X with
  | .ptr b r c => match V.cells with
    | none => A.fail
    | some cs => match H.get b with
      | .rows z l => match rget l r with
        | some row => match Nat.beq (llen cs) n && Nat.ble (c + n) (llen row) with
          | true => fL (splice row c cs) fun row => fL (rset l r row) fun l => hPut H b (.rows z l) K
          | false => A.fail
        | none => A.fail
      | _ => A.fail
  | _ => A.fail

def evI (call : Nat → List AVal → Heap → (AVal → Heap → R) → R) (i : DI) (vs ts : List AVal) (H : Heap) (K : AVal → Heap → R) : R :=
  match i with
  | .move x => K (x.get vs ts) H
  | .pick c a b => match c.get vs ts with
    | .bool true => K (a.get vs ts) H
    | .bool false => K (b.get vs ts) H
    | _ => A.fail
  | .alloc row => hAdd H (.rows (llen row) [row]) fun b H => K (.ptr b 0 0) H
  | .box n x => match (x.get vs ts).cells with
    | none => A.fail
    | some cs => match Nat.beq (llen cs) n with
      | true => hAdd H (.rows n [cs]) fun b H => K (.ptr b 0 0) H
      | false => A.fail
  | .build zero parts => match fillP vs ts zero parts with
    | some l => fL l fun l => K (.agg l) H
    | none => A.fail
  | .buildS esz rows parts => match fillR vs ts esz rows parts with
    | some l => fL l fun l => hAdd H (.rows esz l) fun b H => fN (rlen l) fun n => K (.slc b 0 n (some n) esz) H
    | none => A.fail
  | .load1 x => match x.get vs ts with
    | .ptr b r c => match H.get b with
      | .rows _ l => match rget l r with
        | some row => match cut row c 1 with
          | some (v :: _) => K v H
          | _ => A.fail
        | none => A.fail
      | _ => A.fail
    | .gp g c => match gcut H.gl g c 1 with
      | some (v :: _) => K v H
      | _ => A.fail
    | _ => A.fail
  | .loadN n x => match x.get vs ts with
    | .ptr b r c => match H.get b with
      | .rows _ l => match rget l r with
        | some row => match cut row c n with
          | some cs => fL cs fun cs => K (.agg cs) H
          | _ => A.fail
        | none => A.fail
      | _ => A.fail
    | .gp g c => match gcut H.gl g c n with
      | some cs => fL cs fun cs => K (.agg cs) H
      | _ => A.fail
    | _ => A.fail
  | .store n x v => doStore A n (x.get vs ts) (v.get vs ts) H fun H => K (.tup []) H
  | .nilck x => match x.get vs ts with
    | .ptr b r c => K (.ptr b r c) H
    | .fn f a b => K (.fn f a b) H
    | .gp g c => K (.gp g c) H
    | _ => A.fail
  | .bin op x y => match binV op (x.get vs ts) (y.get vs ts) with
    | some v => fV v fun v => K v H
    | none => A.fail
  | .binB op x y => match binB op (x.get vs ts) (y.get vs ts) with
    | some v => fV v fun v => K v H
    | none => A.fail
  | .binP op x y => match binP op (x.get vs ts) (y.get vs ts) with
    | some v => fV v fun v => K v H
    | none => A.fail
  | .eqAgg neg ks x y => match x.get vs ts, y.get vs ts with
    | .agg l, .agg m => match eqCells ks l m with
      | some b => fB (b != neg) fun b => K (.bool b) H
      | none => A.fail
    | _, _ => A.fail
  | .not x => match x.get vs ts with
    | .bool true => K (.bool false) H
    | .bool false => K (.bool true) H
    | _ => A.fail
  | .conv k x => match x.get vs ts with
    | .int _ n => fI (wrapI k n) fun n => K (.int k n) H
    | _ => A.fail
  | .fadr off x => match x.get vs ts with
    | .ptr b r c => fN (c + off) fun c => K (.ptr b r c) H
    | .gp g c => fN (c + off) fun c => K (.gp g c) H
    | _ => A.fail
  | .fld1 off x => match x.get vs ts with
    | .agg l => match cut l off 1 with
      | some (v :: _) => K v H
      | _ => A.fail
    | _ => A.fail
  | .fldN off n x => match x.get vs ts with
    | .agg l => match cut l off n with
      | some cs => fL cs fun cs => K (.agg cs) H
      | _ => A.fail
    | _ => A.fail
  | .idxS esz x i => match x.get vs ts, i.get vs ts with
    | .slc b r len _ z, .int _ (.ofNat n) => match Nat.blt n len && Nat.beq z esz with
      | true => fN (r + n) fun r => K (.ptr b r 0) H
      | false => A.fail
    | _, _ => A.fail
  | .idxA len esz x i => match x.get vs ts, i.get vs ts with
    | .ptr b r c, .int _ (.ofNat n) => match Nat.blt n len with
      | true => fN (c + n * esz) fun c => K (.ptr b r c) H
      | false => A.fail
    | .gp g c, .int _ (.ofNat n) => match Nat.blt n len with
      | true => fN (c + n * esz) fun c => K (.gp g c) H
      | false => A.fail
    | _, _ => A.fail
  | .idxStr x i => match x.get vs ts, i.get vs ts with
    | .str n c, .int _ (.ofNat j) => match Nat.blt j n with
      | true => fN (sget c j) fun d => K (.int .u8 (.ofNat d)) H
      | false => A.fail
    | _, _ => A.fail
  | .len str x => match x.get vs ts with
    | .str n _ => match str with | true => K (.int .i64 (.ofNat n)) H | false => A.fail
    | .slc _ _ n _ _ => match str with | true => A.fail | false => K (.int .i64 (.ofNat n)) H
    | .nils => match str with | true => A.fail | false => K (.int .i64 (.ofNat 0)) H
    | _ => A.fail
  | .append esz bytes x y => doAppend A esz bytes (x.get vs ts) (y.get vs ts) H K
  | .slcStr x lo hi => match x.get vs ts with
    | .str n c => match bounds vs ts n n lo hi with
      | some (l, h) => fN (h - l) fun n => fN (scut c l h) fun c => K (.str n c) H
      | none => A.fail
    | _ => A.fail
  | .slcS esz x lo hi mx => match x.get vs ts with
    | .slc b r len cap z => match Nat.beq z esz with
      | false => A.fail
      | true => match cap with
        | some cp => match (match mx with | none => some cp | some m => bound (m.get vs ts) cp) with
          | none => A.fail
          | some m => match bounds vs ts len (match mx with | none => cp | some _ => m) lo hi with
            | some (l, h) => fN (r + l) fun r => fN (h - l) fun n => fN (m - l) fun m => K (.slc b r n (some m) z) H
            | none => A.fail
        | none => match mx with
          | none => match bounds vs ts len len lo hi with
            | some (l, h) => fN (r + l) fun r => fN (h - l) fun n => K (.slc b r n none z) H
            | none => A.fail
          | some m => match bound (m.get vs ts) len with
            | none => A.fail
            | some m => match bounds vs ts len m lo hi with
              | some (l, h) => fN (r + l) fun r => fN (h - l) fun n => fN (m - l) fun m => K (.slc b r n (some m) z) H
              | none => A.fail
    | .nils => match bounds vs ts 0 0 lo hi, mx with
      | some _, none => K .nils H
      | some _, some m => match bound (m.get vs ts) 0 with
        | some _ => K .nils H
        | none => A.fail
      | none, _ => A.fail
    | _ => A.fail
  | .mkS zero bytes len cap => match len.get vs ts, cap.get vs ts with
    | .int _ (.ofNat n), .int _ (.ofNat c) => match Nat.ble n c && Nat.ble (Nat.mul c bytes) 1000000000 && Nat.ble c 1000000000 with
      | true => fL (List.replicate c zero) fun l => hAdd H (.rows (llen zero) l) fun b H => K (.slc b 0 n (some c) (llen zero)) H
      | false => A.fail
    | _, _ => A.fail
  | .call f args => fL (opds vs ts args) fun l => call f l H K
  | .callv x args => match x.get vs ts with
    | .fn f first capt => fL (first ++ (opds vs ts args ++ capt)) fun l => call f l H K
    | .yl b => match H.get b with
      | .obj (.loop f vs') => hPut H b (.obj .busy) fun H => fL (opds vs ts args) fun l => fL (l ++ vs') fun l' => call f (mark (llen l) :: l') H fun _ H => hPut H b (.obj (.loop f vs')) fun H => K (.bool true) H
      | _ => A.fail
    | _ => A.fail
  | .ext x i => match x.get vs ts with
    | .tup l => match Nat.blt i (llen l) with
      | true => K (lget l i) H
      | false => A.fail
    | _ => A.fail
  | .mkfn f first capt => fL (opds vs ts first) fun a => fL (opds vs ts capt) fun b => K (.fn f a b) H
  | .again1 x y => match x.get vs ts with
    | .ptr b r c => match H.get b with
      | .rows _ l => match rget l r with
        | some row => match cut row c 1 with
          | some (v :: _) => match same v (y.get vs ts) with | true => K (.tup []) H | false => A.fail
          | _ => A.fail
        | none => A.fail
      | _ => A.fail
    | .gp g c => match gcut H.gl g c 1 with
      | some (v :: _) => match same v (y.get vs ts) with | true => K (.tup []) H | false => A.fail
      | _ => A.fail
    | _ => A.fail
  | .againN n x y => match x.get vs ts with
    | .ptr b r c => match H.get b with
      | .rows _ l => match rget l r with
        | some row => match cut row c n with
          | some cs => match same (.agg cs) (y.get vs ts) with | true => K (.tup []) H | false => A.fail
          | _ => A.fail
        | none => A.fail
      | _ => A.fail
    | .gp g c => match gcut H.gl g c n with
      | some cs => match same (.agg cs) (y.get vs ts) with | true => K (.tup []) H | false => A.fail
      | _ => A.fail
    | _ => A.fail
  | .againL zero kk ok x k y => match mapOf H (x.get vs ts) with
    | none => A.fail
    | some l => match mfind kk (k.get vs ts) l 0 with
      | none => A.fail
      | some r => match same (match r with | some e => (match ok with | true => .tup [e.2, .bool true] | false => e.2) | none => (match ok with | true => .tup [zero, .bool false] | false => zero)) (y.get vs ts) with
        | true => K (.tup []) H
        | false => A.fail
  | .un1 neg x => match un1V neg (x.get vs ts) with
    | some v => fV v fun v => K v H
    | none => A.fail
  | .convBS x => match rowsOf H 1 (x.get vs ts) with
    | none => A.fail
    | some rows => match bcode rows with
      | none => A.fail
      | some c => fN (rlen rows) fun n => fN c fun c => K (.str n c) H
  | .convIS x => match x.get vs ts with
    | .int _ r => fN (encN r).1 fun n => fN (encN r).2 fun c => K (.str n c) H
    | _ => A.fail
  | .rngS x => match x.get vs ts with
    | .str n c => hAdd H (.obj (.siter n c 0)) fun b H => K (.ptr b 0 0) H
    | _ => A.fail
  | .nxtS x => match x.get vs ts with
    | .ptr b 0 0 => match H.get b with
      | .obj (.siter n c pos) => match Nat.blt pos n with
        | false => K (.tup [.bool false]) H
        | true => fN (decN n c pos).1 fun r => fN (pos + (decN n c pos).2) fun p => hPut H b (.obj (.siter n c p)) fun H => K (.tup [.bool true, .int .i64 (.ofNat pos), .int .i32 (.ofNat r)]) H
      | _ => A.fail
    | _ => A.fail
  | .mkmap => hAdd H (.obj (.map [])) fun b H => K (.mp b) H
  | .lkp zero kk ok x k => match mapOf H (x.get vs ts) with
    | none => A.fail
    | some l => match mfind kk (k.get vs ts) l 0 with
      | none => A.fail
      | some (some e) => match ok with
        | true => K (.tup [e.2, .bool true]) H
        | false => K e.2 H
      | some none => match ok with
        | true => K (.tup [zero, .bool false]) H
        | false => K zero H
  | .mupd kk m k v => match m.get vs ts with
    | .mp b => match H.get b with
      | .obj (.map l) => match mfind kk (k.get vs ts) l 0 with
        | none => A.fail
        | some (some e) => fL (mset l e.1 (v.get vs ts)) fun l => hPut H b (.obj (.map l)) fun H => K (.tup []) H
        | some none => fL (madd l (k.get vs ts) (v.get vs ts)) fun l => hPut H b (.obj (.map l)) fun H => K (.tup []) H
      | _ => A.fail
    | _ => A.fail
  | .die => A.fail
  | .binN neg k x => match isNil k (x.get vs ts) with
    | some b => fB (b != neg) fun b => K (.bool b) H
    | none => A.fail
  | .binPP neg x y => match x.get vs ts, y.get vs ts with
    | .nilp, .nilp => K (.bool (!neg)) H
    | .ptr _ _ _, .nilp => K (.bool neg) H
    | .nilp, .ptr _ _ _ => K (.bool neg) H
    | .ptr b r c, .ptr b' r' c' => match Nat.beq b b' with
      | true => match Nat.beq r r' && Nat.beq c c' with
        | true => K (.bool (!neg)) H
        | false => A.fail
      | false => match H.get b, H.get b' with
        | .rows _ _, .rows _ _ => K (.bool neg) H
        | _, _ => A.fail
    | _, _ => A.fail
  | .mkif t x => K (.iface t (x.get vs ts)) H
  | .tas t zero x => match x.get vs ts with
    | .iface u v => match Nat.beq u t with
      | true => K (.tup [v, .bool true]) H
      | false => K (.tup [zero, .bool false]) H
    | .nili => K (.tup [zero, .bool false]) H
    | _ => A.fail
  | .idxAg n esz x i => match x.get vs ts, i.get vs ts with
    | .agg l, .int _ (.ofNat j) => match Nat.blt j n with
      | true => match cut l (j * esz) esz with
        | some cs => fL cs fun cs => K (.agg cs) H
        | none => A.fail
      | false => A.fail
    | _, _ => A.fail
  | .ment zero kk m k => match m.get vs ts with
    | .mp b => match H.get b with
      | .obj (.map l) => match mfind kk (k.get vs ts) l 0 with
        | none => A.fail
        | some (some e) => K (.tup [e.2, .int .i64 (.ofNat e.1)]) H
        | some none => fL (madd l (k.get vs ts) zero) fun l' => hPut H b (.obj (.map l')) fun H => fN (mlen l) fun n => K (.tup [zero, .int .i64 (.ofNat n)]) H
      | _ => A.fail
    | _ => A.fail
  | .esto m s v => match m.get vs ts, s.get vs ts with
    | .mp b, .int _ (.ofNat i) => match H.get b with
      | .obj (.map l) => match Nat.blt i (mlen l) with
        | true => fL (mset l i (v.get vs ts)) fun l => hPut H b (.obj (.map l)) fun H => K (.tup []) H
        | false => A.fail
      | _ => A.fail
    | _, _ => A.fail
  | .rngM x => match x.get vs ts with
    | .mp b => match H.get b with
      | .obj (.map l) => fN (mlen l) fun n => hAdd H (.obj (.miter b n [] n)) fun b H => K (.ptr b 0 0) H
      | _ => A.fail
    | _ => A.fail
  | .nxtM x => match x.get vs ts with
    | .ptr i 0 0 => match H.get i with
      | .obj (.miter b since seen last) => match H.get b with
        | .obj (.map l) => match Nat.beq (mlen l) since && Nat.beq last since with
          | true => match (List.range since).filter fun j => !isIn j seen with
            | [] => K (.tup [.bool false]) H
            | js => js.foldr (fun j r => A.both (match mget l j with
                | some e => fL (seen ++ [j]) fun seen => hPut H i (.obj (.miter b since seen since)) fun H => K (.tup [.bool true, e.1, e.2]) H
                | none => A.fail) r) A.yes
          | false => A.fail
        | _ => A.fail
      | _ => A.fail
    | _ => A.fail
  | .ent x => match x.get vs ts with
    | .ptr i 0 0 => match H.get i with
      | .obj (.miter b since seen last) => match H.get b with
        | .obj (.map l) => match Nat.beq (mlen l) last with
          | true => match lastOf seen with
            | some j => match mget l j with
              | some e => K (.tup [e.1, e.2]) H
              | none => A.fail
            | none => A.fail
          | false => A.fail
        | _ => A.fail
      | _ => A.fail
    | _ => A.fail
  | .minI x y => match x.get vs ts, y.get vs ts with
    | .int k a, .int _ b => match ile a b with
      | true => K (.int k a) H
      | false => K (.int k b) H
    | _, _ => A.fail
  | .dfr hid x args => match Nat.blt hid (llen vs) with
    | true => match x.get vs ts with
      | .fn f first capt => match pushD (.fn f (first ++ opds vs ts args) capt) (lget vs hid) with
        | some v => K v H
        | none => A.fail
      | _ => A.fail
    | false => A.fail
  | .store2 n x v m y u => match x.get vs ts, y.get vs ts with
    | .ptr b _ _, .ptr c _ _ => match Nat.beq b c with
      | true => A.fail
      | false => doStore A n (x.get vs ts) (v.get vs ts) H fun H => doStore A m (y.get vs ts) (u.get vs ts) H fun H => K (.tup []) H
    | _, _ => A.fail
  | .kill x => match x.get vs ts with
    | .slc b _ _ _ _ => match H.get b with
      | .rows _ _ => hPut H b .dead fun H => K (.tup []) H
      | _ => A.fail
    | _ => A.fail

end
/-- Operations that look alone: what they yield. -/
def AO : Alg (Option AVal) := ⟨none, fun _ _ => none, fun x => x.isSome = true, by simp, by intro a b h; simp at h, none⟩
def evQ (di : DI) (vs ts : List AVal) (H : Heap) : Option AVal := evI AO (fun _ _ _ _ => none) di vs ts H fun x _ => some x
/-- The slice that lies behind a variable's pointer, and what holds it, are blocks apart. -/
def apartF (H : Heap) (V : AVal) (off : Nat) : Bool := match evQ (.load1 (.c V)) [] [] H with
  | some (.ptr c r k) => match evQ (.load1 (.c (.ptr c r (k + off)))) [] [] H with
    | some (.slc b _ _ _ _) => !Nat.beq b c && (Nat.blt b H.next && Nat.blt c H.next)
    | some .nils => Nat.blt c H.next
    | _ => false
  | _ => false
section
variable {R : Type} (A : Alg R)
/-- A value goes to where it belongs. -/
def sink (d : Dst) (vs ts : List AVal) (v : AVal) (K : List AVal → List AVal → R) : R := match d with
  | .no => K vs ts
  | .var i => fL (lset vs i v) fun vs => K vs ts
  | .tmp => K vs (v :: ts)

def evOps (call : Nat → List AVal → Heap → (AVal → Heap → R) → R) : List DO → List AVal → List AVal → Heap → (List AVal → List AVal → Heap → R) → R
  | [], vs, ts, H, K => K vs ts H
  | o :: l, vs, ts, H, K =>
    match o.guard with
    | none => evI A call o.op vs ts H fun v H => sink o.dst vs ts v fun vs ts => evOps call l vs ts H K
    | some (g, want) => match (match g.get vs ts with | .bool b => b == want | _ => false) with
      | true => evI A call o.op vs ts H fun v H => sink o.dst vs ts v fun vs ts => evOps call l vs ts H K
      | false => sink o.dst vs ts (.tup []) fun vs ts => evOps call l vs ts H K

/-- Rounds of a loop, n at the most. -/
def rounds (body : List AVal → Heap → (DX → List AVal → List AVal → Heap → R) → R) : Nat → List AVal → Heap → (DX → List AVal → List AVal → Heap → R) → R
  | 0, _, _, _ => A.fail
  | n + 1, vs, H, K => body vs H fun x vs ts H => match x with
    | .normal => rounds body n vs H K
    | x => K x vs ts H

/-- Variables of which nothing is known any more. -/
def clr : List Nat → List AVal → List AVal
  | [], vs => vs
  | i :: l, vs => clr l (lset vs i .un)
def noBool : List Nat → List AVal → Bool
  | [], _ => true
  | i :: l, vs => match lget vs i with
    | .bool _ => false
    | _ => noBool l vs
/-- How many rounds a loop may go. -/
def manyRounds : Nat := 1000000000

def evC (call : Nat → List AVal → Heap → (AVal → Heap → R) → R) : DC → List AVal → List AVal → Heap → (DX → List AVal → List AVal → Heap → R) → R
  | .skip, vs, ts, H, K => K .normal vs ts H
  | .reg ops, vs, _, H, K => evOps A call ops vs [] H fun vs ts H => K .normal vs ts H
  | .seq a b, vs, ts, H, K => evC call a vs ts H fun x vs ts H => match x with
    | .normal => evC call b vs ts H K
    | x => K x vs ts H
  | .cond c a b, vs, ts, H, K => match c.get vs ts with
    | .bool true => evC call a vs ts H K
    | .bool false => evC call b vs ts H K
    | _ => A.fail
  | .block id c, vs, ts, H, K => evC call c vs ts H fun x vs ts H => match x with
    | .exit j => match Nat.beq j id with
      | true => K .normal vs ts H
      | false => K x vs ts H
    | x => K x vs ts H
  | .loop c, vs, _, H, K => rounds A (fun vs H K => evC call c vs [] H K) manyRounds vs H K
  | .exit id, vs, ts, H, K => K (.exit id) vs ts H
  | .ret, vs, ts, H, K => K .ret vs ts H
  | .die, _, _, _, _ => A.fail
  | .condF _ b us p off, vs, _, H, K => match apartF H (p.get vs []) off with
    | true => evC call b vs [] H fun x vs ts H => match x with
      | .normal => match noBool us vs with
        | true => fL (clr us vs) fun vs => K .normal vs ts H
        | false => A.fail
      | _ => A.fail
    | false => A.fail
  | .rngF x f hid g0, vs, ts, H, K => match x.get vs ts with
    | .fn g first capt => match Nat.beq g g0 && Nat.blt hid (llen vs) with
      | true => hAdd H (.obj .dfr) fun bD H => hAdd H (.obj (.loop f vs)) fun bL H => fL (first ++ (.yl bL :: capt)) fun l => call g l H fun _ H => match H.get bL with
        | .obj (.loop _ _) => hPut H bL (.obj .busy) fun H => match pushD (.ptr bD 0 0) (lget vs hid) with
          | some v => fL (lset vs hid v) fun vs => K .normal vs [] H
          | none => A.fail
        | _ => A.fail
      | false => A.fail
    | _ => A.fail

/-- The results of a function. -/
def evR (vs : List AVal) (H : Heap) : List DR → Option (List AVal)
  | [] => some []
  | r :: l => match (match r with
      | .opd x => some (x.get vs [])
      | .cell1 x => match x.get vs [] with
        | .ptr b r c => match H.get b with
          | .rows _ l => match rget l r with
            | some row => match cut row c 1 with
              | some (v :: _) => some v
              | _ => none
            | none => none
          | _ => none
        | _ => none
      | .cellN n x => match x.get vs [] with
        | .ptr b r c => match H.get b with
          | .rows _ l => match rget l r with
            | some row => match cut row c n with
              | some cs => some (.agg cs)
              | none => none
            | none => none
          | _ => none
        | _ => none) with
    | none => none
    | some v => match evR vs H l with
      | none => none
      | some vs => some (v :: vs)

def initV (args : List AVal) : List (Option Nat) → List AVal
  | [] => []
  | some i :: l => lget args i :: initV args l
  | none :: l => .tup [] :: initV args l

/-- Deferred calls, the last one first. -/
def runD (call : Nat → List AVal → Heap → (AVal → Heap → R) → R) : List AVal → Heap → (Heap → R) → R
  | [], H, K => K H
  | d :: l, H, K => match d with
    | .fn f a c => fL (a ++ c) fun x => call f x H fun _ H => runD call l H K
    | .ptr b 0 0 => match H.get b with
      | .obj .dfr => hPut H b (.obj .busy) fun H => runD call l H K
      | _ => A.fail
    | _ => A.fail

/-- An answer that is known ahead: a plain value; a new map of plain entries; a plain value, when n cells have been stored where p points to. -/
inductive KA where
  | val (x : AVal)
  | map (l : List (AVal × AVal))
  | put (p : AVal) (n : Nat) (v x : AVal)
/-- The functions, and the calls whose answers are known ahead (by the tables of the world, the function, the arguments). -/
structure Prog where
  funs : Nat → Option DF
  known : List (List AVal) → Nat → List AVal → Option KA

/-- A function's body; D is given its deferred calls, its frame, memory. -/
def evB (call : Nat → List AVal → Heap → (AVal → Heap → R) → R) (F : DF) (args : List AVal) (H : Heap) (D : List AVal → List AVal → Heap → R) : R :=
  fL (initV args F.init) fun vs => evC A call F.code vs [] H fun x vs _ H => match x with
    | .exit _ => A.fail
    | _ => match lget vs F.hid with
      | .tup ds => D ds vs H
      | _ => A.fail
/-- A function's results. -/
def evE (F : DF) (vs : List AVal) (H : Heap) (K : AVal → Heap → R) : R := match evR vs H F.res with
  | none => A.fail
  | some l => match l with
    | [v] => fV v fun v => K v H
    | l => fL l fun l => K (.tup l) H
/-- A round of a range over a function. -/
def evRnd (call : Nat → List AVal → Heap → (AVal → Heap → R) → R) (F : DF) (args : List AVal) (H : Heap) (K : AVal → Heap → R) : R :=
  fL (initV args F.init) fun vs => evC A call F.code vs [] H fun x _ _ H => match x with
    | .normal => K (.tup []) H
    | _ => A.fail
/-- A deferred function: it defers none itself. -/
def evD (funs : Nat → Option DF) (call : Nat → List AVal → Heap → (AVal → Heap → R) → R) (f : Nat) (args : List AVal) (H : Heap) (K : AVal → Heap → R) : R := match funs f with
  | none => A.fail
  | some F => match F.rnd with
    | some _ => A.fail
    | none => evB A call F args H fun ds vs H => match ds with
      | [] => evE A F vs H K
      | _ => A.fail

def evF (T : Prog) : Nat → Nat → List AVal → Heap → (AVal → Heap → R) → R
  | 0, _, _, _, _ => A.fail
  | n + 1, f, args, H, K => match isMark args with
    | some k => match T.funs f with
      | none => A.fail
      | some F => match F.rnd with
        | none => A.fail
        | some j => match Nat.beq j k with
          | true => evRnd A (evF T n) F args H K
          | false => A.fail
    | none => match T.known H.gl f args with
      | some a => match a with
        | .val x => K x H
        | .map l => hAdd H (.obj (.map l)) fun b H => K (.mp b) H
        | .put p n v x => doStore A n p v H fun H => K x H
      | none => match T.funs f with
        | none => A.fail
        | some F => match F.rnd with
          | some _ => A.fail
          | none => evB A (evF T n) F args H fun ds vs H => runD A (evD A T.funs (evF T n)) ds H fun H => evE A F vs H K
end
/-! ### From the loader's code to the abstract machine's: types are looked up, temporaries become places. What this makes is checked by what is proved of it. -/

def codeOf : List UInt8 → Nat
  | [] => 0
  | b :: l => b.toNat + 256 * codeOf l

def cVal1 : Value → Option AVal
  | .bool b => some (.bool b)
  | .int k n => some (.int k n)
  | .string s => some (.str s.size (codeOf s.data.toList))
  | .pointer none => some .nilp
  | .slice none 0 0 => some .nils
  | .map none => some .nilm
  | .nilFunc => some .nilf
  | .nilIface => some .nili
  | _ => none

def cVals : List Value → Option (List AVal)
  | [] => some []
  | v :: l => match cVal1 v, cVals l with
    | some x, some xs => some (x :: xs)
    | _, _ => none

def cVal : Value → Option AVal
  | .agg cs => (cVals cs.toList).map .agg
  | v => cVal1 v

def findT (t : Nat) : List Nat → Nat → Option Nat
  | [], _ => none
  | u :: l, i => if u == t then some i else findT t l (i + 1)

def cOpd (vm names : List Nat) : Operand → Option Opd
  | .tmp t => match findT t names 0 with
    | some i => some (.t i)
    | none => match findT t vm 0 with
      | some i => some (.v i)
      | none => none
  | .const v => (cVal v).map .c
  | .func f => some (.c (.fn f [] []))
  | .global g => some (.c (.gp g 0))

def cOpds (f : Operand → Option Opd) : List Operand → Option (List Opd)
  | [] => some []
  | x :: l => match f x, cOpds f l with
    | some y, some ys => some (y :: ys)
    | _, _ => none

/-- A type that is one cell and no struct or array. -/
def isOne (P : Program) (t : TypeId) : Bool := match P.underlying t with
  | some (.struct _) | some (.array _ _) | none => false
  | some _ => true
def isMany (P : Program) (t : TypeId) : Bool := match P.underlying t with
  | some (.struct _) | some (.array _ _) => true
  | _ => false

def isNilC : Operand → Bool
  | .const (.pointer none) | .const (.slice none 0 0) | .const (.map none) | .const .nilFunc | .const .nilIface => true
  | _ => false

def zeroRow (P : Program) (t : TypeId) : Option (List AVal) := match P.info? t with
  | some i => match i.zero with
    | some z => match cVals z.cells.toList with
      | some l => if z.cells.size = i.size then some l else none
      | none => none
    | none => none
  | none => none

def cParts (f : Operand → Option Opd) (place : Nat → Option (Nat × Nat)) : List (Nat × Operand) → Option (List (Nat × Nat × Opd))
  | [] => some []
  | (i, x) :: l => match place i, f x, cParts f place l with
    | some (off, n), some y, some r => some ((off, n, y) :: r)
    | _, _, _ => none

def cPartsR (f : Operand → Option Opd) : List (Nat × Operand) → Option (List (Nat × Opd))
  | [] => some []
  | (i, x) :: l => match f x, cPartsR f l with
    | some y, some r => some ((i, y) :: r)
    | _, _ => none

/-- A struct of plain cells that is compared cell by cell: the kinds of its cells. -/
def plainKinds (P : Program) : List Field → Nat → Option (List Nat)
  | [], _ => some []
  | f :: fs, i => if f.name != "_" && f.offset == i then
      match P.underlying f.type, plainKinds P fs (i + 1) with
      | some (.int _), some r => some (0 :: r)
      | some .string, some r => some (1 :: r)
      | some .bool, some r => some (2 :: r)
      | _, _ => none
    else none
def plainStruct (P : Program) (t : TypeId) (fs : List Field) : Option (List Nat) :=
  if !P.stoodInHeld t && !P.eqGuardType P.depth t then plainKinds P fs 0 else none

/-- What a map's keys are. -/
def mapKey (P : Program) (t : TypeId) : Option Nat := match P.underlying t with
  | some (.int _) => some 0
  | some .string => some 1
  | some .bool => some 2
  | some (.struct fs) => match plainStruct P t fs.toList with
    | some [1, 2] => some 3
    | _ => none
  | _ => none
/-- A type's zero value. -/
def zeroVal (P : Program) (t : TypeId) : Option AVal := match P.info? t with
  | some i => match i.zero with
    | some z => cVal z
    | none => none
  | none => none

def cOpt (f : Operand → Option Opd) : Option Operand → Option (Option Opd)
  | none => some none
  | some x => (f x).map some
def nilCmp (k : Nat) (b : Bool) (op : BinOp) (x : Opd) : Option DI := match b with
  | true => match op with | .eql => some (.binN false k x) | .neq => some (.binN true k x) | _ => none
  | false => none
def cOp (P : Program) (f : Operand → Option Opd) : Op → Option DI
  | .move x | .assign x => (f x).map .move
  | .pick c a b => match f c, f a, f b with
    | some c, some a, some b => some (.pick c a b)
    | _, _, _ => none
  | .alloc e => (zeroRow P e).map .alloc
  | .box e x => (f x).map (.box (P.cellsOf e))
  | .build t ps => match zeroRow P t with
    | none => none
    | some z => match P.underlying t with
      | some (.struct fs) => match fs.toList.mapM (fun fd => (P.info? fd.type).map fun i => (fd.offset, i.size)) with
        | some places => (cParts f (fun i => places[i]?) ps.toList).map (.build z)
        | none => none
      | some (.array _ e) => match P.info? e with
        | some ie => (cParts f (fun i => some (i * ie.size, ie.size)) ps.toList).map (.build z)
        | none => none
      | _ => none
  | .buildSlice t n ps => match P.underlying t with
    | some (.slice e) => match zeroRow P e with
      | none => none
      | some z => if 0 < P.cellsOf e ∧ n * P.cellsOf e ≤ 100000 then (cPartsR f ps.toList).map (.buildS (P.cellsOf e) (List.replicate n z)) else none
    | _ => none
  | .load t x => if isMany P t then (f x).map (.loadN (P.cellsOf t)) else if isOne P t then (f x).map .load1 else none
  | .store t x v => match P.info? t, f x, f v with
    | some i, some x, some v => some (.store i.size x v)
    | _, _, _ => none
  | .nilCheck x => (f x).map .nilck
  | .binOp op t a b _ => match f a, f b with
    | some x, some y => match P.underlying t with
      | some (.int _) | some .string => some (.bin op x y)
      | some .bool => some (.binB op x y)
      | some (.pointer e) => match isNilC a, isNilC b with
        | false, false => if P.cellsOf e = 0 then none else match op with | .eql => some (.binPP false x y) | .neq => some (.binPP true x y) | _ => none
        | _, _ => some (.binP op x y)
      | some (.interface _) => nilCmp 0 (match b with | .const .nilIface => true | _ => false) op x
      | some (.slice _) => nilCmp 1 (match b with | .const (.slice none 0 0) => true | _ => false) op x
      | some (.map _ _) => nilCmp 2 (match b with | .const (.map none) => true | _ => false) op x
      | some (.func _ _ _) => nilCmp 3 (match b with | .const .nilFunc => true | _ => false) op x
      | some (.struct fs) => match plainStruct P t fs.toList with
        | some ks => match op with | .eql => some (.eqAgg false ks x y) | .neq => some (.eqAgg true ks x y) | _ => none
        | none => none
      | _ => none
    | _, _ => none
  | .unOp .not _ x => (f x).map .not
  | .unOp .neg _ x => (f x).map (.un1 true)
  | .unOp .xor _ x => (f x).map (.un1 false)
  | .convert s d x => match P.underlying s, P.underlying d with
    | some (.int _), some (.int k) => (f x).map (.conv k)
    | some (.int _), some .string => (f x).map .convIS
    | some (.slice e), some .string => match P.underlying e with
      | some (.int .u8) => (f x).map .convBS
      | _ => none
    | _, _ => none
  | .range t x => match P.underlying t with
    | some .string => (f x).map .rngS
    | some (.map _ _) => (f x).map .rngM
    | _ => none
  | .next x true => (f x).map .nxtS
  | .next x false => (f x).map .nxtM
  | .entry x => (f x).map .ent
  | .makeMap _ none => some .mkmap
  | .lookup t x k ok => match P.underlying t with
    | some (.map kt et) => match mapKey P kt, zeroVal P et, f x, f k with
      | some ks, some z, some x, some k => some (.lkp z ks ok x k)
      | _, _, _, _ => none
    | _ => none
  | .mapUpdate t m k v | .insert t m k v => match P.underlying t with
    | some (.map kt _) => match mapKey P kt, f m, f k, f v with
      | some ks, some m, some k, some v => some (.mupd ks m k v)
      | _, _, _, _ => none
    | _ => none
  | .mapEntry t m k => match P.underlying t with
    | some (.map kt et) => match mapKey P kt, zeroVal P et, f m, f k with
      | some ks, some z, some m, some k => some (.ment z ks m k)
      | _, _, _, _ => none
    | _ => none
  | .entryStore _ m s v => match f m, f s, f v with
    | some m, some s, some v => some (.esto m s v)
    | _, _, _ => none
  | .makeInterface t x => match P.underlying t with
    | some (.interface _) | none => none
    | some _ => (f x).map (.mkif t)
  | .typeAssert x _ t true => match P.underlying t with
    | some (.interface _) | none => none
    | some _ => match zeroVal P t with
      | some z => (f x).map (.tas t z)
      | none => none
  | .makeFunc (.func g) a b => match cOpds f a.toList, cOpds f b.toList with
    | some a, some b => some (.mkfn g a b)
    | _, _ => none
  | .makeSlice t l c => match P.underlying t with
    | some (.slice e) => match zeroRow P e, f l, f c with
      | some z, some l, some c => if 0 < P.bytesOf e ∧ 0 < P.cellsOf e then some (.mkS z (P.bytesOf e) l c) else none
      | _, _, _ => none
    | _ => none
  | .slice t x lo hi mx =>
    match f x, cOpt f lo, cOpt f hi, cOpt f mx with
    | some x, some lo, some hi, some mx => match P.underlying t with
      | some .string => match mx with | none => some (.slcStr x lo hi) | some _ => none
      | some (.slice e) => if mx.isSome && hi.isNone then none else if 0 < P.cellsOf e then some (.slcS (P.cellsOf e) x lo hi mx) else none
      | _ => none
    | _, _, _, _ => none
  | .fieldAddr t x n => match P.underlying t with
    | some (.struct fs) => match fs[n]? with
      | some fd => if P.cellsOf fd.type = 0 then none else (f x).map (.fadr fd.offset)
      | none => none
    | _ => none
  | .field t x n => match P.underlying t with
    | some (.struct fs) => match fs[n]? with
      | some fd => if isMany P fd.type then (f x).map (.fldN fd.offset (P.cellsOf fd.type)) else if isOne P fd.type then (f x).map (.fld1 fd.offset) else none
      | none => none
    | _ => none
  | .indexAddr t x i => match f x, f i with
    | some x, some i => match P.underlying t with
      | some (.slice e) => if P.cellsOf e = 0 then none else some (.idxS (P.cellsOf e) x i)
      | some (.array n e) => if P.cellsOf e = 0 then none else some (.idxA n (P.cellsOf e) x i)
      | _ => none
    | _, _ => none
  | .index t x i => match f x, f i with
    | some x, some i => match P.underlying t with
      | some .string => some (.idxStr x i)
      | some (.array n e) => if isMany P e then some (.idxAg n (P.cellsOf e) x i) else none
      | _ => none
    | _, _ => none
  | .extract x i => (f x).map (.ext · i)
  | .call c => match c.callee with
    | .value (.func g) => match cOpds f c.args.toList with
      | some l => some (.call g l)
      | none => none
    | .value x => match f x, cOpds f c.args.toList with
      | some x, some l => some (.callv x l)
      | _, _ => none
    | .builtin .len => match c.args.toList, c.argTypes.toList with
      | [x], [t] => match P.underlying t with
        | some .string => (f x).map (.len true)
        | some (.slice _) => (f x).map (.len false)
        | _ => none
      | _, _ => none
    | .builtin .append => match c.args.toList, c.argTypes.toList with
      | [x, y], [t, u] => if t = u then match P.underlying t with
        | some (.slice e) => match f x, f y with
          | some x, some y => if 0 < P.bytesOf e ∧ 0 < P.cellsOf e ∧ (zeroRow P e).isSome then some (.append (P.cellsOf e) (P.bytesOf e) x y) else none
          | _, _ => none
        | _ => none
        else none
      | _, _ => none
    | .builtin .min => match c.args.toList with
      | [x, y] => match f x, f y with
        | some x, some y => some (.minI x y)
        | _, _ => none
      | _ => none
    | .builtin .clear | .builtin .panic | .invoke _ _ => some .die
    | _ => none
  | .panic _ => some .die
  | .typeAssert _ _ _ _ => some .die
  | _ => none

def cGuard (f : Operand → Option Opd) (ops : Array Oper) (o : Oper) : Option (Option (Opd × Bool)) := match o.guard with
  | none => some none
  | some (j, want) => match (ops[j]?).bind (·.dst) with
    | some t => (f (.tmp t)).map fun g => some (g, want)
    | none => none

def cDefer (f : Operand → Option Opd) (hid : Nat) (o : Oper) : Option DO := match o.op with
  | .defer c => match o.dst, o.guard, c.callee with
    | none, none, .value x => match f x, cOpds f c.args.toList with
      | some x, some l => some ⟨.var hid, .dfr hid x l, none⟩
      | _, _ => none
    | _, _, _ => none
  | _ => none

def cOper (P : Program) (vm : List Nat) (N : Nat) (ops : Array Oper) (names : List Nat) (o : Oper) : Option (DO × List Nat) :=
  match cOp P (cOpd vm names) o.op, cGuard (cOpd vm names) ops o with
  | some di, some g => match o.dst with
    | none => some (⟨.no, di, g⟩, names)
    | some t => if t < N then match findT t vm 0 with
        | some i => if names.contains t then none else some (⟨.var i, di, g⟩, names)
        | none => if names.contains t then none else some (⟨.tmp, di, g⟩, t :: names)
      else none
  | _, _ => none

/-- What a region's list holds: an operation by its number; a read that is looked at once more; two stores at the end that may come in either order; a block that is given up at the end. -/
inductive It where
  | op (i : Nat)
  | again (i : Nat)
  | two (i j : Nat)
  | kill (i : Nat)

def cAgain (P : Program) (vm : List Nat) (N : Nat) (ops : Array Oper) (names : List Nat) (o : Oper) : Option DO :=
  match o.dst with
  | none => none
  | some d => match cOpd vm names (.tmp d), cGuard (cOpd vm names) ops o, cOp P (cOpd vm names) o.op with
    | some z, some g, some di => match di with
      | .load1 y => some ⟨.no, .again1 y z, g⟩
      | .loadN n y => some ⟨.no, .againN n y z, g⟩
      | .lkp zero kk ok x k => some ⟨.no, .againL zero kk ok x k z, g⟩
      | _ => none
    | _, _, _ => none
def cTwo (a b : DO) : Option DO := match a, b with
  | ⟨.no, .store n x v, none⟩, ⟨.no, .store m y u, none⟩ => some ⟨.no, .store2 n x v m y u, none⟩
  | _, _ => none
def cKill (vm names : List Nat) (o : Oper) : Option DO := match o.dst with
  | none => none
  | some d => match cOpd vm names (.tmp d) with
    | some z => some ⟨.no, .kill z, none⟩
    | none => none

def cOrd (P : Program) (vm : List Nat) (N : Nat) (ops : Array Oper) : List Nat → List It → Option (List DO × List Nat)
  | names, [] => some ([], names)
  | names, .op i :: l => match ops[i]? with
    | none => none
    | some o => match cDefer (cOpd vm names) vm.length o with
      | some d => match cOrd P vm N ops names l with
        | none => none
        | some (ds, names) => some (d :: ds, names)
      | none => match cOper P vm N ops names o with
        | none => none
        | some (d, names) => match cOrd P vm N ops names l with
          | none => none
          | some (ds, names) => some (d :: ds, names)
  | names, .again i :: l => match ops[i]? with
    | none => none
    | some o => match cAgain P vm N ops names o, cOrd P vm N ops names l with
      | some d, some (ds, names) => some (d :: ds, names)
      | _, _ => none
  | names, .kill i :: l => match ops[i]? with
    | none => none
    | some o => match cKill vm names o, cOrd P vm N ops names l with
      | some d, some (ds, names) => some (d :: ds, names)
      | _, _ => none
  | names, .two i j :: l => match ops[i]?, ops[j]? with
    | some o, some q => match cOper P vm N ops names o, cOper P vm N ops names q with
      | some (d, n1), some (e, n2) => match cTwo d e, cOrd P vm N ops names l with
        | some d, some (ds, names) => some (d :: ds, names)
        | _, _ => none
      | _, _ => none
    | _, _ => none

/-- What kind an operation is, by its own word: 0 it looks at no memory, 1 it reads, 2 memory may turn. -/
def rawKind : Op → Nat
  | .load _ _ | .lookup _ _ _ _ => 1
  | .alloc _ | .box .. | .buildSlice .. => 3
  | .move _ | .assign _ | .pick .. | .build .. | .nilCheck _ | .binOp .. | .unOp .. | .makeFunc .. | .slice .. | .fieldAddr .. | .field .. | .indexAddr .. | .index .. | .extract .. => 0
  | .call { callee := .builtin .len, .. } => 0
  | _ => 2

/-- Does it write over what an earlier one looks at? -/
def overw (ops : Array Oper) (i : Nat) (o : Oper) : Bool := match o.dst with
  | none => false
  | some d => (List.range i).any fun k => match ops[k]? with
    | some x => (x.looksAt ops).contains d
    | none => false
def kindAt (ops : Array Oper) (i : Nat) : Nat := match ops[i]? with
  | some o => if overw ops i o then 2 else rawKind o.op
  | none => 2

def isReady (ops : Array Oper) (done : List Nat) (i : Nat) : Bool :=
  !done.contains i && (match ops[i]? with | some o => o.after.toList.all fun e => !Region.binds .any e || done.contains e.on | none => false)

/-- The order in which a region that draws is gone through: what does not turn memory as early as can be. -/
def canon (ops : Array Oper) : Nat → List Nat → List Nat
  | 0, done => done.reverse
  | n + 1, done =>
    match (List.range ops.size).find? fun i => isReady ops done i && kindAt ops i != 2 with
    | some i => canon ops n (i :: done)
    | none => match (List.range ops.size).find? fun i => isReady ops done i with
      | some i => canon ops n (i :: done)
      | none => done.reverse

def maskOf : List (Nat × Nat) → Nat → Nat
  | [], _ => 0
  | (i, m) :: l, j => if i == j then m else maskOf l j

/-- Those that an operation waits for, near or far. -/
def ancMask (ops : Array Oper) (known : List (Nat × Nat)) (i : Nat) : Nat := match ops[i]? with
  | none => 0
  | some o => o.after.toList.foldl (fun m e => if Region.binds .any e then (m ||| 2 ^ e.on) ||| maskOf known e.on else m) 0

/-- Reads are looked at once more behind what turns memory and does not wait for them. -/
def withAgain (ops : Array Oper) : List (Nat × Nat) → List Nat → List It
  | _, [] => []
  | known, i :: l =>
    let m := ancMask ops known i
    let rest := withAgain ops ((i, m) :: known) l
    if kindAt ops i == 2 then .op i :: (((known.filter fun p => kindAt ops p.1 == 1 && !m.testBit p.1).map fun p => .again p.1) ++ rest) else .op i :: rest

def againsOf : List It → List Nat
  | .again i :: l => i :: againsOf l
  | _ => []
def opsOf : List It → List Nat
  | [] => []
  | .op i :: l => i :: opsOf l
  | .two i j :: l => i :: j :: opsOf l
  | _ :: l => opsOf l
/-- The last two, if they are stores that may come in either order. -/
def pairUp (ops : Array Oper) (m : Nat) : List It → List It
  | [.op i, .op j] => match ops[i]?, ops[j]? with
    | some a, some b => match a.op, b.op with
      | .store _ _ _, .store _ _ _ => if (b.after.toList.any fun e => Region.binds .any e && e.on == i) then [.op i, .op j] else [.two i j]
      | _, _ => [.op i, .op j]
    | _, _ => [.op i, .op j]
  | x :: l => x :: pairUp ops m l
  | [] => []
/-- Slices that are made to be appended alone. -/
def killsOf (ops : Array Oper) : List It := ((List.range ops.size).filter fun i => match ops[i]? with
  | some o => (match o.op, o.dst, o.guard with
    | .buildSlice _ _ _, some t, none => ops.toList.any fun q => match q.op with
      | .call { callee := .builtin .append, args, .. } => (match args.toList with | [_, .tmp u] => u == t | _ => false)
      | _ => false
    | _, _, _ => false)
  | none => false).map .kill

/-- Each temporary is written once, and looked at by those that wait for its writer. -/
def ssaOk (ops : Array Oper) (known : List (Nat × Nat)) : Bool := known.all fun p => known.all fun q => match ops[p.1]?, ops[q.1]? with
  | some x, some y => (match x.dst with | none => true | some d => (p.1 == q.1 || y.dst != some d) && (!(y.looksAt ops).contains d || q.2.testBit p.1 || (kindAt ops p.1 == 2 && p.2.testBit q.1)))
  | _, _ => false
/-- What is asked of an operation where it stands. -/
def opOk (ops : Array Oper) (known : List (Nat × Nat)) (ag : List Nat) (i : Nat) : Bool := match ops[i]? with
  | none => false
  | some o =>
    let m := ancMask ops known i
    !(known.any fun p => p.1 == i) && (o.after.toList.all fun e => !Region.binds .any e || known.any fun p => p.1 == e.on) &&
    (known.all fun p => kindAt ops p.1 != 2 || m.testBit p.1) &&
    (kindAt ops i != 2 || known.all fun p => kindAt ops p.1 != 1 || m.testBit p.1 || ag.contains p.1)
def allKills : List It → Bool
  | [] => true
  | .kill _ :: l => allKills l
  | _ => false
/-- May the list stand for each order? -/
def chk (ops : Array Oper) : List (Nat × Nat) → List It → Bool
  | known, [] => ((List.range ops.size).all fun i => known.any fun p => p.1 == i) && ssaOk ops known
  | known, .op i :: l => opOk ops known (againsOf l) i && chk ops ((i, ancMask ops known i) :: known) l
  | known, .again i :: l => (known.any fun p => p.1 == i && kindAt ops i == 1) && chk ops known l
  | known, .kill i :: l => (known.any fun p => p.1 == i) && (allKills l && chk ops known l)
  | known, .two i j :: l => opOk ops known [] i && opOk ops known [] j && (i != j) && (kindAt ops i == 2 && kindAt ops j == 2) && allKills l && chk ops ((i, ancMask ops known i) :: (j, ancMask ops known j) :: known) l

/-- May an operation stand in a region that draws? No deferred call, no two pointers compared. -/
def tame (P : Program) (o : Oper) : Bool := match o.op with
  | .defer _ => false
  | .binOp _ t a b _ => match P.underlying t with
    | some (.pointer _) => isNilC a || isNilC b
    | _ => true
  | _ => true
def drawItems (ops : Array Oper) (kl : Bool) : List It := pairUp ops 0 (withAgain ops [] (canon ops ops.size [])) ++ (match kl with | true => killsOf ops | false => [])
def itemsOf (P : Program) (ops : Array Oper) (draw kl : Bool) : Option (List It) := match draw with
  | true => match ops.toList.all (tame P) && (Region.noSelect ops && chk ops [] (drawItems ops kl)) with
    | true => some (drawItems ops kl)
    | false => none
  | false => some ((List.range ops.size).map .op)

/-- A truth value that hangs on the order: a cell is made, true and false are stored in either order, then it is read. The cell's and the value's temporaries. -/
def edgesIn (o : Oper) (l : List Nat) : Bool := (o.after.toList.all fun e => !Region.binds .any e || l.contains e.on)
def edgeTo (o : Oper) (i : Nat) : Bool := (o.after.toList.any fun e => Region.binds .any e && e.on == i)
def flagOps (P : Program) (ops : Array Oper) : Option (Nat × Nat × TypeId) := match ops.toList with
  | [o0, o1, o2, o3] => match o0.op, o1.op, o2.op, o3.op, o0.dst, o3.dst with
    | .alloc t, .store t1 (.tmp a1) (.const (.bool _)), .store t2 (.tmp a2) (.const (.bool _)), .load t3 (.tmp a3), some a, some d =>
      match (t1 == t && t2 == t && t3 == t && (a1 == a && a2 == a && a3 == a) && (a != d) && isOne P t && (P.cellsOf t == 1) && (match zeroRow P t with | some [.bool _] => true | _ => false)) &&
        (o0.guard.isNone && o1.guard.isNone && o2.guard.isNone && o3.guard.isNone && o1.dst.isNone && o2.dst.isNone) && (edgesIn o0 [] && edgesIn o1 [0] && edgesIn o2 [0] && edgesIn o3 [0, 1, 2] && edgeTo o1 0 && edgeTo o2 0 && edgeTo o3 0) with
      | true => some (a, d, t)
      | false => none
    | _, _, _, _, _, _ => none
  | _ => none
/-- No deferred call, no range over a function. -/
def plainC : Code → Bool
  | .region _ ops _ => ops.toList.all fun o => match o.op with | .defer _ => false | _ => true
  | .seq a b => plainC a && plainC b
  | .cond _ a b => plainC a && plainC b
  | .block _ c => plainC c
  | .loop c => plainC c
  | .rangeFunc _ _ _ _ => false
  | _ => true

/-- Such a region, with what hangs on its value. -/
def flagOf (P : Program) (kl : Bool) (vm : List Nat) (N : Nat) : Code → Code → Option (Code × Code)
  | .region _ ops true, .cond (.tmp t) x y => match kl with
    | true => match flagOps P ops with
      | some (a, d, _) => match (t == d) && (!vm.contains a && !vm.contains d) && (Nat.blt a N && Nat.blt d N) && (plainC x && plainC y) with
        | true => some (x, y)
        | false => none
      | none => none
    | false => none
  | _, _ => none
/-- The variables that a piece of code writes. -/
def writesO (l : List DO) : List Nat := l.filterMap fun d => match d.dst with | .var i => some i | _ => none
def writesC : DC → List Nat
  | .reg l => writesO l
  | .seq a b => writesC a ++ writesC b
  | _ => []

/-- Where a piece of code begins with: a pointer behind a variable, a field of what it points to. -/
def flagArgs : DC → Option (Opd × Nat)
  | .reg (⟨_, .load1 p, _⟩ :: ⟨_, .load1 _, _⟩ :: ⟨_, .nilck _, _⟩ :: ⟨_, .fadr off _, _⟩ :: _) => some (p, off)
  | _ => none
def cFlag (n : Nat) (x y : DC) : Option DC := match flagArgs y with
  | some (p, off) => match (writesC x ++ writesC y).all fun i => Nat.blt i n with
    | true => some (.condF x y (writesC x ++ writesC y) p off)
    | false => none
  | none => none

def cCode (P : Program) (bf : Option (Nat × Nat)) (kl : Bool) (vm : List Nat) (N : Nat) : List Nat → Code → Option (DC × List Nat)
  | names, .skip => some (.skip, names)
  | _, .region _ ops draw => match itemsOf P ops draw kl with
    | none => none
    | some l => match cOrd P vm N ops [] l with
      | some (ds, names) => some (.reg ds, names)
      | none => none
  | names, .seq a b => match flagOf P kl vm N a b with
    | some _ => match b with
      | .cond _ x y => match cCode P bf kl vm N [] x, cCode P bf kl vm N [] y with
        | some (x, _), some (y, _) => (cFlag vm.length x y).map fun d => (d, [])
        | _, _ => none
      | _ => none
    | none => match cCode P bf kl vm N names a with
      | none => none
      | some (x, names) => match cCode P bf kl vm N names b with
        | none => none
        | some (y, names) => some (.seq x y, names)
  | names, .cond c a b => match cOpd vm names c, cCode P bf kl vm N names a, cCode P bf kl vm N names b with
    | some c, some (x, _), some (y, _) => some (.cond c x y, [])
    | _, _, _ => none
  | names, .block id c => match cCode P bf kl vm N names c with
    | some (x, _) => some (.block id x, [])
    | none => none
  | _, .loop c => match cCode P bf kl vm N [] c with
    | some (x, _) => some (.loop x, [])
    | none => none
  | _, .exit id => some (.exit id, [])
  | names, .label _ => some (.skip, names)
  | _, .ret => some (.ret, [])
  | _, .goto _ => some (.die, [])
  | names, .rangeFunc x _ _ _ => match bf, cOpd vm names x with
    | some (b, g), some x => some (.rngF x b vm.length g, [])
    | _, _ => none
  | _, _ => none

def cRes (P : Program) (vm : List Nat) : List ResultVar → Option (List DR)
  | [] => some []
  | r :: l => match (match r with
      | .tmp t => (cOpd vm [] (.tmp t)).map .opd
      | .cell a t => if isMany P t then (cOpd vm [] (.tmp a)).map (.cellN (P.cellsOf t)) else if isOne P t then (cOpd vm [] (.tmp a)).map .cell1 else none), cRes P vm l with
    | some x, some xs => some (x :: xs)
    | _, _ => none

/-- A function; 'hid': it has deferred calls. -/
def cFunc (P : Program) (bf : Option (Nat × Nat)) (hid kl : Bool) (vm : List Nat) (fn : Func) : Option DF :=
  match fn.body with
  | none => none
  | some c => match cCode P bf kl vm fn.ntmps [] c, cRes P vm fn.results.toList with
    | some (x, _), some rs => some ⟨vm.map some ++ (if hid then [none] else []), x, rs, vm.length, none⟩
    | _, _ => none
def idxOf (t : Nat) : List Nat → Nat → Option Nat
  | [], _ => none
  | u :: l, i => if u == t then some i else idxOf t l (i + 1)
/-- The body of a range over a function: its parameters come first, then what the frame held. -/
def cBody (P : Program) (vm : List Nat) (N : Nat) (ps : List Nat) (asg body : Code) : Option DF :=
  match cCode P none false vm N [] (.seq asg body) with
  | some (x, _) => some ⟨initB ps ps.length vm 0, x, [], vm.length, some ps.length⟩
  | none => none
where
  initB (ps : List Nat) (k : Nat) : List Nat → Nat → List (Option Nat)
    | [], _ => []
    | t :: l, i => (match idxOf t ps 0 with | some j => some (j + 1) | none => some (1 + k + i)) :: initB ps k l (i + 1)
end Dt
