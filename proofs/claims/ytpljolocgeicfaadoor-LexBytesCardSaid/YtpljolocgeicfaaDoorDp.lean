/- A part of the abstract machine and of the proof that the program does what it reckons; no conditions. -/
import Derived.Test.YtpljolocgeicfaaDoorDo
namespace Dt
open Go Go.RowKit
/-! ### Reasoning: the machine's steps as equations, one at a time (answers are propositions) -/
section run
variable {call : Nat → List AVal → Heap → (AVal → Heap → Prop) → Prop} {vs ts : List AVal} {H : Heap}

/-- What goes on behind an operation, a region, a part of code; closed till what it waits for is there. -/
def kOp (call : Nat → List AVal → Heap → (AVal → Heap → Prop) → Prop) (dst : Dst) (l : List DO) (vs ts : List AVal) (K : List AVal → List AVal → Heap → Prop) (v : AVal) (H : Heap) : Prop :=
  sink dst vs ts v fun vs ts => evOps AP call l vs ts H K
def kReg (K : DX → List AVal → List AVal → Heap → Prop) (vs ts : List AVal) (H : Heap) : Prop := K .normal vs ts H
def kSeq (call : Nat → List AVal → Heap → (AVal → Heap → Prop) → Prop) (b : DC) (K : DX → List AVal → List AVal → Heap → Prop) (x : DX) (vs ts : List AVal) (H : Heap) : Prop := match x with
  | .normal => evC AP call b vs ts H K
  | x => K x vs ts H
def kBlk (id : Nat) (K : DX → List AVal → List AVal → Heap → Prop) (x : DX) (vs ts : List AVal) (H : Heap) : Prop := match x with
  | .exit j => match Nat.beq j id with
    | true => K .normal vs ts H
    | false => K x vs ts H
  | x => K x vs ts H
def give (K : AVal → Heap → Prop) (H : Heap) : List AVal → Prop
  | [v] => K v H
  | l => K (.tup l) H
def kEnd (res : List DR) (K : AVal → Heap → Prop) (x : DX) (vs _ts : List AVal) (H : Heap) : Prop := match x with
  | .exit _ => False
  | _ => match evR vs H res with
    | none => False
    | some l => give K H l
def loopOf (call : Nat → List AVal → Heap → (AVal → Heap → Prop) → Prop) (c : DC) (n : Nat) (vs : List AVal) (H : Heap) (K : DX → List AVal → List AVal → Heap → Prop) : Prop := rounds AP (fun vs H K => evC AP call c vs [] H K) n vs H K
/-- What goes on behind what must be there. -/
def optK (o : Option AVal) (kv : AVal → Heap → Prop) (H : Heap) : Prop := match o with
  | some v => kv v H
  | none => False
theorem r_opt {v : AVal} {kv : AVal → Heap → Prop} {H : Heap} : optK (some v) kv H = kv v H := (rfl)

def kLoop (call : Nat → List AVal → Heap → (AVal → Heap → Prop) → Prop) (c : DC) (n : Nat) (K : DX → List AVal → List AVal → Heap → Prop) (x : DX) (vs ts : List AVal) (H : Heap) : Prop := match x with
  | .normal => loopOf call c n vs H K
  | x => K x vs ts H

/-! The values, each by itself. -/
def pickK (c a b : AVal) (kv : AVal → Heap → Prop) (H : Heap) : Prop := match c with
  | .bool true => kv a H
  | .bool false => kv b H
  | _ => False
theorem r_pick_t {a b : AVal} {kv : AVal → Heap → Prop} {H : Heap} : pickK (.bool true) a b kv H = kv a H := (rfl)
theorem r_pick_f {a b : AVal} {kv : AVal → Heap → Prop} {H : Heap} : pickK (.bool false) a b kv H = kv b H := (rfl)
def boxK (n : Nat) (o : Option (List AVal)) (kv : AVal → Heap → Prop) (H : Heap) : Prop := match o with
  | none => False
  | some cs => match Nat.beq (llen cs) n with
    | true => kv (.ptr H.next 0 0) (H.add (.rows n [cs]))
    | false => False
theorem r_boxK {n : Nat} {cs : List AVal} {kv : AVal → Heap → Prop} {H : Heap} (h : llen cs = n) : boxK n (some cs) kv H = kv (.ptr H.next 0 0) (H.add (.rows n [cs])) := by
  simp only [boxK]
  rw [show Nat.beq (llen cs) n = true from by rw [Nat.beq_eq]; exact h]
def aggK (o : Option (List AVal)) (kv : AVal → Heap → Prop) (H : Heap) : Prop := match o with
  | some l => kv (.agg l) H
  | none => False
theorem r_aggK {l : List AVal} {kv : AVal → Heap → Prop} {H : Heap} : aggK (some l) kv H = kv (.agg l) H := (rfl)
def rowsK (z : Nat) (o : Option (List (List AVal))) (kv : AVal → Heap → Prop) (H : Heap) : Prop := match o with
  | some l => kv (.slc H.next 0 (rlen l) (some (rlen l)) z) (H.add (.rows z l))
  | none => False
theorem r_rowsK {z : Nat} {l : List (List AVal)} {kv : AVal → Heap → Prop} {H : Heap} : rowsK z (some l) kv H = kv (.slc H.next 0 (rlen l) (some (rlen l)) z) (H.add (.rows z l)) := (rfl)
def rdC1 (B : Blk) (r c : Nat) : Option AVal := match B with
  | .rows _ l => match rget l r with
    | some row => match cut row c 1 with
      | some (v :: _) => some v
      | _ => none
    | none => none
  | _ => none
def rdG1 (gl : List (List AVal)) (g c : Nat) : Option AVal := match gcut gl g c 1 with
  | some (v :: _) => some v
  | _ => none
def rdGN (gl : List (List AVal)) (g c n : Nat) : Option AVal := match gcut gl g c n with
  | some cs => some (.agg cs)
  | _ => none
def rd1 (H : Heap) (x : AVal) : Option AVal := match x with
  | .ptr b r c => rdC1 (H.get b) r c
  | .gp g c => rdG1 H.gl g c
  | _ => none
def rdCN (n : Nat) (B : Blk) (r c : Nat) : Option AVal := match B with
  | .rows _ l => match rget l r with
    | some row => match cut row c n with
      | some cs => some (.agg cs)
      | none => none
    | none => none
  | _ => none
def rdN (n : Nat) (H : Heap) (x : AVal) : Option AVal := match x with
  | .ptr b r c => rdCN n (H.get b) r c
  | .gp g c => rdGN H.gl g c n
  | _ => none
def wrC (n : Nat) (B : Blk) (r c : Nat) (cs : List AVal) : Option Blk := match B with
  | .rows z l => match rget l r with
    | some row => match Nat.beq (llen cs) n && Nat.ble (c + n) (llen row) with
      | true => some (.rows z (rset l r (splice row c cs)))
      | false => none
    | none => none
  | _ => none
def wrV (n : Nat) (H : Heap) (x : AVal) (o : Option (List AVal)) : Option Heap := match x with
  | .ptr b r c => match o with
    | some cs => match wrC n (H.get b) r c cs with
      | some B => some (H.put b B)
      | none => none
    | none => none
  | _ => none
def putK (o : Option Heap) (kv : AVal → Heap → Prop) : Prop := match o with
  | some H => kv (.tup []) H
  | none => False
theorem r_putK {H : Heap} {kv : AVal → Heap → Prop} : putK (some H) kv = kv (.tup []) H := (rfl)
def ckV (x : AVal) : Option AVal := match x with
  | .ptr b r c => some (.ptr b r c)
  | .fn f a b => some (.fn f a b)
  | .gp g c => some (.gp g c)
  | _ => none
def eqV (neg : Bool) (ks : List Nat) (x y : AVal) : Option AVal := match x, y with
  | .agg l, .agg m => match eqCells ks l m with
    | some b => some (.bool (b != neg))
    | none => none
  | _, _ => none
def notV (x : AVal) : Option AVal := match x with
  | .bool b => some (.bool !b)
  | _ => none
def convV (k : IntKind) (x : AVal) : Option AVal := match x with
  | .int _ n => some (.int k (k.wrap n))
  | _ => none
def fadrV (o : Nat) (x : AVal) : Option AVal := match x with
  | .ptr b r c => some (.ptr b r (c + o))
  | .gp g c => some (.gp g (c + o))
  | _ => none
def fldV (o : Nat) (x : AVal) : Option AVal := match x with
  | .agg l => match cut l o 1 with
    | some (v :: _) => some v
    | _ => none
  | _ => none
def fldsV (o n : Nat) (x : AVal) : Option AVal := match x with
  | .agg l => match cut l o n with
    | some cs => some (.agg cs)
    | none => none
  | _ => none
def idxV (z : Nat) (x i : AVal) : Option AVal := match x, i with
  | .slc b r len _ z', .int _ (.ofNat n) => match Nat.blt n len && Nat.beq z' z with
    | true => some (.ptr b (r + n) 0)
    | false => none
  | _, _ => none
theorem r_idx {z b r len n : Nat} {cap : Option Nat} {k : IntKind} (h : n < len) : idxV z (.slc b r len cap z) (.int k (.ofNat n)) = some (.ptr b (r + n) 0) := by
  have h1 : Nat.blt n len = true := by unfold Nat.blt; exact Nat.ble_eq_true_of_le h
  have h2 : Nat.beq z z = true := by rw [Nat.beq_eq]
  simp only [idxV, h1, h2, Bool.and_self]
def idaV (len z : Nat) (x i : AVal) : Option AVal := match x, i with
  | .ptr b r c, .int _ (.ofNat n) => match Nat.blt n len with
    | true => some (.ptr b r (c + n * z))
    | false => none
  | .gp g c, .int _ (.ofNat n) => match Nat.blt n len with
    | true => some (.gp g (c + n * z))
    | false => none
  | _, _ => none
def chrV (x i : AVal) : Option AVal := match x, i with
  | .str n c, .int _ (.ofNat j) => match Nat.blt j n with
    | true => some (.int .u8 (.ofNat (sget c j)))
    | false => none
  | _, _ => none
theorem r_chr {n c j : Nat} {k : IntKind} (h : j < n) : chrV (.str n c) (.int k (.ofNat j)) = some (.int .u8 (.ofNat (sget c j))) := by
  have h1 : Nat.blt j n = true := by unfold Nat.blt; exact Nat.ble_eq_true_of_le h
  simp only [chrV, h1]
def lenV (str : Bool) (x : AVal) : Option AVal := match x with
  | .str n _ => match str with | true => some (.int .i64 (.ofNat n)) | false => none
  | .slc _ _ n _ _ => match str with | true => none | false => some (.int .i64 (.ofNat n))
  | .nils => match str with | true => none | false => some (.int .i64 (.ofNat 0))
  | _ => none
def subV (vs ts : List AVal) (x : AVal) (lo hi : Option Opd) : Option AVal := match x with
  | .str n c => match bounds vs ts n n lo hi with
    | some (l, h) => some (.str (h - l) (scut c l h))
    | none => none
  | _ => none
def callK (call : Nat → List AVal → Heap → (AVal → Heap → Prop) → Prop) (x : AVal) (args : List AVal) (H : Heap) (kv : AVal → Heap → Prop) : Prop := match x with
  | .fn f a b => call f (a ++ (args ++ b)) H kv
  | _ => False
def extV (x : AVal) (i : Nat) : Option AVal := match x with
  | .tup l => match Nat.blt i (llen l) with
    | true => some (lget l i)
    | false => none
  | _ => none

variable {K : DX → List AVal → List AVal → Heap → Prop} {k : List AVal → List AVal → Heap → Prop} {kv : AVal → Heap → Prop}

theorem r_fun {T : Prog} {n f : Nat} {F : DF} {args : List AVal} (hF : T.funs f = some F) (hk : T.known H.gl f args = none := by rfl) : evF AP T (n + 1) f args H kv = evC AP (evF AP T n) F.code (initV args F.init) [] H (kEnd F.res kv) := by
  simp only [evF, hk, hF, fL_eq, fV_eq]
  congr 1
theorem r_known {T : Prog} {n f : Nat} {args : List AVal} {x : AVal} (hk : T.known H.gl f args = some (.val x)) : evF AP T (n + 1) f args H kv = kv x H := by
  simp only [evF, hk]
theorem r_knownM {T : Prog} {n f : Nat} {args : List AVal} {l : List (AVal × AVal)} (hk : T.known H.gl f args = some (.map l)) : evF AP T (n + 1) f args H kv = kv (.mp H.next) (H.add (.obj (.map l))) := by
  simp only [evF, hk, hAdd_eq]
theorem r_seq {a b : DC} : evC AP call (.seq a b) vs ts H K = evC AP call a vs ts H (kSeq call b K) := by
  simp only [evC]
  congr 1
theorem r_skip : evC AP call .skip vs ts H K = K .normal vs ts H := (rfl)
theorem r_reg {ops : List DO} : evC AP call (.reg ops) vs ts H K = evOps AP call ops vs [] H (kReg K) := (rfl)
theorem r_cond_t {c : Opd} {a b : DC} (h : c.get vs ts = .bool true) : evC AP call (.cond c a b) vs ts H K = evC AP call a vs ts H K := by simp only [evC, h]
theorem r_cond_f {c : Opd} {a b : DC} (h : c.get vs ts = .bool false) : evC AP call (.cond c a b) vs ts H K = evC AP call b vs ts H K := by simp only [evC, h]
theorem r_block {id : Nat} {c : DC} : evC AP call (.block id c) vs ts H K = evC AP call c vs ts H (kBlk id K) := by
  simp only [evC]
  congr 1
theorem r_exit {id : Nat} : evC AP call (.exit id) vs ts H K = K (.exit id) vs ts H := (rfl)
theorem r_ret : evC AP call .ret vs ts H K = K .ret vs ts H := (rfl)
theorem r_loop {c : DC} : evC AP call (.loop c) vs ts H K = loopOf call c manyRounds vs H K := (rfl)
theorem r_round {c : DC} {n : Nat} : loopOf call c (n + 1) vs H K = evC AP call c vs [] H (kLoop call c n K) := by
  simp only [loopOf, rounds]
  congr 1
theorem r_kSeq_n {b : DC} : kSeq call b K .normal vs ts H = evC AP call b vs ts H K := (rfl)
theorem r_kSeq_e {b : DC} {i : Nat} : kSeq call b K (.exit i) vs ts H = K (.exit i) vs ts H := (rfl)
theorem r_kSeq_r {b : DC} : kSeq call b K .ret vs ts H = K .ret vs ts H := (rfl)
theorem r_kBlk_n {i : Nat} : kBlk i K .normal vs ts H = K .normal vs ts H := (rfl)
theorem r_kBlk_r {i : Nat} : kBlk i K .ret vs ts H = K .ret vs ts H := (rfl)
theorem r_kBlk_e {i : Nat} : kBlk i K (.exit i) vs ts H = K .normal vs ts H := by
  simp only [kBlk]
  rw [show Nat.beq i i = true from by rw [Nat.beq_eq]]
theorem r_kBlk_o {i j : Nat} (h : Nat.beq j i = false) : kBlk i K (.exit j) vs ts H = K (.exit j) vs ts H := by simp only [kBlk, h]
theorem r_kLoop_n {c : DC} {n : Nat} : kLoop call c n K .normal vs ts H = loopOf call c n vs H K := (rfl)
theorem r_kLoop_e {c : DC} {n i : Nat} : kLoop call c n K (.exit i) vs ts H = K (.exit i) vs ts H := (rfl)
theorem r_kLoop_r {c : DC} {n : Nat} : kLoop call c n K .ret vs ts H = K .ret vs ts H := (rfl)
theorem r_kReg : kReg K vs ts H = K .normal vs ts H := (rfl)
def giveO (o : Option (List AVal)) (kv : AVal → Heap → Prop) (H : Heap) : Prop := match o with
  | some l => give kv H l
  | none => False
theorem r_giveO {l : List AVal} : giveO (some l) kv H = give kv H l := (rfl)
theorem r_kEnd_n {res : List DR} : kEnd res kv .normal vs ts H = giveO (evR vs H res) kv H := by
  simp only [kEnd]
  cases evR vs H res <;> rfl
theorem r_kEnd_r {res : List DR} : kEnd res kv .ret vs ts H = giveO (evR vs H res) kv H := by
  simp only [kEnd]
  cases evR vs H res <;> rfl
def consO (o : Option AVal) (l : Option (List AVal)) : Option (List AVal) := match o, l with
  | some v, some l => some (v :: l)
  | _, _ => none
theorem r_consO {v : AVal} {l : List AVal} : consO (some v) (some l) = some (v :: l) := (rfl)
theorem r_evR_0 : evR vs H [] = some [] := (rfl)
theorem r_evR_o {x : Opd} {l : List DR} : evR vs H (.opd x :: l) = consO (some (x.get vs [])) (evR vs H l) := by
  simp only [evR]
  cases evR vs H l <;> rfl
def rdR1 (H : Heap) (x : AVal) : Option AVal := match x with
  | .ptr b r c => rdC1 (H.get b) r c
  | _ => none
def rdRN (n : Nat) (H : Heap) (x : AVal) : Option AVal := match x with
  | .ptr b r c => rdCN n (H.get b) r c
  | _ => none
theorem r_evR_1 {x : Opd} {l : List DR} : evR vs H (.cell1 x :: l) = consO (rdR1 H (x.get vs [])) (evR vs H l) := by
  simp only [evR, rdR1, rdC1]
  generalize x.get vs [] = X
  cases X with
  | ptr b r c =>
    simp only
    cases H.get b with
    | dead => rfl
    | obj o => rfl
    | ro l => rfl
    | rows z q =>
      simp only
      cases rget q r with
      | none => rfl
      | some row =>
        simp only
        rcases cut row c 1 with _ | q
        · rfl
        · rcases q with _ | ⟨q, q'⟩
          · rfl
          · cases evR vs H l <;> rfl
  | _ => rfl
theorem r_evR_N {x : Opd} {n : Nat} {l : List DR} : evR vs H (.cellN n x :: l) = consO (rdRN n H (x.get vs [])) (evR vs H l) := by
  simp only [evR, rdRN, rdCN]
  generalize x.get vs [] = X
  cases X with
  | ptr b r c =>
    simp only
    cases H.get b with
    | dead => rfl
    | obj o => rfl
    | ro l => rfl
    | rows z q =>
      simp only
      cases rget q r with
      | none => rfl
      | some row =>
        simp only
        rcases cut row c n with _ | q
        · rfl
        · cases evR vs H l <;> rfl
  | _ => rfl

theorem r_give_0 : give kv H [] = kv (.tup []) H := (rfl)
theorem r_give_1 {v : AVal} : give kv H [v] = kv v H := (rfl)
theorem r_give_2 {u v : AVal} {l : List AVal} : give kv H (u :: v :: l) = kv (.tup (u :: v :: l)) H := (rfl)

theorem r_ops_nil : evOps AP call [] vs ts H k = k vs ts H := (rfl)
theorem r_op {dst : Dst} {op : DI} {l : List DO} : evOps AP call (⟨dst, op, none⟩ :: l) vs ts H k = evI AP call op vs ts H (kOp call dst l vs ts k) := (rfl)
theorem r_op_y {dst : Dst} {op : DI} {l : List DO} {g : Opd} {b : Bool} (h : g.get vs ts = .bool b) : evOps AP call (⟨dst, op, some (g, b)⟩ :: l) vs ts H k = evI AP call op vs ts H (kOp call dst l vs ts k) :=
  evOps_yes (by simp [gsays, h])
theorem r_op_n {dst : Dst} {op : DI} {l : List DO} {g : Opd} {b : Bool} (h : g.get vs ts = .bool (!b)) : evOps AP call (⟨dst, op, some (g, b)⟩ :: l) vs ts H k = kOp call dst l vs ts k (.tup []) H :=
  evOps_no (by simp [gsays, h])
theorem r_op_u {dst : Dst} {op : DI} {l : List DO} {g : Opd} {b : Bool} (h : g.get vs ts = .tup []) : evOps AP call (⟨dst, op, some (g, b)⟩ :: l) vs ts H k = kOp call dst l vs ts k (.tup []) H :=
  evOps_no (by simp [gsays, h])
theorem r_kOp_t {l : List DO} {v : AVal} : kOp call .tmp l vs ts k v H = evOps AP call l vs (v :: ts) H k := (rfl)
theorem r_kOp_v {l : List DO} {v : AVal} {i : Nat} : kOp call (.var i) l vs ts k v H = evOps AP call l (lset vs i v) ts H k := by simp only [kOp, sink, fL_eq]
theorem r_kOp_o {l : List DO} {v : AVal} : kOp call .no l vs ts k v H = evOps AP call l vs ts H k := (rfl)

theorem r_get_v {i : Nat} : Opd.get vs ts (.v i) = lget vs i := (rfl)
theorem r_get_t {i : Nat} : Opd.get vs ts (.t i) = lget ts i := (rfl)
theorem r_get_c {x : AVal} : Opd.get vs ts (.c x) = x := (rfl)
theorem r_lget_0 {x : AVal} {l : List AVal} : lget (x :: l) 0 = x := (rfl)
theorem r_lget_s {x : AVal} {l : List AVal} {i : Nat} : lget (x :: l) (i + 1) = lget l i := (rfl)
theorem r_lset_0 {x v : AVal} {l : List AVal} : lset (x :: l) 0 v = v :: l := (rfl)
theorem r_lset_s {x v : AVal} {l : List AVal} {i : Nat} : lset (x :: l) (i + 1) v = x :: lset l i v := (rfl)

theorem r_move {x : Opd} : evI AP call (.move x) vs ts H kv = kv (x.get vs ts) H := (rfl)
theorem r_pick {c a b : Opd} : evI AP call (.pick c a b) vs ts H kv = pickK (c.get vs ts) (a.get vs ts) (b.get vs ts) kv H := by
  simp only [evI]
  cases c.get vs ts with
  | bool t => cases t <;> rfl
  | _ => rfl
theorem r_alloc {row : List AVal} : evI AP call (.alloc row) vs ts H kv = kv (.ptr H.next 0 0) (H.add (.rows (llen row) [row])) := by simp only [evI, hAdd_eq]
theorem r_box {n : Nat} {x : Opd} : evI AP call (.box n x) vs ts H kv = boxK n (x.get vs ts).cells kv H := by
  simp only [evI, boxK, hAdd_eq]
  rfl
theorem r_build {z : List AVal} {ps : List (Nat × Nat × Opd)} : evI AP call (.build z ps) vs ts H kv = aggK (fillP vs ts z ps) kv H := by
  simp only [evI, fL_eq]
  rfl
theorem r_buildS {z : Nat} {rows : List (List AVal)} {ps : List (Nat × Opd)} : evI AP call (.buildS z rows ps) vs ts H kv = rowsK z (fillR vs ts z rows ps) kv H := by
  simp only [evI, fL_eq, hAdd_eq, fN_eq]
  rfl
theorem r_load1 {x : Opd} : evI AP call (.load1 x) vs ts H kv = optK (rd1 H (x.get vs ts)) kv H := by
  simp only [evI, rd1, rdC1]
  generalize x.get vs ts = X
  cases X with
  | ptr b r c =>
    simp only
    cases H.get b with
    | dead => rfl
    | obj o => rfl
    | ro l => rfl
    | rows z l =>
      simp only
      cases rget l r with
      | none => rfl
      | some row =>
        simp only
        rcases cut row c 1 with _ | q
        · rfl
        · rcases q with _ | ⟨q, q'⟩ <;> rfl
  | gp g c =>
    simp only [rdG1]
    rcases gcut H.gl g c 1 with _ | q
    · rfl
    · rcases q with _ | ⟨q, q'⟩ <;> rfl
  | _ => rfl
theorem r_loadN {x : Opd} {n : Nat} : evI AP call (.loadN n x) vs ts H kv = optK (rdN n H (x.get vs ts)) kv H := by
  simp only [evI, rdN, rdCN, fL_eq]
  generalize x.get vs ts = X
  cases X with
  | ptr b r c =>
    simp only
    cases H.get b with
    | dead => rfl
    | obj o => rfl
    | ro l => rfl
    | rows z l =>
      simp only
      cases rget l r with
      | none => rfl
      | some row =>
        simp only
        cases cut row c n <;> rfl
  | gp g c =>
    simp only [rdGN]
    cases gcut H.gl g c n <;> rfl
  | _ => rfl
theorem r_store {x v : Opd} {n : Nat} : evI AP call (.store n x v) vs ts H kv = putK (wrV n H (x.get vs ts) (v.get vs ts).cells) kv := by
  simp only [evI, wrV, wrC, fL_eq, hPut_eq]
  generalize x.get vs ts = X
  generalize (v.get vs ts).cells = V
  cases X with
  | ptr b r c =>
    cases V with
    | none => rfl
    | some cs =>
      simp only
      cases H.get b with
      | dead => rfl
      | obj o => rfl
      | ro l => rfl
      | rows z l =>
        simp only
        cases rget l r with
        | none => rfl
        | some row =>
          simp only
          cases (Nat.beq (llen cs) n && Nat.ble (c + n) (llen row)) <;> rfl
  | _ => rfl
theorem r_nilck {x : Opd} : evI AP call (.nilck x) vs ts H kv = optK (ckV (x.get vs ts)) kv H := by
  simp only [evI]
  cases x.get vs ts <;> rfl
theorem r_bin {op : BinOp} {x y : Opd} : evI AP call (.bin op x y) vs ts H kv = optK (binV op (x.get vs ts) (y.get vs ts)) kv H := by
  simp only [evI, fV_eq]
  cases binV op (x.get vs ts) (y.get vs ts) <;> rfl
theorem r_binB {op : BinOp} {x y : Opd} : evI AP call (.binB op x y) vs ts H kv = optK (binB op (x.get vs ts) (y.get vs ts)) kv H := by
  simp only [evI, fV_eq]
  cases binB op (x.get vs ts) (y.get vs ts) <;> rfl
theorem r_binP {op : BinOp} {x y : Opd} : evI AP call (.binP op x y) vs ts H kv = optK (binP op (x.get vs ts) (y.get vs ts)) kv H := by
  simp only [evI, fV_eq]
  cases binP op (x.get vs ts) (y.get vs ts) <;> rfl
theorem r_eqAgg {neg : Bool} {ks : List Nat} {x y : Opd} : evI AP call (.eqAgg neg ks x y) vs ts H kv = optK (eqV neg ks (x.get vs ts) (y.get vs ts)) kv H := by
  simp only [evI, fB_eq, eqV]
  cases x.get vs ts <;> try rfl
  cases y.get vs ts <;> try rfl
  simp only
  rename_i l m
  cases eqCells ks l m <;> rfl
theorem r_not {x : Opd} : evI AP call (.not x) vs ts H kv = optK (notV (x.get vs ts)) kv H := by
  simp only [evI]
  cases x.get vs ts with
  | bool b => cases b <;> rfl
  | _ => rfl
theorem r_conv {k : IntKind} {x : Opd} : evI AP call (.conv k x) vs ts H kv = optK (convV k (x.get vs ts)) kv H := by
  simp only [evI, fI_eq, wrapI_eq]
  cases x.get vs ts <;> rfl
theorem r_fadr {o : Nat} {x : Opd} : evI AP call (.fadr o x) vs ts H kv = optK (fadrV o (x.get vs ts)) kv H := by
  simp only [evI, fN_eq]
  cases x.get vs ts <;> rfl
theorem r_fld1 {o : Nat} {x : Opd} : evI AP call (.fld1 o x) vs ts H kv = optK (fldV o (x.get vs ts)) kv H := by
  simp only [evI]
  cases x.get vs ts <;> try rfl
  simp only [fldV]
  rename_i l
  rcases cut l o 1 with _ | q
  · rfl
  · rcases q with _ | ⟨q, q'⟩ <;> rfl
theorem r_fldN {o n : Nat} {x : Opd} : evI AP call (.fldN o n x) vs ts H kv = optK (fldsV o n (x.get vs ts)) kv H := by
  simp only [evI, fL_eq]
  cases x.get vs ts <;> try rfl
  simp only [fldsV]
  rename_i l
  cases cut l o n <;> rfl
theorem r_idxS {z : Nat} {x i : Opd} : evI AP call (.idxS z x i) vs ts H kv = optK (idxV z (x.get vs ts) (i.get vs ts)) kv H := by
  simp only [evI, fN_eq, idxV]
  cases x.get vs ts <;> try rfl
  cases i.get vs ts <;> try rfl
  rename_i b r len cap z' kk n
  cases n with
  | negSucc n => rfl
  | ofNat n =>
    simp only
    cases Nat.blt n len && Nat.beq z' z <;> rfl
theorem r_idxA {len z : Nat} {x i : Opd} : evI AP call (.idxA len z x i) vs ts H kv = optK (idaV len z (x.get vs ts) (i.get vs ts)) kv H := by
  simp only [evI, fN_eq, idaV]
  generalize i.get vs ts = I
  cases x.get vs ts with
  | ptr b r c =>
    cases I <;> try rfl
    rename_i kk n
    cases n with
    | negSucc n => rfl
    | ofNat n =>
      simp only
      cases Nat.blt n len <;> rfl
  | gp g c =>
    cases I <;> try rfl
    rename_i kk n
    cases n with
    | negSucc n => rfl
    | ofNat n =>
      simp only
      cases Nat.blt n len <;> rfl
  | _ => rfl
theorem r_idxStr {x i : Opd} : evI AP call (.idxStr x i) vs ts H kv = optK (chrV (x.get vs ts) (i.get vs ts)) kv H := by
  simp only [evI, fN_eq, chrV]
  cases x.get vs ts <;> try rfl
  cases i.get vs ts <;> try rfl
  rename_i n c kk j
  cases j with
  | negSucc j => rfl
  | ofNat j =>
    simp only
    cases Nat.blt j n <;> rfl
theorem r_len {str : Bool} {x : Opd} : evI AP call (.len str x) vs ts H kv = optK (lenV str (x.get vs ts)) kv H := by
  simp only [evI, lenV]
  cases x.get vs ts <;> cases str <;> rfl
theorem r_append {z n : Nat} {x y : Opd} : evI AP call (.append z n x y) vs ts H kv = doAppend AP z n (x.get vs ts) (y.get vs ts) H kv := (rfl)
theorem r_slcStr {x : Opd} {lo hi : Option Opd} : evI AP call (.slcStr x lo hi) vs ts H kv = optK (subV vs ts (x.get vs ts) lo hi) kv H := by
  simp only [evI, fN_eq, subV]
  cases x.get vs ts <;> try rfl
  simp only
  rename_i n c
  cases bounds vs ts n n lo hi <;> rfl
theorem r_call {f : Nat} {args : List Opd} : evI AP call (.call f args) vs ts H kv = call f (opds vs ts args) H kv := by simp only [evI, fL_eq]
theorem r_callv {x : Opd} {args : List Opd} : evI AP call (.callv x args) vs ts H kv = callK call (x.get vs ts) (opds vs ts args) H kv := by
  simp only [evI, fL_eq, callK]
  cases x.get vs ts <;> rfl
theorem r_ext {x : Opd} {i : Nat} : evI AP call (.ext x i) vs ts H kv = optK (extV (x.get vs ts) i) kv H := by
  simp only [evI, extV]
  cases x.get vs ts <;> try rfl
  simp only
  rename_i l
  cases Nat.blt i (llen l) <;> rfl
theorem r_mkfn {f : Nat} {a b : List Opd} : evI AP call (.mkfn f a b) vs ts H kv = kv (.fn f (opds vs ts a) (opds vs ts b)) H := by simp only [evI, fL_eq]

theorem r_un1 {neg : Bool} {x : Opd} : evI AP call (.un1 neg x) vs ts H kv = optK (un1V neg (x.get vs ts)) kv H := by
  simp only [evI, fV_eq]
  cases un1V neg (x.get vs ts) <;> rfl
def bsV (z : Option (List (List AVal))) : Option AVal := match z with
  | none => none
  | some rows => match bcode rows with
    | none => none
    | some c => some (.str (rlen rows) c)
theorem r_convBS {x : Opd} : evI AP call (.convBS x) vs ts H kv = optK (bsV (rowsOf H 1 (x.get vs ts))) kv H := by
  simp only [evI, fN_eq]
  cases rowsOf H 1 (x.get vs ts) with
  | none => rfl
  | some rows =>
    simp only [bsV]
    cases bcode rows <;> rfl
def isV (x : AVal) : Option AVal := match x with
  | .int _ r => some (.str (encN r).1 (encN r).2)
  | _ => none
theorem r_convIS {x : Opd} : evI AP call (.convIS x) vs ts H kv = optK (isV (x.get vs ts)) kv H := by
  simp only [evI, fN_eq]
  cases x.get vs ts <;> rfl
def rngK (x : AVal) (kv : AVal → Heap → Prop) (H : Heap) : Prop := match x with
  | .str n c => kv (.ptr H.next 0 0) (H.add (.obj (.siter n c 0)))
  | _ => False
theorem r_rngS {x : Opd} : evI AP call (.rngS x) vs ts H kv = rngK (x.get vs ts) kv H := by
  simp only [evI, hAdd_eq]
  cases x.get vs ts <;> rfl
def nxtO (b : Nat) (B : Blk) (kv : AVal → Heap → Prop) (H : Heap) : Prop := match B with
  | .obj (.siter n c pos) => match Nat.blt pos n with
    | false => kv (.tup [.bool false]) H
    | true => kv (.tup [.bool true, .int .i64 (.ofNat pos), .int .i32 (.ofNat (decN n c pos).1)]) (H.put b (.obj (.siter n c (pos + (decN n c pos).2))))
  | _ => False
def nxtK (x : AVal) (kv : AVal → Heap → Prop) (H : Heap) : Prop := match x with
  | .ptr b 0 0 => nxtO b (H.get b) kv H
  | _ => False
theorem r_nxtS {x : Opd} : evI AP call (.nxtS x) vs ts H kv = nxtK (x.get vs ts) kv H := by
  simp only [evI, hPut_eq, fN_eq]
  cases x.get vs ts <;> rfl
theorem nxt_end {b n c pos : Nat} {kv : AVal → Heap → Prop} (h : n ≤ pos) : nxtO b (.obj (.siter n c pos)) kv H = kv (.tup [.bool false]) H := by
  have : Nat.blt pos n = false := by
    cases hb : Nat.blt pos n with
    | false => rfl
    | true => unfold Nat.blt at hb; have := Nat.le_of_ble_eq_true hb; omega
  simp only [nxtO, this]
theorem nxt_go {b n c pos : Nat} {kv : AVal → Heap → Prop} (h : pos < n) : nxtO b (.obj (.siter n c pos)) kv H = kv (.tup [.bool true, .int .i64 (.ofNat pos), .int .i32 (.ofNat (decN n c pos).1)]) (H.put b (.obj (.siter n c (pos + (decN n c pos).2)))) := by
  have : Nat.blt pos n = true := by unfold Nat.blt; exact Nat.ble_eq_true_of_le h
  simp only [nxtO, this]
theorem r_nxtP {b : Nat} {kv : AVal → Heap → Prop} : nxtK (.ptr b 0 0) kv H = nxtO b (H.get b) kv H := (rfl)
theorem r_rngP {n c : Nat} {kv : AVal → Heap → Prop} : rngK (.str n c) kv H = kv (.ptr H.next 0 0) (H.add (.obj (.siter n c 0))) := (rfl)
theorem r_isP {k : IntKind} {r : Int} : isV (.int k r) = some (.str (encN r).1 (encN r).2) := (rfl)
theorem r_mkmap : evI AP call .mkmap vs ts H kv = kv (.mp H.next) (H.add (.obj (.map []))) := by simp only [evI, hAdd_eq]
/-- What a map holds for a key; the zero if it does not. -/
def lkV (zero : AVal) (kk : Nat) (l : Option (List (AVal × AVal))) (k : AVal) : Option AVal := match l with
  | none => none
  | some l => match mfind kk k l 0 with
    | none => none
    | some (some e) => some e.2
    | some none => some zero
theorem r_lkp {zero : AVal} {kk : Nat} {x k : Opd} : evI AP call (.lkp zero kk false x k) vs ts H kv = optK (lkV zero kk (mapOf H (x.get vs ts)) (k.get vs ts)) kv H := by
  simp only [evI]
  cases mapOf H (x.get vs ts) with
  | none => rfl
  | some l =>
    simp only [lkV]
    rcases mfind kk (k.get vs ts) l 0 with _ | _ | e <;> rfl

/-! numbers, strings -/
theorem r_eql {k : IntKind} {a b : Int} : binV .eql (.int k a) (.int k b) = some (.bool (decide (a = b))) := by
  simp only [binV, isSh, decide_true, ieq_eq]
  rfl
theorem r_neq {k : IntKind} {a b : Int} : binV .neq (.int k a) (.int k b) = some (.bool (!decide (a = b))) := by
  simp only [binV, isSh, decide_true, ieq_eq]
  rfl
theorem r_lss {k : IntKind} {a b : Int} : binV .lss (.int k a) (.int k b) = some (.bool (decide (a < b))) := by
  simp only [binV, isSh, decide_true, ile_eq, Option.some.injEq, AVal.bool.injEq]
  rw [Bool.eq_iff_iff]
  simp
theorem r_leq {k : IntKind} {a b : Int} : binV .leq (.int k a) (.int k b) = some (.bool (decide (a ≤ b))) := by simp only [binV, isSh, decide_true, ile_eq]
theorem r_gtr {k : IntKind} {a b : Int} : binV .gtr (.int k a) (.int k b) = some (.bool (decide (b < a))) := by
  simp only [binV, isSh, decide_true, ile_eq, Option.some.injEq, AVal.bool.injEq]
  rw [Bool.eq_iff_iff]
  simp
theorem r_geq {k : IntKind} {a b : Int} : binV .geq (.int k a) (.int k b) = some (.bool (decide (b ≤ a))) := by simp only [binV, isSh, decide_true, ile_eq]
theorem r_add {k : IntKind} {a b : Int} : binV .add (.int k a) (.int k b) = some (.int k (k.wrap (a + b))) := by simp only [binV, isSh, decide_true, wrapI_eq]
theorem r_sub {k : IntKind} {a b : Int} : binV .sub (.int k a) (.int k b) = some (.int k (k.wrap (a - b))) := by simp only [binV, isSh, decide_true, wrapI_eq]
theorem r_mul {k : IntKind} {a b : Int} : binV .mul (.int k a) (.int k b) = some (.int k (k.wrap (a * b))) := by simp only [binV, isSh, decide_true, wrapI_eq]
theorem wrap64 {n : Int} (h1 : -9223372036854775808 ≤ n) (h2 : n < 9223372036854775808) : IntKind.i64.wrap n = n := by
  rw [IntKind.wrap_i64]
  omega
end run
end Dt
