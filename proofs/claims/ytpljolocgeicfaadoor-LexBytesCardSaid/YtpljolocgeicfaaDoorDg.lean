/- A part of the abstract machine and of the proof that the program does what it reckons; no conditions. -/
import Derived.Test.YtpljolocgeicfaaDoorDf
namespace Dt
open Go Go.RowKit
/-! ### Operations that only reckon -/
section pure_
variable {R : Type} {A : Alg R} {P : Program} {call : Nat → List AVal → Heap → (AVal → Heap → R) → R} {vs ts : List AVal} {ρ : Env} {H : Heap} {w : World} {K : AVal → Heap → R}

theorem y_bin {op : BinOp} {t : TypeId} {ox oy : Operand} {x y : Opd} {u v : Value} (hx : VRel ρ (x.get vs ts) u) (hy : VRel ρ (y.get vs ts) v) (h : A.holds (evI A call (.bin op x y) vs ts H K)) :
    Pure P (do eqGuard op t ox oy u v; binOp op t u v) ρ H (fun x H => A.holds (K x H)) := by
  simp only [evI] at h
  generalize x.get vs ts = X at hx h
  generalize y.get vs ts = Y at hy h
  cases hb : binV op X Y with
  | none => rw [hb] at h; exact (A.fail_no h).elim
  | some z =>
    rw [hb] at h
    simp only [fV_eq] at h
    cases hx <;> cases hy <;> try (simp [binV] at hb; done)
    case int.int k a k' b =>
      simp only [binV] at hb
      cases hsh : isSh op with
      | true =>
        rw [hsh] at hb
        cases b with
        | negSucc m => simp [shI] at hb
        | ofNat m =>
          cases op <;> simp [isSh] at hsh <;> simp [shI] at hb <;> subst hb <;> refine Pure.here h (fun w => ?_) (.int _ _) <;>
            simp [binOp, Op.shift, eqGuard_at_int]
          all_goals omega
      | false =>
        rw [hsh] at hb
        simp only at hb
        by_cases hk : k = k'
        · subst hk
          rw [decide_eq_true rfl] at hb
          simp only [wrapI_eq, ieq_eq, ile_eq] at hb
          cases op <;> simp [bitI, isSh] at hb hsh <;> subst hb <;> refine Pure.here h (fun w => ?_) (by first | exact .int _ _ | exact .bool _) <;>
            simp [binOp, Op.intArith, Op.intCmp, Op.intBits, eqGuard_at_int, bne]
          all_goals (rw [Bool.eq_iff_iff]; simp; try omega)
        · rw [decide_eq_false hk] at hb
          cases hb
    case str.str a b =>
      simp only [binV] at hb
      rw [str_beq] at hb
      cases op <;> simp at hb
      case add =>
        split at hb
        · rename_i hsz
          have hsz' := Nat.le_of_ble_eq_true hsz
          simp at hb
          subst hb
          refine Pure.here (v := .string (a ++ b)) h (fun w => ?_) ?_
          · have : ¬ (9223372036854775807 < (a.size : Int) + (b.size : Int)) := by omega
            simp [binOp, Op.stringOp, eqGuard_at_string, this]
          · have := VRel.str (ρ := ρ) (a ++ b)
            have e1 : (a ++ b).size = a.size + b.size := by simp
            have e2 : codeOf (a ++ b).data.toList = scat a.size (codeOf a.data.toList) (codeOf b.data.toList) := by
              rw [scat_eq]
              have : (a ++ b).data.toList = a.data.toList ++ b.data.toList := by simp
              rw [this, codeOf_append]
              congr 3
            rw [e1, e2] at this
            exact this
        · cases hb
      all_goals
        subst hb
        refine Pure.here h (fun w => ?_) (.bool _)
        simp [binOp, Op.stringOp, eqGuard_at_string]

theorem y_binB {op : BinOp} {t : TypeId} (ht : P.underlying t = some .bool) {ox oy : Operand} {x y : Opd} {u v : Value} (hx : VRel ρ (x.get vs ts) u) (hy : VRel ρ (y.get vs ts) v) (h : A.holds (evI A call (.binB op x y) vs ts H K)) :
    Pure P (do eqGuard op t ox oy u v; binOp op t u v) ρ H (fun x H => A.holds (K x H)) := by
  simp only [evI] at h
  generalize x.get vs ts = X at hx h
  generalize y.get vs ts = Y at hy h
  cases hb : binB op X Y with
  | none => rw [hb] at h; exact (A.fail_no h).elim
  | some z =>
    rw [hb] at h
    simp only [fV_eq] at h
    cases hx <;> cases hy <;> try (simp [binB] at hb; done)
    case bool.bool a b =>
      have he1 : ∀ (w : World) d, (Op.equalIn (d + 1) t (.bool a) (.bool b)).run P w = .ok (a == b) w := fun w d => by simp [Op.equalIn, run_underlying ht]
      have he : ∀ w, (Op.equal t (.bool a) (.bool b)).run P w = .ok (a == b) w := fun w => he1 w 9999
      simp only [binB] at hb
      cases op <;> simp at hb <;> subst hb <;> refine Pure.here h (fun w => ?_) (.bool _) <;> simp [binOp, eqGuard_at_bool, he]

theorem y_binP {op : BinOp} {t e : TypeId} (ht : P.underlying t = some (.pointer e)) {ox oy : Operand} {x y : Opd} {u v : Value} (hx : VRel ρ (x.get vs ts) u) (hy : VRel ρ (y.get vs ts) v) (h : A.holds (evI A call (.binP op x y) vs ts H K)) :
    Pure P (do eqGuard op t ox oy u v; binOp op t u v) ρ H (fun x H => A.holds (K x H)) := by
  simp only [evI] at h
  generalize x.get vs ts = X at hx h
  generalize y.get vs ts = Y at hy h
  cases hb : binP op X Y with
  | none => rw [hb] at h; exact (A.fail_no h).elim
  | some z =>
    rw [hb] at h
    simp only [fV_eq] at h
    cases hx <;> cases hy <;> try (simp [binP] at hb; done)
    case nilp.nilp =>
      have he1 : ∀ (w : World) d, (Op.equalIn (d + 1) t (.pointer none) (.pointer none)).run P w = .ok true w := fun w d => by simp [Op.equalIn, run_underlying ht]
      have he : ∀ w, (Op.equal t (.pointer none) (.pointer none)).run P w = .ok true w := fun w => he1 w 9999
      simp only [binP] at hb
      cases op <;> simp at hb <;> subst hb <;> refine Pure.here h (fun w => ?_) (.bool _) <;> simp [binOp, eqGuard_at_pointer, he]
    case nilp.ptr b S es r c =>
      have he1 : ∀ (w : World) d, (Op.equalIn (d + 1) t (.pointer none) (.pointer (some ⟨S.blk, S.off + r * S.esz + c, none⟩))).run P w = .ok false w := fun w d => by simp [Op.equalIn, run_underlying ht]
      have he : ∀ w, (Op.equal t (.pointer none) (.pointer (some ⟨S.blk, S.off + r * S.esz + c, none⟩))).run P w = .ok false w := fun w => he1 w 9999
      simp only [binP] at hb
      cases op <;> simp at hb <;> subst hb <;> refine Pure.here h (fun w => ?_) (.bool _) <;> simp [binOp, eqGuard_at_pointer, he]
    case ptr.nilp b S es r c =>
      have he1 : ∀ (w : World) d, (Op.equalIn (d + 1) t (.pointer (some ⟨S.blk, S.off + r * S.esz + c, none⟩)) (.pointer none)).run P w = .ok false w := fun w d => by simp [Op.equalIn, run_underlying ht]
      have he : ∀ w, (Op.equal t (.pointer (some ⟨S.blk, S.off + r * S.esz + c, none⟩)) (.pointer none)).run P w = .ok false w := fun w => he1 w 9999
      simp only [binP] at hb
      cases op <;> simp at hb <;> subst hb <;> refine Pure.here h (fun w => ?_) (.bool _) <;> simp [binOp, eqGuard_at_pointer, he]

theorem y_not {t : TypeId} {x : Opd} {u : Value} (hx : VRel ρ (x.get vs ts) u) (h : A.holds (evI A call (.not x) vs ts H K)) :
    Pure P (Op.unary .not u) ρ H (fun x H => A.holds (K x H)) := by
  have _ := t
  simp only [evI] at h
  generalize x.get vs ts = X at hx h
  cases hx <;> try exact (A.fail_no h).elim
  rename_i b
  cases b
  · exact Pure.here h (fun w => by simp [Op.unary]) (.bool _)
  · exact Pure.here h (fun w => by simp [Op.unary]) (.bool _)

theorem y_un1 {neg : Bool} {x : Opd} {u : Value} (hx : VRel ρ (x.get vs ts) u) (h : A.holds (evI A call (.un1 neg x) vs ts H K)) :
    Pure P (Op.unary (cond neg .neg .xor) u) ρ H (fun x H => A.holds (K x H)) := by
  simp only [evI] at h
  generalize x.get vs ts = X at hx h
  cases hx <;> try exact (A.fail_no h).elim
  rename_i k n
  cases neg
  · simp only [un1V, bitI, Option.map_some, fV_eq] at h
    refine Pure.here h (fun w => ?_) (.int _ _)
    cases hs : k.signed <;> simp [Op.unary, Op.intBits, hs]
  · simp only [un1V, fV_eq, wrapI_eq] at h
    exact Pure.here h (fun w => by simp [Op.unary, Op.intArith]) (.int _ _)

theorem y_pick {c x y : Opd} {t u v : Value} (hc : VRel ρ (c.get vs ts) t) (hx : VRel ρ (x.get vs ts) u) (hy : VRel ρ (y.get vs ts) v) (h : A.holds (evI A call (.pick c x y) vs ts H K)) :
    Pure P (do pure (if ← asBool t then u else v)) ρ H (fun x H => A.holds (K x H)) := by
  simp only [evI] at h
  generalize c.get vs ts = C at hc h
  cases hc <;> try exact (A.fail_no h).elim
  rename_i b
  cases b
  · exact Pure.here h (fun w => by simp [asBool]) hy
  · exact Pure.here h (fun w => by simp [asBool]) hx

theorem y_conv {s d : TypeId} {k k' : IntKind} (hs : P.underlying s = some (.int k')) (hd : P.underlying d = some (.int k)) {x : Opd} {u : Value} (hx : VRel ρ (x.get vs ts) u) (h : A.holds (evI A call (.conv k x) vs ts H K)) :
    Pure P (convert s d u) ρ H (fun x H => A.holds (K x H)) := by
  simp only [evI] at h
  generalize x.get vs ts = X at hx h
  cases hx <;> try exact (A.fail_no h).elim
  rename_i k2 n
  simp only [fI_eq, wrapI_eq] at h
  exact Pure.here h (fun w => by simp [convert, run_underlying hs, run_underlying hd, Conv.intToInt]) (.int _ _)

theorem y_fadr {t : TypeId} {fs : Array Field} {f : Field} {i : Nat} (ht : P.underlying t = some (.struct fs)) (hf : fs[i]? = some f) (hz : P.cellsOf f.type ≠ 0) {x : Opd} {u : Value} (hx : VRel ρ (x.get vs ts) u) (h : A.holds (evI A call (.fadr f.offset x) vs ts H K)) :
    Pure P (Instr.fieldAt t u i) ρ H (fun x H => A.holds (K x H)) := by
  simp only [evI] at h
  generalize x.get vs ts = X at hx h
  cases hx <;> try exact (A.fail_no h).elim
  case gp g c =>
    simp only [fN_eq] at h
    refine Pure.here (v := .pointer (some ⟨g, c + f.offset, none⟩)) h (fun w => ?_) (.gp _ _)
    obtain ⟨j, hj⟩ : ∃ j, P.info? f.type = some j := by
      unfold Program.cellsOf at hz
      cases hj : P.info? f.type with
      | none => rw [hj] at hz; simp at hz
      | some j => exact ⟨j, rfl⟩
    simp [Instr.fieldAt, run_underlying ht, hf, Instr.sureAddr, fieldPlace, run_sizeOf hj, hz, Addr.add_lit]
  rename_i b S e r c
  simp only [fN_eq] at h
  refine Pure.here (v := .pointer (some ⟨S.blk, S.off + r * S.esz + c + f.offset, none⟩)) h (fun w => ?_) ?_
  · have hi : ∃ j, P.info? f.type = some j := by
      unfold Program.cellsOf at hz
      cases hj : P.info? f.type with
      | none => rw [hj] at hz; simp at hz
      | some j => exact ⟨j, rfl⟩
    obtain ⟨j, hj⟩ := hi
    simp [Instr.fieldAt, run_underlying ht, hf, Instr.sureAddr, fieldPlace, run_sizeOf hj, hz, Addr.add_lit]
  · have := VRel.ptr e r (c + f.offset)
    rwa [← Nat.add_assoc] at this

theorem one_cell {l : List AVal} {us : List Value} (hs : VRels ρ l us) {off : Nat} {v : AVal} {r : List AVal} (hc : cut l off 1 = some (v :: r)) : ∃ u, us[off]? = some u ∧ VRel ρ v u := by
  obtain ⟨h1, _, _⟩ := cut_eq _ _ _ _ hc
  have : l[off]? = some v := by
    have h2 : ((l.drop off).take 1)[0]? = some v := by rw [← h1]; rfl
    rw [List.getElem?_take, if_pos (by omega), List.getElem?_drop] at h2
    simpa using h2
  exact hs.get _ _ this

theorem y_fld1 {t : TypeId} {fs : Array Field} {f : Field} {i : Nat} (ht : P.underlying t = some (.struct fs)) (hf : fs[i]? = some f) (ho : isOne P f.type = true) {x : Opd} {u : Value} (hx : VRel ρ (x.get vs ts) u) (h : A.holds (evI A call (.fld1 f.offset x) vs ts H K)) :
    Pure P (Instr.field t u i) ρ H (fun x H => A.holds (K x H)) := by
  simp only [evI] at h
  generalize x.get vs ts = X at hx h
  cases hx <;> try exact (A.fail_no h).elim
  rename_i l us hs h1
  simp only at h
  split at h
  · rename_i v r hc
    obtain ⟨u, hu, hv⟩ := one_cell hs hc
    refine Pure.here h (fun w => ?_) hv
    simp [Instr.field, run_underlying ht, hf, asAgg, part, run_isAgg_one ho, hu]
  · exact (A.fail_no h).elim

theorem y_fldN {t : TypeId} {fs : Array Field} {f : Field} {i : Nat} (ht : P.underlying t = some (.struct fs)) (hf : fs[i]? = some f) (ho : isMany P f.type = true) {x : Opd} {u : Value} (hx : VRel ρ (x.get vs ts) u) (h : A.holds (evI A call (.fldN f.offset (P.cellsOf f.type) x) vs ts H K)) :
    Pure P (Instr.field t u i) ρ H (fun x H => A.holds (K x H)) := by
  simp only [evI] at h
  generalize x.get vs ts = X at hx h
  cases hx <;> try exact (A.fail_no h).elim
  rename_i l us hs h1
  simp only at h
  cases hc : cut l f.offset (P.cellsOf f.type) with
  | none => rw [hc] at h; exact (A.fail_no h).elim
  | some cs =>
    rw [hc] at h
    simp only [fL_eq] at h
    obtain ⟨hcs, _, hlen⟩ := cut_eq _ _ _ _ hc
    obtain ⟨j, hj⟩ := info_of_many ho
    have hl := hs.length
    refine Pure.here (v := .agg ((us.drop f.offset).take (P.cellsOf f.type)).toArray) h (fun w => ?_) (.agg (VRels.mk ?_ ?_) ?_)
    · simp [Instr.field, run_underlying ht, hf, asAgg, part, run_isAgg_many ho, run_sizeOf hj, List.extract_toArray]
    · rw [hcs, List.length_take, List.length_take, List.length_drop, List.length_drop, hl]
    · intro k a u ha hu
      rw [hcs, List.getElem?_take] at ha
      rw [List.getElem?_take] at hu
      split at ha
      · rename_i hk
        rw [if_pos hk, List.getElem?_drop] at hu
        rw [List.getElem?_drop] at ha
        obtain ⟨u', hu', hr⟩ := hs.get _ _ ha
        rw [hu] at hu'
        simp at hu'
        subst hu'
        exact hr
      · cases ha
    · intro u hu
      exact h1 u (List.mem_of_mem_drop (List.mem_of_mem_take hu))

theorem y_idxS {t e : TypeId} (ht : P.underlying t = some (.slice e)) (hz : P.cellsOf e ≠ 0) {x i : Opd} {u v : Value} (hx : VRel ρ (x.get vs ts) u) (hi : VRel ρ (i.get vs ts) v) (h : A.holds (evI A call (.idxS (P.cellsOf e) x i) vs ts H K)) :
    Pure P (Instr.indexAt t u v) ρ H (fun x H => A.holds (K x H)) := by
  simp only [evI] at h
  generalize x.get vs ts = X at hx h
  generalize i.get vs ts = I at hi h
  cases hx <;> cases hi <;> try exact (A.fail_no h).elim
  case slc.int b S es r len cap' cap a' hl hc ho ha k n =>
    cases n with
    | negSucc m => exact (A.fail_no h).elim
    | ofNat m =>
      simp only at h
      split at h
      · rename_i hb
        rw [Bool.and_eq_true] at hb
        have hlt : m < len := by
          have := hb.1
          unfold Nat.blt at this
          exact Nat.le_of_ble_eq_true this
        have hsz : S.esz = P.cellsOf e := by simpa using hb.2
        simp only [fN_eq] at h
        rcases ha with ⟨h0, _⟩ | ⟨rfl, hb2⟩
        · omega
        refine Pure.here (v := .pointer (some ⟨S.blk, S.off + (r + m) * S.esz + 0, none⟩)) h (fun w => ?_) (.ptr es _ _)
        obtain ⟨j, hj⟩ : ∃ j, P.info? e = some j := by
          unfold Program.cellsOf at hz
          cases hj : P.info? e with
          | none => rw [hj] at hz; simp at hz
          | some j => exact ⟨j, rfl⟩
        have hadd : S.off + r * S.esz + m * P.cellsOf e = S.off + (r + m) * S.esz + 0 := by rw [← hsz, Nat.add_mul]; omega
        simp [Instr.indexAt, asIntOf, run_underlying ht, hlt, run_sizeOf hj, Addr.add_lit, hadd]
      · exact (A.fail_no h).elim

theorem y_idxA {t e : TypeId} {n : Nat} (ht : P.underlying t = some (.array n e)) (hz : P.cellsOf e ≠ 0) {x i : Opd} {u v : Value} (hx : VRel ρ (x.get vs ts) u) (hi : VRel ρ (i.get vs ts) v) (h : A.holds (evI A call (.idxA n (P.cellsOf e) x i) vs ts H K)) :
    Pure P (Instr.indexAt t u v) ρ H (fun x H => A.holds (K x H)) := by
  simp only [evI] at h
  generalize x.get vs ts = X at hx h
  generalize i.get vs ts = I at hi h
  cases hx <;> cases hi <;> try exact (A.fail_no h).elim
  case ptr.int b S es r c k m =>
    cases m with
    | negSucc m => exact (A.fail_no h).elim
    | ofNat m =>
      simp only at h
      split at h
      · rename_i hb
        have hlt : m < n := by
          unfold Nat.blt at hb
          exact Nat.le_of_ble_eq_true hb
        simp only [fN_eq] at h
        refine Pure.here (v := .pointer (some ⟨S.blk, S.off + r * S.esz + (c + m * P.cellsOf e), none⟩)) h (fun w => ?_) (.ptr es _ _)
        obtain ⟨j, hj⟩ : ∃ j, P.info? e = some j := by
          unfold Program.cellsOf at hz
          cases hj : P.info? e with
          | none => rw [hj] at hz; simp at hz
          | some j => exact ⟨j, rfl⟩
        simp [Instr.indexAt, asIntOf, run_underlying ht, Instr.sureAddr, hlt, run_sizeOf hj, Addr.add_lit, Nat.add_assoc]
      · exact (A.fail_no h).elim
  case gp.int g c k m =>
    cases m with
    | negSucc m => exact (A.fail_no h).elim
    | ofNat m =>
      simp only at h
      split at h
      · rename_i hb
        have hlt : m < n := by
          unfold Nat.blt at hb
          exact Nat.le_of_ble_eq_true hb
        simp only [fN_eq] at h
        refine Pure.here (v := .pointer (some ⟨g, c + m * P.cellsOf e, none⟩)) h (fun w => ?_) (.gp _ _)
        obtain ⟨j, hj⟩ : ∃ j, P.info? e = some j := by
          unfold Program.cellsOf at hz
          cases hj : P.info? e with
          | none => rw [hj] at hz; simp at hz
          | some j => exact ⟨j, rfl⟩
        simp [Instr.indexAt, asIntOf, run_underlying ht, Instr.sureAddr, hlt, run_sizeOf hj, Addr.add_lit, Nat.add_assoc]
      · exact (A.fail_no h).elim

theorem y_idxStr {t : TypeId} (ht : P.underlying t = some .string) {x i : Opd} {u v : Value} (hx : VRel ρ (x.get vs ts) u) (hi : VRel ρ (i.get vs ts) v) (h : A.holds (evI A call (.idxStr x i) vs ts H K)) :
    Pure P (Instr.index t u v) ρ H (fun x H => A.holds (K x H)) := by
  simp only [evI] at h
  generalize x.get vs ts = X at hx h
  generalize i.get vs ts = I at hi h
  cases hx <;> cases hi <;> try exact (A.fail_no h).elim
  case str.int s k m =>
    cases m with
    | negSucc m => exact (A.fail_no h).elim
    | ofNat m =>
      simp only at h
      split at h
      · rename_i hb
        have hlt : m < s.size := by
          unfold Nat.blt at hb
          exact Nat.le_of_ble_eq_true hb
        simp only [fN_eq] at h
        have hl : m < s.data.toList.length := by simpa using hlt
        have hg : sget (codeOf s.data.toList) m = (s.data.toList[m]'hl).toNat := by rw [sget_eq, codeOf_get]
        rw [hg] at h
        refine Pure.here (v := .int .u8 (s[m]'hlt).toNat) h (fun w => ?_) ?_
        · have hin : (0 : Int) ≤ (Int.ofNat m) ∧ (Int.ofNat m) < (s.size : Int) := by simp; omega
          rw [run_index_string w t s k _ ht, dif_pos hin]
          rfl
        · exact .int _ _
      · exact (A.fail_no h).elim

theorem y_len {t ty : TypeId} {str : Bool} (ht : match str with | true => P.underlying t = some .string | false => ∃ e, P.underlying t = some (.slice e)) {x : Opd} {u : Value} (hx : VRel ρ (x.get vs ts) u) 
    (h : A.holds (evI A call (.len str x) vs ts H K)) :
    Pure P (Builtin.len_ #[t] ty #[u]) ρ H (fun x H => A.holds (K x H)) := by
  simp only [evI] at h
  generalize x.get vs ts = X at hx h
  cases str <;> simp only at ht
  · obtain ⟨e, he⟩ := ht
    cases hx <;> try exact (A.fail_no h).elim
    case slc b S es r len cap' cap a' hl hc ho ha => exact Pure.here h (fun w => by simp [Builtin.len_, run_underlying he, goInt]) (.int _ _)
    case nils => exact Pure.here h (fun w => by simp [Builtin.len_, run_underlying he, goInt]) (.int _ _)
  · cases hx <;> try exact (A.fail_no h).elim
    case str s => exact Pure.here h (fun w => by simp [Builtin.len_, run_underlying ht, goInt]) (.int _ _)

theorem y_ext {x : Opd} {i : Nat} {u : Value} (hx : VRel ρ (x.get vs ts) u) (h : A.holds (evI A call (.ext x i) vs ts H K)) :
    Pure P (Instr.extract u i) ρ H (fun x H => A.holds (K x H)) := by
  simp only [evI] at h
  generalize x.get vs ts = X at hx h
  cases hx <;> try exact (A.fail_no h).elim
  rename_i l us hs
  simp only at h
  split at h
  · rename_i hb
    have hlt : i < l.length := by
      rw [llen_eq] at hb
      unfold Nat.blt at hb
      exact Nat.le_of_ble_eq_true hb
    have hl := hs.length
    have hr := hs.of_get i
    have hu : us[i]? = some (us[i]'(by omega)) := List.getElem?_eq_getElem (by omega)
    rw [hu] at hr
    refine Pure.here h (fun w => ?_) hr
    simp [Instr.extract, hu]
  · exact (A.fail_no h).elim
end pure_
end Dt
