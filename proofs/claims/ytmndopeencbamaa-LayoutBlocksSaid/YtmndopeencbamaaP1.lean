/- A part of the abstract machine and of the proof that the program does what it reckons; no conditions. -/
import Derived.Test.YtmndopeencbamaaL2
namespace Dt
open Go
set_option linter.all false
theorem look8 : look table 8 = some d8 := (rfl)
theorem look16 : look table 16 = some d16 := (rfl)
theorem look17 : look table 17 = some d17 := (rfl)
theorem look28 : look table 28 = some d28 := (rfl)
theorem look29 : look table 29 = some d29 := (rfl)
theorem look30 : look table 30 = some d30 := (rfl)
theorem look31 : look table 31 = some d31 := (rfl)
theorem look32 : look table 32 = some d32 := (rfl)
theorem look33 : look table 33 = some d33 := (rfl)
theorem look34 : look table 34 = some d34 := (rfl)
theorem look35 : look table 35 = some d35 := (rfl)
theorem look36 : look table 36 = some d36 := (rfl)
theorem look37 : look table 37 = some d37 := (rfl)
theorem look38 : look table 38 = some d38 := (rfl)
theorem look39 : look table 39 = some d39 := (rfl)
theorem look40 : look table 40 = some d40 := (rfl)
theorem look41 : look table 41 = some d41 := (rfl)
theorem look42 : look table 42 = some d42 := (rfl)
theorem look43 : look table 43 = some d43 := (rfl)

/-! ### The placer: what it holds, and where -/
structure Bl where
  explicit : Bool
  col : Nat
  lt : Bool
  braces : Int
deriving DecidableEq
def blRow (b : Bl) : List AVal := [.bool b.explicit, .int .i64 (b.col : Int), .bool b.lt, .int .i64 b.braces]
theorem bl_0 {b : Bl} : rdRow (blRow b) 0 = some (.bool b.explicit) := (rfl)
theorem bl_1 {b : Bl} : rdRow (blRow b) 1 = some (.int .i64 (b.col : Int)) := (rfl)
theorem bl_2 {b : Bl} : rdRow (blRow b) 2 = some (.bool b.lt) := (rfl)
theorem bl_3 {b : Bl} : rdRow (blRow b) 3 = some (.int .i64 b.braces) := (rfl)
theorem bl_len {b : Bl} : llen (blRow b) = 4 := (rfl)
theorem bl_blk {e t : Bool} {c : Nat} {n : Int} : Blk.rows 4 [[.bool e, .int .i64 (c : Int), .bool t, .int .i64 n]] = Blk.rows 4 [blRow ⟨e, c, t, n⟩] := (rfl)
theorem bl_agg {e t : Bool} {c : Nat} {n : Int} : AVal.agg [.bool e, .int .i64 (c : Int), .bool t, .int .i64 n] = AVal.agg (blRow ⟨e, c, t, n⟩) := (rfl)
/-- The blocks that are open, the innermost first; the rest as in the program. -/
structure PS where
  st : List Bl
  at_ : Nat
  out : List Tok
  bad : Nat
  place : Nat
  first : Bool
  done : Bool
def psRow (vin vl vo : AVal) (σ : PS) : List AVal := [vl, vin, .int .i64 (σ.at_ : Int), vo, .int .i64 (σ.bad : Int), .int .i64 (σ.place : Int), .bool σ.first, .bool σ.done]
section
variable {vin vl vo : AVal} {σ : PS}
theorem ps_0 : rdRow (psRow vin vl vo σ) 0 = some vl := (rfl)
theorem ps_1 : rdRow (psRow vin vl vo σ) 1 = some vin := (rfl)
theorem ps_2 : rdRow (psRow vin vl vo σ) 2 = some (.int .i64 (σ.at_ : Int)) := (rfl)
theorem ps_3 : rdRow (psRow vin vl vo σ) 3 = some vo := (rfl)
theorem ps_4 : rdRow (psRow vin vl vo σ) 4 = some (.int .i64 (σ.bad : Int)) := (rfl)
theorem ps_5 : rdRow (psRow vin vl vo σ) 5 = some (.int .i64 (σ.place : Int)) := (rfl)
theorem ps_6 : rdRow (psRow vin vl vo σ) 6 = some (.bool σ.first) := (rfl)
theorem ps_7 : rdRow (psRow vin vl vo σ) 7 = some (.bool σ.done) := (rfl)
theorem ps_w0 {v : AVal} : wrC 1 (.rows 8 [psRow vin vl vo σ]) 0 0 [v] = some (.rows 8 [psRow vin v vo σ]) := v_wr (by simp [psRow, llen])
theorem ps_w2 {n : Nat} : wrC 1 (.rows 8 [psRow vin vl vo σ]) 0 2 [.int .i64 (n : Int)] = some (.rows 8 [psRow vin vl vo { σ with at_ := n }]) := v_wr (by simp [psRow, llen])
theorem ps_w3 {v : AVal} : wrC 1 (.rows 8 [psRow vin vl vo σ]) 0 3 [v] = some (.rows 8 [psRow vin vl v σ]) := v_wr (by simp [psRow, llen])
theorem ps_w4 {n : Nat} : wrC 1 (.rows 8 [psRow vin vl vo σ]) 0 4 [.int .i64 (n : Int)] = some (.rows 8 [psRow vin vl vo { σ with bad := n }]) := v_wr (by simp [psRow, llen])
theorem ps_w5 {n : Nat} : wrC 1 (.rows 8 [psRow vin vl vo σ]) 0 5 [.int .i64 (n : Int)] = some (.rows 8 [psRow vin vl vo { σ with place := n }]) := v_wr (by simp [psRow, llen])
theorem ps_w6 {b : Bool} : wrC 1 (.rows 8 [psRow vin vl vo σ]) 0 6 [.bool b] = some (.rows 8 [psRow vin vl vo { σ with first := b }]) := v_wr (by simp [psRow, llen])
theorem ps_w7 {b : Bool} : wrC 1 (.rows 8 [psRow vin vl vo σ]) 0 7 [.bool b] = some (.rows 8 [psRow vin vl vo { σ with done := b }]) := v_wr (by simp [psRow, llen])
theorem ps_st {st : List Bl} : psRow vin vl vo { σ with st := st } = psRow vin vl vo σ := (rfl)
theorem ps_out {out : List Tok} : psRow vin vl vo { σ with out := out } = psRow vin vl vo σ := (rfl)
end
def stRows (st : List Bl) : List (List AVal) := st.reverse.map blRow
structure PI (F : Fr) (p : Nat) (vin : AVal) (H : Heap) (vl vo : AVal) (σ : PS) : Prop where
  sees : Sees F H
  hp : p < H.next
  fp : F p = none
  cell : H.get p = .rows 8 [psRow vin vl vo σ]
  st : Sl F H vl 4 (stRows σ.st)
  out : Sl F H vo 5 (σ.out.map tokRow)
  lp : blkOf vl ≠ some p
  op : blkOf vo ≠ some p
  lo : ∀ b, blkOf vl = some b → blkOf vo ≠ some b
theorem Sl.grow {F : Fr} {H H' : Heap} {v : AVal} {z : Nat} {rows : List (List AVal)} (h : Sl F H v z rows) (g : Grow H H') : Sl F H' v z rows := by
  rcases h with ⟨rfl, rfl⟩ | ⟨b, R, rfl, hlt, hFb, hR, hrows⟩
  · exact Or.inl ⟨rfl, rfl⟩
  · exact Or.inr ⟨b, R, rfl, Nat.lt_of_lt_of_le hlt g.1, hFb, (g.2 b hlt).trans hR, hrows⟩
theorem Sl.free {F : Fr} {H : Heap} {v : AVal} {z b : Nat} {rows : List (List AVal)} (h : Sl F H v z rows) (hb : blkOf v = some b) : F b = none := by
  rcases h with ⟨rfl, rfl⟩ | ⟨c, R, rfl, hlt, hFb, hR, hrows⟩
  · cases hb
  · cases hb; exact hFb
theorem Sl.frame {F F' : Fr} {H : Heap} {v : AVal} {z : Nat} {rows : List (List AVal)} (h : Sl F H v z rows) (hb : ∀ b, blkOf v = some b → F' b = none) : Sl F' H v z rows := by
  rcases h with ⟨rfl, rfl⟩ | ⟨c, R, rfl, hlt, hFb, hR, hrows⟩
  · exact Or.inl ⟨rfl, rfl⟩
  · exact Or.inr ⟨c, R, rfl, hlt, hb c rfl, hR, hrows⟩
section
variable {F : Fr} {p : Nat} {vin vl vo : AVal} {H H' : Heap} {σ : PS}
theorem PI.grow (h : PI F p vin H vl vo σ) (g : Grow H H') : PI F p vin H' vl vo σ :=
  ⟨h.sees.grow g, Nat.lt_of_lt_of_le h.hp g.1, h.fp, (g.2 p h.hp).trans h.cell, h.st.grow g, h.out.grow g, h.lp, h.op, h.lo⟩
theorem PI.lput (h : PI F p vin H vl vo σ) {σ' : PS} (h1 : σ'.st = σ.st) (h2 : σ'.out = σ.out) : PI F p vin (H.put p (.rows 8 [psRow vin vl vo σ'])) vl vo σ' :=
  ⟨h.sees.put h.fp, h.hp, h.fp, by rw [get_put, if_pos rfl], by rw [h1]; exact h.st.put h.lp, by rw [h2]; exact h.out.put h.op, h.lp, h.op, h.lo⟩
theorem PI.weaken {F' : Fr} (h : PI F' p vin H vl vo σ) (hF : ∀ b B, F b = some B → F' b = some B) : PI F p vin H vl vo σ := by
  have hn : ∀ b, F' b = none → F b = none := fun b hb => by
    cases e : F b with
    | none => rfl
    | some B => rw [hF b B e] at hb; cases hb
  exact ⟨fun b B hb => h.sees b B (hF b B hb), h.hp, hn _ h.fp, h.cell, h.st.frame fun b hb => hn b (h.st.free hb), h.out.frame fun b hb => hn b (h.out.free hb), h.lp, h.op, h.lo⟩
/-- A block that is nobody's becomes a part of the frame. -/
theorem PI.set (h : PI F p vin H vl vo σ) {b : Nat} {B : Blk} (hb : b < H.next) (hB : H.get b = B) (h1 : p ≠ b) (h2 : blkOf vl ≠ some b) (h3 : blkOf vo ≠ some b) : PI (F.set b B) p vin H vl vo σ :=
  ⟨h.sees.set hb hB, h.hp, by rw [Fr.set_ne h1]; exact h.fp, h.cell,
   h.st.frame fun c hc => by rw [Fr.set_ne (fun e => h2 (by rw [← e]; exact hc))]; exact h.st.free hc,
   h.out.frame fun c hc => by rw [Fr.set_ne (fun e => h3 (by rw [← e]; exact hc))]; exact h.out.free hc, h.lp, h.op, h.lo⟩
theorem PI.unset (h : PI F p vin H vl vo σ) {F0 : Fr} {b : Nat} {B : Blk} (e : F = F0.set b B) (hb : F0 b = none) : PI F0 p vin H vl vo σ := by
  subst e
  refine h.weaken fun c C hc => ?_
  rw [Fr.set_ne (fun e => by rw [e, hb] at hc; cases hc)]
  exact hc
/-- A new block: part of the frame at once. -/
theorem PI.loc (h : PI F p vin H vl vo σ) (B : Blk) : PI (F.set H.next B) p vin (H.add B) vl vo σ :=
  (h.grow Grow.add).set (by rw [next_add]; omega) (by rw [get_add, if_pos rfl]) (by have := h.hp; omega) (h.st.ne (Nat.le_refl _)) (h.out.ne (Nat.le_refl _))
theorem PI.drop {b : Nat} {B : Blk} (h : PI (F.set b B) p vin H vl vo σ) (hb : F b = none) : PI F p vin H vl vo σ := h.unset rfl hb
theorem PI.fresh (h : PI F p vin H vl vo σ) : F H.next = none := h.sees.fresh (Nat.le_refl _)
end
/-- The tokens that are read. -/
def Inp (F : Fr) (vin : AVal) (toks : List Tok) : Prop := ∃ b r z R, vin = .slc b r toks.length none 5 ∧ F b = some (.rows z R) ∧ ∀ i t, toks[i]? = some t → rget R (r + i) = some (tokRow t)
theorem Inp.set {F : Fr} {vin : AVal} {toks : List Tok} (h : Inp F vin toks) {b : Nat} {B : Blk} (hb : F b = none) : Inp (F.set b B) vin toks := by
  obtain ⟨c, r, z, R, rfl, hF, hR⟩ := h
  refine ⟨c, r, z, R, rfl, ?_, hR⟩
  rw [Fr.set_ne (fun e => by rw [e, hb] at hF; cases hF)]
  exact hF
instance : Inhabited Tok := ⟨⟨0, 0, 0, 0, 0, 0⟩⟩
def cur (toks : List Tok) (i : Nat) : Tok := (toks[i]?).getD default
theorem cur_some {toks : List Tok} {i : Nat} (h : i < toks.length) : toks[i]? = some (cur toks i) := by
  unfold cur
  rw [List.getElem?_eq_getElem h]
  rfl

/-! ### What the placer does -/
section
variable (toks : List Tok)
def pFail (e : Nat) (σ : PS) : Bool × PS := (false, if σ.bad = 0 then { σ with bad := e, place := (cur toks σ.at_).at_ } else σ)
def pPut (t : Tok) (σ : PS) : Bool × PS := if 60000 ≤ σ.out.length then pFail toks 2 σ else (true, { σ with out := σ.out ++ [t] })
def mkT (k n c : Nat) (t : Tok) : Tok := ⟨k, n, c, t.at_, t.line, t.col⟩
def pSign (k n c : Nat) (t : Tok) (σ : PS) : Bool × PS := pPut toks (mkT k n c t) σ
def pBegin (b : Bl) (t : Tok) (n c : Nat) (σ : PS) : Bool × PS := if 60 ≤ σ.st.length then (false, { σ with bad := 2, place := t.at_ }) else pSign toks 4 n c t { σ with st := b :: σ.st }
def pEnd (σ : PS) : Bool × PS := pSign toks 5 0 0 (cur toks σ.at_) { σ with st := σ.st.tail }
def isW (t : Tok) (n c : Nat) : Bool := decide (t.kind = 2) && (Nat.beq t.tn n && Nat.beq t.tc c)
end

section
variable {F : Fr} {p : Nat} {vin vl vo : AVal} {H : Heap} {σ : PS} {toks : List Tok} {K : AVal → Heap → Prop} {n : Nat}
theorem Inp.at (h : Inp F vin toks) (hs : Sees F H) {i : Nat} {k : IntKind} (hi : i < toks.length) : ∃ b r z R, idxV 5 vin (.int k (i : Int)) = some (.ptr b r 0) ∧ H.get b = .rows z R ∧ rget R r = some (tokRow (cur toks i)) ∧ b < H.next := by
  obtain ⟨b, r, z, R, rfl, hF, hR⟩ := h
  exact ⟨b, r + i, z, R, v_idx hi, (hs b _ hF).2, hR i _ (cur_some hi), (hs b _ hF).1⟩

/-- now. -/
theorem s35 (h : PI F p vin H vl vo σ) (hin : Inp F vin toks) (hat : σ.at_ < toks.length) :
    evF AP (look table) (n + 1) 35 [.ptr p 0 0] H K = K (.agg (tokRow (cur toks σ.at_))) (H.add (.rows 5 [tokRow (cur toks σ.at_)])) := by
  rw [r_fun look35]
  obtain ⟨b, r, z, R, h1, h2, h3, h4⟩ := hin.at h.sees (k := .i64) hat
  have q0 := lt_ne0 h.hp
  have q1 := lt_ne0 h4
  have hA : rdCN 5 (.rows z R) r 0 = some (.agg (tokRow (cur toks σ.at_))) := v_rdA h3 tk_len
  simp only [v_pnn, v_ppn, v_qnn, v_qpn, r_slcS, r_again1, r_againN, ag_int, ag_bool, ag_str, ag_agg, r_seq, r_reg, r_op, r_op_y, r_op_n, r_op_u, r_move, r_get_v, r_get_t, r_get_c, r_lget_0, r_lget_s, r_lset_0, r_lset_s, r_kOp_t, r_kOp_v, r_kOp_o, r_kReg, r_kSeq_n, r_kSeq_e, r_kSeq_r, r_kBlk_n, r_kBlk_e, r_kBlk_r, r_kBlk_o, r_kLoop_n, r_kLoop_e, r_kLoop_r, r_ops_nil, r_bin, r_binB, r_binP, r_eql, r_neq, r_lss, r_leq, r_gtr, r_geq, r_add, r_sub, r_mul, v_eqs, v_nes, r_opt, r_pick, r_pick_t, r_pick_f, r_not, v_not, r_ret, r_exit, r_skip, r_cond_t, r_cond_f, r_block, r_loop, r_kEnd_n, r_kEnd_r, r_giveO, r_consO, r_evR_0, r_evR_o, r_evR_1, r_evR_N, r_give_0, r_give_1, r_give_2, initV, r_nilck, v_ckp, v_ckf, r_fadr, v_fadr, r_load1, rd1, rdN, v_rd0, rdRow_0, rdRow_s, r_loadN, r_store, v_wrV, v_wrA, v_rdA0, v_some, r_putK, r_alloc, r_box, r_boxK, r_build, r_aggK, fill_0, fill_s, fillK_1, putRow_0, putRow_s, c_agg, c_int, c_bool, c_str, c_slc, c_nils, c_fn, c_ptr, r_buildS, r_rowsK1, fillR_1, fillO_1, r_append, r_fld1, r_idxS, r_idxStr, r_len, v_lenS, v_lenL, v_lenN, r_slcStr, v_sub, map_some, map_none, r_call, r_callv, v_callf, r_ext, v_ext0, v_exts, r_mkfn, opds, r_conv, v_conv, llen_0, llen_s, n_of, ii_eq, ii_lt, ii_le, get_put, get_add, next_put, next_add, put_put, add_put', ne_s, ne_s', ne_ss, ne_ss', if_true, if_false, ite_self, ite_true, ite_false, Nat.zero_add, Nat.add_zero, Nat.reduceAdd, Nat.reduceLT, Nat.reduceEqDiff, Bool.not_false, Bool.not_true, decide_true, decide_false, eq_self, tk_f0, tk_f1, tk_f2, tok_blk, tok_agg, tk_0, tk_1, tk_2, tk_3, tk_4, tk_len, tk_same, tk_w0, tk_w1, d35, h.cell, q0, q1, ps_1, ps_2, h1, h2, hA]

/-- fail. -/
theorem s38 (h : PI F p vin H vl vo σ) (hin : Inp F vin toks) (hat : σ.at_ < toks.length) {e : Nat}
    (hK : ∀ H', PI F p vin H' vl vo (pFail toks e σ).2 → K (.bool false) H') :
    evF AP (look table) (n + 2) 38 [.ptr p 0 0, .int .i64 (e : Int)] H K := by
  rw [r_fun look38]
  have q0 := lt_ne0 h.hp
  by_cases hb : σ.bad = 0
  · have e1 : (pFail toks e σ).2 = { σ with bad := e, place := (cur toks σ.at_).at_ } := by simp [pFail, hb]
    rw [e1] at hK
    have hcut : fldV 2 (.agg (tokRow (cur toks σ.at_))) = some (.int .i64 ((cur toks σ.at_).at_ : Int)) := rfl
    simp only [v_pnn, v_ppn, v_qnn, v_qpn, r_slcS, r_again1, r_againN, ag_int, ag_bool, ag_str, ag_agg, r_seq, r_reg, r_op, r_op_y, r_op_n, r_op_u, r_move, r_get_v, r_get_t, r_get_c, r_lget_0, r_lget_s, r_lset_0, r_lset_s, r_kOp_t, r_kOp_v, r_kOp_o, r_kReg, r_kSeq_n, r_kSeq_e, r_kSeq_r, r_kBlk_n, r_kBlk_e, r_kBlk_r, r_kBlk_o, r_kLoop_n, r_kLoop_e, r_kLoop_r, r_ops_nil, r_bin, r_binB, r_binP, r_eql, r_neq, r_lss, r_leq, r_gtr, r_geq, r_add, r_sub, r_mul, v_eqs, v_nes, r_opt, r_pick, r_pick_t, r_pick_f, r_not, v_not, r_ret, r_exit, r_skip, r_cond_t, r_cond_f, r_block, r_loop, r_kEnd_n, r_kEnd_r, r_giveO, r_consO, r_evR_0, r_evR_o, r_evR_1, r_evR_N, r_give_0, r_give_1, r_give_2, initV, r_nilck, v_ckp, v_ckf, r_fadr, v_fadr, r_load1, rd1, rdN, v_rd0, rdRow_0, rdRow_s, r_loadN, r_store, v_wrV, v_wrA, v_rdA0, v_some, r_putK, r_alloc, r_box, r_boxK, r_build, r_aggK, fill_0, fill_s, fillK_1, putRow_0, putRow_s, c_agg, c_int, c_bool, c_str, c_slc, c_nils, c_fn, c_ptr, r_buildS, r_rowsK1, fillR_1, fillO_1, r_append, r_fld1, r_idxS, r_idxStr, r_len, v_lenS, v_lenL, v_lenN, r_slcStr, v_sub, map_some, map_none, r_call, r_callv, v_callf, r_ext, v_ext0, v_exts, r_mkfn, opds, r_conv, v_conv, llen_0, llen_s, n_of, ii_eq, ii_lt, ii_le, get_put, get_add, next_put, next_add, put_put, add_put', ne_s, ne_s', ne_ss, ne_ss', if_true, if_false, ite_self, ite_true, ite_false, Nat.zero_add, Nat.add_zero, Nat.reduceAdd, Nat.reduceLT, Nat.reduceEqDiff, Bool.not_false, Bool.not_true, decide_true, decide_false, eq_self, tk_f0, tk_f1, tk_f2, tok_blk, tok_agg, tk_0, tk_1, tk_2, tk_3, tk_4, tk_len, tk_same, tk_w0, tk_w1, d38, h.cell, q0, ps_4, hb, s35 h hin hat, hcut, ps_w4, ps_w5]
    exact hK _ ((h.grow Grow.add).lput rfl rfl)
  · have e1 : (pFail toks e σ).2 = σ := by simp [pFail, hb]
    rw [e1] at hK
    simp only [v_pnn, v_ppn, v_qnn, v_qpn, r_slcS, r_again1, r_againN, ag_int, ag_bool, ag_str, ag_agg, r_seq, r_reg, r_op, r_op_y, r_op_n, r_op_u, r_move, r_get_v, r_get_t, r_get_c, r_lget_0, r_lget_s, r_lset_0, r_lset_s, r_kOp_t, r_kOp_v, r_kOp_o, r_kReg, r_kSeq_n, r_kSeq_e, r_kSeq_r, r_kBlk_n, r_kBlk_e, r_kBlk_r, r_kBlk_o, r_kLoop_n, r_kLoop_e, r_kLoop_r, r_ops_nil, r_bin, r_binB, r_binP, r_eql, r_neq, r_lss, r_leq, r_gtr, r_geq, r_add, r_sub, r_mul, v_eqs, v_nes, r_opt, r_pick, r_pick_t, r_pick_f, r_not, v_not, r_ret, r_exit, r_skip, r_cond_t, r_cond_f, r_block, r_loop, r_kEnd_n, r_kEnd_r, r_giveO, r_consO, r_evR_0, r_evR_o, r_evR_1, r_evR_N, r_give_0, r_give_1, r_give_2, initV, r_nilck, v_ckp, v_ckf, r_fadr, v_fadr, r_load1, rd1, rdN, v_rd0, rdRow_0, rdRow_s, r_loadN, r_store, v_wrV, v_wrA, v_rdA0, v_some, r_putK, r_alloc, r_box, r_boxK, r_build, r_aggK, fill_0, fill_s, fillK_1, putRow_0, putRow_s, c_agg, c_int, c_bool, c_str, c_slc, c_nils, c_fn, c_ptr, r_buildS, r_rowsK1, fillR_1, fillO_1, r_append, r_fld1, r_idxS, r_idxStr, r_len, v_lenS, v_lenL, v_lenN, r_slcStr, v_sub, map_some, map_none, r_call, r_callv, v_callf, r_ext, v_ext0, v_exts, r_mkfn, opds, r_conv, v_conv, llen_0, llen_s, n_of, ii_eq, ii_lt, ii_le, get_put, get_add, next_put, next_add, put_put, add_put', ne_s, ne_s', ne_ss, ne_ss', if_true, if_false, ite_self, ite_true, ite_false, Nat.zero_add, Nat.add_zero, Nat.reduceAdd, Nat.reduceLT, Nat.reduceEqDiff, Bool.not_false, Bool.not_true, decide_true, decide_false, eq_self, tk_f0, tk_f1, tk_f2, tok_blk, tok_agg, tk_0, tk_1, tk_2, tk_3, tk_4, tk_len, tk_same, tk_w0, tk_w1, d38, h.cell, q0, ps_4, hb]
    exact hK _ h
end
end Dt
