/- A part of the abstract machine and of the proof that the program does what it reckons; no conditions. -/
import Derived.Test.YtmndopeencbamaaP6
namespace Dt
open Go
set_option linter.all false
def thenP (r : Bool × PS) (f : PS → Bool × PS) : Bool × PS := if r.1 then f r.2 else (false, r.2)
section
variable (toks : List Tok)
def pRules (σ : PS) : Bool × PS := thenP (thenP (thenP (pLine toks σ) (pInward toks)) (pLast toks)) (pBrace toks)
def pPutCur (σ : PS) : Bool × PS := if σ.done then (true, { σ with first := false }) else pPut toks (cur toks σ.at_) { σ with first := false }
def pToken (σ : PS) : Bool × PS := thenP (thenP (pRules toks { σ with done := false }) (pPutCur toks)) (pBehind toks)
def pLoop : Nat → Bool × PS → PS
  | 0, r => r.2
  | k + 1, r => if r.1 = true ∧ r.2.at_ < toks.length then pLoop k ((pToken toks r.2).1, { (pToken toks r.2).2 with at_ := (pToken toks r.2).2.at_ + 1 }) else r.2

/-! what is left of the stack -/
theorem lineL_st {t : Tok} : ∀ (st : List Bl) (σ : PS), σ.st = st → ∃ k, (lineL toks t st σ).2.st = st.drop k ∧ (lineL toks t st σ).2.at_ = σ.at_ := by
  intro st
  induction st with
  | nil => intro σ h; exact ⟨0, h, rfl⟩
  | cons b st ih =>
    intro σ h
    unfold lineL
    split
    · exact ⟨0, h, rfl⟩
    split
    · split
      · exact ⟨0, (pFail_st toks).trans h, pFail_at toks⟩
      · split
        · obtain ⟨k, hk, ha⟩ := ih (pEnd toks σ).2 (by rw [pEnd_st, h]; rfl)
          exact ⟨k + 1, by simpa using hk, ha.trans (pEnd_at toks)⟩
        · exact ⟨1, by show (pEnd toks σ).2.st = _; rw [pEnd_st, h]; rfl, pEnd_at toks⟩
    · split
      · exact ⟨0, (pPut_st toks).trans h, pPut_at toks⟩
      · exact ⟨0, h, rfl⟩
theorem pLine_st (σ : PS) : ∃ k, (pLine toks σ).2.st = σ.st.drop k ∧ (pLine toks σ).2.at_ = σ.at_ := by
  unfold pLine
  split
  · exact ⟨0, rfl, rfl⟩
  · exact lineL_st toks σ.st σ rfl
theorem popN_st : ∀ (m : Nat) (σ : PS), ∃ k, (popN toks m σ).2.st = σ.st.drop k ∧ (popN toks m σ).2.at_ = σ.at_ := by
  intro m
  induction m with
  | zero => intro σ; exact ⟨0, rfl, rfl⟩
  | succ m ih =>
    intro σ
    unfold popN
    split
    · obtain ⟨k, hk, ha⟩ := ih (pEnd toks σ).2
      refine ⟨k + 1, ?_, ha.trans (pEnd_at toks)⟩
      rw [hk, pEnd_st, List.drop_tail]
    · refine ⟨1, ?_, pEnd_at toks⟩
      show (pEnd toks σ).2.st = _
      rw [pEnd_st, List.drop_one]
theorem pInward_st (σ : PS) : ∃ k, (pInward toks σ).2.st = σ.st.drop k ∧ (pInward toks σ).2.at_ = σ.at_ := by
  unfold pInward
  split
  · cases letIn σ.st 0 with
    | none => exact ⟨0, rfl, rfl⟩
    | some m => exact popN_st toks m σ
  · exact ⟨0, rfl, rfl⟩
theorem lastL_st : ∀ (st : List Bl) (σ : PS), σ.st = st → ∃ k, (lastL toks st σ).2.st = st.drop k ∧ (lastL toks st σ).2.at_ = σ.at_ := by
  intro st
  induction st with
  | nil => intro σ h; exact ⟨0, h, rfl⟩
  | cons b st ih =>
    intro σ h
    unfold lastL
    split
    · exact ⟨0, (pFail_st toks).trans h, pFail_at toks⟩
    split
    · obtain ⟨k, hk, ha⟩ := ih (pEnd toks σ).2 (by rw [pEnd_st, h]; rfl)
      exact ⟨k + 1, by simpa using hk, ha.trans (pEnd_at toks)⟩
    · exact ⟨1, by show (pEnd toks σ).2.st = _; rw [pEnd_st, h]; rfl, pEnd_at toks⟩
theorem pLast_st (σ : PS) : ∃ k, (pLast toks σ).2.st = σ.st.drop k ∧ (pLast toks σ).2.at_ = σ.at_ := by
  unfold pLast
  split
  · exact lastL_st toks σ.st σ rfl
  · exact ⟨0, rfl, rfl⟩
theorem pBrace_at (σ : PS) : (pBrace toks σ).2.at_ = σ.at_ := by
  unfold pBrace
  split
  · exact pPut_at toks
  · cases σ.st with
    | nil => rfl
    | cons b st =>
      dsimp only
      split
      · split
        · rfl
        · split
          · split
            · exact pPut_at toks
            · rfl
          · rfl
      · rfl
/-- The stack is no deeper, and braces are counted by tokens. -/
def Fine (m : Nat) (st : List Bl) : Prop := st.length ≤ 60 ∧ ∀ b ∈ st, 0 ≤ b.braces ∧ b.braces ≤ (m : Int)
theorem Fine.drop {m : Nat} {st : List Bl} (h : Fine m st) (k : Nat) : Fine m (st.drop k) := ⟨by have := h.1; simp; omega, fun b hb => h.2 b (List.mem_of_mem_drop hb)⟩
theorem pBrace_good {m : Nat} {σ : PS} (h : Fine m σ.st) : Fine (m + 1) (pBrace toks σ).2.st := by
  have h0 : ∀ st, Fine m st → Fine (m + 1) st := fun st h => ⟨h.1, fun b hb => ⟨(h.2 b hb).1, by have := (h.2 b hb).2; omega⟩⟩
  unfold pBrace
  split
  · rw [pSign, pPut_st]; exact h0 _ h
  · cases e : σ.st with
    | nil => dsimp only; rw [e]; exact h0 _ (by rw [← e]; exact h)
    | cons b st =>
      rw [e] at h
      have hb := h.2 b (by simp)
      have hst : ∀ c ∈ st, 0 ≤ c.braces ∧ c.braces ≤ ((m + 1 : Nat) : Int) := fun c hc => by
        have := h.2 c (by simp [hc])
        omega
      have hl := h.1
      dsimp only
      split
      · split
        · refine ⟨hl, ?_⟩
          intro c hc
          rcases List.mem_cons.1 hc with rfl | hc
          · dsimp only; omega
          · exact hst c hc
        · split
          · split
            · rw [pSign, pPut_st]
              exact ⟨by simp at hl ⊢; omega, hst⟩
            · rename_i h5
              refine ⟨hl, ?_⟩
              intro c hc
              rcases List.mem_cons.1 hc with rfl | hc
              · dsimp only; omega
              · exact hst c hc
          · rw [e]; exact h0 _ h
      · rw [e]; exact h0 _ h
end
section
variable {F : Fr} {p : Nat} {vin vl vo : AVal} {H : Heap} {σ : PS} {toks : List Tok} {K : AVal → Heap → Prop} {n : Nat}
def rulesR (p : Nat) : List (List AVal) := [[.fn 30 [.ptr p 0 0] []], [.fn 31 [.ptr p 0 0] []], [.fn 32 [.ptr p 0 0] []], [.fn 33 [.ptr p 0 0] []]]
def rulesV (rb : Nat) : AVal := .slc rb 0 4 (some 4) 1

theorem iter17 {rb : Nat} (hrb : F rb = some (.rows 1 (rulesR p))) (h : PI F p vin H vl vo σ) {i f r : Nat} {a3 : AVal} {res : Bool × PS} (hi : i < 4) (hrow : rget (rulesR p) i = some [.fn f [.ptr p 0 0] []])
    (hcall : ∀ K', Post F p vin res K' → evF AP (look table) (n + 6) f [.ptr p 0 0] H K')
    (hno : res.1 = false → ∀ H' vl' vo', PI F p vin H' vl' vo' res.2 → K (.bool false) H')
    (hyes : res.1 = true → ∀ H' vl' vo' a3, PI F p vin H' vl' vo' res.2 → loopOf (evF AP (look table) (n + 6)) b17_0 r [.ptr p 0 0, .bool false, rulesV rb, a3, rulesV rb, .int .i64 ((4 : Nat) : Int), .int .i64 ((i + 1 : Nat) : Int)] H' (kBlk 0 (kSeq (evF AP (look table) (n + 6)) r17_1 (kEnd [.opd (.v 1)] K)))) :
    loopOf (evF AP (look table) (n + 6)) b17_0 (r + 1) [.ptr p 0 0, .bool false, rulesV rb, a3, rulesV rb, .int .i64 ((4 : Nat) : Int), .int .i64 (i : Int)] H (kBlk 0 (kSeq (evF AP (look table) (n + 6)) r17_1 (kEnd [.opd (.v 1)] K))) := by
  have hR := (h.sees _ _ hrb).2
  have hidx : idxV 1 (rulesV rb) (.int .i64 (i : Int)) = some (.ptr rb i 0) := by rw [rulesV, v_idx hi, Nat.zero_add]
  have hrd : rdC1 (.rows 1 (rulesR p)) i 0 = some (.fn f [.ptr p 0 0] []) := by rw [v_rd hrow]; rfl
  have gw : IntKind.i64.wrap ((i : Int) + ((1 : Nat) : Int)) = ((i + 1 : Nat) : Int) := w_add (by omega)
  rw [r_roundN b17_0.eq_1]
  simp only [v_pnn, v_ppn, v_qnn, v_qpn, r_slcS, r_again1, r_againN, ag_int, ag_bool, ag_str, ag_agg, r_seq, r_reg, r_op, r_op_y, r_op_n, r_op_u, r_move, r_get_v, r_get_t, r_get_c, r_lget_0, r_lget_s, r_lset_0, r_lset_s, r_kOp_t, r_kOp_v, r_kOp_o, r_kReg, r_kSeq_n, r_kSeq_e, r_kSeq_r, r_kBlk_n, r_kBlk_e, r_kBlk_r, r_kBlk_o, r_kLoop_n, r_kLoop_e, r_kLoop_r, r_ops_nil, r_bin, r_binB, r_binP, r_eql, r_neq, r_lss, r_leq, r_gtr, r_geq, r_add, r_sub, r_mul, v_eqs, v_nes, r_opt, r_pick, r_pick_t, r_pick_f, r_not, v_not, r_ret, r_exit, r_skip, r_cond_t, r_cond_f, r_block, r_loop, r_kEnd_n, r_kEnd_r, r_giveO, r_consO, r_evR_0, r_evR_o, r_evR_1, r_evR_N, r_give_0, r_give_1, r_give_2, initV, r_nilck, v_ckp, v_ckf, r_fadr, v_fadr, r_load1, rd1, rdN, v_rd0, rdRow_0, rdRow_s, r_loadN, r_store, v_wrV, v_wrA, v_rdA0, v_some, r_putK, r_alloc, r_box, r_boxK, r_build, r_aggK, fill_0, fill_s, fillK_1, putRow_0, putRow_s, c_agg, c_int, c_bool, c_str, c_slc, c_nils, c_fn, c_ptr, r_buildS, r_rowsK1, fillR_1, fillO_1, r_append, r_fld1, r_idxS, r_idxStr, r_len, v_lenS, v_lenL, v_lenN, r_slcStr, v_sub, map_some, map_none, r_call, r_callv, v_callf, r_ext, v_ext0, v_exts, r_mkfn, opds, r_conv, v_conv, llen_0, llen_s, n_of, ii_eq, ii_lt, ii_le, get_put, get_add, next_put, next_add, put_put, add_put', ne_s, ne_s', ne_ss, ne_ss', if_true, if_false, ite_self, ite_true, ite_false, Nat.zero_add, Nat.add_zero, Nat.reduceAdd, Nat.reduceLT, Nat.reduceEqDiff, Bool.not_false, Bool.not_true, decide_true, decide_false, eq_self, hi, hidx, hR, hrd, List.nil_append, List.append_nil]
  refine hcall _ ?_
  intro H' vl' vo' h'
  cases hb : res.1 with
  | false =>
    simp only [v_pnn, v_ppn, v_qnn, v_qpn, r_slcS, r_again1, r_againN, ag_int, ag_bool, ag_str, ag_agg, r_seq, r_reg, r_op, r_op_y, r_op_n, r_op_u, r_move, r_get_v, r_get_t, r_get_c, r_lget_0, r_lget_s, r_lset_0, r_lset_s, r_kOp_t, r_kOp_v, r_kOp_o, r_kReg, r_kSeq_n, r_kSeq_e, r_kSeq_r, r_kBlk_n, r_kBlk_e, r_kBlk_r, r_kBlk_o, r_kLoop_n, r_kLoop_e, r_kLoop_r, r_ops_nil, r_bin, r_binB, r_binP, r_eql, r_neq, r_lss, r_leq, r_gtr, r_geq, r_add, r_sub, r_mul, v_eqs, v_nes, r_opt, r_pick, r_pick_t, r_pick_f, r_not, v_not, r_ret, r_exit, r_skip, r_cond_t, r_cond_f, r_block, r_loop, r_kEnd_n, r_kEnd_r, r_giveO, r_consO, r_evR_0, r_evR_o, r_evR_1, r_evR_N, r_give_0, r_give_1, r_give_2, initV, r_nilck, v_ckp, v_ckf, r_fadr, v_fadr, r_load1, rd1, rdN, v_rd0, rdRow_0, rdRow_s, r_loadN, r_store, v_wrV, v_wrA, v_rdA0, v_some, r_putK, r_alloc, r_box, r_boxK, r_build, r_aggK, fill_0, fill_s, fillK_1, putRow_0, putRow_s, c_agg, c_int, c_bool, c_str, c_slc, c_nils, c_fn, c_ptr, r_buildS, r_rowsK1, fillR_1, fillO_1, r_append, r_fld1, r_idxS, r_idxStr, r_len, v_lenS, v_lenL, v_lenN, r_slcStr, v_sub, map_some, map_none, r_call, r_callv, v_callf, r_ext, v_ext0, v_exts, r_mkfn, opds, r_conv, v_conv, llen_0, llen_s, n_of, ii_eq, ii_lt, ii_le, get_put, get_add, next_put, next_add, put_put, add_put', ne_s, ne_s', ne_ss, ne_ss', if_true, if_false, ite_self, ite_true, ite_false, Nat.zero_add, Nat.add_zero, Nat.reduceAdd, Nat.reduceLT, Nat.reduceEqDiff, Bool.not_false, Bool.not_true, decide_true, decide_false, eq_self]
    exact hno hb _ _ _ h'
  | true =>
    simp only [v_pnn, v_ppn, v_qnn, v_qpn, r_slcS, r_again1, r_againN, ag_int, ag_bool, ag_str, ag_agg, r_seq, r_reg, r_op, r_op_y, r_op_n, r_op_u, r_move, r_get_v, r_get_t, r_get_c, r_lget_0, r_lget_s, r_lset_0, r_lset_s, r_kOp_t, r_kOp_v, r_kOp_o, r_kReg, r_kSeq_n, r_kSeq_e, r_kSeq_r, r_kBlk_n, r_kBlk_e, r_kBlk_r, r_kBlk_o, r_kLoop_n, r_kLoop_e, r_kLoop_r, r_ops_nil, r_bin, r_binB, r_binP, r_eql, r_neq, r_lss, r_leq, r_gtr, r_geq, r_add, r_sub, r_mul, v_eqs, v_nes, r_opt, r_pick, r_pick_t, r_pick_f, r_not, v_not, r_ret, r_exit, r_skip, r_cond_t, r_cond_f, r_block, r_loop, r_kEnd_n, r_kEnd_r, r_giveO, r_consO, r_evR_0, r_evR_o, r_evR_1, r_evR_N, r_give_0, r_give_1, r_give_2, initV, r_nilck, v_ckp, v_ckf, r_fadr, v_fadr, r_load1, rd1, rdN, v_rd0, rdRow_0, rdRow_s, r_loadN, r_store, v_wrV, v_wrA, v_rdA0, v_some, r_putK, r_alloc, r_box, r_boxK, r_build, r_aggK, fill_0, fill_s, fillK_1, putRow_0, putRow_s, c_agg, c_int, c_bool, c_str, c_slc, c_nils, c_fn, c_ptr, r_buildS, r_rowsK1, fillR_1, fillO_1, r_append, r_fld1, r_idxS, r_idxStr, r_len, v_lenS, v_lenL, v_lenN, r_slcStr, v_sub, map_some, map_none, r_call, r_callv, v_callf, r_ext, v_ext0, v_exts, r_mkfn, opds, r_conv, v_conv, llen_0, llen_s, n_of, ii_eq, ii_lt, ii_le, get_put, get_add, next_put, next_add, put_put, add_put', ne_s, ne_s', ne_ss, ne_ss', if_true, if_false, ite_self, ite_true, ite_false, Nat.zero_add, Nat.add_zero, Nat.reduceAdd, Nat.reduceLT, Nat.reduceEqDiff, Bool.not_false, Bool.not_true, decide_true, decide_false, eq_self, gw]
    exact hyes hb _ _ _ _ h'

theorem end17 (h : PI F p vin H vl vo σ) (hin : Inp F vin toks) (hat : σ.at_ < toks.length) (hnext : opensT (cur toks σ.at_) = true → σ.at_ + 1 < toks.length) (hlen : σ.st.length ≤ 60) (hbig : toks.length ≤ 1000000) {a1 a2 a3 a4 a5 a6 : AVal} {ts : List AVal}
    (hK : Post F p vin (thenP (pPutCur toks σ) (pBehind toks)) K) :
    evC AP (evF AP (look table) (n + 6)) r17_1 [.ptr p 0 0, a1, a2, a3, a4, a5, a6] ts H (kEnd [.opd (.v 1)] K) := by
  obtain ⟨st, at_, out, bad, place, first, done⟩ := σ
  have h1 := h.lput (σ' := ⟨st, at_, out, bad, place, false, done⟩) rfl rfl
  unfold pPutCur at hK
  cases done with
  | true =>
    rw [if_pos rfl] at hK
    simp only [v_pnn, v_ppn, v_qnn, v_qpn, r_slcS, r_again1, r_againN, ag_int, ag_bool, ag_str, ag_agg, r_seq, r_reg, r_op, r_op_y, r_op_n, r_op_u, r_move, r_get_v, r_get_t, r_get_c, r_lget_0, r_lget_s, r_lset_0, r_lset_s, r_kOp_t, r_kOp_v, r_kOp_o, r_kReg, r_kSeq_n, r_kSeq_e, r_kSeq_r, r_kBlk_n, r_kBlk_e, r_kBlk_r, r_kBlk_o, r_kLoop_n, r_kLoop_e, r_kLoop_r, r_ops_nil, r_bin, r_binB, r_binP, r_eql, r_neq, r_lss, r_leq, r_gtr, r_geq, r_add, r_sub, r_mul, v_eqs, v_nes, r_opt, r_pick, r_pick_t, r_pick_f, r_not, v_not, r_ret, r_exit, r_skip, r_cond_t, r_cond_f, r_block, r_loop, r_kEnd_n, r_kEnd_r, r_giveO, r_consO, r_evR_0, r_evR_o, r_evR_1, r_evR_N, r_give_0, r_give_1, r_give_2, initV, r_nilck, v_ckp, v_ckf, r_fadr, v_fadr, r_load1, rd1, rdN, v_rd0, rdRow_0, rdRow_s, r_loadN, r_store, v_wrV, v_wrA, v_rdA0, v_some, r_putK, r_alloc, r_box, r_boxK, r_build, r_aggK, fill_0, fill_s, fillK_1, putRow_0, putRow_s, c_agg, c_int, c_bool, c_str, c_slc, c_nils, c_fn, c_ptr, r_buildS, r_rowsK1, fillR_1, fillO_1, r_append, r_fld1, r_idxS, r_idxStr, r_len, v_lenS, v_lenL, v_lenN, r_slcStr, v_sub, map_some, map_none, r_call, r_callv, v_callf, r_ext, v_ext0, v_exts, r_mkfn, opds, r_conv, v_conv, llen_0, llen_s, n_of, ii_eq, ii_lt, ii_le, get_put, get_add, next_put, next_add, put_put, add_put', ne_s, ne_s', ne_ss, ne_ss', if_true, if_false, ite_self, ite_true, ite_false, Nat.zero_add, Nat.add_zero, Nat.reduceAdd, Nat.reduceLT, Nat.reduceEqDiff, Bool.not_false, Bool.not_true, decide_true, decide_false, eq_self, r17_1, h.cell, ps_w6, ps_7]
    refine s36 h1 hin hat hnext hlen hbig ?_
    intro H' vl' vo' h'
    simp only [v_pnn, v_ppn, v_qnn, v_qpn, r_slcS, r_again1, r_againN, ag_int, ag_bool, ag_str, ag_agg, r_seq, r_reg, r_op, r_op_y, r_op_n, r_op_u, r_move, r_get_v, r_get_t, r_get_c, r_lget_0, r_lget_s, r_lset_0, r_lset_s, r_kOp_t, r_kOp_v, r_kOp_o, r_kReg, r_kSeq_n, r_kSeq_e, r_kSeq_r, r_kBlk_n, r_kBlk_e, r_kBlk_r, r_kBlk_o, r_kLoop_n, r_kLoop_e, r_kLoop_r, r_ops_nil, r_bin, r_binB, r_binP, r_eql, r_neq, r_lss, r_leq, r_gtr, r_geq, r_add, r_sub, r_mul, v_eqs, v_nes, r_opt, r_pick, r_pick_t, r_pick_f, r_not, v_not, r_ret, r_exit, r_skip, r_cond_t, r_cond_f, r_block, r_loop, r_kEnd_n, r_kEnd_r, r_giveO, r_consO, r_evR_0, r_evR_o, r_evR_1, r_evR_N, r_give_0, r_give_1, r_give_2, initV, r_nilck, v_ckp, v_ckf, r_fadr, v_fadr, r_load1, rd1, rdN, v_rd0, rdRow_0, rdRow_s, r_loadN, r_store, v_wrV, v_wrA, v_rdA0, v_some, r_putK, r_alloc, r_box, r_boxK, r_build, r_aggK, fill_0, fill_s, fillK_1, putRow_0, putRow_s, c_agg, c_int, c_bool, c_str, c_slc, c_nils, c_fn, c_ptr, r_buildS, r_rowsK1, fillR_1, fillO_1, r_append, r_fld1, r_idxS, r_idxStr, r_len, v_lenS, v_lenL, v_lenN, r_slcStr, v_sub, map_some, map_none, r_call, r_callv, v_callf, r_ext, v_ext0, v_exts, r_mkfn, opds, r_conv, v_conv, llen_0, llen_s, n_of, ii_eq, ii_lt, ii_le, get_put, get_add, next_put, next_add, put_put, add_put', ne_s, ne_s', ne_ss, ne_ss', if_true, if_false, ite_self, ite_true, ite_false, Nat.zero_add, Nat.add_zero, Nat.reduceAdd, Nat.reduceLT, Nat.reduceEqDiff, Bool.not_false, Bool.not_true, decide_true, decide_false, eq_self]
    exact hK _ _ _ h'
  | false =>
    rw [if_neg (by simp)] at hK
    have hnow : ∀ K, evF AP (look table) (n + 6) 35 [.ptr p 0 0] (H.put p (.rows 8 [psRow vin vl vo ⟨st, at_, out, bad, place, false, false⟩])) K = K (.agg (tokRow (cur toks at_))) ((H.put p (.rows 8 [psRow vin vl vo ⟨st, at_, out, bad, place, false, false⟩])).add (.rows 5 [tokRow (cur toks at_)])) := fun K => s35 h1 hin hat
    simp only [v_pnn, v_ppn, v_qnn, v_qpn, r_slcS, r_again1, r_againN, ag_int, ag_bool, ag_str, ag_agg, r_seq, r_reg, r_op, r_op_y, r_op_n, r_op_u, r_move, r_get_v, r_get_t, r_get_c, r_lget_0, r_lget_s, r_lset_0, r_lset_s, r_kOp_t, r_kOp_v, r_kOp_o, r_kReg, r_kSeq_n, r_kSeq_e, r_kSeq_r, r_kBlk_n, r_kBlk_e, r_kBlk_r, r_kBlk_o, r_kLoop_n, r_kLoop_e, r_kLoop_r, r_ops_nil, r_bin, r_binB, r_binP, r_eql, r_neq, r_lss, r_leq, r_gtr, r_geq, r_add, r_sub, r_mul, v_eqs, v_nes, r_opt, r_pick, r_pick_t, r_pick_f, r_not, v_not, r_ret, r_exit, r_skip, r_cond_t, r_cond_f, r_block, r_loop, r_kEnd_n, r_kEnd_r, r_giveO, r_consO, r_evR_0, r_evR_o, r_evR_1, r_evR_N, r_give_0, r_give_1, r_give_2, initV, r_nilck, v_ckp, v_ckf, r_fadr, v_fadr, r_load1, rd1, rdN, v_rd0, rdRow_0, rdRow_s, r_loadN, r_store, v_wrV, v_wrA, v_rdA0, v_some, r_putK, r_alloc, r_box, r_boxK, r_build, r_aggK, fill_0, fill_s, fillK_1, putRow_0, putRow_s, c_agg, c_int, c_bool, c_str, c_slc, c_nils, c_fn, c_ptr, r_buildS, r_rowsK1, fillR_1, fillO_1, r_append, r_fld1, r_idxS, r_idxStr, r_len, v_lenS, v_lenL, v_lenN, r_slcStr, v_sub, map_some, map_none, r_call, r_callv, v_callf, r_ext, v_ext0, v_exts, r_mkfn, opds, r_conv, v_conv, llen_0, llen_s, n_of, ii_eq, ii_lt, ii_le, get_put, get_add, next_put, next_add, put_put, add_put', ne_s, ne_s', ne_ss, ne_ss', if_true, if_false, ite_self, ite_true, ite_false, Nat.zero_add, Nat.add_zero, Nat.reduceAdd, Nat.reduceLT, Nat.reduceEqDiff, Bool.not_false, Bool.not_true, decide_true, decide_false, eq_self, r17_1, h.cell, ps_w6, ps_7, hnow]
    refine s34 (h1.grow Grow.add) hin hat (t := cur toks at_) ?_
    intro H' vl' vo' h'
    unfold thenP at hK
    dsimp only at hK
    cases hok : (pPut toks (cur toks at_) ⟨st, at_, out, bad, place, false, false⟩).1 with
    | false =>
      rw [hok] at hK
      simp only [v_pnn, v_ppn, v_qnn, v_qpn, r_slcS, r_again1, r_againN, ag_int, ag_bool, ag_str, ag_agg, r_seq, r_reg, r_op, r_op_y, r_op_n, r_op_u, r_move, r_get_v, r_get_t, r_get_c, r_lget_0, r_lget_s, r_lset_0, r_lset_s, r_kOp_t, r_kOp_v, r_kOp_o, r_kReg, r_kSeq_n, r_kSeq_e, r_kSeq_r, r_kBlk_n, r_kBlk_e, r_kBlk_r, r_kBlk_o, r_kLoop_n, r_kLoop_e, r_kLoop_r, r_ops_nil, r_bin, r_binB, r_binP, r_eql, r_neq, r_lss, r_leq, r_gtr, r_geq, r_add, r_sub, r_mul, v_eqs, v_nes, r_opt, r_pick, r_pick_t, r_pick_f, r_not, v_not, r_ret, r_exit, r_skip, r_cond_t, r_cond_f, r_block, r_loop, r_kEnd_n, r_kEnd_r, r_giveO, r_consO, r_evR_0, r_evR_o, r_evR_1, r_evR_N, r_give_0, r_give_1, r_give_2, initV, r_nilck, v_ckp, v_ckf, r_fadr, v_fadr, r_load1, rd1, rdN, v_rd0, rdRow_0, rdRow_s, r_loadN, r_store, v_wrV, v_wrA, v_rdA0, v_some, r_putK, r_alloc, r_box, r_boxK, r_build, r_aggK, fill_0, fill_s, fillK_1, putRow_0, putRow_s, c_agg, c_int, c_bool, c_str, c_slc, c_nils, c_fn, c_ptr, r_buildS, r_rowsK1, fillR_1, fillO_1, r_append, r_fld1, r_idxS, r_idxStr, r_len, v_lenS, v_lenL, v_lenN, r_slcStr, v_sub, map_some, map_none, r_call, r_callv, v_callf, r_ext, v_ext0, v_exts, r_mkfn, opds, r_conv, v_conv, llen_0, llen_s, n_of, ii_eq, ii_lt, ii_le, get_put, get_add, next_put, next_add, put_put, add_put', ne_s, ne_s', ne_ss, ne_ss', if_true, if_false, ite_self, ite_true, ite_false, Nat.zero_add, Nat.add_zero, Nat.reduceAdd, Nat.reduceLT, Nat.reduceEqDiff, Bool.not_false, Bool.not_true, decide_true, decide_false, eq_self]
      exact hK _ _ _ h'
    | true =>
      rw [hok] at hK
      simp only [v_pnn, v_ppn, v_qnn, v_qpn, r_slcS, r_again1, r_againN, ag_int, ag_bool, ag_str, ag_agg, r_seq, r_reg, r_op, r_op_y, r_op_n, r_op_u, r_move, r_get_v, r_get_t, r_get_c, r_lget_0, r_lget_s, r_lset_0, r_lset_s, r_kOp_t, r_kOp_v, r_kOp_o, r_kReg, r_kSeq_n, r_kSeq_e, r_kSeq_r, r_kBlk_n, r_kBlk_e, r_kBlk_r, r_kBlk_o, r_kLoop_n, r_kLoop_e, r_kLoop_r, r_ops_nil, r_bin, r_binB, r_binP, r_eql, r_neq, r_lss, r_leq, r_gtr, r_geq, r_add, r_sub, r_mul, v_eqs, v_nes, r_opt, r_pick, r_pick_t, r_pick_f, r_not, v_not, r_ret, r_exit, r_skip, r_cond_t, r_cond_f, r_block, r_loop, r_kEnd_n, r_kEnd_r, r_giveO, r_consO, r_evR_0, r_evR_o, r_evR_1, r_evR_N, r_give_0, r_give_1, r_give_2, initV, r_nilck, v_ckp, v_ckf, r_fadr, v_fadr, r_load1, rd1, rdN, v_rd0, rdRow_0, rdRow_s, r_loadN, r_store, v_wrV, v_wrA, v_rdA0, v_some, r_putK, r_alloc, r_box, r_boxK, r_build, r_aggK, fill_0, fill_s, fillK_1, putRow_0, putRow_s, c_agg, c_int, c_bool, c_str, c_slc, c_nils, c_fn, c_ptr, r_buildS, r_rowsK1, fillR_1, fillO_1, r_append, r_fld1, r_idxS, r_idxStr, r_len, v_lenS, v_lenL, v_lenN, r_slcStr, v_sub, map_some, map_none, r_call, r_callv, v_callf, r_ext, v_ext0, v_exts, r_mkfn, opds, r_conv, v_conv, llen_0, llen_s, n_of, ii_eq, ii_lt, ii_le, get_put, get_add, next_put, next_add, put_put, add_put', ne_s, ne_s', ne_ss, ne_ss', if_true, if_false, ite_self, ite_true, ite_false, Nat.zero_add, Nat.add_zero, Nat.reduceAdd, Nat.reduceLT, Nat.reduceEqDiff, Bool.not_false, Bool.not_true, decide_true, decide_false, eq_self]
      refine s36 h' hin (by rw [pPut_at]; exact hat) (by rw [pPut_at]; exact hnext) (by rw [pPut_st]; exact hlen) hbig ?_
      intro H' vl' vo' h'
      simp only [v_pnn, v_ppn, v_qnn, v_qpn, r_slcS, r_again1, r_againN, ag_int, ag_bool, ag_str, ag_agg, r_seq, r_reg, r_op, r_op_y, r_op_n, r_op_u, r_move, r_get_v, r_get_t, r_get_c, r_lget_0, r_lget_s, r_lset_0, r_lset_s, r_kOp_t, r_kOp_v, r_kOp_o, r_kReg, r_kSeq_n, r_kSeq_e, r_kSeq_r, r_kBlk_n, r_kBlk_e, r_kBlk_r, r_kBlk_o, r_kLoop_n, r_kLoop_e, r_kLoop_r, r_ops_nil, r_bin, r_binB, r_binP, r_eql, r_neq, r_lss, r_leq, r_gtr, r_geq, r_add, r_sub, r_mul, v_eqs, v_nes, r_opt, r_pick, r_pick_t, r_pick_f, r_not, v_not, r_ret, r_exit, r_skip, r_cond_t, r_cond_f, r_block, r_loop, r_kEnd_n, r_kEnd_r, r_giveO, r_consO, r_evR_0, r_evR_o, r_evR_1, r_evR_N, r_give_0, r_give_1, r_give_2, initV, r_nilck, v_ckp, v_ckf, r_fadr, v_fadr, r_load1, rd1, rdN, v_rd0, rdRow_0, rdRow_s, r_loadN, r_store, v_wrV, v_wrA, v_rdA0, v_some, r_putK, r_alloc, r_box, r_boxK, r_build, r_aggK, fill_0, fill_s, fillK_1, putRow_0, putRow_s, c_agg, c_int, c_bool, c_str, c_slc, c_nils, c_fn, c_ptr, r_buildS, r_rowsK1, fillR_1, fillO_1, r_append, r_fld1, r_idxS, r_idxStr, r_len, v_lenS, v_lenL, v_lenN, r_slcStr, v_sub, map_some, map_none, r_call, r_callv, v_callf, r_ext, v_ext0, v_exts, r_mkfn, opds, r_conv, v_conv, llen_0, llen_s, n_of, ii_eq, ii_lt, ii_le, get_put, get_add, next_put, next_add, put_put, add_put', ne_s, ne_s', ne_ss, ne_ss', if_true, if_false, ite_self, ite_true, ite_false, Nat.zero_add, Nat.add_zero, Nat.reduceAdd, Nat.reduceLT, Nat.reduceEqDiff, Bool.not_false, Bool.not_true, decide_true, decide_false, eq_self]
      exact hK _ _ _ h'

theorem thenP_no {r : Bool × PS} {f : PS → Bool × PS} (h : r.1 = false) : thenP r f = (false, r.2) := by simp [thenP, h]
theorem thenP_yes {r : Bool × PS} {f : PS → Bool × PS} (h : r.1 = true) : thenP r f = f r.2 := by simp [thenP, h]
/-- token. -/
theorem s17 (h : PI F p vin H vl vo σ) (hin : Inp F vin toks) (hat : σ.at_ < toks.length) (hnext : opensT (cur toks σ.at_) = true → σ.at_ + 1 < toks.length) (hg : Fine σ.at_ σ.st) (hbig : toks.length ≤ 1000000)
    (hK : Post F p vin (pToken toks σ) K) :
    evF AP (look table) (n + 7) 17 [.ptr p 0 0] H K := by
  rw [r_fun look17]
  have h1 := (h.lput (σ' := { σ with done := false }) rfl rfl).loc (.rows 1 (rulesR p))
  have f1 := (h.lput (σ' := { σ with done := false }) rfl rfl).fresh
  have hin1 := hin.set (B := .rows 1 (rulesR p)) f1
  have fin : ∀ {b : Bool} {σ' : PS}, (∀ H' vl' vo', PI F p vin H' vl' vo' σ' → K (.bool b) H') → ∀ H' vl' vo', PI (F.set (H.put p (.rows 8 [psRow vin vl vo { σ with done := false }])).next (.rows 1 (rulesR p))) p vin H' vl' vo' σ' → K (.bool b) H' :=
    fun hK H' vl' vo' h' => hK _ _ _ (h'.drop f1)
  simp only [v_pnn, v_ppn, v_qnn, v_qpn, r_slcS, r_again1, r_againN, ag_int, ag_bool, ag_str, ag_agg, r_seq, r_reg, r_op, r_op_y, r_op_n, r_op_u, r_move, r_get_v, r_get_t, r_get_c, r_lget_0, r_lget_s, r_lset_0, r_lset_s, r_kOp_t, r_kOp_v, r_kOp_o, r_kReg, r_kSeq_n, r_kSeq_e, r_kSeq_r, r_kBlk_n, r_kBlk_e, r_kBlk_r, r_kBlk_o, r_kLoop_n, r_kLoop_e, r_kLoop_r, r_ops_nil, r_bin, r_binB, r_binP, r_eql, r_neq, r_lss, r_leq, r_gtr, r_geq, r_add, r_sub, r_mul, v_eqs, v_nes, r_opt, r_pick, r_pick_t, r_pick_f, r_not, v_not, r_ret, r_exit, r_skip, r_cond_t, r_cond_f, r_block, r_loop, r_kEnd_n, r_kEnd_r, r_giveO, r_consO, r_evR_0, r_evR_o, r_evR_1, r_evR_N, r_give_0, r_give_1, r_give_2, initV, r_nilck, v_ckp, v_ckf, r_fadr, v_fadr, r_load1, rd1, rdN, v_rd0, rdRow_0, rdRow_s, r_loadN, r_store, v_wrV, v_wrA, v_rdA0, v_some, r_putK, r_alloc, r_box, r_boxK, r_build, r_aggK, fill_0, fill_s, fillK_1, putRow_0, putRow_s, c_agg, c_int, c_bool, c_str, c_slc, c_nils, c_fn, c_ptr, r_buildS, r_rowsK1, fillR_1, fillO_1, r_append, r_fld1, r_idxS, r_idxStr, r_len, v_lenS, v_lenL, v_lenN, r_slcStr, v_sub, map_some, map_none, r_call, r_callv, v_callf, r_ext, v_ext0, v_exts, r_mkfn, opds, r_conv, v_conv, llen_0, llen_s, n_of, ii_eq, ii_lt, ii_le, get_put, get_add, next_put, next_add, put_put, add_put', ne_s, ne_s', ne_ss, ne_ss', if_true, if_false, ite_self, ite_true, ite_false, Nat.zero_add, Nat.add_zero, Nat.reduceAdd, Nat.reduceLT, Nat.reduceEqDiff, Bool.not_false, Bool.not_true, decide_true, decide_false, eq_self, fillR_0, fillR_s, fillRK_1, rset_0, rset_s, rlen_0, rlen_s, r_rowsK, d17, h.cell, ps_w7]
  unfold pToken pRules at hK
  generalize hσ0 : ({ σ with done := false } : PS) = σ0 at *
  have e_at : σ0.at_ = σ.at_ := by rw [← hσ0]
  have e_st : σ0.st = σ.st := by rw [← hσ0]
  obtain ⟨k1, hs1, ha1⟩ := pLine_st toks σ0
  obtain ⟨k2, hs2, ha2⟩ := pInward_st toks (pLine toks σ0).2
  obtain ⟨k3, hs3, ha3⟩ := pLast_st toks (pInward toks (pLine toks σ0).2).2
  have hg1 : Fine σ.at_ (pLine toks σ0).2.st := by rw [hs1, e_st]; exact hg.drop _
  have hg2 : Fine σ.at_ (pInward toks (pLine toks σ0).2).2.st := by rw [hs2]; exact hg1.drop _
  have hg3 : Fine σ.at_ (pLast toks (pInward toks (pLine toks σ0).2).2).2.st := by rw [hs3]; exact hg2.drop _
  have hg4 := pBrace_good toks hg3
  have ha1' : (pLine toks σ0).2.at_ = σ.at_ := by omega
  have ha2' : (pInward toks (pLine toks σ0).2).2.at_ = σ.at_ := by omega
  have ha3' : (pLast toks (pInward toks (pLine toks σ0).2).2).2.at_ = σ.at_ := by omega
  have ha4' : (pBrace toks (pLast toks (pInward toks (pLine toks σ0).2).2).2).2.at_ = σ.at_ := by rw [pBrace_at]; exact ha3'
  refine iter17 (rb := H.next) (res := pLine toks σ0) Fr.set_same h1 (i := 0) (by omega) rfl (fun K' hK' => s30 h1 hin1 (by omega) (by rw [e_st]; exact hg.1) hbig hK') ?_ ?_
  · intro hb H' vl' vo' h'
    rw [thenP_no (r := thenP (thenP (thenP _ _) _) _) (by simp [thenP, hb])] at hK
    simp only [thenP_no hb, thenP_no (r := (false, _)) rfl] at hK
    exact fin hK _ _ _ h'
  intro hb1 H1 vl1 vo1 b3 h2
  simp only [thenP_yes hb1] at hK
  refine iter17 (rb := H.next) (res := pInward toks (pLine toks σ0).2) Fr.set_same h2 (i := 1) (by omega) rfl (fun K' hK' => s31 h2 hin1 (by omega) hg1.1 hK') ?_ ?_
  · intro hb H' vl' vo' h'
    simp only [thenP_no hb, thenP_no (r := (false, _)) rfl] at hK
    exact fin hK _ _ _ h'
  intro hb2 H2 vl2 vo2 b4 h3
  simp only [thenP_yes hb2] at hK
  refine iter17 (rb := H.next) (res := pLast toks (pInward toks (pLine toks σ0).2).2) Fr.set_same h3 (i := 2) (by omega) rfl (fun K' hK' => s32 h3 hin1 (by omega) hg2.1 hK') ?_ ?_
  · intro hb H' vl' vo' h'
    simp only [thenP_no hb, thenP_no (r := (false, _)) rfl] at hK
    exact fin hK _ _ _ h'
  intro hb3 H3 vl3 vo3 b5 h4
  simp only [thenP_yes hb3] at hK
  refine iter17 (rb := H.next) (res := pBrace toks (pLast toks (pInward toks (pLine toks σ0).2).2).2) Fr.set_same h4 (i := 3) (by omega) rfl (fun K' hK' => s33 h4 hin1 (by omega) hg3.1 (fun b hb => ⟨(hg3.2 b hb).1, by have := (hg3.2 b hb).2; omega⟩) hK') ?_ ?_
  · intro hb H' vl' vo' h'
    simp only [thenP_no hb, thenP_no (r := (false, _)) rfl] at hK
    exact fin hK _ _ _ h'
  intro hb4 H4 vl4 vo4 b6 h5
  simp only [thenP_yes hb4] at hK
  obtain ⟨q, hq⟩ : ∃ q, manyRounds - 4 = q + 1 := ⟨999999995, rfl⟩
  have g : ¬ (4 < 4) := by omega
  show loopOf _ _ 999999996 _ _ _
  rw [show (999999996 : Nat) = 999999995 + 1 from rfl, r_roundN b17_0.eq_1]
  simp only [v_pnn, v_ppn, v_qnn, v_qpn, r_slcS, r_again1, r_againN, ag_int, ag_bool, ag_str, ag_agg, r_seq, r_reg, r_op, r_op_y, r_op_n, r_op_u, r_move, r_get_v, r_get_t, r_get_c, r_lget_0, r_lget_s, r_lset_0, r_lset_s, r_kOp_t, r_kOp_v, r_kOp_o, r_kReg, r_kSeq_n, r_kSeq_e, r_kSeq_r, r_kBlk_n, r_kBlk_e, r_kBlk_r, r_kBlk_o, r_kLoop_n, r_kLoop_e, r_kLoop_r, r_ops_nil, r_bin, r_binB, r_binP, r_eql, r_neq, r_lss, r_leq, r_gtr, r_geq, r_add, r_sub, r_mul, v_eqs, v_nes, r_opt, r_pick, r_pick_t, r_pick_f, r_not, v_not, r_ret, r_exit, r_skip, r_cond_t, r_cond_f, r_block, r_loop, r_kEnd_n, r_kEnd_r, r_giveO, r_consO, r_evR_0, r_evR_o, r_evR_1, r_evR_N, r_give_0, r_give_1, r_give_2, initV, r_nilck, v_ckp, v_ckf, r_fadr, v_fadr, r_load1, rd1, rdN, v_rd0, rdRow_0, rdRow_s, r_loadN, r_store, v_wrV, v_wrA, v_rdA0, v_some, r_putK, r_alloc, r_box, r_boxK, r_build, r_aggK, fill_0, fill_s, fillK_1, putRow_0, putRow_s, c_agg, c_int, c_bool, c_str, c_slc, c_nils, c_fn, c_ptr, r_buildS, r_rowsK1, fillR_1, fillO_1, r_append, r_fld1, r_idxS, r_idxStr, r_len, v_lenS, v_lenL, v_lenN, r_slcStr, v_sub, map_some, map_none, r_call, r_callv, v_callf, r_ext, v_ext0, v_exts, r_mkfn, opds, r_conv, v_conv, llen_0, llen_s, n_of, ii_eq, ii_lt, ii_le, get_put, get_add, next_put, next_add, put_put, add_put', ne_s, ne_s', ne_ss, ne_ss', if_true, if_false, ite_self, ite_true, ite_false, Nat.zero_add, Nat.add_zero, Nat.reduceAdd, Nat.reduceLT, Nat.reduceEqDiff, Bool.not_false, Bool.not_true, decide_true, decide_false, eq_self, g]
  refine end17 h5 hin1 (by omega) (by rw [ha4']; exact hnext) hg4.1 hbig (fin hK)
end
end Dt
