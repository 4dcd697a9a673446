/- A part of the abstract machine and of the proof that the program does what it reckons; no conditions. -/
import Derived.Test.YtmndopeencbamaaP7
namespace Dt
open Go
set_option linter.all false
/-- One end token, at the end. -/
def EndOk (toks : List Tok) : Prop := toks ≠ [] ∧ (cur toks (toks.length - 1)).kind = 7 ∧ ∀ i, i + 1 < toks.length → (cur toks i).kind ≠ 7
def pStart (toks : List Tok) : Bool × PS := pBegin toks ⟨false, (cur toks 0).col, false, 0⟩ (cur toks 0) 0 0 ⟨[], 0, [], 0, 0, false, false⟩
def pAll (toks : List Tok) : PS := pLoop toks toks.length (pStart toks)
/-- The answer: the tokens, where and why there are none. -/
def blocksOf (toks : List Tok) : List Tok × Nat × Nat := if (pAll toks).bad = 0 then ((pAll toks).out, 0, 0) else ([], (pAll toks).place, (pAll toks).bad)
theorem opens_kind {t : Tok} (h : opensT t = true) : t.kind = 2 := by
  simp [opensT, isW] at h
  omega
theorem EndOk.next {toks : List Tok} (h : EndOk toks) {i : Nat} (hi : i < toks.length) (ho : opensT (cur toks i) = true) : i + 1 < toks.length := by
  have hk := opens_kind ho
  rcases Nat.lt_or_ge (i + 1) toks.length with h1 | h1
  · exact h1
  · have : i = toks.length - 1 := by omega
    rw [this, h.2.1] at hk
    omega
section
variable (toks : List Tok)
theorem thenP_inv {r : Bool × PS} {f : PS → Bool × PS} (P : PS → Prop) (h1 : r.1 = true → P (f r.2).2) (h2 : r.1 = false → P r.2) : P (thenP r f).2 := by
  unfold thenP
  cases h : r.1 with
  | true => rw [if_pos rfl]; exact h1 h
  | false => rw [if_neg (by simp)]; exact h2 h
theorem pSign_st {k n c : Nat} {t : Tok} {σ : PS} : (pSign toks k n c t σ).2.st = σ.st := pPut_st toks
theorem pSign_at {k n c : Nat} {t : Tok} {σ : PS} : (pSign toks k n c t σ).2.at_ = σ.at_ := pPut_at toks
theorem pBegin_good {m : Nat} {b : Bl} {t : Tok} {n c : Nat} {σ : PS} (h : Fine m σ.st) (hb : b.braces = 0) : Fine m (pBegin toks b t n c σ).2.st ∧ (pBegin toks b t n c σ).2.at_ = σ.at_ := by
  unfold pBegin
  split
  · exact ⟨h, rfl⟩
  · refine ⟨?_, pSign_at toks⟩
    rw [pSign_st]
    refine ⟨by have := h.1; simp; omega, fun d hd => ?_⟩
    rcases List.mem_cons.1 hd with rfl | hd
    · rw [hb]; omega
    · exact h.2 d hd
theorem pBehind_good {m : Nat} {σ : PS} (h : Fine m σ.st) : Fine m (pBehind toks σ).2.st ∧ σ.at_ ≤ (pBehind toks σ).2.at_ ∧ (pBehind toks σ).2.at_ ≤ σ.at_ + 1 ∧ ((pBehind toks σ).2.at_ = σ.at_ + 1 → opensT (cur toks σ.at_) = true) := by
  unfold pBehind
  split
  · rename_i ho
    split
    · have := pBegin_good toks (σ := { σ with at_ := σ.at_ + 1 }) (b := ⟨true, 0, false, 0⟩) (t := cur toks (σ.at_ + 1)) (n := (cur toks (σ.at_ + 1)).tn) (c := (cur toks (σ.at_ + 1)).tc) h rfl
      exact ⟨this.1, by rw [this.2]; simp, by rw [this.2]; simp, fun _ => ho⟩
    split
    · split
      · rw [pSign_st, pSign_st, pSign_at, pSign_at]
        exact ⟨h, Nat.le_refl _, by omega, fun _ => ho⟩
      · dsimp only
        rw [pSign_st, pSign_at]
        exact ⟨h, Nat.le_refl _, by omega, fun _ => ho⟩
    · have := pBegin_good toks (σ := { σ with first := true }) (b := ⟨false, (cur toks (σ.at_ + 1)).col, isW (cur toks σ.at_) 3 7628140, 0⟩) (t := cur toks (σ.at_ + 1)) (n := 0) (c := 0) h rfl
      exact ⟨this.1, by rw [this.2]; simp, by rw [this.2]; simp, fun _ => ho⟩
  · exact ⟨h, Nat.le_refl _, Nat.le_succ _, fun h => absurd h (by dsimp only; omega)⟩
theorem pPutCur_good {m : Nat} {σ : PS} (h : Fine m σ.st) : Fine m (pPutCur toks σ).2.st ∧ (pPutCur toks σ).2.at_ = σ.at_ := by
  unfold pPutCur
  split
  · exact ⟨h, rfl⟩
  · rw [pPut_st, pPut_at]
    exact ⟨h, rfl⟩
theorem pRules_good {m : Nat} {σ : PS} (h : Fine m σ.st) : Fine (m + 1) (pRules toks σ).2.st ∧ (pRules toks σ).2.at_ = σ.at_ := by
  have up : ∀ st, Fine m st → Fine (m + 1) st := fun st h => ⟨h.1, fun b hb => ⟨(h.2 b hb).1, by have := (h.2 b hb).2; omega⟩⟩
  have h1 : Fine m (pLine toks σ).2.st ∧ (pLine toks σ).2.at_ = σ.at_ := by
    obtain ⟨k, hs, ha⟩ := pLine_st toks σ
    exact ⟨by rw [hs]; exact h.drop _, ha⟩
  have h2 : Fine m (thenP (pLine toks σ) (pInward toks)).2.st ∧ (thenP (pLine toks σ) (pInward toks)).2.at_ = σ.at_ := by
    refine thenP_inv (fun s => Fine m s.st ∧ s.at_ = σ.at_) (fun _ => ?_) (fun _ => h1)
    obtain ⟨k, hs, ha⟩ := pInward_st toks (pLine toks σ).2
    exact ⟨by rw [hs]; exact h1.1.drop _, ha.trans h1.2⟩
  have h3 : Fine m (thenP (thenP (pLine toks σ) (pInward toks)) (pLast toks)).2.st ∧ (thenP (thenP (pLine toks σ) (pInward toks)) (pLast toks)).2.at_ = σ.at_ := by
    refine thenP_inv (fun s => Fine m s.st ∧ s.at_ = σ.at_) (fun _ => ?_) (fun _ => h2)
    obtain ⟨k, hs, ha⟩ := pLast_st toks (thenP (pLine toks σ) (pInward toks)).2
    exact ⟨by rw [hs]; exact h2.1.drop _, ha.trans h2.2⟩
  refine thenP_inv (fun s => Fine (m + 1) s.st ∧ s.at_ = σ.at_) (fun _ => ?_) (fun _ => ⟨up _ h3.1, h3.2⟩)
  exact ⟨pBrace_good toks h3.1, (pBrace_at toks _).trans h3.2⟩
theorem pToken_good {m : Nat} {σ : PS} (h : Fine m σ.st) : Fine (m + 1) (pToken toks σ).2.st ∧ σ.at_ ≤ (pToken toks σ).2.at_ ∧ (pToken toks σ).2.at_ ≤ σ.at_ + 1 ∧ ((pToken toks σ).2.at_ = σ.at_ + 1 → opensT (cur toks σ.at_) = true) := by
  have h1 := pRules_good toks (σ := { σ with done := false }) h
  have h2 : Fine (m + 1) (thenP (pRules toks { σ with done := false }) (pPutCur toks)).2.st ∧ (thenP (pRules toks { σ with done := false }) (pPutCur toks)).2.at_ = σ.at_ := by
    refine thenP_inv (fun s => Fine (m + 1) s.st ∧ s.at_ = σ.at_) (fun _ => ?_) (fun _ => h1)
    have := pPutCur_good toks h1.1
    exact ⟨this.1, this.2.trans h1.2⟩
  refine thenP_inv (fun s => Fine (m + 1) s.st ∧ σ.at_ ≤ s.at_ ∧ s.at_ ≤ σ.at_ + 1 ∧ (s.at_ = σ.at_ + 1 → opensT (cur toks σ.at_) = true)) (fun _ => ?_) (fun _ => ⟨h2.1, by rw [h2.2]; omega, by rw [h2.2]; omega, fun e => by rw [h2.2] at e; omega⟩)
  have := pBehind_good toks h2.1
  rw [h2.2] at this
  exact this
end
section
variable {F : Fr} {p : Nat} {vin vl vo : AVal} {H : Heap} {σ : PS} {toks : List Tok} {K : AVal → Heap → Prop} {n : Nat}
theorem loop8_0 {vin2 : AVal} {cnt : Nat} (hv2 : ∀ i, i < cnt → idxV 5 vin2 (.int .i64 (i : Int)) = idxV 5 vin (.int .i64 (i : Int))) (hin : Inp F vin toks) (hcnt : cnt ≤ toks.length) (hbig : toks.length ≤ 1000000) (hk : ∀ i, i < cnt → (cur toks i).kind ≠ 7) {KK : KP} {a5 a6 : AVal} : ∀ (m i r : Nat) (H : Heap) (a4 : AVal), Sees F H → i + m = cnt → m < r →
    (∀ ts a4 H', Grow H H' → KK (.exit 0) [vin, .nils, .int .i64 ((0 : Nat) : Int), .int .i64 ((0 : Nat) : Int), a4, a5, a6, vin2, .int .i64 (cnt : Int), .int .i64 (cnt : Int)] ts H') →
    loopOf (evF AP (look table) n) b8_0 r [vin, .nils, .int .i64 ((0 : Nat) : Int), .int .i64 ((0 : Nat) : Int), a4, a5, a6, vin2, .int .i64 (cnt : Int), .int .i64 (i : Int)] H KK := by
  intro m
  induction m with
  | zero =>
    intro i r H a4 hs hi hr hK
    obtain ⟨r, rfl⟩ : ∃ m, r = m + 1 := ⟨r - 1, by omega⟩
    obtain rfl : i = cnt := by omega
    have g : ¬ (i < i) := by omega
    rw [r_roundN b8_0.eq_1]
    simp only [v_pnn, v_ppn, v_qnn, v_qpn, r_slcS, r_again1, r_againN, ag_int, ag_bool, ag_str, ag_agg, r_seq, r_reg, r_op, r_op_y, r_op_n, r_op_u, r_move, r_get_v, r_get_t, r_get_c, r_lget_0, r_lget_s, r_lset_0, r_lset_s, r_kOp_t, r_kOp_v, r_kOp_o, r_kReg, r_kSeq_n, r_kSeq_e, r_kSeq_r, r_kBlk_n, r_kBlk_e, r_kBlk_r, r_kBlk_o, r_kLoop_n, r_kLoop_e, r_kLoop_r, r_ops_nil, r_bin, r_binB, r_binP, r_eql, r_neq, r_lss, r_leq, r_gtr, r_geq, r_add, r_sub, r_mul, v_eqs, v_nes, r_opt, r_pick, r_pick_t, r_pick_f, r_not, v_not, r_ret, r_exit, r_skip, r_cond_t, r_cond_f, r_block, r_loop, r_kEnd_n, r_kEnd_r, r_giveO, r_consO, r_evR_0, r_evR_o, r_evR_1, r_evR_N, r_give_0, r_give_1, r_give_2, initV, r_nilck, v_ckp, v_ckf, r_fadr, v_fadr, r_load1, rd1, rdN, v_rd0, rdRow_0, rdRow_s, r_loadN, r_store, v_wrV, v_wrA, v_rdA0, v_some, r_putK, r_alloc, r_box, r_boxK, r_build, r_aggK, fill_0, fill_s, fillK_1, putRow_0, putRow_s, c_agg, c_int, c_bool, c_str, c_slc, c_nils, c_fn, c_ptr, r_buildS, r_rowsK1, fillR_1, fillO_1, r_append, r_fld1, r_idxS, r_idxStr, r_len, v_lenS, v_lenL, v_lenN, r_slcStr, v_sub, map_some, map_none, r_call, r_callv, v_callf, r_ext, v_ext0, v_exts, r_mkfn, opds, r_conv, v_conv, llen_0, llen_s, n_of, ii_eq, ii_lt, ii_le, get_put, get_add, next_put, next_add, put_put, add_put', ne_s, ne_s', ne_ss, ne_ss', if_true, if_false, ite_self, ite_true, ite_false, Nat.zero_add, Nat.add_zero, Nat.reduceAdd, Nat.reduceLT, Nat.reduceEqDiff, Bool.not_false, Bool.not_true, decide_true, decide_false, eq_self, g]
    exact hK _ _ _ (Grow.refl _)
  | succ m ih =>
    intro i r H a4 hs hi hr hK
    obtain ⟨r, rfl⟩ : ∃ m, r = m + 1 := ⟨r - 1, by omega⟩
    have g : i < cnt := by omega
    obtain ⟨b, q, z, R, i1, i2, i3, i4⟩ := hin.at hs (k := .i64) (i := i) (by omega)
    have iA : rdCN 5 (.rows z R) q 0 = some (.agg (tokRow (cur toks i))) := v_rdA i3 tk_len
    have gw : IntKind.i64.wrap ((i : Int) + ((1 : Nat) : Int)) = ((i + 1 : Nat) : Int) := w_add (by omega)
    rw [r_roundN b8_0.eq_1]
    simp only [v_pnn, v_ppn, v_qnn, v_qpn, r_slcS, r_again1, r_againN, ag_int, ag_bool, ag_str, ag_agg, r_seq, r_reg, r_op, r_op_y, r_op_n, r_op_u, r_move, r_get_v, r_get_t, r_get_c, r_lget_0, r_lget_s, r_lset_0, r_lset_s, r_kOp_t, r_kOp_v, r_kOp_o, r_kReg, r_kSeq_n, r_kSeq_e, r_kSeq_r, r_kBlk_n, r_kBlk_e, r_kBlk_r, r_kBlk_o, r_kLoop_n, r_kLoop_e, r_kLoop_r, r_ops_nil, r_bin, r_binB, r_binP, r_eql, r_neq, r_lss, r_leq, r_gtr, r_geq, r_add, r_sub, r_mul, v_eqs, v_nes, r_opt, r_pick, r_pick_t, r_pick_f, r_not, v_not, r_ret, r_exit, r_skip, r_cond_t, r_cond_f, r_block, r_loop, r_kEnd_n, r_kEnd_r, r_giveO, r_consO, r_evR_0, r_evR_o, r_evR_1, r_evR_N, r_give_0, r_give_1, r_give_2, initV, r_nilck, v_ckp, v_ckf, r_fadr, v_fadr, r_load1, rd1, rdN, v_rd0, rdRow_0, rdRow_s, r_loadN, r_store, v_wrV, v_wrA, v_rdA0, v_some, r_putK, r_alloc, r_box, r_boxK, r_build, r_aggK, fill_0, fill_s, fillK_1, putRow_0, putRow_s, c_agg, c_int, c_bool, c_str, c_slc, c_nils, c_fn, c_ptr, r_buildS, r_rowsK1, fillR_1, fillO_1, r_append, r_fld1, r_idxS, r_idxStr, r_len, v_lenS, v_lenL, v_lenN, r_slcStr, v_sub, map_some, map_none, r_call, r_callv, v_callf, r_ext, v_ext0, v_exts, r_mkfn, opds, r_conv, v_conv, llen_0, llen_s, n_of, ii_eq, ii_lt, ii_le, get_put, get_add, next_put, next_add, put_put, add_put', ne_s, ne_s', ne_ss, ne_ss', if_true, if_false, ite_self, ite_true, ite_false, Nat.zero_add, Nat.add_zero, Nat.reduceAdd, Nat.reduceLT, Nat.reduceEqDiff, Bool.not_false, Bool.not_true, decide_true, decide_false, eq_self, tk_f0, tk_f1, tk_f2, tok_blk, tok_agg, tk_0, tk_1, tk_2, tk_3, tk_4, tk_len, tk_same, tk_w0, tk_w1, g, hv2 i g, i1, i2, iA, hk i g, gw]
    exact ih (i + 1) r _ _ (hs.grow Grow.add) (by omega) (by omega) (fun ts a4 H' g' => hK _ _ _ (Grow.add.trans g'))

theorem loop8 (hin : Inp F vin toks) (hend : EndOk toks) (hbig : toks.length ≤ 1000000) {KK : KP} {a4 a7 a8 a9 : AVal} : ∀ (m r : Nat) (ok : Bool) (σ : PS) (H : Heap) (vl vo : AVal), PI F p vin H vl vo σ → (ok = true → Fine σ.at_ σ.st ∧ σ.at_ ≤ toks.length) → σ.at_ ≤ toks.length + 1 → toks.length ≤ m + σ.at_ → m < r →
    (∀ ts ok' H' vl' vo', PI F p vin H' vl' vo' (pLoop toks m (ok, σ)) → KK (.exit 2) [vin, .nils, .int .i64 ((0 : Nat) : Int), .int .i64 ((0 : Nat) : Int), a4, .ptr p 0 0, .bool ok', a7, a8, a9] ts H') →
    loopOf (evF AP (look table) (n + 7)) b8_1 r [vin, .nils, .int .i64 ((0 : Nat) : Int), .int .i64 ((0 : Nat) : Int), a4, .ptr p 0 0, .bool ok, a7, a8, a9] H KK := by
  intro m
  induction m with
  | zero =>
    intro r ok σ H vl vo h hg hat hm hr hK
    obtain ⟨r, rfl⟩ : ∃ m, r = m + 1 := ⟨r - 1, by omega⟩
    have hlen : lenV false vin = some (.int .i64 (toks.length : Int)) := by obtain ⟨b, q, z, R, rfl, _⟩ := hin; rfl
    rw [r_roundN b8_1.eq_1]
    cases ok with
    | false =>
      simp only [v_pnn, v_ppn, v_qnn, v_qpn, r_slcS, r_again1, r_againN, ag_int, ag_bool, ag_str, ag_agg, r_seq, r_reg, r_op, r_op_y, r_op_n, r_op_u, r_move, r_get_v, r_get_t, r_get_c, r_lget_0, r_lget_s, r_lset_0, r_lset_s, r_kOp_t, r_kOp_v, r_kOp_o, r_kReg, r_kSeq_n, r_kSeq_e, r_kSeq_r, r_kBlk_n, r_kBlk_e, r_kBlk_r, r_kBlk_o, r_kLoop_n, r_kLoop_e, r_kLoop_r, r_ops_nil, r_bin, r_binB, r_binP, r_eql, r_neq, r_lss, r_leq, r_gtr, r_geq, r_add, r_sub, r_mul, v_eqs, v_nes, r_opt, r_pick, r_pick_t, r_pick_f, r_not, v_not, r_ret, r_exit, r_skip, r_cond_t, r_cond_f, r_block, r_loop, r_kEnd_n, r_kEnd_r, r_giveO, r_consO, r_evR_0, r_evR_o, r_evR_1, r_evR_N, r_give_0, r_give_1, r_give_2, initV, r_nilck, v_ckp, v_ckf, r_fadr, v_fadr, r_load1, rd1, rdN, v_rd0, rdRow_0, rdRow_s, r_loadN, r_store, v_wrV, v_wrA, v_rdA0, v_some, r_putK, r_alloc, r_box, r_boxK, r_build, r_aggK, fill_0, fill_s, fillK_1, putRow_0, putRow_s, c_agg, c_int, c_bool, c_str, c_slc, c_nils, c_fn, c_ptr, r_buildS, r_rowsK1, fillR_1, fillO_1, r_append, r_fld1, r_idxS, r_idxStr, r_len, v_lenS, v_lenL, v_lenN, r_slcStr, v_sub, map_some, map_none, r_call, r_callv, v_callf, r_ext, v_ext0, v_exts, r_mkfn, opds, r_conv, v_conv, llen_0, llen_s, n_of, ii_eq, ii_lt, ii_le, get_put, get_add, next_put, next_add, put_put, add_put', ne_s, ne_s', ne_ss, ne_ss', if_true, if_false, ite_self, ite_true, ite_false, Nat.zero_add, Nat.add_zero, Nat.reduceAdd, Nat.reduceLT, Nat.reduceEqDiff, Bool.not_false, Bool.not_true, decide_true, decide_false, eq_self]
      exact hK _ _ _ _ _ h
    | true =>
      have g : ¬ σ.at_ < toks.length := by omega
      simp only [v_pnn, v_ppn, v_qnn, v_qpn, r_slcS, r_again1, r_againN, ag_int, ag_bool, ag_str, ag_agg, r_seq, r_reg, r_op, r_op_y, r_op_n, r_op_u, r_move, r_get_v, r_get_t, r_get_c, r_lget_0, r_lget_s, r_lset_0, r_lset_s, r_kOp_t, r_kOp_v, r_kOp_o, r_kReg, r_kSeq_n, r_kSeq_e, r_kSeq_r, r_kBlk_n, r_kBlk_e, r_kBlk_r, r_kBlk_o, r_kLoop_n, r_kLoop_e, r_kLoop_r, r_ops_nil, r_bin, r_binB, r_binP, r_eql, r_neq, r_lss, r_leq, r_gtr, r_geq, r_add, r_sub, r_mul, v_eqs, v_nes, r_opt, r_pick, r_pick_t, r_pick_f, r_not, v_not, r_ret, r_exit, r_skip, r_cond_t, r_cond_f, r_block, r_loop, r_kEnd_n, r_kEnd_r, r_giveO, r_consO, r_evR_0, r_evR_o, r_evR_1, r_evR_N, r_give_0, r_give_1, r_give_2, initV, r_nilck, v_ckp, v_ckf, r_fadr, v_fadr, r_load1, rd1, rdN, v_rd0, rdRow_0, rdRow_s, r_loadN, r_store, v_wrV, v_wrA, v_rdA0, v_some, r_putK, r_alloc, r_box, r_boxK, r_build, r_aggK, fill_0, fill_s, fillK_1, putRow_0, putRow_s, c_agg, c_int, c_bool, c_str, c_slc, c_nils, c_fn, c_ptr, r_buildS, r_rowsK1, fillR_1, fillO_1, r_append, r_fld1, r_idxS, r_idxStr, r_len, v_lenS, v_lenL, v_lenN, r_slcStr, v_sub, map_some, map_none, r_call, r_callv, v_callf, r_ext, v_ext0, v_exts, r_mkfn, opds, r_conv, v_conv, llen_0, llen_s, n_of, ii_eq, ii_lt, ii_le, get_put, get_add, next_put, next_add, put_put, add_put', ne_s, ne_s', ne_ss, ne_ss', if_true, if_false, ite_self, ite_true, ite_false, Nat.zero_add, Nat.add_zero, Nat.reduceAdd, Nat.reduceLT, Nat.reduceEqDiff, Bool.not_false, Bool.not_true, decide_true, decide_false, eq_self, h.cell, ps_2, hlen, g]
      exact hK _ _ _ _ _ h
  | succ m ih =>
    intro r ok σ H vl vo h hg hat hm hr hK
    obtain ⟨r, rfl⟩ : ∃ m, r = m + 1 := ⟨r - 1, by omega⟩
    have hlen : lenV false vin = some (.int .i64 (toks.length : Int)) := by obtain ⟨b, q, z, R, rfl, _⟩ := hin; rfl
    rw [r_roundN b8_1.eq_1]
    unfold pLoop at hK
    cases ok with
    | false =>
      rw [if_neg (by simp)] at hK
      simp only [v_pnn, v_ppn, v_qnn, v_qpn, r_slcS, r_again1, r_againN, ag_int, ag_bool, ag_str, ag_agg, r_seq, r_reg, r_op, r_op_y, r_op_n, r_op_u, r_move, r_get_v, r_get_t, r_get_c, r_lget_0, r_lget_s, r_lset_0, r_lset_s, r_kOp_t, r_kOp_v, r_kOp_o, r_kReg, r_kSeq_n, r_kSeq_e, r_kSeq_r, r_kBlk_n, r_kBlk_e, r_kBlk_r, r_kBlk_o, r_kLoop_n, r_kLoop_e, r_kLoop_r, r_ops_nil, r_bin, r_binB, r_binP, r_eql, r_neq, r_lss, r_leq, r_gtr, r_geq, r_add, r_sub, r_mul, v_eqs, v_nes, r_opt, r_pick, r_pick_t, r_pick_f, r_not, v_not, r_ret, r_exit, r_skip, r_cond_t, r_cond_f, r_block, r_loop, r_kEnd_n, r_kEnd_r, r_giveO, r_consO, r_evR_0, r_evR_o, r_evR_1, r_evR_N, r_give_0, r_give_1, r_give_2, initV, r_nilck, v_ckp, v_ckf, r_fadr, v_fadr, r_load1, rd1, rdN, v_rd0, rdRow_0, rdRow_s, r_loadN, r_store, v_wrV, v_wrA, v_rdA0, v_some, r_putK, r_alloc, r_box, r_boxK, r_build, r_aggK, fill_0, fill_s, fillK_1, putRow_0, putRow_s, c_agg, c_int, c_bool, c_str, c_slc, c_nils, c_fn, c_ptr, r_buildS, r_rowsK1, fillR_1, fillO_1, r_append, r_fld1, r_idxS, r_idxStr, r_len, v_lenS, v_lenL, v_lenN, r_slcStr, v_sub, map_some, map_none, r_call, r_callv, v_callf, r_ext, v_ext0, v_exts, r_mkfn, opds, r_conv, v_conv, llen_0, llen_s, n_of, ii_eq, ii_lt, ii_le, get_put, get_add, next_put, next_add, put_put, add_put', ne_s, ne_s', ne_ss, ne_ss', if_true, if_false, ite_self, ite_true, ite_false, Nat.zero_add, Nat.add_zero, Nat.reduceAdd, Nat.reduceLT, Nat.reduceEqDiff, Bool.not_false, Bool.not_true, decide_true, decide_false, eq_self]
      exact hK _ _ _ _ _ h
    | true =>
      by_cases g : σ.at_ < toks.length
      · rw [if_pos ⟨rfl, g⟩] at hK
        obtain ⟨hg1, _⟩ := hg rfl
        obtain ⟨t1, t2, t3, t4⟩ := pToken_good toks hg1
        have hnx := fun ho => hend.next g ho
        simp only [v_pnn, v_ppn, v_qnn, v_qpn, r_slcS, r_again1, r_againN, ag_int, ag_bool, ag_str, ag_agg, r_seq, r_reg, r_op, r_op_y, r_op_n, r_op_u, r_move, r_get_v, r_get_t, r_get_c, r_lget_0, r_lget_s, r_lset_0, r_lset_s, r_kOp_t, r_kOp_v, r_kOp_o, r_kReg, r_kSeq_n, r_kSeq_e, r_kSeq_r, r_kBlk_n, r_kBlk_e, r_kBlk_r, r_kBlk_o, r_kLoop_n, r_kLoop_e, r_kLoop_r, r_ops_nil, r_bin, r_binB, r_binP, r_eql, r_neq, r_lss, r_leq, r_gtr, r_geq, r_add, r_sub, r_mul, v_eqs, v_nes, r_opt, r_pick, r_pick_t, r_pick_f, r_not, v_not, r_ret, r_exit, r_skip, r_cond_t, r_cond_f, r_block, r_loop, r_kEnd_n, r_kEnd_r, r_giveO, r_consO, r_evR_0, r_evR_o, r_evR_1, r_evR_N, r_give_0, r_give_1, r_give_2, initV, r_nilck, v_ckp, v_ckf, r_fadr, v_fadr, r_load1, rd1, rdN, v_rd0, rdRow_0, rdRow_s, r_loadN, r_store, v_wrV, v_wrA, v_rdA0, v_some, r_putK, r_alloc, r_box, r_boxK, r_build, r_aggK, fill_0, fill_s, fillK_1, putRow_0, putRow_s, c_agg, c_int, c_bool, c_str, c_slc, c_nils, c_fn, c_ptr, r_buildS, r_rowsK1, fillR_1, fillO_1, r_append, r_fld1, r_idxS, r_idxStr, r_len, v_lenS, v_lenL, v_lenN, r_slcStr, v_sub, map_some, map_none, r_call, r_callv, v_callf, r_ext, v_ext0, v_exts, r_mkfn, opds, r_conv, v_conv, llen_0, llen_s, n_of, ii_eq, ii_lt, ii_le, get_put, get_add, next_put, next_add, put_put, add_put', ne_s, ne_s', ne_ss, ne_ss', if_true, if_false, ite_self, ite_true, ite_false, Nat.zero_add, Nat.add_zero, Nat.reduceAdd, Nat.reduceLT, Nat.reduceEqDiff, Bool.not_false, Bool.not_true, decide_true, decide_false, eq_self, h.cell, ps_2, hlen, g]
        refine s17 h hin g hnx hg1 hbig ?_
        intro H' vl' vo' h'
        have gw : IntKind.i64.wrap (((pToken toks σ).2.at_ : Int) + ((1 : Nat) : Int)) = (((pToken toks σ).2.at_ + 1 : Nat) : Int) := w_add (by omega)
        simp only [v_pnn, v_ppn, v_qnn, v_qpn, r_slcS, r_again1, r_againN, ag_int, ag_bool, ag_str, ag_agg, r_seq, r_reg, r_op, r_op_y, r_op_n, r_op_u, r_move, r_get_v, r_get_t, r_get_c, r_lget_0, r_lget_s, r_lset_0, r_lset_s, r_kOp_t, r_kOp_v, r_kOp_o, r_kReg, r_kSeq_n, r_kSeq_e, r_kSeq_r, r_kBlk_n, r_kBlk_e, r_kBlk_r, r_kBlk_o, r_kLoop_n, r_kLoop_e, r_kLoop_r, r_ops_nil, r_bin, r_binB, r_binP, r_eql, r_neq, r_lss, r_leq, r_gtr, r_geq, r_add, r_sub, r_mul, v_eqs, v_nes, r_opt, r_pick, r_pick_t, r_pick_f, r_not, v_not, r_ret, r_exit, r_skip, r_cond_t, r_cond_f, r_block, r_loop, r_kEnd_n, r_kEnd_r, r_giveO, r_consO, r_evR_0, r_evR_o, r_evR_1, r_evR_N, r_give_0, r_give_1, r_give_2, initV, r_nilck, v_ckp, v_ckf, r_fadr, v_fadr, r_load1, rd1, rdN, v_rd0, rdRow_0, rdRow_s, r_loadN, r_store, v_wrV, v_wrA, v_rdA0, v_some, r_putK, r_alloc, r_box, r_boxK, r_build, r_aggK, fill_0, fill_s, fillK_1, putRow_0, putRow_s, c_agg, c_int, c_bool, c_str, c_slc, c_nils, c_fn, c_ptr, r_buildS, r_rowsK1, fillR_1, fillO_1, r_append, r_fld1, r_idxS, r_idxStr, r_len, v_lenS, v_lenL, v_lenN, r_slcStr, v_sub, map_some, map_none, r_call, r_callv, v_callf, r_ext, v_ext0, v_exts, r_mkfn, opds, r_conv, v_conv, llen_0, llen_s, n_of, ii_eq, ii_lt, ii_le, get_put, get_add, next_put, next_add, put_put, add_put', ne_s, ne_s', ne_ss, ne_ss', if_true, if_false, ite_self, ite_true, ite_false, Nat.zero_add, Nat.add_zero, Nat.reduceAdd, Nat.reduceLT, Nat.reduceEqDiff, Bool.not_false, Bool.not_true, decide_true, decide_false, eq_self, h'.cell, ps_2, gw, ps_w2]
        have hat' : (pToken toks σ).2.at_ + 1 ≤ toks.length := by
          rcases Nat.lt_or_ge (pToken toks σ).2.at_ (σ.at_ + 1) with h1 | h1
          · omega
          · have := hnx (t4 (by omega)); omega
        refine ih r _ { (pToken toks σ).2 with at_ := (pToken toks σ).2.at_ + 1 } _ _ _ (h'.lput rfl rfl) (fun _ => ⟨⟨t1.1, fun b hb => ⟨(t1.2 b hb).1, ?_⟩⟩, hat'⟩) (Nat.le_succ_of_le hat') ?_ (by omega) hK
        · have := (t1.2 b hb).2
          dsimp only
          omega
        · dsimp only
          omega
      · rw [if_neg (by simp [g])] at hK
        simp only [v_pnn, v_ppn, v_qnn, v_qpn, r_slcS, r_again1, r_againN, ag_int, ag_bool, ag_str, ag_agg, r_seq, r_reg, r_op, r_op_y, r_op_n, r_op_u, r_move, r_get_v, r_get_t, r_get_c, r_lget_0, r_lget_s, r_lset_0, r_lset_s, r_kOp_t, r_kOp_v, r_kOp_o, r_kReg, r_kSeq_n, r_kSeq_e, r_kSeq_r, r_kBlk_n, r_kBlk_e, r_kBlk_r, r_kBlk_o, r_kLoop_n, r_kLoop_e, r_kLoop_r, r_ops_nil, r_bin, r_binB, r_binP, r_eql, r_neq, r_lss, r_leq, r_gtr, r_geq, r_add, r_sub, r_mul, v_eqs, v_nes, r_opt, r_pick, r_pick_t, r_pick_f, r_not, v_not, r_ret, r_exit, r_skip, r_cond_t, r_cond_f, r_block, r_loop, r_kEnd_n, r_kEnd_r, r_giveO, r_consO, r_evR_0, r_evR_o, r_evR_1, r_evR_N, r_give_0, r_give_1, r_give_2, initV, r_nilck, v_ckp, v_ckf, r_fadr, v_fadr, r_load1, rd1, rdN, v_rd0, rdRow_0, rdRow_s, r_loadN, r_store, v_wrV, v_wrA, v_rdA0, v_some, r_putK, r_alloc, r_box, r_boxK, r_build, r_aggK, fill_0, fill_s, fillK_1, putRow_0, putRow_s, c_agg, c_int, c_bool, c_str, c_slc, c_nils, c_fn, c_ptr, r_buildS, r_rowsK1, fillR_1, fillO_1, r_append, r_fld1, r_idxS, r_idxStr, r_len, v_lenS, v_lenL, v_lenN, r_slcStr, v_sub, map_some, map_none, r_call, r_callv, v_callf, r_ext, v_ext0, v_exts, r_mkfn, opds, r_conv, v_conv, llen_0, llen_s, n_of, ii_eq, ii_lt, ii_le, get_put, get_add, next_put, next_add, put_put, add_put', ne_s, ne_s', ne_ss, ne_ss', if_true, if_false, ite_self, ite_true, ite_false, Nat.zero_add, Nat.add_zero, Nat.reduceAdd, Nat.reduceLT, Nat.reduceEqDiff, Bool.not_false, Bool.not_true, decide_true, decide_false, eq_self, h.cell, ps_2, hlen, g]
        exact hK _ _ _ _ _ h

theorem PI.inj {vl' vo' : AVal} (h : PI F p vin H vl vo σ) : Sl F H vo 5 (σ.out.map tokRow) := h.out
/-- Blocks. -/
theorem s8 {H : Heap} (hin : Inp H.all vin toks) (hend : EndOk toks) (hbig : toks.length ≤ 1000000)
    (hK : ∀ H' v', Grow H H' → Sl H.all H' v' 5 ((blocksOf toks).1.map tokRow) → K (.tup [v', .int .i64 ((blocksOf toks).2.1 : Int), .int .i64 ((blocksOf toks).2.2 : Int)]) H') :
    evF AP (look table) (n + 8) 8 [vin] H K := by
  rw [r_fun look8]
  have hne : 0 < toks.length := List.length_pos_iff.2 hend.1
  have hlen : lenV false vin = some (.int .i64 (toks.length : Int)) := by obtain ⟨b, q, z, R, rfl, _⟩ := hin; rfl
  have hs := Sees.all H
  obtain ⟨b, q, z, R, i1, i2, i3, i4⟩ := hin.at hs (k := .i64) (i := toks.length - 1) (by omega)
  have iA : rdC1 (.rows z R) q 0 = some (.int .i64 ((cur toks (toks.length - 1)).kind : Int)) := by rw [v_rd i3]; rfl
  obtain ⟨vin2, e2, hv2⟩ : ∃ vin2, slV 5 vin none (some (.int .i64 ((toks.length - 1 : Nat) : Int))) = some vin2 ∧ lenV false vin2 = some (.int .i64 ((toks.length - 1 : Nat) : Int)) ∧ ∀ i, i < toks.length - 1 → idxV 5 vin2 (.int .i64 (i : Int)) = idxV 5 vin (.int .i64 (i : Int)) := by
    obtain ⟨b, q, z, R, rfl, _⟩ := hin
    refine ⟨_, slV_hi (by omega), rfl, ?_⟩
    intro i hi
    rw [v_idx hi, v_idx (by omega)]
  obtain ⟨hl2, hv2⟩ := hv2
  have g0 : ¬ (toks.length = 0) := by omega
  have gw : IntKind.i64.wrap ((toks.length : Int) - ((1 : Nat) : Int)) = ((toks.length - 1 : Nat) : Int) := w_sub (by omega) (by omega)
  simp only [v_pnn, v_ppn, v_qnn, v_qpn, r_slcS, r_again1, r_againN, ag_int, ag_bool, ag_str, ag_agg, r_seq, r_reg, r_op, r_op_y, r_op_n, r_op_u, r_move, r_get_v, r_get_t, r_get_c, r_lget_0, r_lget_s, r_lset_0, r_lset_s, r_kOp_t, r_kOp_v, r_kOp_o, r_kReg, r_kSeq_n, r_kSeq_e, r_kSeq_r, r_kBlk_n, r_kBlk_e, r_kBlk_r, r_kBlk_o, r_kLoop_n, r_kLoop_e, r_kLoop_r, r_ops_nil, r_bin, r_binB, r_binP, r_eql, r_neq, r_lss, r_leq, r_gtr, r_geq, r_add, r_sub, r_mul, v_eqs, v_nes, r_opt, r_pick, r_pick_t, r_pick_f, r_not, v_not, r_ret, r_exit, r_skip, r_cond_t, r_cond_f, r_block, r_loop, r_kEnd_n, r_kEnd_r, r_giveO, r_consO, r_evR_0, r_evR_o, r_evR_1, r_evR_N, r_give_0, r_give_1, r_give_2, initV, r_nilck, v_ckp, v_ckf, r_fadr, v_fadr, r_load1, rd1, rdN, v_rd0, rdRow_0, rdRow_s, r_loadN, r_store, v_wrV, v_wrA, v_rdA0, v_some, r_putK, r_alloc, r_box, r_boxK, r_build, r_aggK, fill_0, fill_s, fillK_1, putRow_0, putRow_s, c_agg, c_int, c_bool, c_str, c_slc, c_nils, c_fn, c_ptr, r_buildS, r_rowsK1, fillR_1, fillO_1, r_append, r_fld1, r_idxS, r_idxStr, r_len, v_lenS, v_lenL, v_lenN, r_slcStr, v_sub, map_some, map_none, r_call, r_callv, v_callf, r_ext, v_ext0, v_exts, r_mkfn, opds, r_conv, v_conv, llen_0, llen_s, n_of, ii_eq, ii_lt, ii_le, get_put, get_add, next_put, next_add, put_put, add_put', ne_s, ne_s', ne_ss, ne_ss', if_true, if_false, ite_self, ite_true, ite_false, Nat.zero_add, Nat.add_zero, Nat.reduceAdd, Nat.reduceLT, Nat.reduceEqDiff, Bool.not_false, Bool.not_true, decide_true, decide_false, eq_self, tk_f0, tk_f1, tk_f2, tok_blk, tok_agg, tk_0, tk_1, tk_2, tk_3, tk_4, tk_len, tk_same, tk_w0, tk_w1, d8, hlen, g0, gw, i1, i2, iA, hend.2.1, e2, hl2]
  refine loop8_0 hv2 hin (by omega) hbig (fun i hi => hend.2.2 i (by omega)) (toks.length - 1) 0 _ _ _ hs (by omega) (by unfold manyRounds; omega) ?_
  intro ts a4 H1 g1
  obtain ⟨b, q, z, R, j1, j2, j3, j4⟩ := hin.at (hs.grow g1) (k := .i64) hne
  have jA : rdC1 (.rows z R) q 4 = some (.int .i64 ((cur toks 0).col : Int)) := by rw [v_rd j3]; rfl
  have jB : rdCN 5 (.rows z R) q 0 = some (.agg (tokRow (cur toks 0))) := v_rdA j3 tk_len
  have hvc : vin.cells = some [vin] := by obtain ⟨b, q, z, R, rfl, _⟩ := hin; rfl
  have u0 := lt_ne0 j4
  have h1 : PI H.all H1.next vin (H1.add (.rows 8 [psRow vin .nils .nils ⟨[], 0, [], 0, 0, false, false⟩])) .nils .nils ⟨[], 0, [], 0, 0, false, false⟩ :=
    ⟨hs.grow (g1.trans Grow.add), by rw [next_add]; omega, all_none g1.1, by rw [get_add, if_pos rfl], Or.inl ⟨rfl, rfl⟩, Or.inl ⟨rfl, rfl⟩, by simp [blkOf], by simp [blkOf], by simp [blkOf]⟩
  simp only [v_pnn, v_ppn, v_qnn, v_qpn, r_slcS, r_again1, r_againN, ag_int, ag_bool, ag_str, ag_agg, r_seq, r_reg, r_op, r_op_y, r_op_n, r_op_u, r_move, r_get_v, r_get_t, r_get_c, r_lget_0, r_lget_s, r_lset_0, r_lset_s, r_kOp_t, r_kOp_v, r_kOp_o, r_kReg, r_kSeq_n, r_kSeq_e, r_kSeq_r, r_kBlk_n, r_kBlk_e, r_kBlk_r, r_kBlk_o, r_kLoop_n, r_kLoop_e, r_kLoop_r, r_ops_nil, r_bin, r_binB, r_binP, r_eql, r_neq, r_lss, r_leq, r_gtr, r_geq, r_add, r_sub, r_mul, v_eqs, v_nes, r_opt, r_pick, r_pick_t, r_pick_f, r_not, v_not, r_ret, r_exit, r_skip, r_cond_t, r_cond_f, r_block, r_loop, r_kEnd_n, r_kEnd_r, r_giveO, r_consO, r_evR_0, r_evR_o, r_evR_1, r_evR_N, r_give_0, r_give_1, r_give_2, initV, r_nilck, v_ckp, v_ckf, r_fadr, v_fadr, r_load1, rd1, rdN, v_rd0, rdRow_0, rdRow_s, r_loadN, r_store, v_wrV, v_wrA, v_rdA0, v_some, r_putK, r_alloc, r_box, r_boxK, r_build, r_aggK, fill_0, fill_s, fillK_1, putRow_0, putRow_s, c_agg, c_int, c_bool, c_str, c_slc, c_nils, c_fn, c_ptr, r_buildS, r_rowsK1, fillR_1, fillO_1, r_append, r_fld1, r_idxS, r_idxStr, r_len, v_lenS, v_lenL, v_lenN, r_slcStr, v_sub, map_some, map_none, r_call, r_callv, v_callf, r_ext, v_ext0, v_exts, r_mkfn, opds, r_conv, v_conv, llen_0, llen_s, n_of, ii_eq, ii_lt, ii_le, get_put, get_add, next_put, next_add, put_put, add_put', ne_s, ne_s', ne_ss, ne_ss', if_true, if_false, ite_self, ite_true, ite_false, Nat.zero_add, Nat.add_zero, Nat.reduceAdd, Nat.reduceLT, Nat.reduceEqDiff, Bool.not_false, Bool.not_true, decide_true, decide_false, eq_self, tk_f0, tk_f1, tk_f2, tok_blk, tok_agg, tk_0, tk_1, tk_2, tk_3, tk_4, tk_len, tk_same, tk_w0, tk_w1, r8_3, hvc, j1, j2, jA, jB, u0, bl_agg]
  refine s16 (σ := ⟨[], 0, [], 0, 0, false, false⟩) h1 hin hne ?_
  intro H2 vl vo h2
  simp only [v_pnn, v_ppn, v_qnn, v_qpn, r_slcS, r_again1, r_againN, ag_int, ag_bool, ag_str, ag_agg, r_seq, r_reg, r_op, r_op_y, r_op_n, r_op_u, r_move, r_get_v, r_get_t, r_get_c, r_lget_0, r_lget_s, r_lset_0, r_lset_s, r_kOp_t, r_kOp_v, r_kOp_o, r_kReg, r_kSeq_n, r_kSeq_e, r_kSeq_r, r_kBlk_n, r_kBlk_e, r_kBlk_r, r_kBlk_o, r_kLoop_n, r_kLoop_e, r_kLoop_r, r_ops_nil, r_bin, r_binB, r_binP, r_eql, r_neq, r_lss, r_leq, r_gtr, r_geq, r_add, r_sub, r_mul, v_eqs, v_nes, r_opt, r_pick, r_pick_t, r_pick_f, r_not, v_not, r_ret, r_exit, r_skip, r_cond_t, r_cond_f, r_block, r_loop, r_kEnd_n, r_kEnd_r, r_giveO, r_consO, r_evR_0, r_evR_o, r_evR_1, r_evR_N, r_give_0, r_give_1, r_give_2, initV, r_nilck, v_ckp, v_ckf, r_fadr, v_fadr, r_load1, rd1, rdN, v_rd0, rdRow_0, rdRow_s, r_loadN, r_store, v_wrV, v_wrA, v_rdA0, v_some, r_putK, r_alloc, r_box, r_boxK, r_build, r_aggK, fill_0, fill_s, fillK_1, putRow_0, putRow_s, c_agg, c_int, c_bool, c_str, c_slc, c_nils, c_fn, c_ptr, r_buildS, r_rowsK1, fillR_1, fillO_1, r_append, r_fld1, r_idxS, r_idxStr, r_len, v_lenS, v_lenL, v_lenN, r_slcStr, v_sub, map_some, map_none, r_call, r_callv, v_callf, r_ext, v_ext0, v_exts, r_mkfn, opds, r_conv, v_conv, llen_0, llen_s, n_of, ii_eq, ii_lt, ii_le, get_put, get_add, next_put, next_add, put_put, add_put', ne_s, ne_s', ne_ss, ne_ss', if_true, if_false, ite_self, ite_true, ite_false, Nat.zero_add, Nat.add_zero, Nat.reduceAdd, Nat.reduceLT, Nat.reduceEqDiff, Bool.not_false, Bool.not_true, decide_true, decide_false, eq_self]
  have hgood := pBegin_good toks (m := 0) (σ := ⟨[], 0, [], 0, 0, false, false⟩) (b := ⟨false, (cur toks 0).col, false, 0⟩) (t := cur toks 0) (n := 0) (c := 0) ⟨by simp, by simp⟩ rfl
  have h2' : PI H.all H1.next vin H2 vl vo (pStart toks).2 := h2
  have hg2 : Fine 0 (pStart toks).2.st ∧ (pStart toks).2.at_ = 0 := hgood
  refine loop8 hin hend hbig toks.length _ (pStart toks).1 (pStart toks).2 _ _ _ h2' (fun _ => ⟨?_, ?_⟩) ?_ (by omega) (by unfold manyRounds; omega) ?_
  · rw [hg2.2]; exact hg2.1
  · rw [hg2.2]; exact Nat.zero_le _
  · rw [hg2.2]; exact Nat.zero_le _
  intro ts ok H3 vl3 vo3 h3
  have h3' : PI H.all H1.next vin H3 vl3 vo3 (pAll toks) := h3
  unfold blocksOf at hK
  by_cases hb : (pAll toks).bad = 0
  · rw [if_pos hb] at hK
    simp only [v_pnn, v_ppn, v_qnn, v_qpn, r_slcS, r_again1, r_againN, ag_int, ag_bool, ag_str, ag_agg, r_seq, r_reg, r_op, r_op_y, r_op_n, r_op_u, r_move, r_get_v, r_get_t, r_get_c, r_lget_0, r_lget_s, r_lset_0, r_lset_s, r_kOp_t, r_kOp_v, r_kOp_o, r_kReg, r_kSeq_n, r_kSeq_e, r_kSeq_r, r_kBlk_n, r_kBlk_e, r_kBlk_r, r_kBlk_o, r_kLoop_n, r_kLoop_e, r_kLoop_r, r_ops_nil, r_bin, r_binB, r_binP, r_eql, r_neq, r_lss, r_leq, r_gtr, r_geq, r_add, r_sub, r_mul, v_eqs, v_nes, r_opt, r_pick, r_pick_t, r_pick_f, r_not, v_not, r_ret, r_exit, r_skip, r_cond_t, r_cond_f, r_block, r_loop, r_kEnd_n, r_kEnd_r, r_giveO, r_consO, r_evR_0, r_evR_o, r_evR_1, r_evR_N, r_give_0, r_give_1, r_give_2, initV, r_nilck, v_ckp, v_ckf, r_fadr, v_fadr, r_load1, rd1, rdN, v_rd0, rdRow_0, rdRow_s, r_loadN, r_store, v_wrV, v_wrA, v_rdA0, v_some, r_putK, r_alloc, r_box, r_boxK, r_build, r_aggK, fill_0, fill_s, fillK_1, putRow_0, putRow_s, c_agg, c_int, c_bool, c_str, c_slc, c_nils, c_fn, c_ptr, r_buildS, r_rowsK1, fillR_1, fillO_1, r_append, r_fld1, r_idxS, r_idxStr, r_len, v_lenS, v_lenL, v_lenN, r_slcStr, v_sub, map_some, map_none, r_call, r_callv, v_callf, r_ext, v_ext0, v_exts, r_mkfn, opds, r_conv, v_conv, llen_0, llen_s, n_of, ii_eq, ii_lt, ii_le, get_put, get_add, next_put, next_add, put_put, add_put', ne_s, ne_s', ne_ss, ne_ss', if_true, if_false, ite_self, ite_true, ite_false, Nat.zero_add, Nat.add_zero, Nat.reduceAdd, Nat.reduceLT, Nat.reduceEqDiff, Bool.not_false, Bool.not_true, decide_true, decide_false, eq_self, r8_2, h3'.cell, ps_3, ps_4, hb]
    exact hK _ _ (h3'.sees.toGrow (Nat.le_trans g1.1 (Nat.le_of_lt h3'.hp))) h3'.out
  · rw [if_neg hb] at hK
    simp only [v_pnn, v_ppn, v_qnn, v_qpn, r_slcS, r_again1, r_againN, ag_int, ag_bool, ag_str, ag_agg, r_seq, r_reg, r_op, r_op_y, r_op_n, r_op_u, r_move, r_get_v, r_get_t, r_get_c, r_lget_0, r_lget_s, r_lset_0, r_lset_s, r_kOp_t, r_kOp_v, r_kOp_o, r_kReg, r_kSeq_n, r_kSeq_e, r_kSeq_r, r_kBlk_n, r_kBlk_e, r_kBlk_r, r_kBlk_o, r_kLoop_n, r_kLoop_e, r_kLoop_r, r_ops_nil, r_bin, r_binB, r_binP, r_eql, r_neq, r_lss, r_leq, r_gtr, r_geq, r_add, r_sub, r_mul, v_eqs, v_nes, r_opt, r_pick, r_pick_t, r_pick_f, r_not, v_not, r_ret, r_exit, r_skip, r_cond_t, r_cond_f, r_block, r_loop, r_kEnd_n, r_kEnd_r, r_giveO, r_consO, r_evR_0, r_evR_o, r_evR_1, r_evR_N, r_give_0, r_give_1, r_give_2, initV, r_nilck, v_ckp, v_ckf, r_fadr, v_fadr, r_load1, rd1, rdN, v_rd0, rdRow_0, rdRow_s, r_loadN, r_store, v_wrV, v_wrA, v_rdA0, v_some, r_putK, r_alloc, r_box, r_boxK, r_build, r_aggK, fill_0, fill_s, fillK_1, putRow_0, putRow_s, c_agg, c_int, c_bool, c_str, c_slc, c_nils, c_fn, c_ptr, r_buildS, r_rowsK1, fillR_1, fillO_1, r_append, r_fld1, r_idxS, r_idxStr, r_len, v_lenS, v_lenL, v_lenN, r_slcStr, v_sub, map_some, map_none, r_call, r_callv, v_callf, r_ext, v_ext0, v_exts, r_mkfn, opds, r_conv, v_conv, llen_0, llen_s, n_of, ii_eq, ii_lt, ii_le, get_put, get_add, next_put, next_add, put_put, add_put', ne_s, ne_s', ne_ss, ne_ss', if_true, if_false, ite_self, ite_true, ite_false, Nat.zero_add, Nat.add_zero, Nat.reduceAdd, Nat.reduceLT, Nat.reduceEqDiff, Bool.not_false, Bool.not_true, decide_true, decide_false, eq_self, r8_2, h3'.cell, ps_4, ps_5, hb]
    exact hK _ _ (h3'.sees.toGrow (Nat.le_trans g1.1 (Nat.le_of_lt h3'.hp))) (Or.inl ⟨rfl, rfl⟩)
end
end Dt
