/- A part of the abstract machine and of the proof that the program does what it reckons; no conditions. -/
import Derived.Test.YtmndopeencbamaaN3
import Derived.Test.YtmndopeencbamaaR7
namespace Dt
open Go
set_option linter.all false
set_option maxRecDepth 10000
theorem look3 : look table 3 = some d3 := (rfl)
theorem look9 : look table 9 = some d9 := (rfl)
/-! ### How much room the tokens of a text may take -/
def opensN (l : List Tok) : Nat := (l.filter opensT).length
theorem comm_at {l : Tx} : ∀ (k : Nat) (x : Lx), x.at_ ≤ (comm l k x).at_ := by
  intro k
  induction k with
  | zero => intro x; exact Nat.le_refl _
  | succ k ih =>
    intro x
    unfold comm
    split
    · exact Nat.le_trans (passed_at x) (ih _)
    · exact Nat.le_refl _
theorem blank_at {l : Tx} : ∀ (k : Nat) (x : Lx), x.at_ ≤ (blank l k x).at_ := by
  intro k
  induction k with
  | zero => intro x; exact Nat.le_refl _
  | succ k ih =>
    intro x
    unfold blank
    split
    · split
      · exact Nat.le_trans (passed_at x) (ih _)
      split
      · exact Nat.le_trans (comm_at _ x) (ih _)
      · exact Nat.le_refl _
    · exact Nat.le_refl _
theorem opens_tn {t : Tok} (h : opensT t = true) : 3 ≤ t.tn := by
  simp only [opensT, isW, Bool.or_eq_true, Bool.and_eq_true, decide_eq_true_eq] at h
  rcases h with ((h | h) | h) | h <;> have := Nat.eq_of_beq_eq_true h.2.1 <;> omega
theorem kindOf_opens {t : Tok} {w : Tx} (ht : t.tn = w.len) (h : opensT (kindOf t w).1 = true) : 3 ≤ w.len := by
  have h1 := opens_tn h
  have h2 := opens_kind2 h
  unfold kindOf at h1 h2
  split at h1
  · have h1' : 3 ≤ t.tn := h1
    omega
  · rename_i c1
    split at h1
    · dsimp only at h1
      split at h1
      · dsimp only at h1; omega
      · split at h1
        · dsimp only at h1; omega
        · dsimp only at h1; omega
    · rename_i c2
      rw [if_neg c1, if_neg c2] at h2
      split at h2 <;> simp at h2
theorem lexStep_opens {l : Tx} {x y : Lx} {t : Tok} (h : lexStep l x = .inr (t, y)) : x.at_ ≤ y.at_ ∧ (opensT t = true → x.at_ + 3 ≤ y.at_) := by
  unfold lexStep at h
  split at h
  · split at h
    · split at h
      · simp only [Sum.inr.injEq, Prod.mk.injEq] at h
        obtain ⟨h1, h2⟩ := h
        subst h2
        have ha := lexRun_at (l := l) x
        refine ⟨ha, fun ho => ?_⟩
        rw [← h1] at ho
        have := kindOf_opens (w := cutOf l x.at_ (lexRun l x).at_) rfl ho
        simp only [cutOf] at this
        omega
      · cases h
    · cases h
  · simp only [Sum.inr.injEq, Prod.mk.injEq] at h
    obtain ⟨h1, h2⟩ := h
    subst h2
    subst h1
    refine ⟨Nat.le_refl _, fun ho => ?_⟩
    have := opens_kind2 ho
    simp at this
theorem opensN_app (l : List Tok) (t : Tok) : opensN (l ++ [t]) = opensN l + (if opensT t then 1 else 0) := by
  unfold opensN
  rw [List.filter_append, List.length_append]
  cases h : opensT t <;> simp [h]
theorem lexAll_opens {l : Tx} : ∀ (k : Nat) (x : Lx) (out : List Tok), x.at_ ≤ l.len → x.Ok l → 3 * opensN out ≤ x.at_ → 3 * opensN (lexAll l k x out).1 ≤ l.len := by
  intro k
  induction k with
  | zero => intro x out h1 h2 h3; simp [lexAll, opensN]
  | succ k ih =>
    intro x out h1 hx h3
    unfold lexAll
    have hy : (blank l (l.len + 1) x).Ok l := blank_ok _ hx
    have hxy := blank_at (l := l) (l.len + 1) x
    revert hy hxy
    generalize blank l (l.len + 1) x = y
    intro hy hxy
    split
    · cases hs : lexStep l y with
      | inl r => simp [opensN]
      | inr r =>
        obtain ⟨t, z⟩ := r
        dsimp only
        obtain ⟨m1, m2⟩ := lexStep_opens hs
        have hz : z.Ok l := by
          unfold lexStep at hs
          split at hs
          · rename_i hlt
            split at hs
            · split at hs
              · simp only [Sum.inr.injEq, Prod.mk.injEq] at hs
                rw [← hs.2]
                exact lexRun_ok hy hlt
              · cases hs
            · cases hs
          · simp only [Sum.inr.injEq, Prod.mk.injEq] at hs
            rw [← hs.2]; exact hy
        have h4 : 3 * opensN (out ++ [t]) ≤ z.at_ := by
          rw [opensN_app]
          cases ho : opensT t with
          | true => have := m2 ho; simp; omega
          | false => simp; omega
        split
        · simp [opensN]
        split
        · exact Nat.le_trans h4 hz.at_le
        · exact ih z _ hz.at_le hz h4
    · simp [opensN]
theorem tokensOf_opens (l : Tx) : 3 * opensN (tokensOf l).1 ≤ l.len := by
  unfold tokensOf
  split
  · simp [opensN]
  · exact lexAll_opens _ _ _ (Nat.zero_le _) ⟨Nat.zero_le _, Nat.le_refl _, Nat.le_refl _⟩ (by simp [opensN])
/-- The room from a place on. -/
def roomOf (toks : List Tok) (i : Nat) : Nat := 2 * (toks.length - i) + 2 * opensN (toks.drop i)
theorem room_wt (toks : List Tok) : Wt toks (roomOf toks) := by
  intro i hi
  unfold roomOf
  have : opensN (toks.drop i) = (if opensT (cur toks i) then 1 else 0) + opensN (toks.drop (i + 1)) := by
    rw [drop_cur hi]
    unfold opensN
    cases h : opensT (cur toks i) <;> simp [h]; omega
  rw [this]
  split <;> omega

section
variable {F : Fr} {v1 v2 vin : AVal} {H : Heap} {toks : List Tok} {K : AVal → Heap → Prop} {n : Nat}
theorem eq_same {t : Tok} : eqV true [0, 1, 0, 0, 0] (.agg (tokRow t)) (.agg (tokRow t)) = some (.bool false) := by
  have hi : ∀ n : Int, eqCell 0 (.int .i64 n) (.int .i64 n) = some true := fun n => by simp [eqCell, ieq_eq]
  have hs : ∀ n c, eqCell 1 (.str n c) (.str n c) = some true := fun n c => by
    simp only [eqCell]
    rw [show Nat.beq n n = true from by rw [Nat.beq_eq], show Nat.beq c c = true from by rw [Nat.beq_eq]]
    rfl
  simp only [eqV, tokRow, eqCells, hi, hs]
  rfl
theorem loop9 (h1 : Rd F v1 toks) (h2 : Rd F v2 toks) (hs : Sees F H) (hbig : toks.length ≤ 1000000) : ∀ (m i r : Nat), i + m = toks.length → m < r →
    loopOf (evF AP (look table) n) b9_0 r [v1, v2, .bool false, .int .i64 (i : Int)] H (kBlk 0 (kSeq (evF AP (look table) n) r9_1 (kEnd [.opd (.v 2)] K))) = K (.bool true) H := by
  intro m
  induction m with
  | zero =>
    intro i r hi hr
    obtain ⟨r, rfl⟩ : ∃ m, r = m + 1 := ⟨r - 1, by omega⟩
    have g : ¬ i < toks.length := by omega
    rw [r_roundN b9_0.eq_1]
    simp only [v_pnn, v_ppn, v_qnn, v_qpn, r_slcS, r_again1, r_againN, ag_int, ag_bool, ag_str, ag_agg, r_seq, r_reg, r_op, r_op_y, r_op_n, r_op_u, r_move, r_get_v, r_get_t, r_get_c, r_lget_0, r_lget_s, r_lset_0, r_lset_s, r_kOp_t, r_kOp_v, r_kOp_o, r_kReg, r_kSeq_n, r_kSeq_e, r_kSeq_r, r_kBlk_n, r_kBlk_e, r_kBlk_r, r_kBlk_o, r_kLoop_n, r_kLoop_e, r_kLoop_r, r_ops_nil, r_bin, r_binB, r_binP, r_eql, r_neq, r_lss, r_leq, r_gtr, r_geq, r_add, r_sub, r_mul, v_eqs, v_nes, r_opt, r_pick, r_pick_t, r_pick_f, r_not, v_not, r_ret, r_exit, r_skip, r_cond_t, r_cond_f, r_block, r_loop, r_kEnd_n, r_kEnd_r, r_giveO, r_consO, r_evR_0, r_evR_o, r_evR_1, r_evR_N, r_give_0, r_give_1, r_give_2, initV, r_nilck, v_ckp, v_ckf, r_fadr, v_fadr, r_load1, rd1, rdN, v_rd0, rdRow_0, rdRow_s, r_loadN, r_store, v_wrV, v_wrA, v_rdA0, v_some, r_putK, r_alloc, r_box, r_boxK, r_build, r_aggK, fill_0, fill_s, fillK_1, putRow_0, putRow_s, c_agg, c_int, c_bool, c_str, c_slc, c_nils, c_fn, c_ptr, r_buildS, r_rowsK1, fillR_1, fillO_1, r_append, r_fld1, r_idxS, r_idxStr, r_len, v_lenS, v_lenL, v_lenN, r_slcStr, v_sub, map_some, map_none, r_call, r_callv, v_callf, r_ext, v_ext0, v_exts, r_mkfn, opds, r_conv, v_conv, llen_0, llen_s, n_of, ii_eq, ii_lt, ii_le, get_put, get_add, next_put, next_add, put_put, add_put', ne_s, ne_s', ne_ss, ne_ss', if_true, if_false, ite_self, ite_true, ite_false, Nat.zero_add, Nat.add_zero, Nat.reduceAdd, Nat.reduceLT, Nat.reduceEqDiff, Bool.not_false, Bool.not_true, decide_true, decide_false, eq_self, r9_1, h1.len, g]
  | succ m ih =>
    intro i r hi hr
    obtain ⟨r, rfl⟩ : ∃ m, r = m + 1 := ⟨r - 1, by omega⟩
    have g : i < toks.length := by omega
    obtain ⟨b, q, z, R, i1, i2, i3, i4⟩ := h1.at hs (k := .i64) g
    have iA : rdCN 5 (.rows z R) q 0 = some (.agg (tokRow (cur toks i))) := v_rdA i3 tk_len
    obtain ⟨b', q', z', R', j1, j2, j3, j4⟩ := h2.at hs (k := .i64) g
    have jA : rdCN 5 (.rows z' R') q' 0 = some (.agg (tokRow (cur toks i))) := v_rdA j3 tk_len
    have gw : IntKind.i64.wrap ((i : Int) + ((1 : Nat) : Int)) = ((i + 1 : Nat) : Int) := w_add (by omega)
    rw [r_roundN b9_0.eq_1]
    simp only [v_pnn, v_ppn, v_qnn, v_qpn, r_slcS, r_again1, r_againN, ag_int, ag_bool, ag_str, ag_agg, r_seq, r_reg, r_op, r_op_y, r_op_n, r_op_u, r_move, r_get_v, r_get_t, r_get_c, r_lget_0, r_lget_s, r_lset_0, r_lset_s, r_kOp_t, r_kOp_v, r_kOp_o, r_kReg, r_kSeq_n, r_kSeq_e, r_kSeq_r, r_kBlk_n, r_kBlk_e, r_kBlk_r, r_kBlk_o, r_kLoop_n, r_kLoop_e, r_kLoop_r, r_ops_nil, r_bin, r_binB, r_binP, r_eql, r_neq, r_lss, r_leq, r_gtr, r_geq, r_add, r_sub, r_mul, v_eqs, v_nes, r_opt, r_pick, r_pick_t, r_pick_f, r_not, v_not, r_ret, r_exit, r_skip, r_cond_t, r_cond_f, r_block, r_loop, r_kEnd_n, r_kEnd_r, r_giveO, r_consO, r_evR_0, r_evR_o, r_evR_1, r_evR_N, r_give_0, r_give_1, r_give_2, initV, r_nilck, v_ckp, v_ckf, r_fadr, v_fadr, r_load1, rd1, rdN, v_rd0, rdRow_0, rdRow_s, r_loadN, r_store, v_wrV, v_wrA, v_rdA0, v_some, r_putK, r_alloc, r_box, r_boxK, r_build, r_aggK, fill_0, fill_s, fillK_1, putRow_0, putRow_s, c_agg, c_int, c_bool, c_str, c_slc, c_nils, c_fn, c_ptr, r_buildS, r_rowsK1, fillR_1, fillO_1, r_append, r_fld1, r_idxS, r_idxStr, r_len, v_lenS, v_lenL, v_lenN, r_slcStr, v_sub, map_some, map_none, r_call, r_callv, v_callf, r_ext, v_ext0, v_exts, r_mkfn, opds, r_conv, v_conv, llen_0, llen_s, n_of, ii_eq, ii_lt, ii_le, get_put, get_add, next_put, next_add, put_put, add_put', ne_s, ne_s', ne_ss, ne_ss', if_true, if_false, ite_self, ite_true, ite_false, Nat.zero_add, Nat.add_zero, Nat.reduceAdd, Nat.reduceLT, Nat.reduceEqDiff, Bool.not_false, Bool.not_true, decide_true, decide_false, eq_self, tk_f0, tk_f1, tk_f2, tok_blk, tok_agg, tk_0, tk_1, tk_2, tk_3, tk_4, tk_len, tk_same, tk_w0, tk_w1, h1.len, g, i1, i2, iA, j1, j2, jA, r_eqAgg, eq_same, gw]
    exact ih (i + 1) r (by omega) (by omega)
/-- Same, of the same. -/
theorem s9 (h1 : Rd F v1 toks) (h2 : Rd F v2 toks) (hs : Sees F H) (hbig : toks.length ≤ 1000000) : evF AP (look table) (n + 1) 9 [v1, v2] H K = K (.bool true) H := by
  rw [r_fun look9]
  simp only [v_pnn, v_ppn, v_qnn, v_qpn, r_slcS, r_again1, r_againN, ag_int, ag_bool, ag_str, ag_agg, r_seq, r_reg, r_op, r_op_y, r_op_n, r_op_u, r_move, r_get_v, r_get_t, r_get_c, r_lget_0, r_lget_s, r_lset_0, r_lset_s, r_kOp_t, r_kOp_v, r_kOp_o, r_kReg, r_kSeq_n, r_kSeq_e, r_kSeq_r, r_kBlk_n, r_kBlk_e, r_kBlk_r, r_kBlk_o, r_kLoop_n, r_kLoop_e, r_kLoop_r, r_ops_nil, r_bin, r_binB, r_binP, r_eql, r_neq, r_lss, r_leq, r_gtr, r_geq, r_add, r_sub, r_mul, v_eqs, v_nes, r_opt, r_pick, r_pick_t, r_pick_f, r_not, v_not, r_ret, r_exit, r_skip, r_cond_t, r_cond_f, r_block, r_loop, r_kEnd_n, r_kEnd_r, r_giveO, r_consO, r_evR_0, r_evR_o, r_evR_1, r_evR_N, r_give_0, r_give_1, r_give_2, initV, r_nilck, v_ckp, v_ckf, r_fadr, v_fadr, r_load1, rd1, rdN, v_rd0, rdRow_0, rdRow_s, r_loadN, r_store, v_wrV, v_wrA, v_rdA0, v_some, r_putK, r_alloc, r_box, r_boxK, r_build, r_aggK, fill_0, fill_s, fillK_1, putRow_0, putRow_s, c_agg, c_int, c_bool, c_str, c_slc, c_nils, c_fn, c_ptr, r_buildS, r_rowsK1, fillR_1, fillO_1, r_append, r_fld1, r_idxS, r_idxStr, r_len, v_lenS, v_lenL, v_lenN, r_slcStr, v_sub, map_some, map_none, r_call, r_callv, v_callf, r_ext, v_ext0, v_exts, r_mkfn, opds, r_conv, v_conv, llen_0, llen_s, n_of, ii_eq, ii_lt, ii_le, get_put, get_add, next_put, next_add, put_put, add_put', ne_s, ne_s', ne_ss, ne_ss', if_true, if_false, ite_self, ite_true, ite_false, Nat.zero_add, Nat.add_zero, Nat.reduceAdd, Nat.reduceLT, Nat.reduceEqDiff, Bool.not_false, Bool.not_true, decide_true, decide_false, eq_self, d9, h1.len, h2.len]
  exact loop9 h1 h2 hs hbig toks.length 0 _ (by omega) (by unfold manyRounds; omega)

/-- A slice of tokens is wiped. -/
theorem loop3 {c N : Nat} {KK : KP} {b0 b1 b2 b3 b4 b5 b6 b7 b8 b9 b10 b11 b12 b15 b16 b17 : AVal} {cap : Option Nat} (hN : N ≤ 1000000) : ∀ (m i r : Nat) (H : Heap), i + m = N → m < r → (0 < m → ∃ z R, H.get c = .rows z R ∧ ∀ j, j < N → ∃ row, rget R j = some row ∧ llen row = 5) →
    (∀ ts H', H'.next = H.next → (∀ d, d ≠ c → H'.get d = H.get d) → KK (.exit 0) [b0, b1, b2, b3, b4, b5, b6, b7, b8, b9, b10, b11, b12, .slc c 0 N cap 5, .int .i64 (N : Int), b15, b16, b17] ts H') →
    loopOf (evF AP (look table) n) b3_0 r [b0, b1, b2, b3, b4, b5, b6, b7, b8, b9, b10, b11, b12, .slc c 0 N cap 5, .int .i64 (i : Int), b15, b16, b17] H KK := by
  intro m
  induction m with
  | zero =>
    intro i r H hi hr hR hK
    obtain ⟨r, rfl⟩ : ∃ m, r = m + 1 := ⟨r - 1, by omega⟩
    obtain rfl : i = N := by omega
    have g : ¬ i < i := by omega
    rw [r_roundN b3_0.eq_1]
    simp only [v_pnn, v_ppn, v_qnn, v_qpn, r_slcS, r_again1, r_againN, ag_int, ag_bool, ag_str, ag_agg, r_seq, r_reg, r_op, r_op_y, r_op_n, r_op_u, r_move, r_get_v, r_get_t, r_get_c, r_lget_0, r_lget_s, r_lset_0, r_lset_s, r_kOp_t, r_kOp_v, r_kOp_o, r_kReg, r_kSeq_n, r_kSeq_e, r_kSeq_r, r_kBlk_n, r_kBlk_e, r_kBlk_r, r_kBlk_o, r_kLoop_n, r_kLoop_e, r_kLoop_r, r_ops_nil, r_bin, r_binB, r_binP, r_eql, r_neq, r_lss, r_leq, r_gtr, r_geq, r_add, r_sub, r_mul, v_eqs, v_nes, r_opt, r_pick, r_pick_t, r_pick_f, r_not, v_not, r_ret, r_exit, r_skip, r_cond_t, r_cond_f, r_block, r_loop, r_kEnd_n, r_kEnd_r, r_giveO, r_consO, r_evR_0, r_evR_o, r_evR_1, r_evR_N, r_give_0, r_give_1, r_give_2, initV, r_nilck, v_ckp, v_ckf, r_fadr, v_fadr, r_load1, rd1, rdN, v_rd0, rdRow_0, rdRow_s, r_loadN, r_store, v_wrV, v_wrA, v_rdA0, v_some, r_putK, r_alloc, r_box, r_boxK, r_build, r_aggK, fill_0, fill_s, fillK_1, putRow_0, putRow_s, c_agg, c_int, c_bool, c_str, c_slc, c_nils, c_fn, c_ptr, r_buildS, r_rowsK1, fillR_1, fillO_1, r_append, r_fld1, r_idxS, r_idxStr, r_len, v_lenS, v_lenL, v_lenN, r_slcStr, v_sub, map_some, map_none, r_call, r_callv, v_callf, r_ext, v_ext0, v_exts, r_mkfn, opds, r_conv, v_conv, llen_0, llen_s, n_of, ii_eq, ii_lt, ii_le, get_put, get_add, next_put, next_add, put_put, add_put', ne_s, ne_s', ne_ss, ne_ss', if_true, if_false, ite_self, ite_true, ite_false, Nat.zero_add, Nat.add_zero, Nat.reduceAdd, Nat.reduceLT, Nat.reduceEqDiff, Bool.not_false, Bool.not_true, decide_true, decide_false, eq_self, g]
    exact hK _ _ rfl (fun _ _ => rfl)
  | succ m ih =>
    intro i r H hi hr hR hK
    obtain ⟨r, rfl⟩ : ∃ m, r = m + 1 := ⟨r - 1, by omega⟩
    have g : i < N := by omega
    obtain ⟨z, R, hc, hrow⟩ := hR (by omega)
    obtain ⟨row, hr1, hr2⟩ := hrow i g
    have gw : IntKind.i64.wrap ((i : Int) + ((1 : Nat) : Int)) = ((i + 1 : Nat) : Int) := w_add (by omega)
    have hi2 : idxV 5 (.slc c 0 N cap 5) (.int .i64 (i : Int)) = some (.ptr c i 0) := by rw [v_idx g, Nat.zero_add]
    have hw : wrC 5 (.rows z R) i 0 (tokRow ⟨0, 0, 0, 0, 0, 0⟩) = some (.rows z (rset R i (tokRow ⟨0, 0, 0, 0, 0, 0⟩))) := v_wrAR hr1 hr2 tk_len
    rw [r_roundN b3_0.eq_1]
    simp only [v_pnn, v_ppn, v_qnn, v_qpn, r_slcS, r_again1, r_againN, ag_int, ag_bool, ag_str, ag_agg, r_seq, r_reg, r_op, r_op_y, r_op_n, r_op_u, r_move, r_get_v, r_get_t, r_get_c, r_lget_0, r_lget_s, r_lset_0, r_lset_s, r_kOp_t, r_kOp_v, r_kOp_o, r_kReg, r_kSeq_n, r_kSeq_e, r_kSeq_r, r_kBlk_n, r_kBlk_e, r_kBlk_r, r_kBlk_o, r_kLoop_n, r_kLoop_e, r_kLoop_r, r_ops_nil, r_bin, r_binB, r_binP, r_eql, r_neq, r_lss, r_leq, r_gtr, r_geq, r_add, r_sub, r_mul, v_eqs, v_nes, r_opt, r_pick, r_pick_t, r_pick_f, r_not, v_not, r_ret, r_exit, r_skip, r_cond_t, r_cond_f, r_block, r_loop, r_kEnd_n, r_kEnd_r, r_giveO, r_consO, r_evR_0, r_evR_o, r_evR_1, r_evR_N, r_give_0, r_give_1, r_give_2, initV, r_nilck, v_ckp, v_ckf, r_fadr, v_fadr, r_load1, rd1, rdN, v_rd0, rdRow_0, rdRow_s, r_loadN, r_store, v_wrV, v_wrA, v_rdA0, v_some, r_putK, r_alloc, r_box, r_boxK, r_build, r_aggK, fill_0, fill_s, fillK_1, putRow_0, putRow_s, c_agg, c_int, c_bool, c_str, c_slc, c_nils, c_fn, c_ptr, r_buildS, r_rowsK1, fillR_1, fillO_1, r_append, r_fld1, r_idxS, r_idxStr, r_len, v_lenS, v_lenL, v_lenN, r_slcStr, v_sub, map_some, map_none, r_call, r_callv, v_callf, r_ext, v_ext0, v_exts, r_mkfn, opds, r_conv, v_conv, llen_0, llen_s, n_of, ii_eq, ii_lt, ii_le, get_put, get_add, next_put, next_add, put_put, add_put', ne_s, ne_s', ne_ss, ne_ss', if_true, if_false, ite_self, ite_true, ite_false, Nat.zero_add, Nat.add_zero, Nat.reduceAdd, Nat.reduceLT, Nat.reduceEqDiff, Bool.not_false, Bool.not_true, decide_true, decide_false, eq_self, tk_f0, tk_f1, tk_f2, tok_blk, tok_agg, tk_0, tk_1, tk_2, tk_3, tk_4, tk_len, tk_same, tk_w0, tk_w1, g, hi2, hc, hw, gw]
    refine ih (i + 1) r _ (by omega) (by omega) (fun _ => ⟨z, _, by rw [get_put, if_pos rfl], ?_⟩) ?_
    · intro j hj
      rw [rset_set, rget_get]
      rcases Nat.decEq i j with e | e
      · rw [List.getElem?_set_ne e, ← rget_get]
        exact hrow j hj
      · subst e
        obtain ⟨row, h1, _⟩ := hrow i hj
        rw [rget_get] at h1
        have : i < R.length := by
          rcases Nat.lt_or_ge i R.length with h | h
          · exact h
          · rw [List.getElem?_eq_none h] at h1; cases h1
        rw [List.getElem?_set_self this]
        exact ⟨_, rfl, tk_len⟩
    · intro ts H' h1 h2
      exact hK ts H' h1 (fun d hd => by rw [h2 d hd, get_put, if_neg hd])
theorem app0 {z bytes : Nat} {y : AVal} {rows : List (List AVal)} {kv : AVal → Heap → Prop} (hy : rowsOf H z y = some rows) (hne : rows ≠ []) (hb : rows.length * bytes ≤ 1000000000) :
    doAppend AP z bytes .nils y H kv = kv (.slc H.next 0 rows.length none z) (H.add (.rows z rows)) := by
  cases rows with
  | nil => exact absurd rfl hne
  | cons x rows =>
    have h1 : Nat.ble (Nat.mul (rlen (x :: rows)) bytes) 1000000000 = true := Nat.ble_eq_true_of_le (by rw [rlen_len]; exact hb)
    rw [rlen_len] at h1
    simp only [doAppend, hy, rlen_len, h1, fL_eq, fN_eq, hAdd_eq]
theorem Sl.rows {F : Fr} {H : Heap} {v : AVal} {z : Nat} {rows : List (List AVal)} (h : Sl F H v z rows) : rowsOf H z v = some rows := by
  rcases h with ⟨rfl, rfl⟩ | ⟨b, R, rfl, hlt, hFb, hR, hrows⟩
  · rfl
  · have hz : Nat.beq z z = true := by rw [Nat.beq_eq]
    have hle := take_len hrows
    simp only [rowsOf, hz]
    cases hn : rows.length with
    | zero => simp [List.length_eq_zero_iff.1 hn]
    | succ n =>
      simp only [hR]
      rw [rtake_ok R 0 (n + 1) (by omega), List.drop_zero, ← hn, hrows]
end
end Dt
