/- A part of the abstract machine and of the proof that the program does what it reckons; no conditions. -/
import Derived.Test.YtpljolocgeicfaaDoorW1
namespace Dt
open Go
set_option linter.all false
set_option maxRecDepth 100000
theorem look4 : TT.funs 4 = some d4 := (rfl)
section
variable {n : Nat} {H : Heap} {K : AVal → Heap → Prop}
theorem loop4 {N c : Nat} {KK : KP} {a0 a1 a2 a3 a5 a7 a8 a9 a10 : AVal} (hN : N ≤ 1000000) (hy : ∀ i ts, KK .ret [a0, a1, .bool true, a3, .str N c, a5, .int .i64 ((i : Nat) : Int), a7, a8, a9, a10] ts H)
    (hK : ∀ ts, KK (.exit 0) [a0, a1, a2, a3, .str N c, a5, .int .i64 (N : Int), a7, a8, a9, a10] ts H) : ∀ (m i r : Nat) , i + m = N → m < r →
    loopOf (evF AP TT n) b4_0 r [a0, a1, a2, a3, .str N c, a5, .int .i64 (i : Int), a7, a8, a9, a10] H KK := by
  intro m
  induction m with
  | zero =>
    intro i r hi hr
    obtain ⟨r, rfl⟩ : ∃ m, r = m + 1 := ⟨r - 1, by omega⟩
    obtain rfl : i = N := by omega
    have g : ¬ i < i := by omega
    rw [r_roundN b4_0.eq_1]
    simp only [rdR1, rdRN, r_un1, r_convBS, r_convIS, r_isP, r_rngS, r_rngP, r_nxtS, r_nxtP, r_mkmap, r_lkp, r_idxA, v_pnn, v_ppn, v_qnn, v_qpn, r_slcS, r_again1, r_againN, ag_int, ag_bool, ag_str, ag_agg, r_seq, r_reg, r_op, r_op_y, r_op_n, r_op_u, r_move, r_get_v, r_get_t, r_get_c, r_lget_0, r_lget_s, r_lset_0, r_lset_s, r_kOp_t, r_kOp_v, r_kOp_o, r_kReg, r_kSeq_n, r_kSeq_e, r_kSeq_r, r_kBlk_n, r_kBlk_e, r_kBlk_r, r_kBlk_o, r_kLoop_n, r_kLoop_e, r_kLoop_r, r_ops_nil, r_bin, r_binB, r_binP, r_eql, r_neq, r_lss, r_leq, r_gtr, r_geq, r_add, r_sub, r_mul, v_eqs, v_nes, r_opt, r_pick, r_pick_t, r_pick_f, r_not, v_not, r_ret, r_exit, r_skip, r_cond_t, r_cond_f, r_block, r_loop, r_kEnd_n, r_kEnd_r, r_giveO, r_consO, r_evR_0, r_evR_o, r_evR_1, r_evR_N, r_give_0, r_give_1, r_give_2, initV, r_nilck, v_ckp, v_ckf, r_fadr, v_fadr, r_load1, rd1, rdN, v_rd0, rdRow_0, rdRow_s, r_loadN, r_store, v_wrV, v_wrA, v_rdA0, v_some, r_putK, r_alloc, r_box, r_boxK, r_build, r_aggK, fill_0, fill_s, fillK_1, putRow_0, putRow_s, c_agg, c_int, c_bool, c_str, c_slc, c_nils, c_fn, c_ptr, r_buildS, r_rowsK1, fillR_1, fillO_1, r_append, r_fld1, r_idxS, r_idxStr, r_len, v_lenS, v_lenL, v_lenN, r_slcStr, v_sub, map_some, map_none, r_call, r_callv, v_callf, r_ext, v_ext0, v_exts, r_mkfn, opds, r_conv, v_conv, llen_0, llen_s, n_of, ii_eq, ii_lt, ii_le, get_put, get_add, next_put, next_add, put_put, add_put', ne_s, ne_s', ne_ss, ne_ss', if_true, if_false, ite_self, ite_true, ite_false, Nat.zero_add, Nat.add_zero, Nat.reduceAdd, Nat.reduceLT, Nat.reduceEqDiff, Bool.not_false, Bool.not_true, decide_true, decide_false, eq_self, g]
    exact hK _
  | succ m ih =>
    intro i r hi hr
    obtain ⟨r, rfl⟩ : ∃ m, r = m + 1 := ⟨r - 1, by omega⟩
    have g : i < N := by omega
    have gw : IntKind.i64.wrap ((i : Int) + ((1 : Nat) : Int)) = ((i + 1 : Nat) : Int) := w_add (by omega)
    have hc : chrV (.str N c) (.int .i64 (i : Int)) = some (.int .u8 ((sget c i : Nat) : Int)) := v_chr g
    rw [r_roundN b4_0.eq_1]
    by_cases h : sget c i = 10
    · simp only [rdR1, rdRN, r_un1, r_convBS, r_convIS, r_isP, r_rngS, r_rngP, r_nxtS, r_nxtP, r_mkmap, r_lkp, r_idxA, v_pnn, v_ppn, v_qnn, v_qpn, r_slcS, r_again1, r_againN, ag_int, ag_bool, ag_str, ag_agg, r_seq, r_reg, r_op, r_op_y, r_op_n, r_op_u, r_move, r_get_v, r_get_t, r_get_c, r_lget_0, r_lget_s, r_lset_0, r_lset_s, r_kOp_t, r_kOp_v, r_kOp_o, r_kReg, r_kSeq_n, r_kSeq_e, r_kSeq_r, r_kBlk_n, r_kBlk_e, r_kBlk_r, r_kBlk_o, r_kLoop_n, r_kLoop_e, r_kLoop_r, r_ops_nil, r_bin, r_binB, r_binP, r_eql, r_neq, r_lss, r_leq, r_gtr, r_geq, r_add, r_sub, r_mul, v_eqs, v_nes, r_opt, r_pick, r_pick_t, r_pick_f, r_not, v_not, r_ret, r_exit, r_skip, r_cond_t, r_cond_f, r_block, r_loop, r_kEnd_n, r_kEnd_r, r_giveO, r_consO, r_evR_0, r_evR_o, r_evR_1, r_evR_N, r_give_0, r_give_1, r_give_2, initV, r_nilck, v_ckp, v_ckf, r_fadr, v_fadr, r_load1, rd1, rdN, v_rd0, rdRow_0, rdRow_s, r_loadN, r_store, v_wrV, v_wrA, v_rdA0, v_some, r_putK, r_alloc, r_box, r_boxK, r_build, r_aggK, fill_0, fill_s, fillK_1, putRow_0, putRow_s, c_agg, c_int, c_bool, c_str, c_slc, c_nils, c_fn, c_ptr, r_buildS, r_rowsK1, fillR_1, fillO_1, r_append, r_fld1, r_idxS, r_idxStr, r_len, v_lenS, v_lenL, v_lenN, r_slcStr, v_sub, map_some, map_none, r_call, r_callv, v_callf, r_ext, v_ext0, v_exts, r_mkfn, opds, r_conv, v_conv, llen_0, llen_s, n_of, ii_eq, ii_lt, ii_le, get_put, get_add, next_put, next_add, put_put, add_put', ne_s, ne_s', ne_ss, ne_ss', if_true, if_false, ite_self, ite_true, ite_false, Nat.zero_add, Nat.add_zero, Nat.reduceAdd, Nat.reduceLT, Nat.reduceEqDiff, Bool.not_false, Bool.not_true, decide_true, decide_false, eq_self, g, hc, h]
      exact hy _ _
    · simp only [rdR1, rdRN, r_un1, r_convBS, r_convIS, r_isP, r_rngS, r_rngP, r_nxtS, r_nxtP, r_mkmap, r_lkp, r_idxA, v_pnn, v_ppn, v_qnn, v_qpn, r_slcS, r_again1, r_againN, ag_int, ag_bool, ag_str, ag_agg, r_seq, r_reg, r_op, r_op_y, r_op_n, r_op_u, r_move, r_get_v, r_get_t, r_get_c, r_lget_0, r_lget_s, r_lset_0, r_lset_s, r_kOp_t, r_kOp_v, r_kOp_o, r_kReg, r_kSeq_n, r_kSeq_e, r_kSeq_r, r_kBlk_n, r_kBlk_e, r_kBlk_r, r_kBlk_o, r_kLoop_n, r_kLoop_e, r_kLoop_r, r_ops_nil, r_bin, r_binB, r_binP, r_eql, r_neq, r_lss, r_leq, r_gtr, r_geq, r_add, r_sub, r_mul, v_eqs, v_nes, r_opt, r_pick, r_pick_t, r_pick_f, r_not, v_not, r_ret, r_exit, r_skip, r_cond_t, r_cond_f, r_block, r_loop, r_kEnd_n, r_kEnd_r, r_giveO, r_consO, r_evR_0, r_evR_o, r_evR_1, r_evR_N, r_give_0, r_give_1, r_give_2, initV, r_nilck, v_ckp, v_ckf, r_fadr, v_fadr, r_load1, rd1, rdN, v_rd0, rdRow_0, rdRow_s, r_loadN, r_store, v_wrV, v_wrA, v_rdA0, v_some, r_putK, r_alloc, r_box, r_boxK, r_build, r_aggK, fill_0, fill_s, fillK_1, putRow_0, putRow_s, c_agg, c_int, c_bool, c_str, c_slc, c_nils, c_fn, c_ptr, r_buildS, r_rowsK1, fillR_1, fillO_1, r_append, r_fld1, r_idxS, r_idxStr, r_len, v_lenS, v_lenL, v_lenN, r_slcStr, v_sub, map_some, map_none, r_call, r_callv, v_callf, r_ext, v_ext0, v_exts, r_mkfn, opds, r_conv, v_conv, llen_0, llen_s, n_of, ii_eq, ii_lt, ii_le, get_put, get_add, next_put, next_add, put_put, add_put', ne_s, ne_s', ne_ss, ne_ss', if_true, if_false, ite_self, ite_true, ite_false, Nat.zero_add, Nat.add_zero, Nat.reduceAdd, Nat.reduceLT, Nat.reduceEqDiff, Bool.not_false, Bool.not_true, decide_true, decide_false, eq_self, g, hc, h, gw]
      exact ih (i + 1) r (by omega) (by omega)
theorem end4 {k hn hc N c : Nat} {a0 a1 a2 a3 a6 a7 a8 a9 a10 : AVal} {ts : List AVal} (hg : H.gl = GT) (hN : hn + N ≤ 1000000) (hK : ∀ H', K (.bool true) H') :
    evC AP (evF AP TT (k + 10)) r4_1 [a0, a1, a2, a3, .str N c, .str hn hc, a6, a7, a8, a9, a10] ts H (kEnd [.opd (.v 2)] K) := by
  have gc : binV .add (.str hn hc) (.str N c) = some (.str (hn + N) (scat hn hc c)) := v_cat (by omega)
  simp only [rdR1, rdRN, r_un1, r_convBS, r_convIS, r_isP, r_rngS, r_rngP, r_nxtS, r_nxtP, r_mkmap, r_lkp, r_idxA, v_pnn, v_ppn, v_qnn, v_qpn, r_slcS, r_again1, r_againN, ag_int, ag_bool, ag_str, ag_agg, r_seq, r_reg, r_op, r_op_y, r_op_n, r_op_u, r_move, r_get_v, r_get_t, r_get_c, r_lget_0, r_lget_s, r_lset_0, r_lset_s, r_kOp_t, r_kOp_v, r_kOp_o, r_kReg, r_kSeq_n, r_kSeq_e, r_kSeq_r, r_kBlk_n, r_kBlk_e, r_kBlk_r, r_kBlk_o, r_kLoop_n, r_kLoop_e, r_kLoop_r, r_ops_nil, r_bin, r_binB, r_binP, r_eql, r_neq, r_lss, r_leq, r_gtr, r_geq, r_add, r_sub, r_mul, v_eqs, v_nes, r_opt, r_pick, r_pick_t, r_pick_f, r_not, v_not, r_ret, r_exit, r_skip, r_cond_t, r_cond_f, r_block, r_loop, r_kEnd_n, r_kEnd_r, r_giveO, r_consO, r_evR_0, r_evR_o, r_evR_1, r_evR_N, r_give_0, r_give_1, r_give_2, initV, r_nilck, v_ckp, v_ckf, r_fadr, v_fadr, r_load1, rd1, rdN, v_rd0, rdRow_0, rdRow_s, r_loadN, r_store, v_wrV, v_wrA, v_rdA0, v_some, r_putK, r_alloc, r_box, r_boxK, r_build, r_aggK, fill_0, fill_s, fillK_1, putRow_0, putRow_s, c_agg, c_int, c_bool, c_str, c_slc, c_nils, c_fn, c_ptr, r_buildS, r_rowsK1, fillR_1, fillO_1, r_append, r_fld1, r_idxS, r_idxStr, r_len, v_lenS, v_lenL, v_lenN, r_slcStr, v_sub, map_some, map_none, r_call, r_callv, v_callf, r_ext, v_ext0, v_exts, r_mkfn, opds, r_conv, v_conv, llen_0, llen_s, n_of, ii_eq, ii_lt, ii_le, get_put, get_add, next_put, next_add, put_put, add_put', ne_s, ne_s', ne_ss, ne_ss', if_true, if_false, ite_self, ite_true, ite_false, Nat.zero_add, Nat.add_zero, Nat.reduceAdd, Nat.reduceLT, Nat.reduceEqDiff, Bool.not_false, Bool.not_true, decide_true, decide_false, eq_self, r4_1, gc]
  refine s9 k (l := ⟨hn + N, scat hn hc c⟩) hg ?_
  intro H1 v1 g1 l1 sl1
  simp only [rdR1, rdRN, r_un1, r_convBS, r_convIS, r_isP, r_rngS, r_rngP, r_nxtS, r_nxtP, r_mkmap, r_lkp, r_idxA, v_pnn, v_ppn, v_qnn, v_qpn, r_slcS, r_again1, r_againN, ag_int, ag_bool, ag_str, ag_agg, r_seq, r_reg, r_op, r_op_y, r_op_n, r_op_u, r_move, r_get_v, r_get_t, r_get_c, r_lget_0, r_lget_s, r_lset_0, r_lset_s, r_kOp_t, r_kOp_v, r_kOp_o, r_kReg, r_kSeq_n, r_kSeq_e, r_kSeq_r, r_kBlk_n, r_kBlk_e, r_kBlk_r, r_kBlk_o, r_kLoop_n, r_kLoop_e, r_kLoop_r, r_ops_nil, r_bin, r_binB, r_binP, r_eql, r_neq, r_lss, r_leq, r_gtr, r_geq, r_add, r_sub, r_mul, v_eqs, v_nes, r_opt, r_pick, r_pick_t, r_pick_f, r_not, v_not, r_ret, r_exit, r_skip, r_cond_t, r_cond_f, r_block, r_loop, r_kEnd_n, r_kEnd_r, r_giveO, r_consO, r_evR_0, r_evR_o, r_evR_1, r_evR_N, r_give_0, r_give_1, r_give_2, initV, r_nilck, v_ckp, v_ckf, r_fadr, v_fadr, r_load1, rd1, rdN, v_rd0, rdRow_0, rdRow_s, r_loadN, r_store, v_wrV, v_wrA, v_rdA0, v_some, r_putK, r_alloc, r_box, r_boxK, r_build, r_aggK, fill_0, fill_s, fillK_1, putRow_0, putRow_s, c_agg, c_int, c_bool, c_str, c_slc, c_nils, c_fn, c_ptr, r_buildS, r_rowsK1, fillR_1, fillO_1, r_append, r_fld1, r_idxS, r_idxStr, r_len, v_lenS, v_lenL, v_lenN, r_slcStr, v_sub, map_some, map_none, r_call, r_callv, v_callf, r_ext, v_ext0, v_exts, r_mkfn, opds, r_conv, v_conv, llen_0, llen_s, n_of, ii_eq, ii_lt, ii_le, get_put, get_add, next_put, next_add, put_put, add_put', ne_s, ne_s', ne_ss, ne_ss', if_true, if_false, ite_self, ite_true, ite_false, Nat.zero_add, Nat.add_zero, Nat.reduceAdd, Nat.reduceLT, Nat.reduceEqDiff, Bool.not_false, Bool.not_true, decide_true, decide_false, eq_self, gc]
  refine s10 (n := k + 7) (l := ⟨hn + N, scat hn hc c⟩) H1 _ ?_
  intro H2 v2 g2 sl2
  simp only [rdR1, rdRN, r_un1, r_convBS, r_convIS, r_isP, r_rngS, r_rngP, r_nxtS, r_nxtP, r_mkmap, r_lkp, r_idxA, v_pnn, v_ppn, v_qnn, v_qpn, r_slcS, r_again1, r_againN, ag_int, ag_bool, ag_str, ag_agg, r_seq, r_reg, r_op, r_op_y, r_op_n, r_op_u, r_move, r_get_v, r_get_t, r_get_c, r_lget_0, r_lget_s, r_lset_0, r_lset_s, r_kOp_t, r_kOp_v, r_kOp_o, r_kReg, r_kSeq_n, r_kSeq_e, r_kSeq_r, r_kBlk_n, r_kBlk_e, r_kBlk_r, r_kBlk_o, r_kLoop_n, r_kLoop_e, r_kLoop_r, r_ops_nil, r_bin, r_binB, r_binP, r_eql, r_neq, r_lss, r_leq, r_gtr, r_geq, r_add, r_sub, r_mul, v_eqs, v_nes, r_opt, r_pick, r_pick_t, r_pick_f, r_not, v_not, r_ret, r_exit, r_skip, r_cond_t, r_cond_f, r_block, r_loop, r_kEnd_n, r_kEnd_r, r_giveO, r_consO, r_evR_0, r_evR_o, r_evR_1, r_evR_N, r_give_0, r_give_1, r_give_2, initV, r_nilck, v_ckp, v_ckf, r_fadr, v_fadr, r_load1, rd1, rdN, v_rd0, rdRow_0, rdRow_s, r_loadN, r_store, v_wrV, v_wrA, v_rdA0, v_some, r_putK, r_alloc, r_box, r_boxK, r_build, r_aggK, fill_0, fill_s, fillK_1, putRow_0, putRow_s, c_agg, c_int, c_bool, c_str, c_slc, c_nils, c_fn, c_ptr, r_buildS, r_rowsK1, fillR_1, fillO_1, r_append, r_fld1, r_idxS, r_idxStr, r_len, v_lenS, v_lenL, v_lenN, r_slcStr, v_sub, map_some, map_none, r_call, r_callv, v_callf, r_ext, v_ext0, v_exts, r_mkfn, opds, r_conv, v_conv, llen_0, llen_s, n_of, ii_eq, ii_lt, ii_le, get_put, get_add, next_put, next_add, put_put, add_put', ne_s, ne_s', ne_ss, ne_ss', if_true, if_false, ite_self, ite_true, ite_false, Nat.zero_add, Nat.add_zero, Nat.reduceAdd, Nat.reduceLT, Nat.reduceEqDiff, Bool.not_false, Bool.not_true, decide_true, decide_false, eq_self, s11]
  exact hK _
/-- LexBytes. -/
theorem s4 {b : AVal} {N c : Nat} {com : Bool} (hb : bsV (rowsOf H 1 b) = some (.str N c)) (hl : lenV false b = some (.int .i64 (N : Int))) (hg : H.gl = GT) (hK : ∀ H', K (.bool true) H') :
    evF AP TT (n + 11) 4 [b, .bool com] H K := by
  rw [r_fun look4]
  by_cases h1 : 200 < N
  · simp only [rdR1, rdRN, r_un1, r_convBS, r_convIS, r_isP, r_rngS, r_rngP, r_nxtS, r_nxtP, r_mkmap, r_lkp, r_idxA, v_pnn, v_ppn, v_qnn, v_qpn, r_slcS, r_again1, r_againN, ag_int, ag_bool, ag_str, ag_agg, r_seq, r_reg, r_op, r_op_y, r_op_n, r_op_u, r_move, r_get_v, r_get_t, r_get_c, r_lget_0, r_lget_s, r_lset_0, r_lset_s, r_kOp_t, r_kOp_v, r_kOp_o, r_kReg, r_kSeq_n, r_kSeq_e, r_kSeq_r, r_kBlk_n, r_kBlk_e, r_kBlk_r, r_kBlk_o, r_kLoop_n, r_kLoop_e, r_kLoop_r, r_ops_nil, r_bin, r_binB, r_binP, r_eql, r_neq, r_lss, r_leq, r_gtr, r_geq, r_add, r_sub, r_mul, v_eqs, v_nes, r_opt, r_pick, r_pick_t, r_pick_f, r_not, v_not, r_ret, r_exit, r_skip, r_cond_t, r_cond_f, r_block, r_loop, r_kEnd_n, r_kEnd_r, r_giveO, r_consO, r_evR_0, r_evR_o, r_evR_1, r_evR_N, r_give_0, r_give_1, r_give_2, initV, r_nilck, v_ckp, v_ckf, r_fadr, v_fadr, r_load1, rd1, rdN, v_rd0, rdRow_0, rdRow_s, r_loadN, r_store, v_wrV, v_wrA, v_rdA0, v_some, r_putK, r_alloc, r_box, r_boxK, r_build, r_aggK, fill_0, fill_s, fillK_1, putRow_0, putRow_s, c_agg, c_int, c_bool, c_str, c_slc, c_nils, c_fn, c_ptr, r_buildS, r_rowsK1, fillR_1, fillO_1, r_append, r_fld1, r_idxS, r_idxStr, r_len, v_lenS, v_lenL, v_lenN, r_slcStr, v_sub, map_some, map_none, r_call, r_callv, v_callf, r_ext, v_ext0, v_exts, r_mkfn, opds, r_conv, v_conv, llen_0, llen_s, n_of, ii_eq, ii_lt, ii_le, get_put, get_add, next_put, next_add, put_put, add_put', ne_s, ne_s', ne_ss, ne_ss', if_true, if_false, ite_self, ite_true, ite_false, Nat.zero_add, Nat.add_zero, Nat.reduceAdd, Nat.reduceLT, Nat.reduceEqDiff, Bool.not_false, Bool.not_true, decide_true, decide_false, eq_self, d4, s8 (n := n + 9) hg, hl, h1]
    exact hK _
  cases com with
  | false =>
    simp only [rdR1, rdRN, r_un1, r_convBS, r_convIS, r_isP, r_rngS, r_rngP, r_nxtS, r_nxtP, r_mkmap, r_lkp, r_idxA, v_pnn, v_ppn, v_qnn, v_qpn, r_slcS, r_again1, r_againN, ag_int, ag_bool, ag_str, ag_agg, r_seq, r_reg, r_op, r_op_y, r_op_n, r_op_u, r_move, r_get_v, r_get_t, r_get_c, r_lget_0, r_lget_s, r_lset_0, r_lset_s, r_kOp_t, r_kOp_v, r_kOp_o, r_kReg, r_kSeq_n, r_kSeq_e, r_kSeq_r, r_kBlk_n, r_kBlk_e, r_kBlk_r, r_kBlk_o, r_kLoop_n, r_kLoop_e, r_kLoop_r, r_ops_nil, r_bin, r_binB, r_binP, r_eql, r_neq, r_lss, r_leq, r_gtr, r_geq, r_add, r_sub, r_mul, v_eqs, v_nes, r_opt, r_pick, r_pick_t, r_pick_f, r_not, v_not, r_ret, r_exit, r_skip, r_cond_t, r_cond_f, r_block, r_loop, r_kEnd_n, r_kEnd_r, r_giveO, r_consO, r_evR_0, r_evR_o, r_evR_1, r_evR_N, r_give_0, r_give_1, r_give_2, initV, r_nilck, v_ckp, v_ckf, r_fadr, v_fadr, r_load1, rd1, rdN, v_rd0, rdRow_0, rdRow_s, r_loadN, r_store, v_wrV, v_wrA, v_rdA0, v_some, r_putK, r_alloc, r_box, r_boxK, r_build, r_aggK, fill_0, fill_s, fillK_1, putRow_0, putRow_s, c_agg, c_int, c_bool, c_str, c_slc, c_nils, c_fn, c_ptr, r_buildS, r_rowsK1, fillR_1, fillO_1, r_append, r_fld1, r_idxS, r_idxStr, r_len, v_lenS, v_lenL, v_lenN, r_slcStr, v_sub, map_some, map_none, r_call, r_callv, v_callf, r_ext, v_ext0, v_exts, r_mkfn, opds, r_conv, v_conv, llen_0, llen_s, n_of, ii_eq, ii_lt, ii_le, get_put, get_add, next_put, next_add, put_put, add_put', ne_s, ne_s', ne_ss, ne_ss', if_true, if_false, ite_self, ite_true, ite_false, Nat.zero_add, Nat.add_zero, Nat.reduceAdd, Nat.reduceLT, Nat.reduceEqDiff, Bool.not_false, Bool.not_true, decide_true, decide_false, eq_self, d4, s8 (n := n + 9) hg, hl, h1, hb]
    exact end4 hg (by omega) hK
  | true =>
    simp only [rdR1, rdRN, r_un1, r_convBS, r_convIS, r_isP, r_rngS, r_rngP, r_nxtS, r_nxtP, r_mkmap, r_lkp, r_idxA, v_pnn, v_ppn, v_qnn, v_qpn, r_slcS, r_again1, r_againN, ag_int, ag_bool, ag_str, ag_agg, r_seq, r_reg, r_op, r_op_y, r_op_n, r_op_u, r_move, r_get_v, r_get_t, r_get_c, r_lget_0, r_lget_s, r_lset_0, r_lset_s, r_kOp_t, r_kOp_v, r_kOp_o, r_kReg, r_kSeq_n, r_kSeq_e, r_kSeq_r, r_kBlk_n, r_kBlk_e, r_kBlk_r, r_kBlk_o, r_kLoop_n, r_kLoop_e, r_kLoop_r, r_ops_nil, r_bin, r_binB, r_binP, r_eql, r_neq, r_lss, r_leq, r_gtr, r_geq, r_add, r_sub, r_mul, v_eqs, v_nes, r_opt, r_pick, r_pick_t, r_pick_f, r_not, v_not, r_ret, r_exit, r_skip, r_cond_t, r_cond_f, r_block, r_loop, r_kEnd_n, r_kEnd_r, r_giveO, r_consO, r_evR_0, r_evR_o, r_evR_1, r_evR_N, r_give_0, r_give_1, r_give_2, initV, r_nilck, v_ckp, v_ckf, r_fadr, v_fadr, r_load1, rd1, rdN, v_rd0, rdRow_0, rdRow_s, r_loadN, r_store, v_wrV, v_wrA, v_rdA0, v_some, r_putK, r_alloc, r_box, r_boxK, r_build, r_aggK, fill_0, fill_s, fillK_1, putRow_0, putRow_s, c_agg, c_int, c_bool, c_str, c_slc, c_nils, c_fn, c_ptr, r_buildS, r_rowsK1, fillR_1, fillO_1, r_append, r_fld1, r_idxS, r_idxStr, r_len, v_lenS, v_lenL, v_lenN, r_slcStr, v_sub, map_some, map_none, r_call, r_callv, v_callf, r_ext, v_ext0, v_exts, r_mkfn, opds, r_conv, v_conv, llen_0, llen_s, n_of, ii_eq, ii_lt, ii_le, get_put, get_add, next_put, next_add, put_put, add_put', ne_s, ne_s', ne_ss, ne_ss', if_true, if_false, ite_self, ite_true, ite_false, Nat.zero_add, Nat.add_zero, Nat.reduceAdd, Nat.reduceLT, Nat.reduceEqDiff, Bool.not_false, Bool.not_true, decide_true, decide_false, eq_self, d4, s8 (n := n + 9) hg, hl, h1, hb]
    refine loop4 (N := N) (c := c) (by omega) ?_ ?_ N 0 _ (by omega) (by unfold manyRounds; omega)
    · intro i ts
      simp only [rdR1, rdRN, r_un1, r_convBS, r_convIS, r_isP, r_rngS, r_rngP, r_nxtS, r_nxtP, r_mkmap, r_lkp, r_idxA, v_pnn, v_ppn, v_qnn, v_qpn, r_slcS, r_again1, r_againN, ag_int, ag_bool, ag_str, ag_agg, r_seq, r_reg, r_op, r_op_y, r_op_n, r_op_u, r_move, r_get_v, r_get_t, r_get_c, r_lget_0, r_lget_s, r_lset_0, r_lset_s, r_kOp_t, r_kOp_v, r_kOp_o, r_kReg, r_kSeq_n, r_kSeq_e, r_kSeq_r, r_kBlk_n, r_kBlk_e, r_kBlk_r, r_kBlk_o, r_kLoop_n, r_kLoop_e, r_kLoop_r, r_ops_nil, r_bin, r_binB, r_binP, r_eql, r_neq, r_lss, r_leq, r_gtr, r_geq, r_add, r_sub, r_mul, v_eqs, v_nes, r_opt, r_pick, r_pick_t, r_pick_f, r_not, v_not, r_ret, r_exit, r_skip, r_cond_t, r_cond_f, r_block, r_loop, r_kEnd_n, r_kEnd_r, r_giveO, r_consO, r_evR_0, r_evR_o, r_evR_1, r_evR_N, r_give_0, r_give_1, r_give_2, initV, r_nilck, v_ckp, v_ckf, r_fadr, v_fadr, r_load1, rd1, rdN, v_rd0, rdRow_0, rdRow_s, r_loadN, r_store, v_wrV, v_wrA, v_rdA0, v_some, r_putK, r_alloc, r_box, r_boxK, r_build, r_aggK, fill_0, fill_s, fillK_1, putRow_0, putRow_s, c_agg, c_int, c_bool, c_str, c_slc, c_nils, c_fn, c_ptr, r_buildS, r_rowsK1, fillR_1, fillO_1, r_append, r_fld1, r_idxS, r_idxStr, r_len, v_lenS, v_lenL, v_lenN, r_slcStr, v_sub, map_some, map_none, r_call, r_callv, v_callf, r_ext, v_ext0, v_exts, r_mkfn, opds, r_conv, v_conv, llen_0, llen_s, n_of, ii_eq, ii_lt, ii_le, get_put, get_add, next_put, next_add, put_put, add_put', ne_s, ne_s', ne_ss, ne_ss', if_true, if_false, ite_self, ite_true, ite_false, Nat.zero_add, Nat.add_zero, Nat.reduceAdd, Nat.reduceLT, Nat.reduceEqDiff, Bool.not_false, Bool.not_true, decide_true, decide_false, eq_self]
      exact hK _
    · intro ts
      simp only [rdR1, rdRN, r_un1, r_convBS, r_convIS, r_isP, r_rngS, r_rngP, r_nxtS, r_nxtP, r_mkmap, r_lkp, r_idxA, v_pnn, v_ppn, v_qnn, v_qpn, r_slcS, r_again1, r_againN, ag_int, ag_bool, ag_str, ag_agg, r_seq, r_reg, r_op, r_op_y, r_op_n, r_op_u, r_move, r_get_v, r_get_t, r_get_c, r_lget_0, r_lget_s, r_lset_0, r_lset_s, r_kOp_t, r_kOp_v, r_kOp_o, r_kReg, r_kSeq_n, r_kSeq_e, r_kSeq_r, r_kBlk_n, r_kBlk_e, r_kBlk_r, r_kBlk_o, r_kLoop_n, r_kLoop_e, r_kLoop_r, r_ops_nil, r_bin, r_binB, r_binP, r_eql, r_neq, r_lss, r_leq, r_gtr, r_geq, r_add, r_sub, r_mul, v_eqs, v_nes, r_opt, r_pick, r_pick_t, r_pick_f, r_not, v_not, r_ret, r_exit, r_skip, r_cond_t, r_cond_f, r_block, r_loop, r_kEnd_n, r_kEnd_r, r_giveO, r_consO, r_evR_0, r_evR_o, r_evR_1, r_evR_N, r_give_0, r_give_1, r_give_2, initV, r_nilck, v_ckp, v_ckf, r_fadr, v_fadr, r_load1, rd1, rdN, v_rd0, rdRow_0, rdRow_s, r_loadN, r_store, v_wrV, v_wrA, v_rdA0, v_some, r_putK, r_alloc, r_box, r_boxK, r_build, r_aggK, fill_0, fill_s, fillK_1, putRow_0, putRow_s, c_agg, c_int, c_bool, c_str, c_slc, c_nils, c_fn, c_ptr, r_buildS, r_rowsK1, fillR_1, fillO_1, r_append, r_fld1, r_idxS, r_idxStr, r_len, v_lenS, v_lenL, v_lenN, r_slcStr, v_sub, map_some, map_none, r_call, r_callv, v_callf, r_ext, v_ext0, v_exts, r_mkfn, opds, r_conv, v_conv, llen_0, llen_s, n_of, ii_eq, ii_lt, ii_le, get_put, get_add, next_put, next_add, put_put, add_put', ne_s, ne_s', ne_ss, ne_ss', if_true, if_false, ite_self, ite_true, ite_false, Nat.zero_add, Nat.add_zero, Nat.reduceAdd, Nat.reduceLT, Nat.reduceEqDiff, Bool.not_false, Bool.not_true, decide_true, decide_false, eq_self]
      exact end4 hg (by omega) hK
end
/-! ### The bytes that came in: a block that nobody writes -/
theorem law_walk3 {f : Nat} {fn : Func} {c : Code} (h1 : Go.Proofs.Tryd.prog.funcs[f]? = some fn) (h2 : fn.body = some c) (h3 : fn.name ≠ "runtime.NumGoroutine") {N : Nat} {args : List AVal} {us : List Value} {ρ : Env} {H : Heap} {w : World} (hH : HRel ρ H w) (hro : ∀ b R, ρ b = some R → ¬ Wr (H.get b)) (hs : VRels ρ args us)
    (h : evF AP TT N f args H (fun x _ => x = .bool true)) :
    Calls Go.Proofs.Tryd.prog f us.toArray w fun e w' => e = .returned (.bool true) ∧ Go.RowKit.Below w.heap.size w w' := by
  have ho := evF_sound (A := AP) TT_ok N f args H (fun x _ => x = .bool true) ρ w us hs hH h
  unfold Out at ho
  rw [run_callFunc_body h1 h2 h3] at ho
  refine Calls.mono ho fun e w' he => ?_
  obtain ⟨v, g1, x, H', ρ', g2, g3, g4⟩ := he
  obtain rfl : x = .bool true := g2
  cases g3
  exact ⟨g1, g4.os, g4.tape, g4.output, g4.size, fun k hk => g4.frame k hk fun b R e hw => (hro b R e hw).elim⟩
/-- The memory of one block. -/
def oneH (B : Blk) : Heap := Heap.add ⟨0, .nil, GT⟩ B
theorem one_get {B : Blk} : (oneH B).get 0 = B := by unfold oneH; rw [get_add, if_pos rfl]
theorem one_rel {w : World} {B : Blk} {R : RB} (hw : GRel w GT) (hB : BRel (Env.none.add 0 R) w R B) (hlt : R.blk < w.heap.size) (hn : ¬ Wr B) : HRel (Env.none.add 0 R) (oneH B) w ∧ ∀ b S, Env.none.add 0 R b = some S → ¬ Wr ((oneH B).get b) := by
  have key : ∀ b S, Env.none.add 0 R b = some S → b = 0 ∧ S = R := fun b S e => by
    unfold Env.add at e
    by_cases hb : b = 0
    · rw [if_pos hb] at e; exact ⟨hb, (Option.some.inj e).symm⟩
    · rw [if_neg hb] at e; cases e
  refine ⟨⟨fun b S e => ?_, fun b b' S S' e e' _ _ _ => ?_, fun b S e => ?_, hw, fun b S e h => ?_⟩, fun b S e => ?_⟩
  · obtain ⟨rfl, rfl⟩ := key b S e
    rw [one_get]
    exact hB
  · rw [(key b S e).1, (key b' S' e').1]
  · obtain ⟨rfl, rfl⟩ := key b S e
    exact ⟨by show 0 < 0 + 1; omega, hlt⟩
  · obtain ⟨rfl, rfl⟩ := key b S e
    rw [one_get] at h
    exact (hn h).elim
  · obtain ⟨rfl, rfl⟩ := key b S e
    rw [one_get]
    exact hn
theorem bcode_map : ∀ ds : List Nat, bcode (ds.map fun d => [AVal.int .u8 ((d : Nat) : Int)]) = some (codeOf (ds.map UInt8.ofNat))
  | [] => rfl
  | d :: ds => by
    show (match bcode (ds.map fun d => [AVal.int .u8 ((d : Nat) : Int)]) with | some c' => some (d % 256 + 256 * c') | none => none) = _
    rw [bcode_map ds]
    simp [codeOf]
theorem bs_ro {b : Nat} {H : Heap} {cap : Option Nat} {ds : List Nat} (h : H.get b = .ro (ds.map fun d => [AVal.int .u8 ((d : Nat) : Int)])) :
    bsV (rowsOf H 1 (.slc b 0 ds.length cap 1)) = some (.str ds.length (codeOf (ds.map UInt8.ofNat))) := by
  have hr : rowsOf H 1 (.slc b 0 ds.length cap 1) = some (ds.map fun d => [AVal.int .u8 ((d : Nat) : Int)]) := by
    cases hd : ds with
    | nil => rfl
    | cons d ds' =>
      rw [← hd]
      show (match ds.length with | 0 => some [] | len + 1 => match H.get b with | .rows _ l => rtake l 0 (len + 1) | .ro l => rtake l 0 (len + 1) | _ => none) = _
      rw [show ds.length = ds'.length + 1 by rw [hd]; rfl, h]
      show rtake _ _ _ = _
      rw [rtake_ok _ _ _ (by rw [List.length_map, hd]; simp), List.drop_zero, List.take_of_length_le (by rw [List.length_map, hd]; simp)]
  rw [hr]
  simp only [bsV, bcode_map]
  rw [rlen_len, List.length_map]
/-- The slice that came in, as the machine has it. -/
theorem bytes_in {w : World} {a : Option Addr} {len cap : Nat} {zs : List Int} (hw : GRel w GT)
    (h : (a = none ∧ len = 0 ∧ cap = 0 ∧ zs = []) ∨ ∃ x, a = some x ∧ len ≤ cap ∧ cap ≤ maxLen ∧ zs.length = cap ∧ (∀ i, i < zs.length → w.cell? (x.add i) = some (.int .u8 (zs.getD i 0))) ∧ ∀ n ∈ zs, (Lit.int .u8 n).wf = true) :
    ∃ (ρ : Env) (H : Heap) (b : AVal) (c : Nat), HRel ρ H w ∧ (∀ b R, ρ b = some R → ¬ Wr (H.get b)) ∧ H.gl = GT ∧ VRel ρ b (.slice a len cap) ∧ bsV (rowsOf H 1 b) = some (.str len c) ∧ lenV false b = some (.int .i64 (len : Int)) := by
  rcases h with ⟨rfl, rfl, rfl, rfl⟩ | ⟨x, rfl, h1, h2, h3, h4, h5⟩
  · exact ⟨Env.none, ⟨0, .nil, GT⟩, .nils, 0, HRel.nobody w hw, fun b R e => (by cases e), rfl, .nils, rfl, rfl⟩
  · rcases Nat.eq_zero_or_pos cap with h0 | h0
    · have hl0 : len = 0 := by omega
      subst hl0
      subst h0
      have hsz : 0 < w.heap.size := Nat.lt_of_lt_of_le (by show 0 < 4; omega) hw.size
      obtain ⟨g1, g2⟩ := one_rel (B := .dead) (R := ⟨0, 0, 0, 0, 1⟩) hw trivial hsz (fun h => h)
      exact ⟨_, _, .slc 0 0 0 (some 0) 1, 0, g1, g2, rfl, .slc (R := ⟨0, 0, 0, 0, 1⟩) Env.add_same 0 0 0 (some 0) x (Nat.le_refl _) (fun c hc => by cases hc; rfl) (fun hc => by cases hc) (Or.inl ⟨rfl, rfl⟩), rfl, rfl⟩
    · have c0 := h4 0 (by omega)
      have hadd : x.add 0 = x := by unfold Addr.add; rw [if_pos rfl]
      rw [hadd] at c0
      obtain ⟨cs, et, fz, hh, hsp, hc0⟩ : ∃ cs et fz, w.heap[x.block]? = some (.cells cs et fz) ∧ x.spot = none ∧ cs[x.off]? = some (.int .u8 (zs.getD 0 0)) := by
        unfold World.cell? at c0
        split at c0
        · rename_i cs et fz hh
          split at c0
          · cases c0
          · rename_i hs
            refine ⟨cs, et, fz, hh, ?_, c0⟩
            cases hx : x.spot with
            | none => rfl
            | some v => rw [hx] at hs; exact (hs rfl).elim
        · cases c0
      have cell : ∀ i, i < zs.length → cs[x.off + i]? = some (.int .u8 (zs.getD i 0)) := fun i hi => by
        have := h4 i hi
        unfold World.cell? at this
        have hb : (x.add i).block = x.block := by unfold Addr.add; split <;> rfl
        have ho : (x.add i).off = x.off + i := by unfold Addr.add; split <;> simp_all
        have hsp' : (x.add i).spot = none := by unfold Addr.add; split <;> simp_all
        rw [hb, hh] at this
        simp only [hsp', ho] at this
        exact this
      have hlt : x.block < w.heap.size := (Array.getElem?_eq_some_iff.1 hh).1
      have hds : ((zs.take len).map Int.toNat).length = len := by rw [List.length_map, List.length_take]; omega
      obtain ⟨g1, g2⟩ := one_rel (B := .ro (((zs.take len).map Int.toNat).map fun d => [AVal.int .u8 ((d : Nat) : Int)])) (R := ⟨x.block, x.off, x.off + cap, len, 1⟩) hw ⟨rfl, fun row hrow => by
          obtain ⟨d, _, rfl⟩ := List.mem_map.1 hrow
          rfl, cs, et, fz, hh, fun r row hr j y hy => by
          rw [List.map_map, List.getElem?_map] at hr
          cases hz : (zs.take len)[r]? with
          | none => rw [hz] at hr; cases hr
          | some z =>
            rw [hz] at hr
            cases hr
            have hj : j = 0 := by
              cases j with
              | zero => rfl
              | succ j => simp at hy
            subst hj
            have hy' : y = .int .u8 ((z.toNat : Nat) : Int) := by simpa using hy.symm
            have hrl : r < len := by
              have := (List.getElem?_eq_some_iff.1 hz).1
              rw [List.length_take] at this
              omega
            rw [List.getElem?_take_of_lt hrl] at hz
            have hzm : z ∈ zs := List.mem_of_getElem? hz
            have hwf := h5 z hzm
            have hz0 : ((z.toNat : Nat) : Int) = z := by
              have : 0 ≤ z := by
                unfold Lit.wf at hwf
                simp at hwf
                have := hwf.1
                simpa [IntKind.min, IntKind.signed] using this
              omega
            have hgd : zs.getD r 0 = z := by rw [List.getD_eq_getElem?_getD, hz]; rfl
            refine ⟨.int .u8 z, ?_, rfl, ?_⟩
            · rw [← hgd]
              have := cell r (List.getElem?_eq_some_iff.1 hz).1
              rw [Nat.mul_one, Nat.add_zero]
              exact this
            · rw [hy', hz0]
              exact .int _ _⟩ hlt (fun h => h)
      refine ⟨_, _, .slc 0 0 len (some cap) 1, codeOf (((zs.take len).map Int.toNat).map UInt8.ofNat), g1, g2, rfl, ?_, ?_, rfl⟩
      · refine .slc (R := ⟨x.block, x.off, x.off + cap, len, 1⟩) Env.add_same 0 len cap (some cap) x h1 (fun c hc => by cases hc; rfl) (fun hc => by cases hc) (Or.inr ⟨?_, by show x.off + (0 + cap) * 1 ≤ x.off + cap; omega⟩)
        show x = ⟨x.block, x.off + 0 * 1, none⟩
        cases x
        simp only at hsp
        subst hsp
        simp
      · have := bs_ro (b := 0) (H := oneH (.ro (((zs.take len).map Int.toNat).map fun d => [AVal.int .u8 ((d : Nat) : Int)]))) (cap := some cap) (ds := (zs.take len).map Int.toNat) one_get
        rw [hds] at this
        exact this
theorem walk4 {w : World} {a : Option Addr} {len cap : Nat} {zs : List Int} {com : Bool} (hw : GRel w GT)
    (h : (a = none ∧ len = 0 ∧ cap = 0 ∧ zs = []) ∨ ∃ x, a = some x ∧ len ≤ cap ∧ cap ≤ maxLen ∧ zs.length = cap ∧ (∀ i, i < zs.length → w.cell? (x.add i) = some (.int .u8 (zs.getD i 0))) ∧ ∀ n ∈ zs, (Lit.int .u8 n).wf = true) :
    Calls Go.Proofs.Tryd.prog 4 #[.slice a len cap, .bool com] w fun e w' => e = .returned (.bool true) ∧ Go.RowKit.Below w.heap.size w w' := by
  obtain ⟨ρ, H, b, c, g1, g2, g3, g4, g5, g6⟩ := bytes_in hw h
  exact law_walk3 (fn := Go.Proofs.Tryd.f4) (us := [.slice a len cap, .bool com]) (by kernel_rfl) rfl (ne_of_beq_false (by kernel_rfl)) g1 g2 (.cons g4 (.cons (.bool com) .nil)) (s4 (n := 0) g5 g6 g3 (fun _ => rfl))
end Dt
