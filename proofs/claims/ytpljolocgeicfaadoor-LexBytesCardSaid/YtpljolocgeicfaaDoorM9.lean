/- A part of the abstract machine and of the proof that the program does what it reckons; no conditions. -/
import Derived.Test.YtpljolocgeicfaaDoorM8
namespace Dt
open Go
set_option linter.all false
set_option maxRecDepth 100000
theorem look28 : TT.funs 28 = some d28 := (rfl)
theorem look42 : TT.funs 42 = some d42 := (rfl)
theorem look47 : TT.funs 47 = some d47 := (rfl)
theorem look57 : TT.funs 57 = some d57 := (rfl)
theorem look58 : TT.funs 58 = some d58 := (rfl)
theorem look63 : TT.funs 63 = some d63 := (rfl)
section
variable {n : Nat} {H : Heap} {K : AVal → Heap → Prop}
/-- IndexByte. -/
theorem s65 {m cc d : Nat} : evF AP TT (n + 1) 65 [.str m cc, .int .u8 (d : Int)] H K = K (.int .i64 (idxB m cc d)) H := r_known idx_known
theorem s57 {m cc d : Nat} : evF AP TT (n + 3) 57 [.str m cc, .int .u8 (d : Int)] H K = K (.int .i64 (idxB m cc d)) H := by
  rw [r_fun look57]
  simp only [rdR1, rdRN, r_un1, r_convBS, r_convIS, r_isP, r_rngS, r_rngP, r_nxtS, r_nxtP, r_mkmap, r_lkp, r_idxA, v_pnn, v_ppn, v_qnn, v_qpn, r_slcS, r_again1, r_againN, ag_int, ag_bool, ag_str, ag_agg, r_seq, r_reg, r_op, r_op_y, r_op_n, r_op_u, r_move, r_get_v, r_get_t, r_get_c, r_lget_0, r_lget_s, r_lset_0, r_lset_s, r_kOp_t, r_kOp_v, r_kOp_o, r_kReg, r_kSeq_n, r_kSeq_e, r_kSeq_r, r_kBlk_n, r_kBlk_e, r_kBlk_r, r_kBlk_o, r_kLoop_n, r_kLoop_e, r_kLoop_r, r_ops_nil, r_bin, r_binB, r_binP, r_eql, r_neq, r_lss, r_leq, r_gtr, r_geq, r_add, r_sub, r_mul, v_eqs, v_nes, r_opt, r_pick, r_pick_t, r_pick_f, r_not, v_not, r_ret, r_exit, r_skip, r_cond_t, r_cond_f, r_block, r_loop, r_kEnd_n, r_kEnd_r, r_giveO, r_consO, r_evR_0, r_evR_o, r_evR_1, r_evR_N, r_give_0, r_give_1, r_give_2, initV, r_nilck, v_ckp, v_ckf, r_fadr, v_fadr, r_load1, rd1, rdN, v_rd0, rdRow_0, rdRow_s, r_loadN, r_store, v_wrV, v_wrA, v_rdA0, v_some, r_putK, r_alloc, r_box, r_boxK, r_build, r_aggK, fill_0, fill_s, fillK_1, putRow_0, putRow_s, c_agg, c_int, c_bool, c_str, c_slc, c_nils, c_fn, c_ptr, r_buildS, r_rowsK1, fillR_1, fillO_1, r_append, r_fld1, r_idxS, r_idxStr, r_len, v_lenS, v_lenL, v_lenN, r_slcStr, v_sub, map_some, map_none, r_call, r_callv, v_callf, r_ext, v_ext0, v_exts, r_mkfn, opds, r_conv, v_conv, llen_0, llen_s, n_of, ii_eq, ii_lt, ii_le, get_put, get_add, next_put, next_add, put_put, add_put', ne_s, ne_s', ne_ss, ne_ss', if_true, if_false, ite_self, ite_true, ite_false, Nat.zero_add, Nat.add_zero, Nat.reduceAdd, Nat.reduceLT, Nat.reduceEqDiff, Bool.not_false, Bool.not_true, decide_true, decide_false, eq_self, d57]
  rw [r_fun look63]
  simp only [rdR1, rdRN, r_un1, r_convBS, r_convIS, r_isP, r_rngS, r_rngP, r_nxtS, r_nxtP, r_mkmap, r_lkp, r_idxA, v_pnn, v_ppn, v_qnn, v_qpn, r_slcS, r_again1, r_againN, ag_int, ag_bool, ag_str, ag_agg, r_seq, r_reg, r_op, r_op_y, r_op_n, r_op_u, r_move, r_get_v, r_get_t, r_get_c, r_lget_0, r_lget_s, r_lset_0, r_lset_s, r_kOp_t, r_kOp_v, r_kOp_o, r_kReg, r_kSeq_n, r_kSeq_e, r_kSeq_r, r_kBlk_n, r_kBlk_e, r_kBlk_r, r_kBlk_o, r_kLoop_n, r_kLoop_e, r_kLoop_r, r_ops_nil, r_bin, r_binB, r_binP, r_eql, r_neq, r_lss, r_leq, r_gtr, r_geq, r_add, r_sub, r_mul, v_eqs, v_nes, r_opt, r_pick, r_pick_t, r_pick_f, r_not, v_not, r_ret, r_exit, r_skip, r_cond_t, r_cond_f, r_block, r_loop, r_kEnd_n, r_kEnd_r, r_giveO, r_consO, r_evR_0, r_evR_o, r_evR_1, r_evR_N, r_give_0, r_give_1, r_give_2, initV, r_nilck, v_ckp, v_ckf, r_fadr, v_fadr, r_load1, rd1, rdN, v_rd0, rdRow_0, rdRow_s, r_loadN, r_store, v_wrV, v_wrA, v_rdA0, v_some, r_putK, r_alloc, r_box, r_boxK, r_build, r_aggK, fill_0, fill_s, fillK_1, putRow_0, putRow_s, c_agg, c_int, c_bool, c_str, c_slc, c_nils, c_fn, c_ptr, r_buildS, r_rowsK1, fillR_1, fillO_1, r_append, r_fld1, r_idxS, r_idxStr, r_len, v_lenS, v_lenL, v_lenN, r_slcStr, v_sub, map_some, map_none, r_call, r_callv, v_callf, r_ext, v_ext0, v_exts, r_mkfn, opds, r_conv, v_conv, llen_0, llen_s, n_of, ii_eq, ii_lt, ii_le, get_put, get_add, next_put, next_add, put_put, add_put', ne_s, ne_s', ne_ss, ne_ss', if_true, if_false, ite_self, ite_true, ite_false, Nat.zero_add, Nat.add_zero, Nat.reduceAdd, Nat.reduceLT, Nat.reduceEqDiff, Bool.not_false, Bool.not_true, decide_true, decide_false, eq_self, d63, s65]
/-- ValidRune. -/
def validN (c : Nat) : Bool := decide (c < 55296) || (decide (57343 < c) && decide (c ≤ 1114111))
theorem s58 {c : Nat} : evF AP TT (n + 1) 58 [.int .i32 (c : Int)] H K = K (.bool (validN c)) H := by
  rw [r_fun look58]
  have z : 0 ≤ c := Nat.zero_le c
  by_cases h1 : c < 55296
  · have e : validN c = true := by simp [validN, h1]
    simp only [rdR1, rdRN, r_un1, r_convBS, r_convIS, r_isP, r_rngS, r_rngP, r_nxtS, r_nxtP, r_mkmap, r_lkp, r_idxA, v_pnn, v_ppn, v_qnn, v_qpn, r_slcS, r_again1, r_againN, ag_int, ag_bool, ag_str, ag_agg, r_seq, r_reg, r_op, r_op_y, r_op_n, r_op_u, r_move, r_get_v, r_get_t, r_get_c, r_lget_0, r_lget_s, r_lset_0, r_lset_s, r_kOp_t, r_kOp_v, r_kOp_o, r_kReg, r_kSeq_n, r_kSeq_e, r_kSeq_r, r_kBlk_n, r_kBlk_e, r_kBlk_r, r_kBlk_o, r_kLoop_n, r_kLoop_e, r_kLoop_r, r_ops_nil, r_bin, r_binB, r_binP, r_eql, r_neq, r_lss, r_leq, r_gtr, r_geq, r_add, r_sub, r_mul, v_eqs, v_nes, r_opt, r_pick, r_pick_t, r_pick_f, r_not, v_not, r_ret, r_exit, r_skip, r_cond_t, r_cond_f, r_block, r_loop, r_kEnd_n, r_kEnd_r, r_giveO, r_consO, r_evR_0, r_evR_o, r_evR_1, r_evR_N, r_give_0, r_give_1, r_give_2, initV, r_nilck, v_ckp, v_ckf, r_fadr, v_fadr, r_load1, rd1, rdN, v_rd0, rdRow_0, rdRow_s, r_loadN, r_store, v_wrV, v_wrA, v_rdA0, v_some, r_putK, r_alloc, r_box, r_boxK, r_build, r_aggK, fill_0, fill_s, fillK_1, putRow_0, putRow_s, c_agg, c_int, c_bool, c_str, c_slc, c_nils, c_fn, c_ptr, r_buildS, r_rowsK1, fillR_1, fillO_1, r_append, r_fld1, r_idxS, r_idxStr, r_len, v_lenS, v_lenL, v_lenN, r_slcStr, v_sub, map_some, map_none, r_call, r_callv, v_callf, r_ext, v_ext0, v_exts, r_mkfn, opds, r_conv, v_conv, llen_0, llen_s, n_of, ii_eq, ii_lt, ii_le, get_put, get_add, next_put, next_add, put_put, add_put', ne_s, ne_s', ne_ss, ne_ss', if_true, if_false, ite_self, ite_true, ite_false, Nat.zero_add, Nat.add_zero, Nat.reduceAdd, Nat.reduceLT, Nat.reduceEqDiff, Bool.not_false, Bool.not_true, decide_true, decide_false, eq_self, d58, z, h1, e]
  by_cases h2 : 57343 < c
  · by_cases h3 : c ≤ 1114111
    · have e : validN c = true := by simp [validN, h2, h3]
      simp only [rdR1, rdRN, r_un1, r_convBS, r_convIS, r_isP, r_rngS, r_rngP, r_nxtS, r_nxtP, r_mkmap, r_lkp, r_idxA, v_pnn, v_ppn, v_qnn, v_qpn, r_slcS, r_again1, r_againN, ag_int, ag_bool, ag_str, ag_agg, r_seq, r_reg, r_op, r_op_y, r_op_n, r_op_u, r_move, r_get_v, r_get_t, r_get_c, r_lget_0, r_lget_s, r_lset_0, r_lset_s, r_kOp_t, r_kOp_v, r_kOp_o, r_kReg, r_kSeq_n, r_kSeq_e, r_kSeq_r, r_kBlk_n, r_kBlk_e, r_kBlk_r, r_kBlk_o, r_kLoop_n, r_kLoop_e, r_kLoop_r, r_ops_nil, r_bin, r_binB, r_binP, r_eql, r_neq, r_lss, r_leq, r_gtr, r_geq, r_add, r_sub, r_mul, v_eqs, v_nes, r_opt, r_pick, r_pick_t, r_pick_f, r_not, v_not, r_ret, r_exit, r_skip, r_cond_t, r_cond_f, r_block, r_loop, r_kEnd_n, r_kEnd_r, r_giveO, r_consO, r_evR_0, r_evR_o, r_evR_1, r_evR_N, r_give_0, r_give_1, r_give_2, initV, r_nilck, v_ckp, v_ckf, r_fadr, v_fadr, r_load1, rd1, rdN, v_rd0, rdRow_0, rdRow_s, r_loadN, r_store, v_wrV, v_wrA, v_rdA0, v_some, r_putK, r_alloc, r_box, r_boxK, r_build, r_aggK, fill_0, fill_s, fillK_1, putRow_0, putRow_s, c_agg, c_int, c_bool, c_str, c_slc, c_nils, c_fn, c_ptr, r_buildS, r_rowsK1, fillR_1, fillO_1, r_append, r_fld1, r_idxS, r_idxStr, r_len, v_lenS, v_lenL, v_lenN, r_slcStr, v_sub, map_some, map_none, r_call, r_callv, v_callf, r_ext, v_ext0, v_exts, r_mkfn, opds, r_conv, v_conv, llen_0, llen_s, n_of, ii_eq, ii_lt, ii_le, get_put, get_add, next_put, next_add, put_put, add_put', ne_s, ne_s', ne_ss, ne_ss', if_true, if_false, ite_self, ite_true, ite_false, Nat.zero_add, Nat.add_zero, Nat.reduceAdd, Nat.reduceLT, Nat.reduceEqDiff, Bool.not_false, Bool.not_true, decide_true, decide_false, eq_self, d58, z, h1, h2, h3, e]
    · have e : validN c = false := by simp [validN, h1, h3]
      simp only [rdR1, rdRN, r_un1, r_convBS, r_convIS, r_isP, r_rngS, r_rngP, r_nxtS, r_nxtP, r_mkmap, r_lkp, r_idxA, v_pnn, v_ppn, v_qnn, v_qpn, r_slcS, r_again1, r_againN, ag_int, ag_bool, ag_str, ag_agg, r_seq, r_reg, r_op, r_op_y, r_op_n, r_op_u, r_move, r_get_v, r_get_t, r_get_c, r_lget_0, r_lget_s, r_lset_0, r_lset_s, r_kOp_t, r_kOp_v, r_kOp_o, r_kReg, r_kSeq_n, r_kSeq_e, r_kSeq_r, r_kBlk_n, r_kBlk_e, r_kBlk_r, r_kBlk_o, r_kLoop_n, r_kLoop_e, r_kLoop_r, r_ops_nil, r_bin, r_binB, r_binP, r_eql, r_neq, r_lss, r_leq, r_gtr, r_geq, r_add, r_sub, r_mul, v_eqs, v_nes, r_opt, r_pick, r_pick_t, r_pick_f, r_not, v_not, r_ret, r_exit, r_skip, r_cond_t, r_cond_f, r_block, r_loop, r_kEnd_n, r_kEnd_r, r_giveO, r_consO, r_evR_0, r_evR_o, r_evR_1, r_evR_N, r_give_0, r_give_1, r_give_2, initV, r_nilck, v_ckp, v_ckf, r_fadr, v_fadr, r_load1, rd1, rdN, v_rd0, rdRow_0, rdRow_s, r_loadN, r_store, v_wrV, v_wrA, v_rdA0, v_some, r_putK, r_alloc, r_box, r_boxK, r_build, r_aggK, fill_0, fill_s, fillK_1, putRow_0, putRow_s, c_agg, c_int, c_bool, c_str, c_slc, c_nils, c_fn, c_ptr, r_buildS, r_rowsK1, fillR_1, fillO_1, r_append, r_fld1, r_idxS, r_idxStr, r_len, v_lenS, v_lenL, v_lenN, r_slcStr, v_sub, map_some, map_none, r_call, r_callv, v_callf, r_ext, v_ext0, v_exts, r_mkfn, opds, r_conv, v_conv, llen_0, llen_s, n_of, ii_eq, ii_lt, ii_le, get_put, get_add, next_put, next_add, put_put, add_put', ne_s, ne_s', ne_ss, ne_ss', if_true, if_false, ite_self, ite_true, ite_false, Nat.zero_add, Nat.add_zero, Nat.reduceAdd, Nat.reduceLT, Nat.reduceEqDiff, Bool.not_false, Bool.not_true, decide_true, decide_false, eq_self, d58, z, h1, h2, h3, e]
  · have e : validN c = false := by simp [validN, h1, h2]
    simp only [rdR1, rdRN, r_un1, r_convBS, r_convIS, r_isP, r_rngS, r_rngP, r_nxtS, r_nxtP, r_mkmap, r_lkp, r_idxA, v_pnn, v_ppn, v_qnn, v_qpn, r_slcS, r_again1, r_againN, ag_int, ag_bool, ag_str, ag_agg, r_seq, r_reg, r_op, r_op_y, r_op_n, r_op_u, r_move, r_get_v, r_get_t, r_get_c, r_lget_0, r_lget_s, r_lset_0, r_lset_s, r_kOp_t, r_kOp_v, r_kOp_o, r_kReg, r_kSeq_n, r_kSeq_e, r_kSeq_r, r_kBlk_n, r_kBlk_e, r_kBlk_r, r_kBlk_o, r_kLoop_n, r_kLoop_e, r_kLoop_r, r_ops_nil, r_bin, r_binB, r_binP, r_eql, r_neq, r_lss, r_leq, r_gtr, r_geq, r_add, r_sub, r_mul, v_eqs, v_nes, r_opt, r_pick, r_pick_t, r_pick_f, r_not, v_not, r_ret, r_exit, r_skip, r_cond_t, r_cond_f, r_block, r_loop, r_kEnd_n, r_kEnd_r, r_giveO, r_consO, r_evR_0, r_evR_o, r_evR_1, r_evR_N, r_give_0, r_give_1, r_give_2, initV, r_nilck, v_ckp, v_ckf, r_fadr, v_fadr, r_load1, rd1, rdN, v_rd0, rdRow_0, rdRow_s, r_loadN, r_store, v_wrV, v_wrA, v_rdA0, v_some, r_putK, r_alloc, r_box, r_boxK, r_build, r_aggK, fill_0, fill_s, fillK_1, putRow_0, putRow_s, c_agg, c_int, c_bool, c_str, c_slc, c_nils, c_fn, c_ptr, r_buildS, r_rowsK1, fillR_1, fillO_1, r_append, r_fld1, r_idxS, r_idxStr, r_len, v_lenS, v_lenL, v_lenN, r_slcStr, v_sub, map_some, map_none, r_call, r_callv, v_callf, r_ext, v_ext0, v_exts, r_mkfn, opds, r_conv, v_conv, llen_0, llen_s, n_of, ii_eq, ii_lt, ii_le, get_put, get_add, next_put, next_add, put_put, add_put', ne_s, ne_s', ne_ss, ne_ss', if_true, if_false, ite_self, ite_true, ite_false, Nat.zero_add, Nat.add_zero, Nat.reduceAdd, Nat.reduceLT, Nat.reduceEqDiff, Bool.not_false, Bool.not_true, decide_true, decide_false, eq_self, d58, z, h1, h2, e]

theorem single_lt : ∀ c, c < 128 → decide ((0 : Int) ≤ idxB 6 48634019916072 c) = isDelim c := by decide +kernel
theorem none_2 : ∀ v, v < 256 → 128 ≤ v → idxB 4 (scut 48634019916072 2 6) v = -1 := by decide +kernel
theorem none_3 : ∀ v, v < 256 → 128 ≤ v → idxB 3 (scut 48634019916072 3 6) v = -1 := by decide +kernel
theorem none_4 : ∀ v, v < 256 → 128 ≤ v → idxB 2 (scut 48634019916072 4 6) v = -1 := by decide +kernel
theorem big_not {c : Nat} (h : 128 ≤ c) : isDelim c = false := by
  simp only [isDelim, Bool.or_eq_false_iff, beq_eq_false_iff_ne]
  omega

theorem dig_1 {a b : Nat} (ha : a < 256) : (a + 256 * b) / 256 = b := by omega
theorem dig_2 {a b c : Nat} (ha : a < 256) (hb : b < 256) : (a + 256 * (b + 256 * c)) / 65536 = c := by omega
theorem dig_3 {a b c d : Nat} (ha : a < 256) (hb : b < 256) (hc : c < 256) : (a + 256 * (b + 256 * (c + 256 * d))) / 16777216 = d := by omega
/-- A rune's bytes: how many, and the last one. -/
theorem enc_2 {c : Nat} (h : 128 ≤ c) (h2 : c < 2048) : (encN (c : Int)).1 = 2 ∧ sget (encN (c : Int)).2 1 = 128 + c % 64 := by
  have hv : Utf8.valid (c : Int) = true := by simp [Utf8.valid]; omega
  have e : encN (c : Int) = (2, (192 + c / 64) % 256 + 256 * ((128 + c % 64) % 256)) := by
    unfold encN
    rw [hv]
    simp only [if_true, Int.toNat_natCast]
    rw [if_neg (by omega), if_pos h2]
  rw [e]
  refine ⟨rfl, ?_⟩
  rw [sget_eq]
  simp only [Nat.pow_one]
  rw [dig_1 (by omega)]
  omega
theorem enc_3 {c : Nat} (h : 2048 ≤ c) (h2 : c < 65536) (hv : validN c = true) : (encN (c : Int)).1 = 3 ∧ sget (encN (c : Int)).2 2 = 128 + c % 64 := by
  have hv : Utf8.valid (c : Int) = true := by simp [validN] at hv; simp [Utf8.valid]; omega
  have e : encN (c : Int) = (3, (224 + c / 4096) % 256 + 256 * ((128 + c / 64 % 64) % 256 + 256 * ((128 + c % 64) % 256))) := by
    unfold encN
    rw [hv]
    simp only [if_true, Int.toNat_natCast]
    rw [if_neg (by omega), if_neg (by omega), if_pos h2]
  rw [e]
  refine ⟨rfl, ?_⟩
  rw [sget_eq]
  rw [show 256 ^ 2 = 65536 from rfl]
  simp only
  rw [dig_2 (by omega) (by omega)]
  omega
theorem enc_4 {c : Nat} (h : 65536 ≤ c) (hv : validN c = true) : (encN (c : Int)).1 = 4 ∧ sget (encN (c : Int)).2 3 = 128 + c % 64 := by
  have hv : Utf8.valid (c : Int) = true := by simp [validN] at hv; simp [Utf8.valid]; omega
  have e : encN (c : Int) = (4, (240 + c / 262144) % 256 + 256 * ((128 + c / 4096 % 64) % 256 + 256 * ((128 + c / 64 % 64) % 256 + 256 * ((128 + c % 64) % 256)))) := by
    unfold encN
    rw [hv]
    simp only [if_true, Int.toNat_natCast]
    rw [if_neg (by omega), if_neg (by omega), if_neg (by omega)]
  rw [e]
  refine ⟨rfl, ?_⟩
  rw [sget_eq]
  rw [show 256 ^ 3 = 16777216 from rfl]
  simp only
  rw [dig_3 (by omega) (by omega) (by omega)]
  omega

/-- The search for the last byte of a rune that is none of the six. -/
theorem ts_code {i : Nat} (h : i < 6) : chrV (.str 6 48634019916072) (.int .i64 (i : Int)) = some (.int .u8 ((sget 48634019916072 i : Nat) : Int)) := v_chr h
theorem small_6 : ∀ i, i < 6 → sget 48634019916072 i < 128 := by decide +kernel
theorem loop47 {m e v r : Nat} {a1 a2 a3 a4 a8 a9 a10 a11 a12 a13 a14 a15 a16 : AVal} {KK : KP} (hm : 2 ≤ m) (hm4 : m ≤ 4) (hv : sget e (m - 1) = v) (h1 : 128 ≤ v)
    (hi : idxB (6 - m) (scut 48634019916072 m 6) v = -1)
    (hK : ∀ ts a9, KK .ret [.str 6 48634019916072, a1, .int .i64 (-1), a3, a4, .str m e, .int .i64 ((m - 1 : Nat) : Int), .int .i64 ((m - 1 : Nat) : Int), a8, a9, a10, a11, a12, a13, a14, a15, a16] ts H) :
    loopOf (evF AP TT (n + 3)) b47_4 (r + 1) [.str 6 48634019916072, a1, a2, a3, a4, .str m e, .int .i64 ((m - 1 : Nat) : Int), .int .i64 ((m - 1 : Nat) : Int), a8, a9, a10, a11, a12, a13, a14, a15, a16] H KK := by
  rw [r_roundN b47_4.eq_1]
  have g1 : m - 1 < 6 := by omega
  have c1 := ts_code g1
  have c2 : chrV (.str m e) (.int .i64 ((m - 1 : Nat) : Int)) = some (.int .u8 (v : Int)) := by rw [v_chr (by omega), hv]
  have g2 : ¬ sget 48634019916072 (m - 1) = v := by have := small_6 (m - 1) g1; omega
  have gw : IntKind.i64.wrap (((m - 1 : Nat) : Int) + ((1 : Nat) : Int)) = ((m : Nat) : Int) := by rw [w_add (by omega)]; congr 1; omega
  have hs : subK (.str 6 48634019916072) (some (.int .i64 (m : Int))) none = some (.str (6 - m) (scut 48634019916072 m 6)) := by simp only [subK, bound_nat (show m ≤ 6 by omega)]
  have gn : ((-1 : Int) < ((0 : Nat) : Int)) = True := by simp
  have e1 : Int.negSucc 0 = -1 := rfl
  simp only [rdR1, rdRN, r_un1, r_convBS, r_convIS, r_isP, r_rngS, r_rngP, r_nxtS, r_nxtP, r_mkmap, r_lkp, r_idxA, v_pnn, v_ppn, v_qnn, v_qpn, r_slcS, r_again1, r_againN, ag_int, ag_bool, ag_str, ag_agg, r_seq, r_reg, r_op, r_op_y, r_op_n, r_op_u, r_move, r_get_v, r_get_t, r_get_c, r_lget_0, r_lget_s, r_lset_0, r_lset_s, r_kOp_t, r_kOp_v, r_kOp_o, r_kReg, r_kSeq_n, r_kSeq_e, r_kSeq_r, r_kBlk_n, r_kBlk_e, r_kBlk_r, r_kBlk_o, r_kLoop_n, r_kLoop_e, r_kLoop_r, r_ops_nil, r_bin, r_binB, r_binP, r_eql, r_neq, r_lss, r_leq, r_gtr, r_geq, r_add, r_sub, r_mul, v_eqs, v_nes, r_opt, r_pick, r_pick_t, r_pick_f, r_not, v_not, r_ret, r_exit, r_skip, r_cond_t, r_cond_f, r_block, r_loop, r_kEnd_n, r_kEnd_r, r_giveO, r_consO, r_evR_0, r_evR_o, r_evR_1, r_evR_N, r_give_0, r_give_1, r_give_2, initV, r_nilck, v_ckp, v_ckf, r_fadr, v_fadr, r_load1, rd1, rdN, v_rd0, rdRow_0, rdRow_s, r_loadN, r_store, v_wrV, v_wrA, v_rdA0, v_some, r_putK, r_alloc, r_box, r_boxK, r_build, r_aggK, fill_0, fill_s, fillK_1, putRow_0, putRow_s, c_agg, c_int, c_bool, c_str, c_slc, c_nils, c_fn, c_ptr, r_buildS, r_rowsK1, fillR_1, fillO_1, r_append, r_fld1, r_idxS, r_idxStr, r_len, v_lenS, v_lenL, v_lenN, r_slcStr, v_sub, map_some, map_none, r_call, r_callv, v_callf, r_ext, v_ext0, v_exts, r_mkfn, opds, r_conv, v_conv, llen_0, llen_s, n_of, ii_eq, ii_lt, ii_le, get_put, get_add, next_put, next_add, put_put, add_put', ne_s, ne_s', ne_ss, ne_ss', if_true, if_false, ite_self, ite_true, ite_false, Nat.zero_add, Nat.add_zero, Nat.reduceAdd, Nat.reduceLT, Nat.reduceEqDiff, Bool.not_false, Bool.not_true, decide_true, decide_false, eq_self, g1, c1, c2, g2, gw, hs, s57, hi, gn, e1]
  exact hK _ _
end
end Dt
