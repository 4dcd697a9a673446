/- A part of the abstract machine and of the proof that the program does what it reckons; no conditions. -/
import Derived.Test.YtpljolocgeicfaaDoorM7
namespace Dt
open Go
set_option linter.all false
set_option maxRecDepth 100000
theorem look41 : TT.funs 41 = some d41 := (rfl)
section
variable {n : Nat} {t : Tx} {H : Heap} {K : AVal → Heap → Prop}
theorem s46 (hl : t.len ≤ 1000000) (h0 : 0 < t.len) (hb : 128 ≤ byteAt t 0) (hg : H.gl = GT)
    (hbad : ∀ H', Grow H H' → H'.gl = H.gl → rune t 0 = 0 → K (.tup [.int .i32 ((65533 : Nat) : Int), .int .i64 ((1 : Nat) : Int)]) H')
    (hok : ∀ (c : Nat) H', Grow H H' → H'.gl = H.gl → 2 ≤ rune t 0 → 128 ≤ c → K (.tup [.int .i32 (c : Int), .int .i64 (rune t 0 : Int)]) H') :
    evF AP TT (n + 1) 46 [.str t.len t.code] H K := by
  have b0 := byteAt_lt t 0
  obtain ⟨a1, a2, a3, a4, a5⟩ := acc_at hg
  by_cases r1 : byteAt t 0 < 194 ∨ 245 ≤ byteAt t 0
  · have hr := rune_bad hb r1
    have hx : firstF (byteAt t 0) = 241 := by unfold firstF; repeat' split
                                              all_goals omega
    rw [r_fun look46]
    have f0 : ¬ t.len < 1 := by omega
    have f1 := v_idg (len := 256) (z := 1) (g := 2) (c := 0) (k := .u8) b0
    have f2 : rdG1 H.gl 2 (0 + byteAt t 0 * 1) = some (.int .u8 ((241 : Nat) : Int)) := by rw [Nat.zero_add, Nat.mul_one, first_at hg b0, hx]
    rw [Nat.zero_add] at f1 f2
    have f3 : 240 ≤ 241 := by omega
    have c0 := v_chrL (k := .i64) h0
    have w1 : IntKind.i32.wrap ((241 : Nat) : Int) = ((241 : Nat) : Int) := wI32 (by omega)
    have w0 : IntKind.i32.wrap (byteAt t 0 : Int) = (byteAt t 0 : Int) := wI32 (by omega)
    have q1 : binV .shl (.int .i32 ((241 : Nat) : Int)) (.int .u64 ((31 : Nat) : Int)) = some (.int .i32 (-2147483648)) := by rfl
    have q2 : binV .shr (.int .i32 (-2147483648)) (.int .u64 ((31 : Nat) : Int)) = some (.int .i32 (-1)) := by rfl
    have q3 : binV .and (.int .i32 ((65533 : Nat) : Int)) (.int .i32 (-1)) = some (.int .i32 ((65533 : Nat) : Int)) := by rfl
    have q4 : binV .or (.int .i32 ((0 : Nat) : Int)) (.int .i32 ((65533 : Nat) : Int)) = some (.int .i32 ((65533 : Nat) : Int)) := by rfl
    simp only [rdR1, rdRN, r_un1, r_convBS, r_convIS, r_isP, r_rngS, r_rngP, r_nxtS, r_nxtP, r_mkmap, r_lkp, r_idxA, v_pnn, v_ppn, v_qnn, v_qpn, r_slcS, r_again1, r_againN, ag_int, ag_bool, ag_str, ag_agg, r_seq, r_reg, r_op, r_op_y, r_op_n, r_op_u, r_move, r_get_v, r_get_t, r_get_c, r_lget_0, r_lget_s, r_lset_0, r_lset_s, r_kOp_t, r_kOp_v, r_kOp_o, r_kReg, r_kSeq_n, r_kSeq_e, r_kSeq_r, r_kBlk_n, r_kBlk_e, r_kBlk_r, r_kBlk_o, r_kLoop_n, r_kLoop_e, r_kLoop_r, r_ops_nil, r_bin, r_binB, r_binP, r_eql, r_neq, r_lss, r_leq, r_gtr, r_geq, r_add, r_sub, r_mul, v_eqs, v_nes, r_opt, r_pick, r_pick_t, r_pick_f, r_not, v_not, r_ret, r_exit, r_skip, r_cond_t, r_cond_f, r_block, r_loop, r_kEnd_n, r_kEnd_r, r_giveO, r_consO, r_evR_0, r_evR_o, r_evR_1, r_evR_N, r_give_0, r_give_1, r_give_2, initV, r_nilck, v_ckp, v_ckf, r_fadr, v_fadr, r_load1, rd1, rdN, v_rd0, rdRow_0, rdRow_s, r_loadN, r_store, v_wrV, v_wrA, v_rdA0, v_some, r_putK, r_alloc, r_box, r_boxK, r_build, r_aggK, fill_0, fill_s, fillK_1, putRow_0, putRow_s, c_agg, c_int, c_bool, c_str, c_slc, c_nils, c_fn, c_ptr, r_buildS, r_rowsK1, fillR_1, fillO_1, r_append, r_fld1, r_idxS, r_idxStr, r_len, v_lenS, v_lenL, v_lenN, r_slcStr, v_sub, map_some, map_none, r_call, r_callv, v_callf, r_ext, v_ext0, v_exts, r_mkfn, opds, r_conv, v_conv, llen_0, llen_s, n_of, ii_eq, ii_lt, ii_le, get_put, get_add, next_put, next_add, put_put, add_put', ne_s, ne_s', ne_ss, ne_ss', if_true, if_false, ite_self, ite_true, ite_false, Nat.zero_add, Nat.add_zero, Nat.reduceAdd, Nat.reduceLT, Nat.reduceEqDiff, Bool.not_false, Bool.not_true, decide_true, decide_false, eq_self, d46, f0, f1, f2, f3, c0, w1, w0, q1, q2, q3, q4, andNot_all]
    exact hbad _ (Grow.refl _) rfl hr
  by_cases r2 : byteAt t 0 < 224
  · have hr := rune_2 (t := t) (by omega) r2
    have hx : firstF (byteAt t 0) = 2 := by unfold firstF; repeat' split
                                            all_goals omega
    refine s46_ hl h0 hg hx (by omega) (sz := 2) rfl (by omega) a1 ?_ ?_ ?_ ?_ (by omega) (by omega)
    · intro H' g1 g2 g3
      rw [if_neg (by omega)] at hr
      exact hbad H' g1 g2 hr
    · intro H' g1 g2 _ g3 g4 g5
      rw [if_pos (by omega)] at hr
      have := hok (val2 t) H' g1 g2 (by omega) (val2_ge (by omega) r2)
      rwa [hr] at this
    · intro H' _ _ h; omega
    · intro H' _ _ h; omega
  by_cases r3 : byteAt t 0 < 240
  · have hr := rune_3 (t := t) (by omega) r3
    have go : ∀ (x lo hi : Nat), firstF (byteAt t 0) = x → x < 240 → x &&& 7 = 3 → x / 16 < 16 → rdGN H.gl 3 (x / 16 * 2) 2 = some (.agg [.int .u8 (lo : Int), .int .u8 (hi : Int)]) → (if byteAt t 0 = 224 then 160 else 128) = lo → (if byteAt t 0 = 237 then 159 else 191) = hi → hi ≤ 191 → (byteAt t 0 = 224 → 160 ≤ lo) →
        evF AP TT (n + 1) 46 [.str t.len t.code] H K := by
      intro x lo hi hx hx2 hx7 hx16 hacc hlo hhi hhi2 hlo2
      rw [hlo, hhi] at hr
      refine s46_ hl h0 hg hx hx2 hx7 hx16 hacc ?_ ?_ ?_ ?_ (by omega) (by omega)
      · intro H' g1 g2 g3
        rw [if_neg (by intro hh; exact g3 ⟨hh.1, hh.2.1, hh.2.2.1, fun _ => hh.2.2.2, fun h => by omega⟩)] at hr
        exact hbad H' g1 g2 hr
      · intro H' _ _ h; omega
      · intro H' g1 g2 _ g3 g4 g5 g6 g7
        rw [if_pos ⟨g3, g4, g5, g6, g7⟩] at hr
        have := hok (val3 t) H' g1 g2 (by omega) (val3_ge (by omega) r3 (fun e => Nat.le_trans (hlo2 e) g4) (by omega))
        rwa [hr] at this
      · intro H' _ _ h; omega
    by_cases e1 : byteAt t 0 = 224
    · exact go 19 160 191 (by unfold firstF; repeat' split
                              all_goals omega) (by omega) rfl (by omega) a2 (by rw [if_pos e1]) (by rw [if_neg (by omega)]) (by omega) (by omega)
    · by_cases e2 : byteAt t 0 = 237
      · exact go 35 128 159 (by unfold firstF; repeat' split
                                all_goals omega) (by omega) rfl (by omega) a3 (by rw [if_neg e1]) (by rw [if_pos e2]) (by omega) (by omega)
      · exact go 3 128 191 (by unfold firstF; repeat' split
                               all_goals omega) (by omega) rfl (by omega) a1 (by rw [if_neg e1]) (by rw [if_neg e2]) (by omega) (by omega)
  · have r4 : byteAt t 0 < 245 := by omega
    have hr := rune_4 (t := t) (by omega) r4
    have go : ∀ (x lo hi : Nat), firstF (byteAt t 0) = x → x < 240 → x &&& 7 = 4 → x / 16 < 16 → rdGN H.gl 3 (x / 16 * 2) 2 = some (.agg [.int .u8 (lo : Int), .int .u8 (hi : Int)]) → (if byteAt t 0 = 240 then 144 else 128) = lo → (if byteAt t 0 = 244 then 143 else 191) = hi → hi ≤ 191 → (byteAt t 0 = 240 → 144 ≤ lo) →
        evF AP TT (n + 1) 46 [.str t.len t.code] H K := by
      intro x lo hi hx hx2 hx7 hx16 hacc hlo hhi hhi2 hlo2
      rw [hlo, hhi] at hr
      refine s46_ hl h0 hg hx hx2 hx7 hx16 hacc ?_ ?_ ?_ ?_ (by omega) (by omega)
      · intro H' g1 g2 g3
        rw [if_neg (by intro hh; exact g3 ⟨hh.1, hh.2.1, hh.2.2.1, fun _ => ⟨hh.2.2.2.1, hh.2.2.2.2.1⟩, fun h => hh.2.2.2.2.2⟩)] at hr
        exact hbad H' g1 g2 hr
      · intro H' _ _ h; omega
      · intro H' _ _ h; omega
      · intro H' g1 g2 _ g3 g4 g5 g6 g7 g8 g9
        rw [if_pos ⟨g3, g4, g5, g6, g7, g8, g9⟩] at hr
        have := hok (val4 t) H' g1 g2 (by omega) (val4_ge (by omega) r4 (fun e => Nat.le_trans (hlo2 e) g4) (by omega))
        rwa [hr] at this
    by_cases e1 : byteAt t 0 = 240
    · exact go 52 144 191 (by unfold firstF; repeat' split
                              all_goals omega) (by omega) rfl (by omega) a4 (by rw [if_pos e1]) (by rw [if_neg (by omega)]) (by omega) (by omega)
    · by_cases e2 : byteAt t 0 = 244
      · exact go 68 128 143 (by unfold firstF; repeat' split
                                all_goals omega) (by omega) rfl (by omega) a5 (by rw [if_neg e1]) (by rw [if_pos e2]) (by omega) (by omega)
      · exact go 4 128 191 (by unfold firstF; repeat' split
                               all_goals omega) (by omega) rfl (by omega) a1 (by rw [if_neg e1]) (by rw [if_neg e2]) (by omega) (by omega)

/-- DecodeRuneInString. -/
theorem s41 (hl : t.len ≤ 1000000) (h0 : 0 < t.len) (hg : H.gl = GT)
    (hasc : byteAt t 0 < 128 → K (.tup [.int .i32 (byteAt t 0 : Int), .int .i64 ((1 : Nat) : Int)]) H)
    (hbad : ∀ H', Grow H H' → H'.gl = H.gl → 128 ≤ byteAt t 0 → rune t 0 = 0 → K (.tup [.int .i32 ((65533 : Nat) : Int), .int .i64 ((1 : Nat) : Int)]) H')
    (hok : ∀ (c : Nat) H', Grow H H' → H'.gl = H.gl → 128 ≤ byteAt t 0 → 2 ≤ rune t 0 → 128 ≤ c → K (.tup [.int .i32 (c : Int), .int .i64 (rune t 0 : Int)]) H') :
    evF AP TT (n + 2) 41 [.str t.len t.code] H K := by
  rw [r_fun look41]
  have f0 : (Nat.beq t.len 0 && Nat.beq t.code 0) = false := by
    have : Nat.beq t.len 0 = false := by
      cases h : Nat.beq t.len 0 with
      | false => rfl
      | true => have := Nat.eq_of_beq_eq_true h; omega
    rw [this]; rfl
  have c0 := v_chrL (k := .i64) h0
  have w0 : IntKind.i32.wrap (byteAt t 0 : Int) = (byteAt t 0 : Int) := wI32 (by have := byteAt_lt t 0; omega)
  by_cases h1 : byteAt t 0 < 128
  · simp only [rdR1, rdRN, r_un1, r_convBS, r_convIS, r_isP, r_rngS, r_rngP, r_nxtS, r_nxtP, r_mkmap, r_lkp, r_idxA, v_pnn, v_ppn, v_qnn, v_qpn, r_slcS, r_again1, r_againN, ag_int, ag_bool, ag_str, ag_agg, r_seq, r_reg, r_op, r_op_y, r_op_n, r_op_u, r_move, r_get_v, r_get_t, r_get_c, r_lget_0, r_lget_s, r_lset_0, r_lset_s, r_kOp_t, r_kOp_v, r_kOp_o, r_kReg, r_kSeq_n, r_kSeq_e, r_kSeq_r, r_kBlk_n, r_kBlk_e, r_kBlk_r, r_kBlk_o, r_kLoop_n, r_kLoop_e, r_kLoop_r, r_ops_nil, r_bin, r_binB, r_binP, r_eql, r_neq, r_lss, r_leq, r_gtr, r_geq, r_add, r_sub, r_mul, v_eqs, v_nes, r_opt, r_pick, r_pick_t, r_pick_f, r_not, v_not, r_ret, r_exit, r_skip, r_cond_t, r_cond_f, r_block, r_loop, r_kEnd_n, r_kEnd_r, r_giveO, r_consO, r_evR_0, r_evR_o, r_evR_1, r_evR_N, r_give_0, r_give_1, r_give_2, initV, r_nilck, v_ckp, v_ckf, r_fadr, v_fadr, r_load1, rd1, rdN, v_rd0, rdRow_0, rdRow_s, r_loadN, r_store, v_wrV, v_wrA, v_rdA0, v_some, r_putK, r_alloc, r_box, r_boxK, r_build, r_aggK, fill_0, fill_s, fillK_1, putRow_0, putRow_s, c_agg, c_int, c_bool, c_str, c_slc, c_nils, c_fn, c_ptr, r_buildS, r_rowsK1, fillR_1, fillO_1, r_append, r_fld1, r_idxS, r_idxStr, r_len, v_lenS, v_lenL, v_lenN, r_slcStr, v_sub, map_some, map_none, r_call, r_callv, v_callf, r_ext, v_ext0, v_exts, r_mkfn, opds, r_conv, v_conv, llen_0, llen_s, n_of, ii_eq, ii_lt, ii_le, get_put, get_add, next_put, next_add, put_put, add_put', ne_s, ne_s', ne_ss, ne_ss', if_true, if_false, ite_self, ite_true, ite_false, Nat.zero_add, Nat.add_zero, Nat.reduceAdd, Nat.reduceLT, Nat.reduceEqDiff, Bool.not_false, Bool.not_true, decide_true, decide_false, eq_self, d41, f0, c0, h1, w0]
    exact hasc h1
  · simp only [rdR1, rdRN, r_un1, r_convBS, r_convIS, r_isP, r_rngS, r_rngP, r_nxtS, r_nxtP, r_mkmap, r_lkp, r_idxA, v_pnn, v_ppn, v_qnn, v_qpn, r_slcS, r_again1, r_againN, ag_int, ag_bool, ag_str, ag_agg, r_seq, r_reg, r_op, r_op_y, r_op_n, r_op_u, r_move, r_get_v, r_get_t, r_get_c, r_lget_0, r_lget_s, r_lset_0, r_lset_s, r_kOp_t, r_kOp_v, r_kOp_o, r_kReg, r_kSeq_n, r_kSeq_e, r_kSeq_r, r_kBlk_n, r_kBlk_e, r_kBlk_r, r_kBlk_o, r_kLoop_n, r_kLoop_e, r_kLoop_r, r_ops_nil, r_bin, r_binB, r_binP, r_eql, r_neq, r_lss, r_leq, r_gtr, r_geq, r_add, r_sub, r_mul, v_eqs, v_nes, r_opt, r_pick, r_pick_t, r_pick_f, r_not, v_not, r_ret, r_exit, r_skip, r_cond_t, r_cond_f, r_block, r_loop, r_kEnd_n, r_kEnd_r, r_giveO, r_consO, r_evR_0, r_evR_o, r_evR_1, r_evR_N, r_give_0, r_give_1, r_give_2, initV, r_nilck, v_ckp, v_ckf, r_fadr, v_fadr, r_load1, rd1, rdN, v_rd0, rdRow_0, rdRow_s, r_loadN, r_store, v_wrV, v_wrA, v_rdA0, v_some, r_putK, r_alloc, r_box, r_boxK, r_build, r_aggK, fill_0, fill_s, fillK_1, putRow_0, putRow_s, c_agg, c_int, c_bool, c_str, c_slc, c_nils, c_fn, c_ptr, r_buildS, r_rowsK1, fillR_1, fillO_1, r_append, r_fld1, r_idxS, r_idxStr, r_len, v_lenS, v_lenL, v_lenN, r_slcStr, v_sub, map_some, map_none, r_call, r_callv, v_callf, r_ext, v_ext0, v_exts, r_mkfn, opds, r_conv, v_conv, llen_0, llen_s, n_of, ii_eq, ii_lt, ii_le, get_put, get_add, next_put, next_add, put_put, add_put', ne_s, ne_s', ne_ss, ne_ss', if_true, if_false, ite_self, ite_true, ite_false, Nat.zero_add, Nat.add_zero, Nat.reduceAdd, Nat.reduceLT, Nat.reduceEqDiff, Bool.not_false, Bool.not_true, decide_true, decide_false, eq_self, d41, f0, c0, h1, w0]
    refine s46 hl h0 (by omega) hg ?_ ?_
    · intro H' g1 g2 g3
      simp only [rdR1, rdRN, r_un1, r_convBS, r_convIS, r_isP, r_rngS, r_rngP, r_nxtS, r_nxtP, r_mkmap, r_lkp, r_idxA, v_pnn, v_ppn, v_qnn, v_qpn, r_slcS, r_again1, r_againN, ag_int, ag_bool, ag_str, ag_agg, r_seq, r_reg, r_op, r_op_y, r_op_n, r_op_u, r_move, r_get_v, r_get_t, r_get_c, r_lget_0, r_lget_s, r_lset_0, r_lset_s, r_kOp_t, r_kOp_v, r_kOp_o, r_kReg, r_kSeq_n, r_kSeq_e, r_kSeq_r, r_kBlk_n, r_kBlk_e, r_kBlk_r, r_kBlk_o, r_kLoop_n, r_kLoop_e, r_kLoop_r, r_ops_nil, r_bin, r_binB, r_binP, r_eql, r_neq, r_lss, r_leq, r_gtr, r_geq, r_add, r_sub, r_mul, v_eqs, v_nes, r_opt, r_pick, r_pick_t, r_pick_f, r_not, v_not, r_ret, r_exit, r_skip, r_cond_t, r_cond_f, r_block, r_loop, r_kEnd_n, r_kEnd_r, r_giveO, r_consO, r_evR_0, r_evR_o, r_evR_1, r_evR_N, r_give_0, r_give_1, r_give_2, initV, r_nilck, v_ckp, v_ckf, r_fadr, v_fadr, r_load1, rd1, rdN, v_rd0, rdRow_0, rdRow_s, r_loadN, r_store, v_wrV, v_wrA, v_rdA0, v_some, r_putK, r_alloc, r_box, r_boxK, r_build, r_aggK, fill_0, fill_s, fillK_1, putRow_0, putRow_s, c_agg, c_int, c_bool, c_str, c_slc, c_nils, c_fn, c_ptr, r_buildS, r_rowsK1, fillR_1, fillO_1, r_append, r_fld1, r_idxS, r_idxStr, r_len, v_lenS, v_lenL, v_lenN, r_slcStr, v_sub, map_some, map_none, r_call, r_callv, v_callf, r_ext, v_ext0, v_exts, r_mkfn, opds, r_conv, v_conv, llen_0, llen_s, n_of, ii_eq, ii_lt, ii_le, get_put, get_add, next_put, next_add, put_put, add_put', ne_s, ne_s', ne_ss, ne_ss', if_true, if_false, ite_self, ite_true, ite_false, Nat.zero_add, Nat.add_zero, Nat.reduceAdd, Nat.reduceLT, Nat.reduceEqDiff, Bool.not_false, Bool.not_true, decide_true, decide_false, eq_self]
      exact hbad H' g1 g2 (by omega) g3
    · intro c H' g1 g2 g3 g4
      simp only [rdR1, rdRN, r_un1, r_convBS, r_convIS, r_isP, r_rngS, r_rngP, r_nxtS, r_nxtP, r_mkmap, r_lkp, r_idxA, v_pnn, v_ppn, v_qnn, v_qpn, r_slcS, r_again1, r_againN, ag_int, ag_bool, ag_str, ag_agg, r_seq, r_reg, r_op, r_op_y, r_op_n, r_op_u, r_move, r_get_v, r_get_t, r_get_c, r_lget_0, r_lget_s, r_lset_0, r_lset_s, r_kOp_t, r_kOp_v, r_kOp_o, r_kReg, r_kSeq_n, r_kSeq_e, r_kSeq_r, r_kBlk_n, r_kBlk_e, r_kBlk_r, r_kBlk_o, r_kLoop_n, r_kLoop_e, r_kLoop_r, r_ops_nil, r_bin, r_binB, r_binP, r_eql, r_neq, r_lss, r_leq, r_gtr, r_geq, r_add, r_sub, r_mul, v_eqs, v_nes, r_opt, r_pick, r_pick_t, r_pick_f, r_not, v_not, r_ret, r_exit, r_skip, r_cond_t, r_cond_f, r_block, r_loop, r_kEnd_n, r_kEnd_r, r_giveO, r_consO, r_evR_0, r_evR_o, r_evR_1, r_evR_N, r_give_0, r_give_1, r_give_2, initV, r_nilck, v_ckp, v_ckf, r_fadr, v_fadr, r_load1, rd1, rdN, v_rd0, rdRow_0, rdRow_s, r_loadN, r_store, v_wrV, v_wrA, v_rdA0, v_some, r_putK, r_alloc, r_box, r_boxK, r_build, r_aggK, fill_0, fill_s, fillK_1, putRow_0, putRow_s, c_agg, c_int, c_bool, c_str, c_slc, c_nils, c_fn, c_ptr, r_buildS, r_rowsK1, fillR_1, fillO_1, r_append, r_fld1, r_idxS, r_idxStr, r_len, v_lenS, v_lenL, v_lenN, r_slcStr, v_sub, map_some, map_none, r_call, r_callv, v_callf, r_ext, v_ext0, v_exts, r_mkfn, opds, r_conv, v_conv, llen_0, llen_s, n_of, ii_eq, ii_lt, ii_le, get_put, get_add, next_put, next_add, put_put, add_put', ne_s, ne_s', ne_ss, ne_ss', if_true, if_false, ite_self, ite_true, ite_false, Nat.zero_add, Nat.add_zero, Nat.reduceAdd, Nat.reduceLT, Nat.reduceEqDiff, Bool.not_false, Bool.not_true, decide_true, decide_false, eq_self]
      exact hok c H' g1 g2 (by omega) g3 g4
end
end Dt
