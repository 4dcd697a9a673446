/- A part of the abstract machine and of the proof that the program does what it reckons; no conditions. -/
import Derived.Test.YtpljolocgeicfaaDoorM20
namespace Dt
open Go
set_option linter.all false
set_option maxRecDepth 100000
theorem look9 : TT.funs 9 = some d9 := (rfl)
section
variable {l : Tx}
theorem till_stop {q : Nat → Bool} : ∀ (k : Nat) (x : Lx), x.Ok l → x.left l ≤ k → (tillM l q k x).e = 0 → (tillM l q k x).at_ < l.len → q (byteAt l (tillM l q k x).at_) = true
  | 0, x, hx, h, he, _ => by
    have he' : x.e = 0 := he
    simp only [Lx.left, he', if_true] at h
    omega
  | k + 1, x, hx, h, he, hat => by
    rw [tillM] at he hat ⊢
    by_cases hc : x.at_ < l.len ∧ x.e = 0
    · rw [if_pos hc] at he hat ⊢
      have hpl := passed_left hc.1 hc.2
      by_cases hf : (passed l x).e = 0
      · rw [if_neg (fun hn => hn hf)] at he hat ⊢
        cases hq : q (byteAt l x.at_) with
        | true => rw [if_pos rfl]; exact hq
        | false =>
          rw [hq, if_neg (by simp)] at he hat
          rw [if_neg (by simp)]
          exact till_stop k _ (passed_ok hx hc.1) (by omega) he hat
      · rw [if_pos hf] at he
        exact absurd he hf
    · rw [if_neg hc] at he hat
      exact absurd ⟨hat, he⟩ hc
theorem blankL_solid : ∀ (k : Nat) (x : Lx), x.Ok l → x.e = 0 → x.left l ≤ k → (blankL l k x).e = 0 → (blankL l k x).at_ < l.len → solidQ (byteAt l (blankL l k x).at_) = true
  | 0, x, hx, he, h, _, _ => by
    simp only [Lx.left, he, if_true] at h
    omega
  | k + 1, x, hx, he, h, hb, hat => by
    rw [blankL] at hb hat ⊢
    have h1 := tillM_ok (q := solidQ) (l.len + 1) hx
    have hl1 := tillM_left (q := solidQ) (l.len + 1) hx
    have hs := till_stop (q := solidQ) (l.len + 1) x hx left_le
    revert hb hat h1 hl1 hs
    generalize tillM l solidQ (l.len + 1) x = y
    intro hb hat h1 hl1 hs
    by_cases hf : y.e = 0
    · rw [if_neg (fun hn => hn hf)] at hb hat ⊢
      cases hd : dashAt l y with
      | false =>
        rw [hd, if_neg (by simp)] at hb hat
        rw [if_neg (by simp)]
        exact hs hb hat
      | true =>
        rw [hd, if_pos rfl] at hb hat
        rw [if_pos rfl]
        have h2 := tillM_ok (q := lineQ) (l.len + 1) h1
        have hd' := hd
        simp only [dashAt, Bool.and_eq_true, decide_eq_true_eq] at hd'
        have hl2 := tillM_less (q := lineQ) (k := l.len) h1 (by omega) (by rw [hd'.2.1]; rfl) hf
        by_cases hf2 : (tillM l lineQ (l.len + 1) y).e = 0
        · rw [if_neg (fun hn => hn hf2)] at hb hat ⊢
          exact blankL_solid k _ h2 hf2 (by omega) hb hat
        · rw [if_pos hf2] at hb
          exact absurd hb hf2
    · rw [if_pos hf] at hb
      exact absurd hb hf
theorem step_inr {y z : Lx} {t : Tok} (hy : y.Ok l) (he : y.e = 0) (h : lexStep l y = .inr (t, z)) : z.Ok l ∧ z.e = 0 := by
  unfold lexStep at h
  by_cases h1 : y.at_ < l.len
  · rw [if_pos h1] at h
    by_cases h2 : (lexRun l y).e = 0
    · rw [if_pos h2] at h
      split at h
      · cases h; exact ⟨lexRun_ok hy h1, h2⟩
      · cases h
    · rw [if_neg h2] at h; cases h
  · rw [if_neg h1] at h
    cases h
    exact ⟨hy, he⟩
end
section
variable {n : Nat} {H0 : Heap} {l : Tx} {p mb : Nat} {K : AVal → Heap → Prop}
theorem end9 {y : Lx} {H : Heap} {v : AVal} {pl : Nat} {call : CallP} {ts : List AVal} (hp : H.get p = .rows 8 [scRow l y mb v pl])
    (h1 : y.e ≠ 0 → K (.tup [.nils, .int .i64 (pl : Int), .int .i64 (y.e : Int)]) H) (h2 : y.e = 0 → K (.tup [v, .int .i64 ((0 : Nat) : Int), .int .i64 ((0 : Nat) : Int)]) H) :
    evC AP call r9_1 [.str l.len l.code, .nils, .int .i64 ((0 : Nat) : Int), .int .i64 ((0 : Nat) : Int), .ptr p 0 0] ts H (kEnd [.opd (.v 1), .opd (.v 2), .opd (.v 3)] K) := by
  by_cases he : y.e = 0
  · simp only [rdR1, rdRN, r_un1, r_convBS, r_convIS, r_isP, r_rngS, r_rngP, r_nxtS, r_nxtP, r_mkmap, r_lkp, r_idxA, v_pnn, v_ppn, v_qnn, v_qpn, r_slcS, r_again1, r_againN, ag_int, ag_bool, ag_str, ag_agg, r_seq, r_reg, r_op, r_op_y, r_op_n, r_op_u, r_move, r_get_v, r_get_t, r_get_c, r_lget_0, r_lget_s, r_lset_0, r_lset_s, r_kOp_t, r_kOp_v, r_kOp_o, r_kReg, r_kSeq_n, r_kSeq_e, r_kSeq_r, r_kBlk_n, r_kBlk_e, r_kBlk_r, r_kBlk_o, r_kLoop_n, r_kLoop_e, r_kLoop_r, r_ops_nil, r_bin, r_binB, r_binP, r_eql, r_neq, r_lss, r_leq, r_gtr, r_geq, r_add, r_sub, r_mul, v_eqs, v_nes, r_opt, r_pick, r_pick_t, r_pick_f, r_not, v_not, r_ret, r_exit, r_skip, r_cond_t, r_cond_f, r_block, r_loop, r_kEnd_n, r_kEnd_r, r_giveO, r_consO, r_evR_0, r_evR_o, r_evR_1, r_evR_N, r_give_0, r_give_1, r_give_2, initV, r_nilck, v_ckp, v_ckf, r_fadr, v_fadr, r_load1, rd1, rdN, v_rd0, rdRow_0, rdRow_s, r_loadN, r_store, v_wrV, v_wrA, v_rdA0, v_some, r_putK, r_alloc, r_box, r_boxK, r_build, r_aggK, fill_0, fill_s, fillK_1, putRow_0, putRow_s, c_agg, c_int, c_bool, c_str, c_slc, c_nils, c_fn, c_ptr, r_buildS, r_rowsK1, fillR_1, fillO_1, r_append, r_fld1, r_idxS, r_idxStr, r_len, v_lenS, v_lenL, v_lenN, r_slcStr, v_sub, map_some, map_none, r_call, r_callv, v_callf, r_ext, v_ext0, v_exts, r_mkfn, opds, r_conv, v_conv, llen_0, llen_s, n_of, ii_eq, ii_lt, ii_le, get_put, get_add, next_put, next_add, put_put, add_put', ne_s, ne_s', ne_ss, ne_ss', if_true, if_false, ite_self, ite_true, ite_false, Nat.zero_add, Nat.add_zero, Nat.reduceAdd, Nat.reduceLT, Nat.reduceEqDiff, Bool.not_false, Bool.not_true, decide_true, decide_false, eq_self, r9_1, hp, sc_5, sc_6, sc_7, he]
    exact h2 he
  · simp only [rdR1, rdRN, r_un1, r_convBS, r_convIS, r_isP, r_rngS, r_rngP, r_nxtS, r_nxtP, r_mkmap, r_lkp, r_idxA, v_pnn, v_ppn, v_qnn, v_qpn, r_slcS, r_again1, r_againN, ag_int, ag_bool, ag_str, ag_agg, r_seq, r_reg, r_op, r_op_y, r_op_n, r_op_u, r_move, r_get_v, r_get_t, r_get_c, r_lget_0, r_lget_s, r_lset_0, r_lset_s, r_kOp_t, r_kOp_v, r_kOp_o, r_kReg, r_kSeq_n, r_kSeq_e, r_kSeq_r, r_kBlk_n, r_kBlk_e, r_kBlk_r, r_kBlk_o, r_kLoop_n, r_kLoop_e, r_kLoop_r, r_ops_nil, r_bin, r_binB, r_binP, r_eql, r_neq, r_lss, r_leq, r_gtr, r_geq, r_add, r_sub, r_mul, v_eqs, v_nes, r_opt, r_pick, r_pick_t, r_pick_f, r_not, v_not, r_ret, r_exit, r_skip, r_cond_t, r_cond_f, r_block, r_loop, r_kEnd_n, r_kEnd_r, r_giveO, r_consO, r_evR_0, r_evR_o, r_evR_1, r_evR_N, r_give_0, r_give_1, r_give_2, initV, r_nilck, v_ckp, v_ckf, r_fadr, v_fadr, r_load1, rd1, rdN, v_rd0, rdRow_0, rdRow_s, r_loadN, r_store, v_wrV, v_wrA, v_rdA0, v_some, r_putK, r_alloc, r_box, r_boxK, r_build, r_aggK, fill_0, fill_s, fillK_1, putRow_0, putRow_s, c_agg, c_int, c_bool, c_str, c_slc, c_nils, c_fn, c_ptr, r_buildS, r_rowsK1, fillR_1, fillO_1, r_append, r_fld1, r_idxS, r_idxStr, r_len, v_lenS, v_lenL, v_lenN, r_slcStr, v_sub, map_some, map_none, r_call, r_callv, v_callf, r_ext, v_ext0, v_exts, r_mkfn, opds, r_conv, v_conv, llen_0, llen_s, n_of, ii_eq, ii_lt, ii_le, get_put, get_add, next_put, next_add, put_put, add_put', ne_s, ne_s', ne_ss, ne_ss', if_true, if_false, ite_self, ite_true, ite_false, Nat.zero_add, Nat.add_zero, Nat.reduceAdd, Nat.reduceLT, Nat.reduceEqDiff, Bool.not_false, Bool.not_true, decide_true, decide_false, eq_self, r9_1, hp, sc_5, sc_6, sc_7, he]
    exact h1 he
theorem loop9 (hl : l.len ≤ 65536) : ∀ (k r : Nat) (x : Lx) (out : List Tok) (H : Heap) (v : AVal) (pl : Nat), x.Ok l → x.e = 0 → out.length + k = 20000 → k + 1 < r → St H0 H l p mb v out → H.get p = .rows 8 [scRow l x mb v pl] →
    (∀ H' v', Grow H0 H' → H'.gl = GT → Sl H0.all H' v' 5 ((lexAll l (k + 1) x out).1.map tokRow) → K (.tup [v', .int .i64 ((lexAll l (k + 1) x out).2.1 : Int), .int .i64 ((lexAll l (k + 1) x out).2.2 : Int)]) H') →
    loopOf (evF AP TT (n + 9)) b9_0 r [.str l.len l.code, .nils, .int .i64 ((0 : Nat) : Int), .int .i64 ((0 : Nat) : Int), .ptr p 0 0] H (kBlk 0 (kSeq (evF AP TT (n + 9)) r9_1 (kEnd [.opd (.v 1), .opd (.v 2), .opd (.v 3)] K))) := by
  intro k
  induction k using Nat.strongRecOn with
  | ind k ih =>
    intro r x out H v pl hx he hk hr s hp hK
    obtain ⟨r, rfl⟩ : ∃ m, r = m + 1 := ⟨r - 1, by omega⟩
    rw [r_roundN b9_0.eq_1]
    simp only [rdR1, rdRN, r_un1, r_convBS, r_convIS, r_isP, r_rngS, r_rngP, r_nxtS, r_nxtP, r_mkmap, r_lkp, r_idxA, v_pnn, v_ppn, v_qnn, v_qpn, r_slcS, r_again1, r_againN, ag_int, ag_bool, ag_str, ag_agg, r_seq, r_reg, r_op, r_op_y, r_op_n, r_op_u, r_move, r_get_v, r_get_t, r_get_c, r_lget_0, r_lget_s, r_lset_0, r_lset_s, r_kOp_t, r_kOp_v, r_kOp_o, r_kReg, r_kSeq_n, r_kSeq_e, r_kSeq_r, r_kBlk_n, r_kBlk_e, r_kBlk_r, r_kBlk_o, r_kLoop_n, r_kLoop_e, r_kLoop_r, r_ops_nil, r_bin, r_binB, r_binP, r_eql, r_neq, r_lss, r_leq, r_gtr, r_geq, r_add, r_sub, r_mul, v_eqs, v_nes, r_opt, r_pick, r_pick_t, r_pick_f, r_not, v_not, r_ret, r_exit, r_skip, r_cond_t, r_cond_f, r_block, r_loop, r_kEnd_n, r_kEnd_r, r_giveO, r_consO, r_evR_0, r_evR_o, r_evR_1, r_evR_N, r_give_0, r_give_1, r_give_2, initV, r_nilck, v_ckp, v_ckf, r_fadr, v_fadr, r_load1, rd1, rdN, v_rd0, rdRow_0, rdRow_s, r_loadN, r_store, v_wrV, v_wrA, v_rdA0, v_some, r_putK, r_alloc, r_box, r_boxK, r_build, r_aggK, fill_0, fill_s, fillK_1, putRow_0, putRow_s, c_agg, c_int, c_bool, c_str, c_slc, c_nils, c_fn, c_ptr, r_buildS, r_rowsK1, fillR_1, fillO_1, r_append, r_fld1, r_idxS, r_idxStr, r_len, v_lenS, v_lenL, v_lenN, r_slcStr, v_sub, map_some, map_none, r_call, r_callv, v_callf, r_ext, v_ext0, v_exts, r_mkfn, opds, r_conv, v_conv, llen_0, llen_s, n_of, ii_eq, ii_lt, ii_le, get_put, get_add, next_put, next_add, put_put, add_put', ne_s, ne_s', ne_ss, ne_ss', if_true, if_false, ite_self, ite_true, ite_false, Nat.zero_add, Nat.add_zero, Nat.reduceAdd, Nat.reduceLT, Nat.reduceEqDiff, Bool.not_false, Bool.not_true, decide_true, decide_false, eq_self]
    refine s17 (n := n) (by omega) hx he s.gl s.pn hp ?_
    have hyo := blankL_ok (l := l) (l.len + 1) hx
    have hbad0 := lexAll_bad (l := l) (k := k) (x := x) (out := out) hx he
    have hok0 := lexAll_ok (l := l) (k := k) (x := x) hx he
    have hsol := blankL_solid (l.len + 1) x hx he left_le
    revert hyo hbad0 hok0 hsol
    generalize blankL l (l.len + 1) x = y
    intro hyo hbad0 hok0 hsol H1 u1 p1
    have s1 := s.updP u1
    by_cases hye : y.e = 0
    · have e1 : decide (y.e = 0) = true := decide_eq_true hye
      have e2 : plOf y pl = pl := by rw [plOf, if_pos hye]
      rw [e2] at p1
      rw [lexAll, hok0 hye, if_pos hye] at hK
      simp only [rdR1, rdRN, r_un1, r_convBS, r_convIS, r_isP, r_rngS, r_rngP, r_nxtS, r_nxtP, r_mkmap, r_lkp, r_idxA, v_pnn, v_ppn, v_qnn, v_qpn, r_slcS, r_again1, r_againN, ag_int, ag_bool, ag_str, ag_agg, r_seq, r_reg, r_op, r_op_y, r_op_n, r_op_u, r_move, r_get_v, r_get_t, r_get_c, r_lget_0, r_lget_s, r_lset_0, r_lset_s, r_kOp_t, r_kOp_v, r_kOp_o, r_kReg, r_kSeq_n, r_kSeq_e, r_kSeq_r, r_kBlk_n, r_kBlk_e, r_kBlk_r, r_kBlk_o, r_kLoop_n, r_kLoop_e, r_kLoop_r, r_ops_nil, r_bin, r_binB, r_binP, r_eql, r_neq, r_lss, r_leq, r_gtr, r_geq, r_add, r_sub, r_mul, v_eqs, v_nes, r_opt, r_pick, r_pick_t, r_pick_f, r_not, v_not, r_ret, r_exit, r_skip, r_cond_t, r_cond_f, r_block, r_loop, r_kEnd_n, r_kEnd_r, r_giveO, r_consO, r_evR_0, r_evR_o, r_evR_1, r_evR_N, r_give_0, r_give_1, r_give_2, initV, r_nilck, v_ckp, v_ckf, r_fadr, v_fadr, r_load1, rd1, rdN, v_rd0, rdRow_0, rdRow_s, r_loadN, r_store, v_wrV, v_wrA, v_rdA0, v_some, r_putK, r_alloc, r_box, r_boxK, r_build, r_aggK, fill_0, fill_s, fillK_1, putRow_0, putRow_s, c_agg, c_int, c_bool, c_str, c_slc, c_nils, c_fn, c_ptr, r_buildS, r_rowsK1, fillR_1, fillO_1, r_append, r_fld1, r_idxS, r_idxStr, r_len, v_lenS, v_lenL, v_lenN, r_slcStr, v_sub, map_some, map_none, r_call, r_callv, v_callf, r_ext, v_ext0, v_exts, r_mkfn, opds, r_conv, v_conv, llen_0, llen_s, n_of, ii_eq, ii_lt, ii_le, get_put, get_add, next_put, next_add, put_put, add_put', ne_s, ne_s', ne_ss, ne_ss', if_true, if_false, ite_self, ite_true, ite_false, Nat.zero_add, Nat.add_zero, Nat.reduceAdd, Nat.reduceLT, Nat.reduceEqDiff, Bool.not_false, Bool.not_true, decide_true, decide_false, eq_self, e1]
      refine s18 (n := n) hl s1 p1 hyo hye (hsol hye) ?_ ?_ ?_
      · intro a e hst hne H2 x' hx' s2 p2
        rw [hst] at hK
        simp only [rdR1, rdRN, r_un1, r_convBS, r_convIS, r_isP, r_rngS, r_rngP, r_nxtS, r_nxtP, r_mkmap, r_lkp, r_idxA, v_pnn, v_ppn, v_qnn, v_qpn, r_slcS, r_again1, r_againN, ag_int, ag_bool, ag_str, ag_agg, r_seq, r_reg, r_op, r_op_y, r_op_n, r_op_u, r_move, r_get_v, r_get_t, r_get_c, r_lget_0, r_lget_s, r_lset_0, r_lset_s, r_kOp_t, r_kOp_v, r_kOp_o, r_kReg, r_kSeq_n, r_kSeq_e, r_kSeq_r, r_kBlk_n, r_kBlk_e, r_kBlk_r, r_kBlk_o, r_kLoop_n, r_kLoop_e, r_kLoop_r, r_ops_nil, r_bin, r_binB, r_binP, r_eql, r_neq, r_lss, r_leq, r_gtr, r_geq, r_add, r_sub, r_mul, v_eqs, v_nes, r_opt, r_pick, r_pick_t, r_pick_f, r_not, v_not, r_ret, r_exit, r_skip, r_cond_t, r_cond_f, r_block, r_loop, r_kEnd_n, r_kEnd_r, r_giveO, r_consO, r_evR_0, r_evR_o, r_evR_1, r_evR_N, r_give_0, r_give_1, r_give_2, initV, r_nilck, v_ckp, v_ckf, r_fadr, v_fadr, r_load1, rd1, rdN, v_rd0, rdRow_0, rdRow_s, r_loadN, r_store, v_wrV, v_wrA, v_rdA0, v_some, r_putK, r_alloc, r_box, r_boxK, r_build, r_aggK, fill_0, fill_s, fillK_1, putRow_0, putRow_s, c_agg, c_int, c_bool, c_str, c_slc, c_nils, c_fn, c_ptr, r_buildS, r_rowsK1, fillR_1, fillO_1, r_append, r_fld1, r_idxS, r_idxStr, r_len, v_lenS, v_lenL, v_lenN, r_slcStr, v_sub, map_some, map_none, r_call, r_callv, v_callf, r_ext, v_ext0, v_exts, r_mkfn, opds, r_conv, v_conv, llen_0, llen_s, n_of, ii_eq, ii_lt, ii_le, get_put, get_add, next_put, next_add, put_put, add_put', ne_s, ne_s', ne_ss, ne_ss', if_true, if_false, ite_self, ite_true, ite_false, Nat.zero_add, Nat.add_zero, Nat.reduceAdd, Nat.reduceLT, Nat.reduceEqDiff, Bool.not_false, Bool.not_true, decide_true, decide_false, eq_self]
        refine end9 p2 ?_ ?_
        · intro _
          rw [hx']
          exact hK H2 .nils s2.grow s2.gl (Or.inl ⟨rfl, rfl⟩)
        · intro h; rw [hx'] at h; exact absurd h hne
      · intro t z hst hlong H2 x' hx' s2 p2
        rw [hst] at hK
        simp only [if_pos hlong] at hK
        simp only [rdR1, rdRN, r_un1, r_convBS, r_convIS, r_isP, r_rngS, r_rngP, r_nxtS, r_nxtP, r_mkmap, r_lkp, r_idxA, v_pnn, v_ppn, v_qnn, v_qpn, r_slcS, r_again1, r_againN, ag_int, ag_bool, ag_str, ag_agg, r_seq, r_reg, r_op, r_op_y, r_op_n, r_op_u, r_move, r_get_v, r_get_t, r_get_c, r_lget_0, r_lget_s, r_lset_0, r_lset_s, r_kOp_t, r_kOp_v, r_kOp_o, r_kReg, r_kSeq_n, r_kSeq_e, r_kSeq_r, r_kBlk_n, r_kBlk_e, r_kBlk_r, r_kBlk_o, r_kLoop_n, r_kLoop_e, r_kLoop_r, r_ops_nil, r_bin, r_binB, r_binP, r_eql, r_neq, r_lss, r_leq, r_gtr, r_geq, r_add, r_sub, r_mul, v_eqs, v_nes, r_opt, r_pick, r_pick_t, r_pick_f, r_not, v_not, r_ret, r_exit, r_skip, r_cond_t, r_cond_f, r_block, r_loop, r_kEnd_n, r_kEnd_r, r_giveO, r_consO, r_evR_0, r_evR_o, r_evR_1, r_evR_N, r_give_0, r_give_1, r_give_2, initV, r_nilck, v_ckp, v_ckf, r_fadr, v_fadr, r_load1, rd1, rdN, v_rd0, rdRow_0, rdRow_s, r_loadN, r_store, v_wrV, v_wrA, v_rdA0, v_some, r_putK, r_alloc, r_box, r_boxK, r_build, r_aggK, fill_0, fill_s, fillK_1, putRow_0, putRow_s, c_agg, c_int, c_bool, c_str, c_slc, c_nils, c_fn, c_ptr, r_buildS, r_rowsK1, fillR_1, fillO_1, r_append, r_fld1, r_idxS, r_idxStr, r_len, v_lenS, v_lenL, v_lenN, r_slcStr, v_sub, map_some, map_none, r_call, r_callv, v_callf, r_ext, v_ext0, v_exts, r_mkfn, opds, r_conv, v_conv, llen_0, llen_s, n_of, ii_eq, ii_lt, ii_le, get_put, get_add, next_put, next_add, put_put, add_put', ne_s, ne_s', ne_ss, ne_ss', if_true, if_false, ite_self, ite_true, ite_false, Nat.zero_add, Nat.add_zero, Nat.reduceAdd, Nat.reduceLT, Nat.reduceEqDiff, Bool.not_false, Bool.not_true, decide_true, decide_false, eq_self]
        refine end9 p2 ?_ ?_
        · intro _
          rw [hx']
          exact hK H2 .nils s2.grow s2.gl (Or.inl ⟨rfl, rfl⟩)
        · intro h; rw [hx'] at h; cases h
      · intro t z hst hshort H2 v' s2 p2
        obtain ⟨hzo, hze⟩ := step_inr hyo hye hst
        rw [hst] at hK
        simp only [if_neg (Nat.not_le.2 hshort)] at hK
        by_cases h7 : t.kind = 7
        · simp only [if_pos h7] at hK
          simp only [rdR1, rdRN, r_un1, r_convBS, r_convIS, r_isP, r_rngS, r_rngP, r_nxtS, r_nxtP, r_mkmap, r_lkp, r_idxA, v_pnn, v_ppn, v_qnn, v_qpn, r_slcS, r_again1, r_againN, ag_int, ag_bool, ag_str, ag_agg, r_seq, r_reg, r_op, r_op_y, r_op_n, r_op_u, r_move, r_get_v, r_get_t, r_get_c, r_lget_0, r_lget_s, r_lset_0, r_lset_s, r_kOp_t, r_kOp_v, r_kOp_o, r_kReg, r_kSeq_n, r_kSeq_e, r_kSeq_r, r_kBlk_n, r_kBlk_e, r_kBlk_r, r_kBlk_o, r_kLoop_n, r_kLoop_e, r_kLoop_r, r_ops_nil, r_bin, r_binB, r_binP, r_eql, r_neq, r_lss, r_leq, r_gtr, r_geq, r_add, r_sub, r_mul, v_eqs, v_nes, r_opt, r_pick, r_pick_t, r_pick_f, r_not, v_not, r_ret, r_exit, r_skip, r_cond_t, r_cond_f, r_block, r_loop, r_kEnd_n, r_kEnd_r, r_giveO, r_consO, r_evR_0, r_evR_o, r_evR_1, r_evR_N, r_give_0, r_give_1, r_give_2, initV, r_nilck, v_ckp, v_ckf, r_fadr, v_fadr, r_load1, rd1, rdN, v_rd0, rdRow_0, rdRow_s, r_loadN, r_store, v_wrV, v_wrA, v_rdA0, v_some, r_putK, r_alloc, r_box, r_boxK, r_build, r_aggK, fill_0, fill_s, fillK_1, putRow_0, putRow_s, c_agg, c_int, c_bool, c_str, c_slc, c_nils, c_fn, c_ptr, r_buildS, r_rowsK1, fillR_1, fillO_1, r_append, r_fld1, r_idxS, r_idxStr, r_len, v_lenS, v_lenL, v_lenN, r_slcStr, v_sub, map_some, map_none, r_call, r_callv, v_callf, r_ext, v_ext0, v_exts, r_mkfn, opds, r_conv, v_conv, llen_0, llen_s, n_of, ii_eq, ii_lt, ii_le, get_put, get_add, next_put, next_add, put_put, add_put', ne_s, ne_s', ne_ss, ne_ss', if_true, if_false, ite_self, ite_true, ite_false, Nat.zero_add, Nat.add_zero, Nat.reduceAdd, Nat.reduceLT, Nat.reduceEqDiff, Bool.not_false, Bool.not_true, decide_true, decide_false, eq_self, eq_true h7]
          refine end9 p2 (fun h => absurd hze h) ?_
          intro _
          exact hK H2 v' s2.grow s2.gl s2.sl
        · simp only [if_neg h7] at hK
          simp only [rdR1, rdRN, r_un1, r_convBS, r_convIS, r_isP, r_rngS, r_rngP, r_nxtS, r_nxtP, r_mkmap, r_lkp, r_idxA, v_pnn, v_ppn, v_qnn, v_qpn, r_slcS, r_again1, r_againN, ag_int, ag_bool, ag_str, ag_agg, r_seq, r_reg, r_op, r_op_y, r_op_n, r_op_u, r_move, r_get_v, r_get_t, r_get_c, r_lget_0, r_lget_s, r_lset_0, r_lset_s, r_kOp_t, r_kOp_v, r_kOp_o, r_kReg, r_kSeq_n, r_kSeq_e, r_kSeq_r, r_kBlk_n, r_kBlk_e, r_kBlk_r, r_kBlk_o, r_kLoop_n, r_kLoop_e, r_kLoop_r, r_ops_nil, r_bin, r_binB, r_binP, r_eql, r_neq, r_lss, r_leq, r_gtr, r_geq, r_add, r_sub, r_mul, v_eqs, v_nes, r_opt, r_pick, r_pick_t, r_pick_f, r_not, v_not, r_ret, r_exit, r_skip, r_cond_t, r_cond_f, r_block, r_loop, r_kEnd_n, r_kEnd_r, r_giveO, r_consO, r_evR_0, r_evR_o, r_evR_1, r_evR_N, r_give_0, r_give_1, r_give_2, initV, r_nilck, v_ckp, v_ckf, r_fadr, v_fadr, r_load1, rd1, rdN, v_rd0, rdRow_0, rdRow_s, r_loadN, r_store, v_wrV, v_wrA, v_rdA0, v_some, r_putK, r_alloc, r_box, r_boxK, r_build, r_aggK, fill_0, fill_s, fillK_1, putRow_0, putRow_s, c_agg, c_int, c_bool, c_str, c_slc, c_nils, c_fn, c_ptr, r_buildS, r_rowsK1, fillR_1, fillO_1, r_append, r_fld1, r_idxS, r_idxStr, r_len, v_lenS, v_lenL, v_lenN, r_slcStr, v_sub, map_some, map_none, r_call, r_callv, v_callf, r_ext, v_ext0, v_exts, r_mkfn, opds, r_conv, v_conv, llen_0, llen_s, n_of, ii_eq, ii_lt, ii_le, get_put, get_add, next_put, next_add, put_put, add_put', ne_s, ne_s', ne_ss, ne_ss', if_true, if_false, ite_self, ite_true, ite_false, Nat.zero_add, Nat.add_zero, Nat.reduceAdd, Nat.reduceLT, Nat.reduceEqDiff, Bool.not_false, Bool.not_true, decide_true, decide_false, eq_self, h7]
          obtain ⟨k, rfl⟩ : ∃ m, k = m + 1 := ⟨k - 1, by omega⟩
          exact ih k (by omega) r z (out ++ [t]) H2 v' pl hzo hze (by simp; omega) (by omega) s2 p2 hK
    · have e1 : decide (y.e = 0) = false := decide_eq_false hye
      have e2 : plOf y pl = y.at_ := by rw [plOf, if_neg hye]
      rw [e2] at p1
      rw [hbad0 hye] at hK
      simp only [rdR1, rdRN, r_un1, r_convBS, r_convIS, r_isP, r_rngS, r_rngP, r_nxtS, r_nxtP, r_mkmap, r_lkp, r_idxA, v_pnn, v_ppn, v_qnn, v_qpn, r_slcS, r_again1, r_againN, ag_int, ag_bool, ag_str, ag_agg, r_seq, r_reg, r_op, r_op_y, r_op_n, r_op_u, r_move, r_get_v, r_get_t, r_get_c, r_lget_0, r_lget_s, r_lset_0, r_lset_s, r_kOp_t, r_kOp_v, r_kOp_o, r_kReg, r_kSeq_n, r_kSeq_e, r_kSeq_r, r_kBlk_n, r_kBlk_e, r_kBlk_r, r_kBlk_o, r_kLoop_n, r_kLoop_e, r_kLoop_r, r_ops_nil, r_bin, r_binB, r_binP, r_eql, r_neq, r_lss, r_leq, r_gtr, r_geq, r_add, r_sub, r_mul, v_eqs, v_nes, r_opt, r_pick, r_pick_t, r_pick_f, r_not, v_not, r_ret, r_exit, r_skip, r_cond_t, r_cond_f, r_block, r_loop, r_kEnd_n, r_kEnd_r, r_giveO, r_consO, r_evR_0, r_evR_o, r_evR_1, r_evR_N, r_give_0, r_give_1, r_give_2, initV, r_nilck, v_ckp, v_ckf, r_fadr, v_fadr, r_load1, rd1, rdN, v_rd0, rdRow_0, rdRow_s, r_loadN, r_store, v_wrV, v_wrA, v_rdA0, v_some, r_putK, r_alloc, r_box, r_boxK, r_build, r_aggK, fill_0, fill_s, fillK_1, putRow_0, putRow_s, c_agg, c_int, c_bool, c_str, c_slc, c_nils, c_fn, c_ptr, r_buildS, r_rowsK1, fillR_1, fillO_1, r_append, r_fld1, r_idxS, r_idxStr, r_len, v_lenS, v_lenL, v_lenN, r_slcStr, v_sub, map_some, map_none, r_call, r_callv, v_callf, r_ext, v_ext0, v_exts, r_mkfn, opds, r_conv, v_conv, llen_0, llen_s, n_of, ii_eq, ii_lt, ii_le, get_put, get_add, next_put, next_add, put_put, add_put', ne_s, ne_s', ne_ss, ne_ss', if_true, if_false, ite_self, ite_true, ite_false, Nat.zero_add, Nat.add_zero, Nat.reduceAdd, Nat.reduceLT, Nat.reduceEqDiff, Bool.not_false, Bool.not_true, decide_true, decide_false, eq_self, e1]
      refine end9 p1 ?_ (fun h => absurd h hye)
      intro _
      exact hK H1 .nils s1.grow s1.gl (Or.inl ⟨rfl, rfl⟩)
/-- lex.Tokens: what the reference's Tokens hands back. -/
theorem s9 (n : Nat) {l : Tx} {H : Heap} {K : AVal → Heap → Prop} (hg : H.gl = GT)
    (hK : ∀ H' v', Grow H H' → H'.gl = GT → Sl H.all H' v' 5 ((tokensOf l).1.map tokRow) → K (.tup [v', .int .i64 ((tokensOf l).2.1 : Int), .int .i64 ((tokensOf l).2.2 : Int)]) H') :
    evF AP TT (n + 10) 9 [.str l.len l.code] H K := by
  rw [r_fun look9]
  unfold tokensOf at hK
  by_cases h : 65536 < l.len
  · rw [if_pos h] at hK
    simp only [rdR1, rdRN, r_un1, r_convBS, r_convIS, r_isP, r_rngS, r_rngP, r_nxtS, r_nxtP, r_mkmap, r_lkp, r_idxA, v_pnn, v_ppn, v_qnn, v_qpn, r_slcS, r_again1, r_againN, ag_int, ag_bool, ag_str, ag_agg, r_seq, r_reg, r_op, r_op_y, r_op_n, r_op_u, r_move, r_get_v, r_get_t, r_get_c, r_lget_0, r_lget_s, r_lset_0, r_lset_s, r_kOp_t, r_kOp_v, r_kOp_o, r_kReg, r_kSeq_n, r_kSeq_e, r_kSeq_r, r_kBlk_n, r_kBlk_e, r_kBlk_r, r_kBlk_o, r_kLoop_n, r_kLoop_e, r_kLoop_r, r_ops_nil, r_bin, r_binB, r_binP, r_eql, r_neq, r_lss, r_leq, r_gtr, r_geq, r_add, r_sub, r_mul, v_eqs, v_nes, r_opt, r_pick, r_pick_t, r_pick_f, r_not, v_not, r_ret, r_exit, r_skip, r_cond_t, r_cond_f, r_block, r_loop, r_kEnd_n, r_kEnd_r, r_giveO, r_consO, r_evR_0, r_evR_o, r_evR_1, r_evR_N, r_give_0, r_give_1, r_give_2, initV, r_nilck, v_ckp, v_ckf, r_fadr, v_fadr, r_load1, rd1, rdN, v_rd0, rdRow_0, rdRow_s, r_loadN, r_store, v_wrV, v_wrA, v_rdA0, v_some, r_putK, r_alloc, r_box, r_boxK, r_build, r_aggK, fill_0, fill_s, fillK_1, putRow_0, putRow_s, c_agg, c_int, c_bool, c_str, c_slc, c_nils, c_fn, c_ptr, r_buildS, r_rowsK1, fillR_1, fillO_1, r_append, r_fld1, r_idxS, r_idxStr, r_len, v_lenS, v_lenL, v_lenN, r_slcStr, v_sub, map_some, map_none, r_call, r_callv, v_callf, r_ext, v_ext0, v_exts, r_mkfn, opds, r_conv, v_conv, llen_0, llen_s, n_of, ii_eq, ii_lt, ii_le, get_put, get_add, next_put, next_add, put_put, add_put', ne_s, ne_s', ne_ss, ne_ss', if_true, if_false, ite_self, ite_true, ite_false, Nat.zero_add, Nat.add_zero, Nat.reduceAdd, Nat.reduceLT, Nat.reduceEqDiff, Bool.not_false, Bool.not_true, decide_true, decide_false, eq_self, d9, h]
    exact hK _ _ (Grow.refl _) hg (Or.inl ⟨rfl, rfl⟩)
  · rw [if_neg h] at hK
    have hw : ∀ K, evF AP TT (n + 9) 16 [] H K = K (.mp H.next) (H.add (.obj (.map wordsL))) := fun K => r_knownM (by rw [hg]; exact words_known)
    simp only [rdR1, rdRN, r_un1, r_convBS, r_convIS, r_isP, r_rngS, r_rngP, r_nxtS, r_nxtP, r_mkmap, r_lkp, r_idxA, v_pnn, v_ppn, v_qnn, v_qpn, r_slcS, r_again1, r_againN, ag_int, ag_bool, ag_str, ag_agg, r_seq, r_reg, r_op, r_op_y, r_op_n, r_op_u, r_move, r_get_v, r_get_t, r_get_c, r_lget_0, r_lget_s, r_lset_0, r_lset_s, r_kOp_t, r_kOp_v, r_kOp_o, r_kReg, r_kSeq_n, r_kSeq_e, r_kSeq_r, r_kBlk_n, r_kBlk_e, r_kBlk_r, r_kBlk_o, r_kLoop_n, r_kLoop_e, r_kLoop_r, r_ops_nil, r_bin, r_binB, r_binP, r_eql, r_neq, r_lss, r_leq, r_gtr, r_geq, r_add, r_sub, r_mul, v_eqs, v_nes, r_opt, r_pick, r_pick_t, r_pick_f, r_not, v_not, r_ret, r_exit, r_skip, r_cond_t, r_cond_f, r_block, r_loop, r_kEnd_n, r_kEnd_r, r_giveO, r_consO, r_evR_0, r_evR_o, r_evR_1, r_evR_N, r_give_0, r_give_1, r_give_2, initV, r_nilck, v_ckp, v_ckf, r_fadr, v_fadr, r_load1, rd1, rdN, v_rd0, rdRow_0, rdRow_s, r_loadN, r_store, v_wrV, v_wrA, v_rdA0, v_some, r_putK, r_alloc, r_box, r_boxK, r_build, r_aggK, fill_0, fill_s, fillK_1, putRow_0, putRow_s, c_agg, c_int, c_bool, c_str, c_slc, c_nils, c_fn, c_ptr, r_buildS, r_rowsK1, fillR_1, fillO_1, r_append, r_fld1, r_idxS, r_idxStr, r_len, v_lenS, v_lenL, v_lenN, r_slcStr, v_sub, map_some, map_none, r_call, r_callv, v_callf, r_ext, v_ext0, v_exts, r_mkfn, opds, r_conv, v_conv, llen_0, llen_s, n_of, ii_eq, ii_lt, ii_le, get_put, get_add, next_put, next_add, put_put, add_put', ne_s, ne_s', ne_ss, ne_ss', if_true, if_false, ite_self, ite_true, ite_false, Nat.zero_add, Nat.add_zero, Nat.reduceAdd, Nat.reduceLT, Nat.reduceEqDiff, Bool.not_false, Bool.not_true, decide_true, decide_false, eq_self, d9, h, hw, c_mp]
    refine loop9 (mb := H.next) (p := H.next + 1) (by omega) 20000 manyRounds ⟨0, 1, 1, 0⟩ [] _ .nils 0 ⟨Nat.zero_le _, Nat.le_refl _, Nat.le_refl _⟩ rfl rfl (by unfold manyRounds; omega) ⟨Grow.trans Grow.add Grow.add, hg, by omega, ?_, Nat.le_refl _, ?_, by omega, ?_, Or.inl ⟨rfl, rfl⟩, by simp [blkOf], by simp [blkOf]⟩ ?_ hK
    · rw [next_add, next_add]; omega
    · rw [next_add, next_add]; omega
    · rw [get_add, next_add, if_neg (by omega), get_add, if_pos rfl]
    · rw [get_add, next_add, if_pos rfl]; rfl
end
end Dt
