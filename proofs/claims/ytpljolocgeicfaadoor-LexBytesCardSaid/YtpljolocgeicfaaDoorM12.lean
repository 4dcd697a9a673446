/- A part of the abstract machine and of the proof that the program does what it reckons; no conditions. -/
import Derived.Test.YtpljolocgeicfaaDoorM11
namespace Dt
open Go
set_option linter.all false
set_option maxRecDepth 100000
theorem look23 : TT.funs 23 = some d23 := (rfl)
/-- Till a byte of a kind, the end, or a fault. -/
def tillM (l : Tx) (q : Nat → Bool) : Nat → Lx → Lx
  | 0, x => x
  | k + 1, x => if x.at_ < l.len ∧ x.e = 0 then (if (passed l x).e ≠ 0 then passed l x else if q (byteAt l x.at_) then x else tillM l q k (passed l x)) else x
def plOf (y : Lx) (pl : Nat) : Nat := if y.e = 0 then pl else y.at_
theorem tillM_ok {l : Tx} {q : Nat → Bool} : ∀ (k : Nat) {x : Lx}, x.Ok l → (tillM l q k x).Ok l := by
  intro k
  induction k with
  | zero => intro x h; exact h
  | succ k ih =>
    intro x h
    unfold tillM
    split
    · rename_i hc
      split
      · exact passed_ok h hc.1
      · split
        · exact h
        · exact ih (passed_ok h hc.1)
    · exact h
theorem passed_fail {l : Tx} {x : Lx} (he : x.e = 0) (h : (passed l x).e ≠ 0) : (passed l x).at_ = x.at_ := by
  unfold passed at h ⊢
  split
  · rfl
  split
  · rfl
  · rename_i h1 h2
    rw [if_neg h1, if_neg h2] at h
    split at h <;> exact absurd he h

/-- What a function of runes says, as the bytes have it. -/
structure Says (n f : Nat) (q : Nat → Bool) : Prop where
  run : ∃ pc : Nat → Bool, (∀ (c : Nat) (H : Heap) (K : AVal → Heap → Prop), (∀ H', Grow H H' → H'.gl = H.gl → K (.bool (pc c)) H') → evF AP TT n f [.int .i32 (c : Int)] H K) ∧ ∀ b c, (b < 128 → c = b) → (128 ≤ b → 128 ≤ c) → pc c = q b
section
variable {n : Nat} {l : Tx} {mb pl p f : Nat} {v : AVal} {K : AVal → Heap → Prop} {q : Nat → Bool}
theorem loop23 (hl : l.len ≤ 1000000) (hq : Says (n + 7) f q) : ∀ (k r : Nat) (x : Lx) (H : Heap) (a3 a4 a5 : AVal), x.Ok l → x.e = 0 → x.left l ≤ k → k < r → H.gl = GT → p < H.next → H.get p = .rows 8 [scRow l x mb v pl] →
    (∀ H', Upd p H H' → H'.get p = .rows 8 [scRow l (tillM l q k x) mb v (plOf (tillM l q k x) pl)] → K (.bool (decide ((tillM l q k x).e = 0))) H') →
    loopOf (evF AP TT (n + 7)) b23_0 r [.ptr p 0 0, .fn f [] [], .bool false, a3, a4, a5] H (kBlk 0 (kSeq (evF AP TT (n + 7)) r23_1 (kEnd [.opd (.v 2)] K))) := by
  intro k
  induction k with
  | zero =>
    intro r x H a3 a4 a5 hx he hleft
    simp only [Lx.left, he, if_true] at hleft
    omega
  | succ k ih =>
    intro r x H a3 a4 a5 hx he hleft hr hg hpn hp hK
    obtain ⟨r, rfl⟩ : ∃ m, r = m + 1 := ⟨r - 1, by omega⟩
    obtain ⟨pc, run, same⟩ := hq.run
    rw [r_roundN b23_0.eq_1]
    unfold tillM at hK
    by_cases h : x.at_ < l.len
    · rw [if_pos ⟨h, he⟩] at hK
      simp only [rdR1, rdRN, r_un1, r_convBS, r_convIS, r_isP, r_rngS, r_rngP, r_nxtS, r_nxtP, r_mkmap, r_lkp, r_idxA, v_pnn, v_ppn, v_qnn, v_qpn, r_slcS, r_again1, r_againN, ag_int, ag_bool, ag_str, ag_agg, r_seq, r_reg, r_op, r_op_y, r_op_n, r_op_u, r_move, r_get_v, r_get_t, r_get_c, r_lget_0, r_lget_s, r_lset_0, r_lset_s, r_kOp_t, r_kOp_v, r_kOp_o, r_kReg, r_kSeq_n, r_kSeq_e, r_kSeq_r, r_kBlk_n, r_kBlk_e, r_kBlk_r, r_kBlk_o, r_kLoop_n, r_kLoop_e, r_kLoop_r, r_ops_nil, r_bin, r_binB, r_binP, r_eql, r_neq, r_lss, r_leq, r_gtr, r_geq, r_add, r_sub, r_mul, v_eqs, v_nes, r_opt, r_pick, r_pick_t, r_pick_f, r_not, v_not, r_ret, r_exit, r_skip, r_cond_t, r_cond_f, r_block, r_loop, r_kEnd_n, r_kEnd_r, r_giveO, r_consO, r_evR_0, r_evR_o, r_evR_1, r_evR_N, r_give_0, r_give_1, r_give_2, initV, r_nilck, v_ckp, v_ckf, r_fadr, v_fadr, r_load1, rd1, rdN, v_rd0, rdRow_0, rdRow_s, r_loadN, r_store, v_wrV, v_wrA, v_rdA0, v_some, r_putK, r_alloc, r_box, r_boxK, r_build, r_aggK, fill_0, fill_s, fillK_1, putRow_0, putRow_s, c_agg, c_int, c_bool, c_str, c_slc, c_nils, c_fn, c_ptr, r_buildS, r_rowsK1, fillR_1, fillO_1, r_append, r_fld1, r_idxS, r_idxStr, r_len, v_lenS, v_lenL, v_lenN, r_slcStr, v_sub, map_some, map_none, r_call, r_callv, v_callf, r_ext, v_ext0, v_exts, r_mkfn, opds, r_conv, v_conv, llen_0, llen_s, n_of, ii_eq, ii_lt, ii_le, get_put, get_add, next_put, next_add, put_put, add_put', ne_s, ne_s', ne_ss, ne_ss', if_true, if_false, ite_self, ite_true, ite_false, Nat.zero_add, Nat.add_zero, Nat.reduceAdd, Nat.reduceLT, Nat.reduceEqDiff, Bool.not_false, Bool.not_true, decide_true, decide_false, eq_self, hp, sc_0, sc_1, h]
      refine s27 (n := n + 4) hl hg hpn hp h he ?_ ?_
      · intro hf H' g1 g2
        rw [if_pos hf] at hK
        have e1 : decide ((passed l x).e = 0) = false := decide_eq_false hf
        have e2 : plOf (passed l x) pl = x.at_ := by rw [plOf, if_neg hf, passed_fail he hf]
        rw [e1, e2] at hK
        simp only [rdR1, rdRN, r_un1, r_convBS, r_convIS, r_isP, r_rngS, r_rngP, r_nxtS, r_nxtP, r_mkmap, r_lkp, r_idxA, v_pnn, v_ppn, v_qnn, v_qpn, r_slcS, r_again1, r_againN, ag_int, ag_bool, ag_str, ag_agg, r_seq, r_reg, r_op, r_op_y, r_op_n, r_op_u, r_move, r_get_v, r_get_t, r_get_c, r_lget_0, r_lget_s, r_lset_0, r_lset_s, r_kOp_t, r_kOp_v, r_kOp_o, r_kReg, r_kSeq_n, r_kSeq_e, r_kSeq_r, r_kBlk_n, r_kBlk_e, r_kBlk_r, r_kBlk_o, r_kLoop_n, r_kLoop_e, r_kLoop_r, r_ops_nil, r_bin, r_binB, r_binP, r_eql, r_neq, r_lss, r_leq, r_gtr, r_geq, r_add, r_sub, r_mul, v_eqs, v_nes, r_opt, r_pick, r_pick_t, r_pick_f, r_not, v_not, r_ret, r_exit, r_skip, r_cond_t, r_cond_f, r_block, r_loop, r_kEnd_n, r_kEnd_r, r_giveO, r_consO, r_evR_0, r_evR_o, r_evR_1, r_evR_N, r_give_0, r_give_1, r_give_2, initV, r_nilck, v_ckp, v_ckf, r_fadr, v_fadr, r_load1, rd1, rdN, v_rd0, rdRow_0, rdRow_s, r_loadN, r_store, v_wrV, v_wrA, v_rdA0, v_some, r_putK, r_alloc, r_box, r_boxK, r_build, r_aggK, fill_0, fill_s, fillK_1, putRow_0, putRow_s, c_agg, c_int, c_bool, c_str, c_slc, c_nils, c_fn, c_ptr, r_buildS, r_rowsK1, fillR_1, fillO_1, r_append, r_fld1, r_idxS, r_idxStr, r_len, v_lenS, v_lenL, v_lenN, r_slcStr, v_sub, map_some, map_none, r_call, r_callv, v_callf, r_ext, v_ext0, v_exts, r_mkfn, opds, r_conv, v_conv, llen_0, llen_s, n_of, ii_eq, ii_lt, ii_le, get_put, get_add, next_put, next_add, put_put, add_put', ne_s, ne_s', ne_ss, ne_ss', if_true, if_false, ite_self, ite_true, ite_false, Nat.zero_add, Nat.add_zero, Nat.reduceAdd, Nat.reduceLT, Nat.reduceEqDiff, Bool.not_false, Bool.not_true, decide_true, decide_false, eq_self]
        exact hK H' g1 g2
      · intro hf c H' g1 g2 g3 g4 g5
        rw [if_neg (fun hn => hn hf)] at hK
        simp only [rdR1, rdRN, r_un1, r_convBS, r_convIS, r_isP, r_rngS, r_rngP, r_nxtS, r_nxtP, r_mkmap, r_lkp, r_idxA, v_pnn, v_ppn, v_qnn, v_qpn, r_slcS, r_again1, r_againN, ag_int, ag_bool, ag_str, ag_agg, r_seq, r_reg, r_op, r_op_y, r_op_n, r_op_u, r_move, r_get_v, r_get_t, r_get_c, r_lget_0, r_lget_s, r_lset_0, r_lset_s, r_kOp_t, r_kOp_v, r_kOp_o, r_kReg, r_kSeq_n, r_kSeq_e, r_kSeq_r, r_kBlk_n, r_kBlk_e, r_kBlk_r, r_kBlk_o, r_kLoop_n, r_kLoop_e, r_kLoop_r, r_ops_nil, r_bin, r_binB, r_binP, r_eql, r_neq, r_lss, r_leq, r_gtr, r_geq, r_add, r_sub, r_mul, v_eqs, v_nes, r_opt, r_pick, r_pick_t, r_pick_f, r_not, v_not, r_ret, r_exit, r_skip, r_cond_t, r_cond_f, r_block, r_loop, r_kEnd_n, r_kEnd_r, r_giveO, r_consO, r_evR_0, r_evR_o, r_evR_1, r_evR_N, r_give_0, r_give_1, r_give_2, initV, r_nilck, v_ckp, v_ckf, r_fadr, v_fadr, r_load1, rd1, rdN, v_rd0, rdRow_0, rdRow_s, r_loadN, r_store, v_wrV, v_wrA, v_rdA0, v_some, r_putK, r_alloc, r_box, r_boxK, r_build, r_aggK, fill_0, fill_s, fillK_1, putRow_0, putRow_s, c_agg, c_int, c_bool, c_str, c_slc, c_nils, c_fn, c_ptr, r_buildS, r_rowsK1, fillR_1, fillO_1, r_append, r_fld1, r_idxS, r_idxStr, r_len, v_lenS, v_lenL, v_lenN, r_slcStr, v_sub, map_some, map_none, r_call, r_callv, v_callf, r_ext, v_ext0, v_exts, r_mkfn, opds, r_conv, v_conv, llen_0, llen_s, n_of, ii_eq, ii_lt, ii_le, get_put, get_add, next_put, next_add, put_put, add_put', ne_s, ne_s', ne_ss, ne_ss', if_true, if_false, ite_self, ite_true, ite_false, Nat.zero_add, Nat.add_zero, Nat.reduceAdd, Nat.reduceLT, Nat.reduceEqDiff, Bool.not_false, Bool.not_true, decide_true, decide_false, eq_self, List.nil_append, List.append_nil]
        refine run c H' _ ?_
        intro H2 k1 k2
        have hp2 : H2.get p = .rows 8 [scRow l x mb v pl] := by rw [k1.2 p (g1.lt hpn), g2]
        have up2 : Upd p H H2 := g1.trans (Upd.grow k1 k2)
        rw [same _ c g4 g5]
        cases hb : q (byteAt l x.at_) with
        | true =>
          rw [hb, if_pos rfl] at hK
          have e1 : decide (x.e = 0) = true := decide_eq_true he
          have e2 : plOf x pl = pl := by rw [plOf, if_pos he]
          rw [e1, e2] at hK
          simp only [rdR1, rdRN, r_un1, r_convBS, r_convIS, r_isP, r_rngS, r_rngP, r_nxtS, r_nxtP, r_mkmap, r_lkp, r_idxA, v_pnn, v_ppn, v_qnn, v_qpn, r_slcS, r_again1, r_againN, ag_int, ag_bool, ag_str, ag_agg, r_seq, r_reg, r_op, r_op_y, r_op_n, r_op_u, r_move, r_get_v, r_get_t, r_get_c, r_lget_0, r_lget_s, r_lset_0, r_lset_s, r_kOp_t, r_kOp_v, r_kOp_o, r_kReg, r_kSeq_n, r_kSeq_e, r_kSeq_r, r_kBlk_n, r_kBlk_e, r_kBlk_r, r_kBlk_o, r_kLoop_n, r_kLoop_e, r_kLoop_r, r_ops_nil, r_bin, r_binB, r_binP, r_eql, r_neq, r_lss, r_leq, r_gtr, r_geq, r_add, r_sub, r_mul, v_eqs, v_nes, r_opt, r_pick, r_pick_t, r_pick_f, r_not, v_not, r_ret, r_exit, r_skip, r_cond_t, r_cond_f, r_block, r_loop, r_kEnd_n, r_kEnd_r, r_giveO, r_consO, r_evR_0, r_evR_o, r_evR_1, r_evR_N, r_give_0, r_give_1, r_give_2, initV, r_nilck, v_ckp, v_ckf, r_fadr, v_fadr, r_load1, rd1, rdN, v_rd0, rdRow_0, rdRow_s, r_loadN, r_store, v_wrV, v_wrA, v_rdA0, v_some, r_putK, r_alloc, r_box, r_boxK, r_build, r_aggK, fill_0, fill_s, fillK_1, putRow_0, putRow_s, c_agg, c_int, c_bool, c_str, c_slc, c_nils, c_fn, c_ptr, r_buildS, r_rowsK1, fillR_1, fillO_1, r_append, r_fld1, r_idxS, r_idxStr, r_len, v_lenS, v_lenL, v_lenN, r_slcStr, v_sub, map_some, map_none, r_call, r_callv, v_callf, r_ext, v_ext0, v_exts, r_mkfn, opds, r_conv, v_conv, llen_0, llen_s, n_of, ii_eq, ii_lt, ii_le, get_put, get_add, next_put, next_add, put_put, add_put', ne_s, ne_s', ne_ss, ne_ss', if_true, if_false, ite_self, ite_true, ite_false, Nat.zero_add, Nat.add_zero, Nat.reduceAdd, Nat.reduceLT, Nat.reduceEqDiff, Bool.not_false, Bool.not_true, decide_true, decide_false, eq_self]
          exact hK H2 up2 hp2
        | false =>
          rw [hb, if_neg (by simp)] at hK
          have hle := hx.at_le
          have hl1 := hx.line_le
          have hc1 := hx.col_le
          have hr4 := rune_le l x.at_
          simp only [rdR1, rdRN, r_un1, r_convBS, r_convIS, r_isP, r_rngS, r_rngP, r_nxtS, r_nxtP, r_mkmap, r_lkp, r_idxA, v_pnn, v_ppn, v_qnn, v_qpn, r_slcS, r_again1, r_againN, ag_int, ag_bool, ag_str, ag_agg, r_seq, r_reg, r_op, r_op_y, r_op_n, r_op_u, r_move, r_get_v, r_get_t, r_get_c, r_lget_0, r_lget_s, r_lset_0, r_lset_s, r_kOp_t, r_kOp_v, r_kOp_o, r_kReg, r_kSeq_n, r_kSeq_e, r_kSeq_r, r_kBlk_n, r_kBlk_e, r_kBlk_r, r_kBlk_o, r_kLoop_n, r_kLoop_e, r_kLoop_r, r_ops_nil, r_bin, r_binB, r_binP, r_eql, r_neq, r_lss, r_leq, r_gtr, r_geq, r_add, r_sub, r_mul, v_eqs, v_nes, r_opt, r_pick, r_pick_t, r_pick_f, r_not, v_not, r_ret, r_exit, r_skip, r_cond_t, r_cond_f, r_block, r_loop, r_kEnd_n, r_kEnd_r, r_giveO, r_consO, r_evR_0, r_evR_o, r_evR_1, r_evR_N, r_give_0, r_give_1, r_give_2, initV, r_nilck, v_ckp, v_ckf, r_fadr, v_fadr, r_load1, rd1, rdN, v_rd0, rdRow_0, rdRow_s, r_loadN, r_store, v_wrV, v_wrA, v_rdA0, v_some, r_putK, r_alloc, r_box, r_boxK, r_build, r_aggK, fill_0, fill_s, fillK_1, putRow_0, putRow_s, c_agg, c_int, c_bool, c_str, c_slc, c_nils, c_fn, c_ptr, r_buildS, r_rowsK1, fillR_1, fillO_1, r_append, r_fld1, r_idxS, r_idxStr, r_len, v_lenS, v_lenL, v_lenN, r_slcStr, v_sub, map_some, map_none, r_call, r_callv, v_callf, r_ext, v_ext0, v_exts, r_mkfn, opds, r_conv, v_conv, llen_0, llen_s, n_of, ii_eq, ii_lt, ii_le, get_put, get_add, next_put, next_add, put_put, add_put', ne_s, ne_s', ne_ss, ne_ss', if_true, if_false, ite_self, ite_true, ite_false, Nat.zero_add, Nat.add_zero, Nat.reduceAdd, Nat.reduceLT, Nat.reduceEqDiff, Bool.not_false, Bool.not_true, decide_true, decide_false, eq_self, s29 (c := c) (k := rune l x.at_) hp2 (by omega) (by omega) (by omega), g3]
          refine ih r (passed l x) _ _ _ _ (passed_ok hx h) hf ?_ (by omega) (by rw [← hg]; exact up2.2.2) (up2.lt hpn) (by rw [get_put, if_pos rfl]) ?_
          · have := passed_left h he; omega
          · intro H3 m1 m2
            exact hK H3 ((up2.trans Upd.put).trans m1) m2
    · rw [if_neg (fun hh => h hh.1)] at hK
      have e1 : decide (x.e = 0) = true := decide_eq_true he
      have e2 : plOf x pl = pl := by rw [plOf, if_pos he]
      rw [e1, e2] at hK
      simp only [rdR1, rdRN, r_un1, r_convBS, r_convIS, r_isP, r_rngS, r_rngP, r_nxtS, r_nxtP, r_mkmap, r_lkp, r_idxA, v_pnn, v_ppn, v_qnn, v_qpn, r_slcS, r_again1, r_againN, ag_int, ag_bool, ag_str, ag_agg, r_seq, r_reg, r_op, r_op_y, r_op_n, r_op_u, r_move, r_get_v, r_get_t, r_get_c, r_lget_0, r_lget_s, r_lset_0, r_lset_s, r_kOp_t, r_kOp_v, r_kOp_o, r_kReg, r_kSeq_n, r_kSeq_e, r_kSeq_r, r_kBlk_n, r_kBlk_e, r_kBlk_r, r_kBlk_o, r_kLoop_n, r_kLoop_e, r_kLoop_r, r_ops_nil, r_bin, r_binB, r_binP, r_eql, r_neq, r_lss, r_leq, r_gtr, r_geq, r_add, r_sub, r_mul, v_eqs, v_nes, r_opt, r_pick, r_pick_t, r_pick_f, r_not, v_not, r_ret, r_exit, r_skip, r_cond_t, r_cond_f, r_block, r_loop, r_kEnd_n, r_kEnd_r, r_giveO, r_consO, r_evR_0, r_evR_o, r_evR_1, r_evR_N, r_give_0, r_give_1, r_give_2, initV, r_nilck, v_ckp, v_ckf, r_fadr, v_fadr, r_load1, rd1, rdN, v_rd0, rdRow_0, rdRow_s, r_loadN, r_store, v_wrV, v_wrA, v_rdA0, v_some, r_putK, r_alloc, r_box, r_boxK, r_build, r_aggK, fill_0, fill_s, fillK_1, putRow_0, putRow_s, c_agg, c_int, c_bool, c_str, c_slc, c_nils, c_fn, c_ptr, r_buildS, r_rowsK1, fillR_1, fillO_1, r_append, r_fld1, r_idxS, r_idxStr, r_len, v_lenS, v_lenL, v_lenN, r_slcStr, v_sub, map_some, map_none, r_call, r_callv, v_callf, r_ext, v_ext0, v_exts, r_mkfn, opds, r_conv, v_conv, llen_0, llen_s, n_of, ii_eq, ii_lt, ii_le, get_put, get_add, next_put, next_add, put_put, add_put', ne_s, ne_s', ne_ss, ne_ss', if_true, if_false, ite_self, ite_true, ite_false, Nat.zero_add, Nat.add_zero, Nat.reduceAdd, Nat.reduceLT, Nat.reduceEqDiff, Bool.not_false, Bool.not_true, decide_true, decide_false, eq_self, hp, sc_0, sc_1, h, r23_1]
      exact hK H (Upd.refl _ _) hp
/-- till. -/
theorem s23 (hl : l.len ≤ 1000000) (hq : Says (n + 7) f q) {x : Lx} {H : Heap} (hx : x.Ok l) (he : x.e = 0) (hg : H.gl = GT) (hpn : p < H.next) (hp : H.get p = .rows 8 [scRow l x mb v pl])
    (hK : ∀ H', Upd p H H' → H'.get p = .rows 8 [scRow l (tillM l q (l.len + 1) x) mb v (plOf (tillM l q (l.len + 1) x) pl)] → K (.bool (decide ((tillM l q (l.len + 1) x).e = 0))) H') :
    evF AP TT (n + 8) 23 [.ptr p 0 0, .fn f [] []] H K := by
  rw [r_fun look23]
  simp only [rdR1, rdRN, r_un1, r_convBS, r_convIS, r_isP, r_rngS, r_rngP, r_nxtS, r_nxtP, r_mkmap, r_lkp, r_idxA, v_pnn, v_ppn, v_qnn, v_qpn, r_slcS, r_again1, r_againN, ag_int, ag_bool, ag_str, ag_agg, r_seq, r_reg, r_op, r_op_y, r_op_n, r_op_u, r_move, r_get_v, r_get_t, r_get_c, r_lget_0, r_lget_s, r_lset_0, r_lset_s, r_kOp_t, r_kOp_v, r_kOp_o, r_kReg, r_kSeq_n, r_kSeq_e, r_kSeq_r, r_kBlk_n, r_kBlk_e, r_kBlk_r, r_kBlk_o, r_kLoop_n, r_kLoop_e, r_kLoop_r, r_ops_nil, r_bin, r_binB, r_binP, r_eql, r_neq, r_lss, r_leq, r_gtr, r_geq, r_add, r_sub, r_mul, v_eqs, v_nes, r_opt, r_pick, r_pick_t, r_pick_f, r_not, v_not, r_ret, r_exit, r_skip, r_cond_t, r_cond_f, r_block, r_loop, r_kEnd_n, r_kEnd_r, r_giveO, r_consO, r_evR_0, r_evR_o, r_evR_1, r_evR_N, r_give_0, r_give_1, r_give_2, initV, r_nilck, v_ckp, v_ckf, r_fadr, v_fadr, r_load1, rd1, rdN, v_rd0, rdRow_0, rdRow_s, r_loadN, r_store, v_wrV, v_wrA, v_rdA0, v_some, r_putK, r_alloc, r_box, r_boxK, r_build, r_aggK, fill_0, fill_s, fillK_1, putRow_0, putRow_s, c_agg, c_int, c_bool, c_str, c_slc, c_nils, c_fn, c_ptr, r_buildS, r_rowsK1, fillR_1, fillO_1, r_append, r_fld1, r_idxS, r_idxStr, r_len, v_lenS, v_lenL, v_lenN, r_slcStr, v_sub, map_some, map_none, r_call, r_callv, v_callf, r_ext, v_ext0, v_exts, r_mkfn, opds, r_conv, v_conv, llen_0, llen_s, n_of, ii_eq, ii_lt, ii_le, get_put, get_add, next_put, next_add, put_put, add_put', ne_s, ne_s', ne_ss, ne_ss', if_true, if_false, ite_self, ite_true, ite_false, Nat.zero_add, Nat.add_zero, Nat.reduceAdd, Nat.reduceLT, Nat.reduceEqDiff, Bool.not_false, Bool.not_true, decide_true, decide_false, eq_self, d23]
  exact loop23 hl hq (l.len + 1) manyRounds x H _ _ _ hx he left_le (by unfold manyRounds; omega) hg hpn hp hK
end
/-- The three kinds. -/
def solidQ (b : Nat) : Bool := solidC b
def lineQ (b : Nat) : Bool := decide (b = 10)
def endsQ (b : Nat) : Bool := endsC b
theorem says_solid {n : Nat} : Says (n + 7) 24 solidQ := ⟨solidC, fun c H K hK => by rw [s24]; exact hK _ (Grow.refl _) rfl, fun b c h1 h2 => by
  by_cases hb : b < 128
  · rw [h1 hb]; rfl
  · have := h2 (by omega)
    simp only [solidQ, solidC]
    rw [decide_eq_false (show ¬ c = 32 by omega), decide_eq_false (show ¬ c = 10 by omega), decide_eq_false (show ¬ b = 32 by omega), decide_eq_false (show ¬ b = 10 by omega)]⟩
theorem says_line {n : Nat} : Says (n + 7) 26 lineQ := ⟨fun c => decide (c = 10), fun c H K hK => by rw [s26]; exact hK _ (Grow.refl _) rfl, fun b c h1 h2 => by
  by_cases hb : b < 128
  · rw [h1 hb]; rfl
  · have := h2 (by omega)
    simp only [lineQ]
    rw [decide_eq_false (show ¬ c = 10 by omega), decide_eq_false (show ¬ b = 10 by omega)]⟩
theorem says_ends {n : Nat} : Says (n + 7) 30 endsQ := ⟨endsC, fun c H K hK => s30 hK, fun b c h1 h2 => by
  by_cases hb : b < 128
  · rw [h1 hb]; rfl
  · have := h2 (by omega)
    simp only [endsQ, endsC, solidC]
    rw [decide_eq_false (show ¬ c = 32 by omega), decide_eq_false (show ¬ c = 10 by omega), decide_eq_false (show ¬ b = 32 by omega), decide_eq_false (show ¬ b = 10 by omega), big_not this, big_not (show 128 ≤ b by omega)]⟩
end Dt
