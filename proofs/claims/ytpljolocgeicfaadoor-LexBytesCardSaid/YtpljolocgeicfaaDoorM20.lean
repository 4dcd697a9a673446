/- A part of the abstract machine and of the proof that the program does what it reckons; no conditions. -/
import Derived.Test.YtpljolocgeicfaaDoorM19
namespace Dt
open Go
set_option linter.all false
set_option maxRecDepth 100000
theorem kind_07 {a b c d e : Nat} {w : Tx} : kindOf ⟨0, a, b, c, d, e⟩ w = kindOf ⟨7, a, b, c, d, e⟩ w := by
  unfold kindOf
  rw [if_neg (show ¬ (0 : Nat) = 2 by omega), if_neg (show ¬ (7 : Nat) = 2 by omega)]
theorem lexRun_till {l : Tx} {x : Lx} (h : isDelim (byteAt l x.at_) = false) : lexRun l x = tillM l endsQ (l.len + 1) x := by
  rw [lexRun, h, if_neg (by simp), runTo_till]
theorem rune_pos {l : Tx} {x : Lx} (he : x.e = 0) (h : (passed l x).e = 0) : 1 ≤ rune l x.at_ ∧ (passed l x).at_ = x.at_ + rune l x.at_ := by
  unfold passed at h ⊢
  by_cases h1 : rune l x.at_ = 0
  · rw [if_pos h1] at h; cases h
  · rw [if_neg h1] at h ⊢
    split at h
    · cases h
    · rename_i h2
      rw [if_neg h2]
      split <;> exact ⟨by omega, rfl⟩
section
variable {n : Nat} {H0 H : Heap} {l : Tx} {p mb pl : Nat} {K : AVal → Heap → Prop} {x : Lx} {out : List Tok} {v : AVal}
/-- token. -/
theorem s18 (hl : l.len ≤ 65536) (s : St H0 H l p mb v out) (hp : H.get p = .rows 8 [scRow l x mb v pl]) (hx : x.Ok l) (he : x.e = 0) (hsol : x.at_ < l.len → solidQ (byteAt l x.at_) = true)
    (hbad : ∀ a e, lexStep l x = .inl (a, e) → e ≠ 0 → ∀ H' x', x'.e = e → St H0 H' l p mb v out → H'.get p = .rows 8 [scRow l x' mb v a] → K (.bool false) H')
    (hlong : ∀ t z, lexStep l x = .inr (t, z) → 20000 ≤ out.length → ∀ H' x', x'.e = 2 → St H0 H' l p mb v out → H'.get p = .rows 8 [scRow l x' mb v t.at_] → K (.bool false) H')
    (hnext : ∀ t z, lexStep l x = .inr (t, z) → out.length < 20000 → ∀ H' v', St H0 H' l p mb v' (out ++ [t]) → H'.get p = .rows 8 [scRow l z mb v' pl] → K (.bool (!decide (t.kind = 7))) H') :
    evF AP TT (n + 9) 18 [.ptr p 0 0] H K := by
  rw [r_fun look18]
  have q0 := lt_ne0 s.pn
  have q1 := lt_ne0' s.pn
  have hpn := s.pn
  have hmn := s.mn
  have hvn : blkOf v ≠ some H.next := s.sl.ne (Nat.le_refl _)
  have up0 : ∀ B, Upd H.next H (H.add B) := fun B => Upd.grow Grow.add rfl
  have s0 : ∀ B, St H0 (H.add B) l p mb v out := fun B => s.updT (up0 B) s.grow.1 (by omega) (by omega) hvn
  have gp0 : ∀ B, (H.add B).get p = .rows 8 [scRow l x mb v pl] := fun B => by rw [get_add, if_neg (by omega)]; exact hp
  have gt0 : ∀ B, (H.add B).get H.next = B := fun B => by rw [get_add, if_pos rfl]
  by_cases hat : x.at_ < l.len
  · have nat : ¬ x.at_ = l.len := by omega
    simp only [rdR1, rdRN, r_un1, r_convBS, r_convIS, r_isP, r_rngS, r_rngP, r_nxtS, r_nxtP, r_mkmap, r_lkp, r_idxA, v_pnn, v_ppn, v_qnn, v_qpn, r_slcS, r_again1, r_againN, ag_int, ag_bool, ag_str, ag_agg, r_seq, r_reg, r_op, r_op_y, r_op_n, r_op_u, r_move, r_get_v, r_get_t, r_get_c, r_lget_0, r_lget_s, r_lset_0, r_lset_s, r_kOp_t, r_kOp_v, r_kOp_o, r_kReg, r_kSeq_n, r_kSeq_e, r_kSeq_r, r_kBlk_n, r_kBlk_e, r_kBlk_r, r_kBlk_o, r_kLoop_n, r_kLoop_e, r_kLoop_r, r_ops_nil, r_bin, r_binB, r_binP, r_eql, r_neq, r_lss, r_leq, r_gtr, r_geq, r_add, r_sub, r_mul, v_eqs, v_nes, r_opt, r_pick, r_pick_t, r_pick_f, r_not, v_not, r_ret, r_exit, r_skip, r_cond_t, r_cond_f, r_block, r_loop, r_kEnd_n, r_kEnd_r, r_giveO, r_consO, r_evR_0, r_evR_o, r_evR_1, r_evR_N, r_give_0, r_give_1, r_give_2, initV, r_nilck, v_ckp, v_ckf, r_fadr, v_fadr, r_load1, rd1, rdN, v_rd0, rdRow_0, rdRow_s, r_loadN, r_store, v_wrV, v_wrA, v_rdA0, v_some, r_putK, r_alloc, r_box, r_boxK, r_build, r_aggK, fill_0, fill_s, fillK_1, putRow_0, putRow_s, c_agg, c_int, c_bool, c_str, c_slc, c_nils, c_fn, c_ptr, r_buildS, r_rowsK1, fillR_1, fillO_1, r_append, r_fld1, r_idxS, r_idxStr, r_len, v_lenS, v_lenL, v_lenN, r_slcStr, v_sub, map_some, map_none, r_call, r_callv, v_callf, r_ext, v_ext0, v_exts, r_mkfn, opds, r_conv, v_conv, llen_0, llen_s, n_of, ii_eq, ii_lt, ii_le, get_put, get_add, next_put, next_add, put_put, add_put', ne_s, ne_s', ne_ss, ne_ss', if_true, if_false, ite_self, ite_true, ite_false, Nat.zero_add, Nat.add_zero, Nat.reduceAdd, Nat.reduceLT, Nat.reduceEqDiff, Bool.not_false, Bool.not_true, decide_true, decide_false, eq_self, tk_f0, tk_f1, tk_f2, tok_blk, tok_agg, tk_0, tk_1, tk_2, tk_3, tk_4, tk_len, tk_same, tk_w0, tk_w1, d18, hp, sc_1, sc_2, sc_3]
    refine s27 (n := n + 5) (by omega) (s0 _).gl (s0 _).pn (gp0 _) hat he ?_ ?_
    · intro hf H' u1 p1
      have ea := passed_fail he hf
      have nat' : ¬ (passed l x).at_ = l.len := by omega
      have st := (s0 _).updP u1
      have nd : isDelim (byteAt l x.at_) = false := by
        cases hb : isDelim (byteAt l x.at_) with
        | false => rfl
        | true => exact absurd (by rw [passed_fine (.inr (.inr (.inl hb)))]; exact he) hf
      have er : lexRun l x = passed l x := by
        rw [lexRun_till nd]
        rw [show tillM l endsQ (l.len + 1) x = (if x.at_ < l.len ∧ x.e = 0 then (if (passed l x).e ≠ 0 then passed l x else if endsQ (byteAt l x.at_) then x else tillM l endsQ l.len (passed l x)) else x) from rfl]
        rw [if_pos ⟨hat, he⟩, if_pos hf]
      have hst : lexStep l x = .inl (x.at_, (passed l x).e) := by rw [lexStep, if_pos hat, er, if_neg hf, ea]
      simp only [rdR1, rdRN, r_un1, r_convBS, r_convIS, r_isP, r_rngS, r_rngP, r_nxtS, r_nxtP, r_mkmap, r_lkp, r_idxA, v_pnn, v_ppn, v_qnn, v_qpn, r_slcS, r_again1, r_againN, ag_int, ag_bool, ag_str, ag_agg, r_seq, r_reg, r_op, r_op_y, r_op_n, r_op_u, r_move, r_get_v, r_get_t, r_get_c, r_lget_0, r_lget_s, r_lset_0, r_lset_s, r_kOp_t, r_kOp_v, r_kOp_o, r_kReg, r_kSeq_n, r_kSeq_e, r_kSeq_r, r_kBlk_n, r_kBlk_e, r_kBlk_r, r_kBlk_o, r_kLoop_n, r_kLoop_e, r_kLoop_r, r_ops_nil, r_bin, r_binB, r_binP, r_eql, r_neq, r_lss, r_leq, r_gtr, r_geq, r_add, r_sub, r_mul, v_eqs, v_nes, r_opt, r_pick, r_pick_t, r_pick_f, r_not, v_not, r_ret, r_exit, r_skip, r_cond_t, r_cond_f, r_block, r_loop, r_kEnd_n, r_kEnd_r, r_giveO, r_consO, r_evR_0, r_evR_o, r_evR_1, r_evR_N, r_give_0, r_give_1, r_give_2, initV, r_nilck, v_ckp, v_ckf, r_fadr, v_fadr, r_load1, rd1, rdN, v_rd0, rdRow_0, rdRow_s, r_loadN, r_store, v_wrV, v_wrA, v_rdA0, v_some, r_putK, r_alloc, r_box, r_boxK, r_build, r_aggK, fill_0, fill_s, fillK_1, putRow_0, putRow_s, c_agg, c_int, c_bool, c_str, c_slc, c_nils, c_fn, c_ptr, r_buildS, r_rowsK1, fillR_1, fillO_1, r_append, r_fld1, r_idxS, r_idxStr, r_len, v_lenS, v_lenL, v_lenN, r_slcStr, v_sub, map_some, map_none, r_call, r_callv, v_callf, r_ext, v_ext0, v_exts, r_mkfn, opds, r_conv, v_conv, llen_0, llen_s, n_of, ii_eq, ii_lt, ii_le, get_put, get_add, next_put, next_add, put_put, add_put', ne_s, ne_s', ne_ss, ne_ss', if_true, if_false, ite_self, ite_true, ite_false, Nat.zero_add, Nat.add_zero, Nat.reduceAdd, Nat.reduceLT, Nat.reduceEqDiff, Bool.not_false, Bool.not_true, decide_true, decide_false, eq_self, p1, sc_0, sc_1, nat']
      exact hbad _ _ hst hf H' (passed l x) rfl st p1
    · intro hf c H' u1 p1 hstep hc1 hc2
      have st := (s0 _).updP u1
      have hcd : isDelim c = isDelim (byteAt l x.at_) := by
        by_cases hb : byteAt l x.at_ < 128
        · rw [hc1 hb]
        · rw [big_not (hc2 (by omega)), big_not (show 128 ≤ byteAt l x.at_ by omega)]
      have t1 : H'.get H.next = .rows 5 [tokRow ⟨0, 0, 0, x.at_, x.line, x.col⟩] := by rw [u1.2.1 H.next (by rw [next_add]; omega) (by omega), gt0]
      have hn1 : H.next < H'.next := Nat.lt_of_lt_of_le (by rw [next_add]; omega) u1.1
      simp only [rdR1, rdRN, r_un1, r_convBS, r_convIS, r_isP, r_rngS, r_rngP, r_nxtS, r_nxtP, r_mkmap, r_lkp, r_idxA, v_pnn, v_ppn, v_qnn, v_qpn, r_slcS, r_again1, r_againN, ag_int, ag_bool, ag_str, ag_agg, r_seq, r_reg, r_op, r_op_y, r_op_n, r_op_u, r_move, r_get_v, r_get_t, r_get_c, r_lget_0, r_lget_s, r_lset_0, r_lset_s, r_kOp_t, r_kOp_v, r_kOp_o, r_kReg, r_kSeq_n, r_kSeq_e, r_kSeq_r, r_kBlk_n, r_kBlk_e, r_kBlk_r, r_kBlk_o, r_kLoop_n, r_kLoop_e, r_kLoop_r, r_ops_nil, r_bin, r_binB, r_binP, r_eql, r_neq, r_lss, r_leq, r_gtr, r_geq, r_add, r_sub, r_mul, v_eqs, v_nes, r_opt, r_pick, r_pick_t, r_pick_f, r_not, v_not, r_ret, r_exit, r_skip, r_cond_t, r_cond_f, r_block, r_loop, r_kEnd_n, r_kEnd_r, r_giveO, r_consO, r_evR_0, r_evR_o, r_evR_1, r_evR_N, r_give_0, r_give_1, r_give_2, initV, r_nilck, v_ckp, v_ckf, r_fadr, v_fadr, r_load1, rd1, rdN, v_rd0, rdRow_0, rdRow_s, r_loadN, r_store, v_wrV, v_wrA, v_rdA0, v_some, r_putK, r_alloc, r_box, r_boxK, r_build, r_aggK, fill_0, fill_s, fillK_1, putRow_0, putRow_s, c_agg, c_int, c_bool, c_str, c_slc, c_nils, c_fn, c_ptr, r_buildS, r_rowsK1, fillR_1, fillO_1, r_append, r_fld1, r_idxS, r_idxStr, r_len, v_lenS, v_lenL, v_lenN, r_slcStr, v_sub, map_some, map_none, r_call, r_callv, v_callf, r_ext, v_ext0, v_exts, r_mkfn, opds, r_conv, v_conv, llen_0, llen_s, n_of, ii_eq, ii_lt, ii_le, get_put, get_add, next_put, next_add, put_put, add_put', ne_s, ne_s', ne_ss, ne_ss', if_true, if_false, ite_self, ite_true, ite_false, Nat.zero_add, Nat.add_zero, Nat.reduceAdd, Nat.reduceLT, Nat.reduceEqDiff, Bool.not_false, Bool.not_true, decide_true, decide_false, eq_self, p1, sc_0, sc_1, nat]
      refine s28 (n := n + 2) (c := c) ?_
      intro H2 g1 g2
      have p2 : H2.get p = .rows 8 [scRow l x mb v pl] := by rw [g1.2 p st.pn, p1]
      have t2 : H2.get H.next = .rows 5 [tokRow ⟨0, 0, 0, x.at_, x.line, x.col⟩] := by rw [g1.2 _ hn1, t1]
      have s2 : St H0 H2 l p mb v out := st.updP (Upd.grow g1 g2)
      have hn2 : H.next < H2.next := Nat.lt_of_lt_of_le hn1 g1.1
      have n1 : p ≠ H.next := by omega
      have n2 : ¬ H.next = p := by omega
      have n3 : mb ≠ H.next := by omega
      have hrp := rune_pos he hf
      rw [hcd]
      cases hd : isDelim (byteAt l x.at_) with
      | true =>
        have hfit := rune_fit hat (by omega)
        have w : IntKind.i64.wrap ((x.at_ : Int) + (rune l x.at_ : Int)) = ((x.at_ + rune l x.at_ : Nat) : Int) := w_add (by omega)
        have hs : subK (.str l.len l.code) (some (.int .i64 (x.at_ : Int))) (some (.int .i64 ((x.at_ + rune l x.at_ : Nat) : Int))) = some (.str (cutOf l x.at_ (x.at_ + rune l x.at_)).len (cutOf l x.at_ (x.at_ + rune l x.at_)).code) := by simp only [subK, bound_nat hfit, bound_nat (Nat.le_add_right _ _)]; rfl
        have hl1 := hx.line_le
        have hc1' := hx.col_le
        have hst : lexStep l x = .inr (⟨2, (cutOf l x.at_ (x.at_ + rune l x.at_)).len, (cutOf l x.at_ (x.at_ + rune l x.at_)).code, x.at_, x.line, x.col⟩, passed l x) := by
          have er : lexRun l x = passed l x := by rw [lexRun, hd, if_pos rfl]
          rw [lexStep, if_pos hat, er, if_pos hf]
          have et : lexTok l x (passed l x) = (⟨2, (cutOf l x.at_ (x.at_ + rune l x.at_)).len, (cutOf l x.at_ (x.at_ + rune l x.at_)).code, x.at_, x.line, x.col⟩, 0) := by
            rw [lexTok, hd, if_pos rfl, hrp.2]
            rfl
          rw [et, if_pos rfl]
        have gs : ∀ B K, evF AP TT (n + 8) 29 [.ptr p 0 0, .int .i32 (c : Int), .int .i64 (rune l x.at_ : Int)] (H2.put H.next B) K = K (.tup []) ((H2.put H.next B).put p (.rows 8 [scRow l (passed l x) mb v pl])) := fun B K => by
          rw [s29 (n := n + 7) (by rw [get_put, if_neg n1]; exact p2) (by omega) (by omega) (by omega), hstep]
        simp only [rdR1, rdRN, r_un1, r_convBS, r_convIS, r_isP, r_rngS, r_rngP, r_nxtS, r_nxtP, r_mkmap, r_lkp, r_idxA, v_pnn, v_ppn, v_qnn, v_qpn, r_slcS, r_again1, r_againN, ag_int, ag_bool, ag_str, ag_agg, r_seq, r_reg, r_op, r_op_y, r_op_n, r_op_u, r_move, r_get_v, r_get_t, r_get_c, r_lget_0, r_lget_s, r_lset_0, r_lset_s, r_kOp_t, r_kOp_v, r_kOp_o, r_kReg, r_kSeq_n, r_kSeq_e, r_kSeq_r, r_kBlk_n, r_kBlk_e, r_kBlk_r, r_kBlk_o, r_kLoop_n, r_kLoop_e, r_kLoop_r, r_ops_nil, r_bin, r_binB, r_binP, r_eql, r_neq, r_lss, r_leq, r_gtr, r_geq, r_add, r_sub, r_mul, v_eqs, v_nes, r_opt, r_pick, r_pick_t, r_pick_f, r_not, v_not, r_ret, r_exit, r_skip, r_cond_t, r_cond_f, r_block, r_loop, r_kEnd_n, r_kEnd_r, r_giveO, r_consO, r_evR_0, r_evR_o, r_evR_1, r_evR_N, r_give_0, r_give_1, r_give_2, initV, r_nilck, v_ckp, v_ckf, r_fadr, v_fadr, r_load1, rd1, rdN, v_rd0, rdRow_0, rdRow_s, r_loadN, r_store, v_wrV, v_wrA, v_rdA0, v_some, r_putK, r_alloc, r_box, r_boxK, r_build, r_aggK, fill_0, fill_s, fillK_1, putRow_0, putRow_s, c_agg, c_int, c_bool, c_str, c_slc, c_nils, c_fn, c_ptr, r_buildS, r_rowsK1, fillR_1, fillO_1, r_append, r_fld1, r_idxS, r_idxStr, r_len, v_lenS, v_lenL, v_lenN, r_slcStr, v_sub, map_some, map_none, r_call, r_callv, v_callf, r_ext, v_ext0, v_exts, r_mkfn, opds, r_conv, v_conv, llen_0, llen_s, n_of, ii_eq, ii_lt, ii_le, get_put, get_add, next_put, next_add, put_put, add_put', ne_s, ne_s', ne_ss, ne_ss', if_true, if_false, ite_self, ite_true, ite_false, Nat.zero_add, Nat.add_zero, Nat.reduceAdd, Nat.reduceLT, Nat.reduceEqDiff, Bool.not_false, Bool.not_true, decide_true, decide_false, eq_self, tk_f0, tk_f1, tk_f2, tok_blk, tok_agg, tk_0, tk_1, tk_2, tk_3, tk_4, tk_len, tk_same, tk_w0, tk_w1, hd, p2, t2, sc_0, sc_1, w, hs, n1, n2, gs]
        have s3 : St H0 ((H2.put H.next (.rows 5 [tokRow ⟨2, (cutOf l x.at_ (x.at_ + rune l x.at_)).len, (cutOf l x.at_ (x.at_ + rune l x.at_)).code, x.at_, x.line, x.col⟩])).put p (.rows 8 [scRow l (passed l x) mb v pl])) l p mb v out := (s2.updT Upd.put s.grow.1 n1 n3 hvn).updP Upd.put
        refine w18 (n := n + 7) (y := passed l x) s3 (by rw [get_put, if_pos rfl]) hf (by rw [get_put, if_neg n2, get_put, if_pos rfl]) (by simp only [next_put]; exact hn2) n1 n3 hvn ?_ ?_
        · intro h5 H' s' p'
          exact hlong _ _ hst h5 H' _ rfl s' p'
        · intro h5 H' v' s' p'
          exact hnext _ _ hst h5 H' v' s' p'
      | false =>
        simp only [rdR1, rdRN, r_un1, r_convBS, r_convIS, r_isP, r_rngS, r_rngP, r_nxtS, r_nxtP, r_mkmap, r_lkp, r_idxA, v_pnn, v_ppn, v_qnn, v_qpn, r_slcS, r_again1, r_againN, ag_int, ag_bool, ag_str, ag_agg, r_seq, r_reg, r_op, r_op_y, r_op_n, r_op_u, r_move, r_get_v, r_get_t, r_get_c, r_lget_0, r_lget_s, r_lset_0, r_lset_s, r_kOp_t, r_kOp_v, r_kOp_o, r_kReg, r_kSeq_n, r_kSeq_e, r_kSeq_r, r_kBlk_n, r_kBlk_e, r_kBlk_r, r_kBlk_o, r_kLoop_n, r_kLoop_e, r_kLoop_r, r_ops_nil, r_bin, r_binB, r_binP, r_eql, r_neq, r_lss, r_leq, r_gtr, r_geq, r_add, r_sub, r_mul, v_eqs, v_nes, r_opt, r_pick, r_pick_t, r_pick_f, r_not, v_not, r_ret, r_exit, r_skip, r_cond_t, r_cond_f, r_block, r_loop, r_kEnd_n, r_kEnd_r, r_giveO, r_consO, r_evR_0, r_evR_o, r_evR_1, r_evR_N, r_give_0, r_give_1, r_give_2, initV, r_nilck, v_ckp, v_ckf, r_fadr, v_fadr, r_load1, rd1, rdN, v_rd0, rdRow_0, rdRow_s, r_loadN, r_store, v_wrV, v_wrA, v_rdA0, v_some, r_putK, r_alloc, r_box, r_boxK, r_build, r_aggK, fill_0, fill_s, fillK_1, putRow_0, putRow_s, c_agg, c_int, c_bool, c_str, c_slc, c_nils, c_fn, c_ptr, r_buildS, r_rowsK1, fillR_1, fillO_1, r_append, r_fld1, r_idxS, r_idxStr, r_len, v_lenS, v_lenL, v_lenN, r_slcStr, v_sub, map_some, map_none, r_call, r_callv, v_callf, r_ext, v_ext0, v_exts, r_mkfn, opds, r_conv, v_conv, llen_0, llen_s, n_of, ii_eq, ii_lt, ii_le, get_put, get_add, next_put, next_add, put_put, add_put', ne_s, ne_s', ne_ss, ne_ss', if_true, if_false, ite_self, ite_true, ite_false, Nat.zero_add, Nat.add_zero, Nat.reduceAdd, Nat.reduceLT, Nat.reduceEqDiff, Bool.not_false, Bool.not_true, decide_true, decide_false, eq_self, hd]
        refine s23 (n := n) (by omega) says_ends hx he s2.gl s2.pn p2 ?_
        have er := lexRun_till hd
        have hy := tillM_ok (q := endsQ) (l.len + 1) hx
        have hadv : x.at_ < (tillM l endsQ (l.len + 1) x).at_ := by
          have hq : endsQ (byteAt l x.at_) = false := by
            have := hsol hat
            simp only [solidQ] at this
            simp only [endsQ, endsC, this, hd]
            rfl
          rw [show tillM l endsQ (l.len + 1) x = (if x.at_ < l.len ∧ x.e = 0 then (if (passed l x).e ≠ 0 then passed l x else if endsQ (byteAt l x.at_) then x else tillM l endsQ l.len (passed l x)) else x) from rfl]
          rw [if_pos ⟨hat, he⟩, if_neg (fun hn => hn hf), hq, if_neg (by simp), ← runTo_till]
          have := runTo_at (l := l) l.len (passed l x)
          omega
        rw [← er] at hy hadv ⊢
        revert hy hadv
        generalize hyy : lexRun l x = y
        intro hy hadv H3 u3 p3
        have s3 := s2.updP u3
        have t3 : H3.get H.next = .rows 5 [tokRow ⟨0, 0, 0, x.at_, x.line, x.col⟩] := by rw [u3.2.1 _ hn2 n2, t2]
        have hn3 : H.next < H3.next := Nat.lt_of_lt_of_le hn2 u3.1
        by_cases hye : y.e = 0
        · have hle := hy.at_le
          have hs : subK (.str l.len l.code) (some (.int .i64 (x.at_ : Int))) (some (.int .i64 (y.at_ : Int))) = some (.str (cutOf l x.at_ y.at_).len (cutOf l x.at_ y.at_).code) := by simp only [subK, bound_nat hle, bound_nat (show x.at_ ≤ y.at_ by omega)]; rfl
          have e1 : decide (y.e = 0) = true := decide_eq_true hye
          have e2 : plOf y pl = pl := by rw [plOf, if_pos hye]
          rw [e2] at p3
          have mr : manyRounds = 999999997 + 3 := rfl
          simp only [rdR1, rdRN, r_un1, r_convBS, r_convIS, r_isP, r_rngS, r_rngP, r_nxtS, r_nxtP, r_mkmap, r_lkp, r_idxA, v_pnn, v_ppn, v_qnn, v_qpn, r_slcS, r_again1, r_againN, ag_int, ag_bool, ag_str, ag_agg, r_seq, r_reg, r_op, r_op_y, r_op_n, r_op_u, r_move, r_get_v, r_get_t, r_get_c, r_lget_0, r_lget_s, r_lset_0, r_lset_s, r_kOp_t, r_kOp_v, r_kOp_o, r_kReg, r_kSeq_n, r_kSeq_e, r_kSeq_r, r_kBlk_n, r_kBlk_e, r_kBlk_r, r_kBlk_o, r_kLoop_n, r_kLoop_e, r_kLoop_r, r_ops_nil, r_bin, r_binB, r_binP, r_eql, r_neq, r_lss, r_leq, r_gtr, r_geq, r_add, r_sub, r_mul, v_eqs, v_nes, r_opt, r_pick, r_pick_t, r_pick_f, r_not, v_not, r_ret, r_exit, r_skip, r_cond_t, r_cond_f, r_block, r_loop, r_kEnd_n, r_kEnd_r, r_giveO, r_consO, r_evR_0, r_evR_o, r_evR_1, r_evR_N, r_give_0, r_give_1, r_give_2, initV, r_nilck, v_ckp, v_ckf, r_fadr, v_fadr, r_load1, rd1, rdN, v_rd0, rdRow_0, rdRow_s, r_loadN, r_store, v_wrV, v_wrA, v_rdA0, v_some, r_putK, r_alloc, r_box, r_boxK, r_build, r_aggK, fill_0, fill_s, fillK_1, putRow_0, putRow_s, c_agg, c_int, c_bool, c_str, c_slc, c_nils, c_fn, c_ptr, r_buildS, r_rowsK1, fillR_1, fillO_1, r_append, r_fld1, r_idxS, r_idxStr, r_len, v_lenS, v_lenL, v_lenN, r_slcStr, v_sub, map_some, map_none, r_call, r_callv, v_callf, r_ext, v_ext0, v_exts, r_mkfn, opds, r_conv, v_conv, llen_0, llen_s, n_of, ii_eq, ii_lt, ii_le, get_put, get_add, next_put, next_add, put_put, add_put', ne_s, ne_s', ne_ss, ne_ss', if_true, if_false, ite_self, ite_true, ite_false, Nat.zero_add, Nat.add_zero, Nat.reduceAdd, Nat.reduceLT, Nat.reduceEqDiff, Bool.not_false, Bool.not_true, decide_true, decide_false, eq_self, tk_f0, tk_f1, tk_f2, tok_blk, tok_agg, tk_0, tk_1, tk_2, tk_3, tk_4, tk_len, tk_same, tk_w0, tk_w1, fillR_0, fillR_s, fillRK_1, rset_0, rset_s, rlen_0, rlen_s, r_rowsK, e1, p3, t3, sc_0, sc_1, hs]
          rw [mr]
          have s4 : St H0 ((H3.put H.next (.rows 5 [tokRow ⟨0, (cutOf l x.at_ y.at_).len, (cutOf l x.at_ y.at_).code, x.at_, x.line, x.col⟩])).add (.rows 1 [[.fn 31 [.ptr p 0 0] []], [.fn 32 [.ptr p 0 0] []], [.fn 33 [.ptr p 0 0] []]])) l p mb v out := by
            have sA : St H0 (H3.put H.next (.rows 5 [tokRow ⟨0, (cutOf l x.at_ y.at_).len, (cutOf l x.at_ y.at_).code, x.at_, x.line, x.col⟩])) l p mb v out := s3.updT Upd.put s.grow.1 n1 n3 hvn
            exact sA.updP (Upd.grow Grow.add rfl)
          have h3n := s3.pn
          have h3m := s3.mn
          have hkk : ∀ w, kindOf ⟨0, (cutOf l x.at_ y.at_).len, (cutOf l x.at_ y.at_).code, x.at_, x.line, x.col⟩ w = kindOf ⟨7, (cutOf l x.at_ y.at_).len, (cutOf l x.at_ y.at_).code, x.at_, x.line, x.col⟩ w := fun w => kind_07
          have hlt : lexTok l x y = kindOf ⟨7, (cutOf l x.at_ y.at_).len, (cutOf l x.at_ y.at_).code, x.at_, x.line, x.col⟩ (cutOf l x.at_ y.at_) := by rw [lexTok, hd, if_neg (by simp)]
          refine loop18 (n := n) (pl := pl) (y := y) (t := ⟨0, (cutOf l x.at_ y.at_).len, (cutOf l x.at_ y.at_).code, x.at_, x.line, x.col⟩) (sb := H3.next) s4 ?_ hye ?_ ?_ s.grow.1 n1 n3 hvn ?_ ?_ ?_ (by simp) ?_ ?_ ?_ ?_
          · rw [get_add, if_neg (by rw [next_put]; omega), get_put, if_neg n1]; exact p3
          · rw [get_add, if_neg (by rw [next_put]; omega), get_put, if_pos rfl]
          · rw [next_add, next_put]; omega
          · rw [get_add, next_put, if_pos rfl]
          · rw [next_add, next_put]; omega
          · omega
          · show 0 < y.at_ - x.at_; omega
          · show y.at_ - x.at_ ≤ 1000000; omega
          · intro hk H' s' p'
            have hk' : (lexTok l x y).2 ≠ 0 := by rw [hlt, ← hkk]; exact hk
            have hst : lexStep l x = .inl (x.at_, (lexTok l x y).2) := by rw [lexStep, if_pos hat, hyy, if_pos hye, if_neg hk']
            rw [hkk] at p'
            rw [hlt] at hst hk'
            exact hbad _ _ hst hk' H' _ rfl s' p'
          · intro hk H' ts b6 b7 b8 b11 s' p' t' hn'
            have hk' : (lexTok l x y).2 = 0 := by rw [hlt, ← hkk]; exact hk
            have hst : lexStep l x = .inr ((lexTok l x y).1, y) := by rw [lexStep, if_pos hat, hyy, if_pos hye, if_pos hk']
            have ht1 : (kindOf ⟨0, (cutOf l x.at_ y.at_).len, (cutOf l x.at_ y.at_).code, x.at_, x.line, x.col⟩ ⟨(cutOf l x.at_ y.at_).len, (cutOf l x.at_ y.at_).code⟩).1 = (lexTok l x y).1 := by rw [hlt, hkk]
            rw [ht1] at t'
            refine w18 (n := n + 7) (y := y) s' p' hye t' hn' n1 n3 hvn ?_ ?_
            · intro h5 H'' s'' p''
              exact hlong _ _ hst h5 H'' _ rfl s'' p''
            · intro h5 H'' v' s'' p''
              exact hnext _ _ hst h5 H'' v' s'' p''
        · have e1 : decide (y.e = 0) = false := decide_eq_false hye
          have e2 : plOf y pl = y.at_ := by rw [plOf, if_neg hye]
          rw [e2] at p3
          have hst : lexStep l x = .inl (y.at_, y.e) := by rw [lexStep, if_pos hat, hyy, if_neg hye]
          simp only [rdR1, rdRN, r_un1, r_convBS, r_convIS, r_isP, r_rngS, r_rngP, r_nxtS, r_nxtP, r_mkmap, r_lkp, r_idxA, v_pnn, v_ppn, v_qnn, v_qpn, r_slcS, r_again1, r_againN, ag_int, ag_bool, ag_str, ag_agg, r_seq, r_reg, r_op, r_op_y, r_op_n, r_op_u, r_move, r_get_v, r_get_t, r_get_c, r_lget_0, r_lget_s, r_lset_0, r_lset_s, r_kOp_t, r_kOp_v, r_kOp_o, r_kReg, r_kSeq_n, r_kSeq_e, r_kSeq_r, r_kBlk_n, r_kBlk_e, r_kBlk_r, r_kBlk_o, r_kLoop_n, r_kLoop_e, r_kLoop_r, r_ops_nil, r_bin, r_binB, r_binP, r_eql, r_neq, r_lss, r_leq, r_gtr, r_geq, r_add, r_sub, r_mul, v_eqs, v_nes, r_opt, r_pick, r_pick_t, r_pick_f, r_not, v_not, r_ret, r_exit, r_skip, r_cond_t, r_cond_f, r_block, r_loop, r_kEnd_n, r_kEnd_r, r_giveO, r_consO, r_evR_0, r_evR_o, r_evR_1, r_evR_N, r_give_0, r_give_1, r_give_2, initV, r_nilck, v_ckp, v_ckf, r_fadr, v_fadr, r_load1, rd1, rdN, v_rd0, rdRow_0, rdRow_s, r_loadN, r_store, v_wrV, v_wrA, v_rdA0, v_some, r_putK, r_alloc, r_box, r_boxK, r_build, r_aggK, fill_0, fill_s, fillK_1, putRow_0, putRow_s, c_agg, c_int, c_bool, c_str, c_slc, c_nils, c_fn, c_ptr, r_buildS, r_rowsK1, fillR_1, fillO_1, r_append, r_fld1, r_idxS, r_idxStr, r_len, v_lenS, v_lenL, v_lenN, r_slcStr, v_sub, map_some, map_none, r_call, r_callv, v_callf, r_ext, v_ext0, v_exts, r_mkfn, opds, r_conv, v_conv, llen_0, llen_s, n_of, ii_eq, ii_lt, ii_le, get_put, get_add, next_put, next_add, put_put, add_put', ne_s, ne_s', ne_ss, ne_ss', if_true, if_false, ite_self, ite_true, ite_false, Nat.zero_add, Nat.add_zero, Nat.reduceAdd, Nat.reduceLT, Nat.reduceEqDiff, Bool.not_false, Bool.not_true, decide_true, decide_false, eq_self, e1]
          exact hbad _ _ hst hye H3 y rfl s3 p3
  · have eat : (x.at_ = l.len) = True := by have := hx.at_le; simp; omega
    have hst : lexStep l x = .inr (⟨7, 0, 0, x.at_, x.line, x.col⟩, x) := by rw [lexStep, if_neg hat]
    have ge : ∀ B K, evF AP TT (n + 8) 27 [.ptr p 0 0] (H.add B) K = K (.tup [.int .i32 ((0 : Nat) : Int), .int .i64 ((0 : Nat) : Int), .bool false]) (H.add B) := fun B K => s27_end (n := n + 5) (gp0 B) (by omega)
    simp only [rdR1, rdRN, r_un1, r_convBS, r_convIS, r_isP, r_rngS, r_rngP, r_nxtS, r_nxtP, r_mkmap, r_lkp, r_idxA, v_pnn, v_ppn, v_qnn, v_qpn, r_slcS, r_again1, r_againN, ag_int, ag_bool, ag_str, ag_agg, r_seq, r_reg, r_op, r_op_y, r_op_n, r_op_u, r_move, r_get_v, r_get_t, r_get_c, r_lget_0, r_lget_s, r_lset_0, r_lset_s, r_kOp_t, r_kOp_v, r_kOp_o, r_kReg, r_kSeq_n, r_kSeq_e, r_kSeq_r, r_kBlk_n, r_kBlk_e, r_kBlk_r, r_kBlk_o, r_kLoop_n, r_kLoop_e, r_kLoop_r, r_ops_nil, r_bin, r_binB, r_binP, r_eql, r_neq, r_lss, r_leq, r_gtr, r_geq, r_add, r_sub, r_mul, v_eqs, v_nes, r_opt, r_pick, r_pick_t, r_pick_f, r_not, v_not, r_ret, r_exit, r_skip, r_cond_t, r_cond_f, r_block, r_loop, r_kEnd_n, r_kEnd_r, r_giveO, r_consO, r_evR_0, r_evR_o, r_evR_1, r_evR_N, r_give_0, r_give_1, r_give_2, initV, r_nilck, v_ckp, v_ckf, r_fadr, v_fadr, r_load1, rd1, rdN, v_rd0, rdRow_0, rdRow_s, r_loadN, r_store, v_wrV, v_wrA, v_rdA0, v_some, r_putK, r_alloc, r_box, r_boxK, r_build, r_aggK, fill_0, fill_s, fillK_1, putRow_0, putRow_s, c_agg, c_int, c_bool, c_str, c_slc, c_nils, c_fn, c_ptr, r_buildS, r_rowsK1, fillR_1, fillO_1, r_append, r_fld1, r_idxS, r_idxStr, r_len, v_lenS, v_lenL, v_lenN, r_slcStr, v_sub, map_some, map_none, r_call, r_callv, v_callf, r_ext, v_ext0, v_exts, r_mkfn, opds, r_conv, v_conv, llen_0, llen_s, n_of, ii_eq, ii_lt, ii_le, get_put, get_add, next_put, next_add, put_put, add_put', ne_s, ne_s', ne_ss, ne_ss', if_true, if_false, ite_self, ite_true, ite_false, Nat.zero_add, Nat.add_zero, Nat.reduceAdd, Nat.reduceLT, Nat.reduceEqDiff, Bool.not_false, Bool.not_true, decide_true, decide_false, eq_self, tk_f0, tk_f1, tk_f2, tok_blk, tok_agg, tk_0, tk_1, tk_2, tk_3, tk_4, tk_len, tk_same, tk_w0, tk_w1, d18, hp, sc_0, sc_1, sc_2, sc_3, ge, q0, q1, eat]
    refine w18 (n := n + 7) (y := x) (t := ⟨7, 0, 0, x.at_, x.line, x.col⟩) (s0 _) (gp0 _) he (gt0 _) (by rw [next_add]; omega) (by omega) (by omega) hvn ?_ ?_
    · intro h5 H' s' p'
      exact hlong _ _ hst h5 H' _ rfl s' p'
    · intro h5 H' v' s' p'
      exact hnext _ _ hst h5 H' v' s' p'
end
end Dt
