/- A part of the abstract machine and of the proof that the program does what it reckons; no conditions. -/
import Derived.Test.YtpljolocgeicfaaDoorM21
namespace Dt
open Go
set_option linter.all false
set_option maxRecDepth 100000
theorem look11 : TT.funs 11 = some d11 := (rfl)
theorem look12 : TT.funs 12 = some d12 := (rfl)
def Inp (F : Fr) (vin : AVal) (toks : List Tok) : Prop := ∃ b r z R, vin = .slc b r toks.length none 5 ∧ F b = some (.rows z R) ∧ ∀ i t, toks[i]? = some t → rget R (r + i) = some (tokRow t)
instance : Inhabited Tok := ⟨⟨0, 0, 0, 0, 0, 0⟩⟩
def cur (toks : List Tok) (i : Nat) : Tok := (toks[i]?).getD default
theorem cur_some {toks : List Tok} {i : Nat} (h : i < toks.length) : toks[i]? = some (cur toks i) := by
  unfold cur
  rw [List.getElem?_eq_getElem h]
  rfl

theorem rset_set : ∀ (R : List (List AVal)) (i : Nat) (x : List AVal), rset R i x = R.set i x
  | [], _, _ => rfl
  | y :: R, 0, x => rfl
  | y :: R, i + 1, x => by simp only [rset, List.set_cons_succ, rset_set R i x]
section
variable {F : Fr} {vin v1 v2 : AVal} {H : Heap} {toks : List Tok} {K : AVal → Heap → Prop} {n : Nat}
theorem Inp.at (h : Inp F vin toks) (hs : Sees F H) {i : Nat} {k : IntKind} (hi : i < toks.length) : ∃ b r z R, idxV 5 vin (.int k (i : Int)) = some (.ptr b r 0) ∧ H.get b = .rows z R ∧ rget R r = some (tokRow (cur toks i)) ∧ b < H.next := by
  obtain ⟨b, r, z, R, rfl, hF, hR⟩ := h
  exact ⟨b, r + i, z, R, v_idx hi, (hs b _ hF).2, hR i _ (cur_some hi), (hs b _ hF).1⟩

def Rd (F : Fr) (vin : AVal) (toks : List Tok) : Prop := (vin = .nils ∧ toks = []) ∨ Inp F vin toks
theorem Rd.len (h : Rd F vin toks) : lenV false vin = some (.int .i64 (toks.length : Int)) := by
  rcases h with ⟨rfl, rfl⟩ | ⟨b, q, z, R, rfl, _⟩ <;> rfl
theorem Rd.at (h : Rd F vin toks) (hs : Sees F H) {i : Nat} {k : IntKind} (hi : i < toks.length) : ∃ b r z R, idxV 5 vin (.int k (i : Int)) = some (.ptr b r 0) ∧ H.get b = .rows z R ∧ rget R r = some (tokRow (cur toks i)) ∧ b < H.next := by
  rcases h with ⟨rfl, rfl⟩ | h
  · simp at hi
  · exact h.at hs hi
theorem Sl.inp {F : Fr} {H : Heap} {v : AVal} {toks : List Tok} (h : Sl F H v 5 (toks.map tokRow)) : Rd H.all v toks := by
  rcases h with ⟨e1, e2⟩ | ⟨b, R, e1, hlt, hFb, hR, hrows⟩
  · exact Or.inl ⟨e1, by simpa using e2⟩
  · refine Or.inr ⟨b, 0, 5, R, by rw [e1, List.length_map], by simp [Heap.all, hlt, hR], ?_⟩
    intro i t ht
    have hi : i < toks.length := by
      rcases Nat.lt_or_ge i toks.length with h | h
      · exact h
      · rw [List.getElem?_eq_none h] at ht; cases ht
    rw [Nat.zero_add, rget_get]
    have : (R.take (toks.map tokRow).length)[i]? = (toks.map tokRow)[i]? := by rw [hrows]
    rw [List.getElem?_take_of_lt (by simpa using hi), List.getElem?_map, ht] at this
    exact this
theorem Rd.grow {H H' : Heap} {v : AVal} {toks : List Tok} (h : Rd H.all v toks) (g : Grow H H') : Rd H'.all v toks := by
  rcases h with h | ⟨b, r, z, R, e1, e2, e3⟩
  · exact Or.inl h
  · refine Or.inr ⟨b, r, z, R, e1, ?_, e3⟩
    obtain ⟨h1, h2⟩ := Sees.all H b _ e2
    simp only [Heap.all, if_pos (Nat.lt_of_lt_of_le h1 g.1), g.2 b h1, h2]
theorem s11 {x : Int} : evF AP TT (n + 1) 11 [.int .i64 x] H K = K (.int .i64 x) H := by
  rw [r_fun look11]
  simp only [rdR1, rdRN, r_un1, r_convBS, r_convIS, r_isP, r_rngS, r_rngP, r_nxtS, r_nxtP, r_mkmap, r_lkp, r_idxA, v_pnn, v_ppn, v_qnn, v_qpn, r_slcS, r_again1, r_againN, ag_int, ag_bool, ag_str, ag_agg, r_seq, r_reg, r_op, r_op_y, r_op_n, r_op_u, r_move, r_get_v, r_get_t, r_get_c, r_lget_0, r_lget_s, r_lset_0, r_lset_s, r_kOp_t, r_kOp_v, r_kOp_o, r_kReg, r_kSeq_n, r_kSeq_e, r_kSeq_r, r_kBlk_n, r_kBlk_e, r_kBlk_r, r_kBlk_o, r_kLoop_n, r_kLoop_e, r_kLoop_r, r_ops_nil, r_bin, r_binB, r_binP, r_eql, r_neq, r_lss, r_leq, r_gtr, r_geq, r_add, r_sub, r_mul, v_eqs, v_nes, r_opt, r_pick, r_pick_t, r_pick_f, r_not, v_not, r_ret, r_exit, r_skip, r_cond_t, r_cond_f, r_block, r_loop, r_kEnd_n, r_kEnd_r, r_giveO, r_consO, r_evR_0, r_evR_o, r_evR_1, r_evR_N, r_give_0, r_give_1, r_give_2, initV, r_nilck, v_ckp, v_ckf, r_fadr, v_fadr, r_load1, rd1, rdN, v_rd0, rdRow_0, rdRow_s, r_loadN, r_store, v_wrV, v_wrA, v_rdA0, v_some, r_putK, r_alloc, r_box, r_boxK, r_build, r_aggK, fill_0, fill_s, fillK_1, putRow_0, putRow_s, c_agg, c_int, c_bool, c_str, c_slc, c_nils, c_fn, c_ptr, r_buildS, r_rowsK1, fillR_1, fillO_1, r_append, r_fld1, r_idxS, r_idxStr, r_len, v_lenS, v_lenL, v_lenN, r_slcStr, v_sub, map_some, map_none, r_call, r_callv, v_callf, r_ext, v_ext0, v_exts, r_mkfn, opds, r_conv, v_conv, llen_0, llen_s, n_of, ii_eq, ii_lt, ii_le, get_put, get_add, next_put, next_add, put_put, add_put', ne_s, ne_s', ne_ss, ne_ss', if_true, if_false, ite_self, ite_true, ite_false, Nat.zero_add, Nat.add_zero, Nat.reduceAdd, Nat.reduceLT, Nat.reduceEqDiff, Bool.not_false, Bool.not_true, decide_true, decide_false, eq_self, d11]
theorem eq_same {t : Tok} : eqV true [0, 1, 0, 0, 0] (.agg (tokRow t)) (.agg (tokRow t)) = some (.bool false) := by
  have hi : ∀ n : Int, eqCell 0 (.int .i64 n) (.int .i64 n) = some true := fun n => by simp [eqCell, ieq_eq]
  have hs : ∀ n c, eqCell 1 (.str n c) (.str n c) = some true := fun n c => by
    simp only [eqCell]
    rw [show Nat.beq n n = true from by rw [Nat.beq_eq], show Nat.beq c c = true from by rw [Nat.beq_eq]]
    rfl
  simp only [eqV, tokRow, eqCells, hi, hs]
  rfl
theorem loop12 (h1 : Rd F v1 toks) (h2 : Rd F v2 toks) (hs : Sees F H) (hbig : toks.length ≤ 1000000) : ∀ (m i r : Nat), i + m = toks.length → m < r →
    loopOf (evF AP TT n) b12_0 r [v1, v2, .bool false, .int .i64 (i : Int)] H (kBlk 0 (kSeq (evF AP TT n) r12_1 (kEnd [.opd (.v 2)] K))) = K (.bool true) H := by
  intro m
  induction m with
  | zero =>
    intro i r hi hr
    obtain ⟨r, rfl⟩ : ∃ m, r = m + 1 := ⟨r - 1, by omega⟩
    have g : ¬ i < toks.length := by omega
    rw [r_roundN b12_0.eq_1]
    simp only [rdR1, rdRN, r_un1, r_convBS, r_convIS, r_isP, r_rngS, r_rngP, r_nxtS, r_nxtP, r_mkmap, r_lkp, r_idxA, v_pnn, v_ppn, v_qnn, v_qpn, r_slcS, r_again1, r_againN, ag_int, ag_bool, ag_str, ag_agg, r_seq, r_reg, r_op, r_op_y, r_op_n, r_op_u, r_move, r_get_v, r_get_t, r_get_c, r_lget_0, r_lget_s, r_lset_0, r_lset_s, r_kOp_t, r_kOp_v, r_kOp_o, r_kReg, r_kSeq_n, r_kSeq_e, r_kSeq_r, r_kBlk_n, r_kBlk_e, r_kBlk_r, r_kBlk_o, r_kLoop_n, r_kLoop_e, r_kLoop_r, r_ops_nil, r_bin, r_binB, r_binP, r_eql, r_neq, r_lss, r_leq, r_gtr, r_geq, r_add, r_sub, r_mul, v_eqs, v_nes, r_opt, r_pick, r_pick_t, r_pick_f, r_not, v_not, r_ret, r_exit, r_skip, r_cond_t, r_cond_f, r_block, r_loop, r_kEnd_n, r_kEnd_r, r_giveO, r_consO, r_evR_0, r_evR_o, r_evR_1, r_evR_N, r_give_0, r_give_1, r_give_2, initV, r_nilck, v_ckp, v_ckf, r_fadr, v_fadr, r_load1, rd1, rdN, v_rd0, rdRow_0, rdRow_s, r_loadN, r_store, v_wrV, v_wrA, v_rdA0, v_some, r_putK, r_alloc, r_box, r_boxK, r_build, r_aggK, fill_0, fill_s, fillK_1, putRow_0, putRow_s, c_agg, c_int, c_bool, c_str, c_slc, c_nils, c_fn, c_ptr, r_buildS, r_rowsK1, fillR_1, fillO_1, r_append, r_fld1, r_idxS, r_idxStr, r_len, v_lenS, v_lenL, v_lenN, r_slcStr, v_sub, map_some, map_none, r_call, r_callv, v_callf, r_ext, v_ext0, v_exts, r_mkfn, opds, r_conv, v_conv, llen_0, llen_s, n_of, ii_eq, ii_lt, ii_le, get_put, get_add, next_put, next_add, put_put, add_put', ne_s, ne_s', ne_ss, ne_ss', if_true, if_false, ite_self, ite_true, ite_false, Nat.zero_add, Nat.add_zero, Nat.reduceAdd, Nat.reduceLT, Nat.reduceEqDiff, Bool.not_false, Bool.not_true, decide_true, decide_false, eq_self, r12_1, h1.len, g]
  | succ m ih =>
    intro i r hi hr
    obtain ⟨r, rfl⟩ : ∃ m, r = m + 1 := ⟨r - 1, by omega⟩
    have g : i < toks.length := by omega
    obtain ⟨b, q, z, R, i1, i2, i3, i4⟩ := h1.at hs (k := .i64) g
    have iA : rdCN 5 (.rows z R) q 0 = some (.agg (tokRow (cur toks i))) := v_rdA i3 tk_len
    obtain ⟨b', q', z', R', j1, j2, j3, j4⟩ := h2.at hs (k := .i64) g
    have jA : rdCN 5 (.rows z' R') q' 0 = some (.agg (tokRow (cur toks i))) := v_rdA j3 tk_len
    have gw : IntKind.i64.wrap ((i : Int) + ((1 : Nat) : Int)) = ((i + 1 : Nat) : Int) := w_add (by omega)
    rw [r_roundN b12_0.eq_1]
    simp only [rdR1, rdRN, r_un1, r_convBS, r_convIS, r_isP, r_rngS, r_rngP, r_nxtS, r_nxtP, r_mkmap, r_lkp, r_idxA, v_pnn, v_ppn, v_qnn, v_qpn, r_slcS, r_again1, r_againN, ag_int, ag_bool, ag_str, ag_agg, r_seq, r_reg, r_op, r_op_y, r_op_n, r_op_u, r_move, r_get_v, r_get_t, r_get_c, r_lget_0, r_lget_s, r_lset_0, r_lset_s, r_kOp_t, r_kOp_v, r_kOp_o, r_kReg, r_kSeq_n, r_kSeq_e, r_kSeq_r, r_kBlk_n, r_kBlk_e, r_kBlk_r, r_kBlk_o, r_kLoop_n, r_kLoop_e, r_kLoop_r, r_ops_nil, r_bin, r_binB, r_binP, r_eql, r_neq, r_lss, r_leq, r_gtr, r_geq, r_add, r_sub, r_mul, v_eqs, v_nes, r_opt, r_pick, r_pick_t, r_pick_f, r_not, v_not, r_ret, r_exit, r_skip, r_cond_t, r_cond_f, r_block, r_loop, r_kEnd_n, r_kEnd_r, r_giveO, r_consO, r_evR_0, r_evR_o, r_evR_1, r_evR_N, r_give_0, r_give_1, r_give_2, initV, r_nilck, v_ckp, v_ckf, r_fadr, v_fadr, r_load1, rd1, rdN, v_rd0, rdRow_0, rdRow_s, r_loadN, r_store, v_wrV, v_wrA, v_rdA0, v_some, r_putK, r_alloc, r_box, r_boxK, r_build, r_aggK, fill_0, fill_s, fillK_1, putRow_0, putRow_s, c_agg, c_int, c_bool, c_str, c_slc, c_nils, c_fn, c_ptr, r_buildS, r_rowsK1, fillR_1, fillO_1, r_append, r_fld1, r_idxS, r_idxStr, r_len, v_lenS, v_lenL, v_lenN, r_slcStr, v_sub, map_some, map_none, r_call, r_callv, v_callf, r_ext, v_ext0, v_exts, r_mkfn, opds, r_conv, v_conv, llen_0, llen_s, n_of, ii_eq, ii_lt, ii_le, get_put, get_add, next_put, next_add, put_put, add_put', ne_s, ne_s', ne_ss, ne_ss', if_true, if_false, ite_self, ite_true, ite_false, Nat.zero_add, Nat.add_zero, Nat.reduceAdd, Nat.reduceLT, Nat.reduceEqDiff, Bool.not_false, Bool.not_true, decide_true, decide_false, eq_self, tk_f0, tk_f1, tk_f2, tok_blk, tok_agg, tk_0, tk_1, tk_2, tk_3, tk_4, tk_len, tk_same, tk_w0, tk_w1, h1.len, g, i1, i2, iA, j1, j2, jA, r_eqAgg, eq_same, gw]
    exact ih (i + 1) r (by omega) (by omega)
theorem s12 (h1 : Rd F v1 toks) (h2 : Rd F v2 toks) (hs : Sees F H) (hbig : toks.length ≤ 1000000) : evF AP TT (n + 1) 12 [v1, v2] H K = K (.bool true) H := by
  rw [r_fun look12]
  simp only [rdR1, rdRN, r_un1, r_convBS, r_convIS, r_isP, r_rngS, r_rngP, r_nxtS, r_nxtP, r_mkmap, r_lkp, r_idxA, v_pnn, v_ppn, v_qnn, v_qpn, r_slcS, r_again1, r_againN, ag_int, ag_bool, ag_str, ag_agg, r_seq, r_reg, r_op, r_op_y, r_op_n, r_op_u, r_move, r_get_v, r_get_t, r_get_c, r_lget_0, r_lget_s, r_lset_0, r_lset_s, r_kOp_t, r_kOp_v, r_kOp_o, r_kReg, r_kSeq_n, r_kSeq_e, r_kSeq_r, r_kBlk_n, r_kBlk_e, r_kBlk_r, r_kBlk_o, r_kLoop_n, r_kLoop_e, r_kLoop_r, r_ops_nil, r_bin, r_binB, r_binP, r_eql, r_neq, r_lss, r_leq, r_gtr, r_geq, r_add, r_sub, r_mul, v_eqs, v_nes, r_opt, r_pick, r_pick_t, r_pick_f, r_not, v_not, r_ret, r_exit, r_skip, r_cond_t, r_cond_f, r_block, r_loop, r_kEnd_n, r_kEnd_r, r_giveO, r_consO, r_evR_0, r_evR_o, r_evR_1, r_evR_N, r_give_0, r_give_1, r_give_2, initV, r_nilck, v_ckp, v_ckf, r_fadr, v_fadr, r_load1, rd1, rdN, v_rd0, rdRow_0, rdRow_s, r_loadN, r_store, v_wrV, v_wrA, v_rdA0, v_some, r_putK, r_alloc, r_box, r_boxK, r_build, r_aggK, fill_0, fill_s, fillK_1, putRow_0, putRow_s, c_agg, c_int, c_bool, c_str, c_slc, c_nils, c_fn, c_ptr, r_buildS, r_rowsK1, fillR_1, fillO_1, r_append, r_fld1, r_idxS, r_idxStr, r_len, v_lenS, v_lenL, v_lenN, r_slcStr, v_sub, map_some, map_none, r_call, r_callv, v_callf, r_ext, v_ext0, v_exts, r_mkfn, opds, r_conv, v_conv, llen_0, llen_s, n_of, ii_eq, ii_lt, ii_le, get_put, get_add, next_put, next_add, put_put, add_put', ne_s, ne_s', ne_ss, ne_ss', if_true, if_false, ite_self, ite_true, ite_false, Nat.zero_add, Nat.add_zero, Nat.reduceAdd, Nat.reduceLT, Nat.reduceEqDiff, Bool.not_false, Bool.not_true, decide_true, decide_false, eq_self, d12, h1.len, h2.len]
  exact loop12 h1 h2 hs hbig toks.length 0 _ (by omega) (by unfold manyRounds; omega)

theorem loop3 {c N : Nat} {KK : KP} {b0 b1 b2 b3 b4 b5 b6 b9 b10 b11 : AVal} {cap : Option Nat} (hN : N ≤ 1000000) : ∀ (m i r : Nat) (H : Heap), i + m = N → m < r → (0 < m → ∃ z R, H.get c = .rows z R ∧ ∀ j, j < N → ∃ row, rget R j = some row ∧ llen row = 5) →
    (∀ ts H', H'.next = H.next → (∀ d, d ≠ c → H'.get d = H.get d) → H'.gl = H.gl → KK (.exit 0) [b0, b1, b2, b3, b4, b5, b6, .slc c 0 N cap 5, .int .i64 (N : Int), b9, b10, b11] ts H') →
    loopOf (evF AP TT n) b3_0 r [b0, b1, b2, b3, b4, b5, b6, .slc c 0 N cap 5, .int .i64 (i : Int), b9, b10, b11] H KK := by
  intro m
  induction m with
  | zero =>
    intro i r H hi hr hR hK
    obtain ⟨r, rfl⟩ : ∃ m, r = m + 1 := ⟨r - 1, by omega⟩
    obtain rfl : i = N := by omega
    have g : ¬ i < i := by omega
    rw [r_roundN b3_0.eq_1]
    simp only [rdR1, rdRN, r_un1, r_convBS, r_convIS, r_isP, r_rngS, r_rngP, r_nxtS, r_nxtP, r_mkmap, r_lkp, r_idxA, v_pnn, v_ppn, v_qnn, v_qpn, r_slcS, r_again1, r_againN, ag_int, ag_bool, ag_str, ag_agg, r_seq, r_reg, r_op, r_op_y, r_op_n, r_op_u, r_move, r_get_v, r_get_t, r_get_c, r_lget_0, r_lget_s, r_lset_0, r_lset_s, r_kOp_t, r_kOp_v, r_kOp_o, r_kReg, r_kSeq_n, r_kSeq_e, r_kSeq_r, r_kBlk_n, r_kBlk_e, r_kBlk_r, r_kBlk_o, r_kLoop_n, r_kLoop_e, r_kLoop_r, r_ops_nil, r_bin, r_binB, r_binP, r_eql, r_neq, r_lss, r_leq, r_gtr, r_geq, r_add, r_sub, r_mul, v_eqs, v_nes, r_opt, r_pick, r_pick_t, r_pick_f, r_not, v_not, r_ret, r_exit, r_skip, r_cond_t, r_cond_f, r_block, r_loop, r_kEnd_n, r_kEnd_r, r_giveO, r_consO, r_evR_0, r_evR_o, r_evR_1, r_evR_N, r_give_0, r_give_1, r_give_2, initV, r_nilck, v_ckp, v_ckf, r_fadr, v_fadr, r_load1, rd1, rdN, v_rd0, rdRow_0, rdRow_s, r_loadN, r_store, v_wrV, v_wrA, v_rdA0, v_some, r_putK, r_alloc, r_box, r_boxK, r_build, r_aggK, fill_0, fill_s, fillK_1, putRow_0, putRow_s, c_agg, c_int, c_bool, c_str, c_slc, c_nils, c_fn, c_ptr, r_buildS, r_rowsK1, fillR_1, fillO_1, r_append, r_fld1, r_idxS, r_idxStr, r_len, v_lenS, v_lenL, v_lenN, r_slcStr, v_sub, map_some, map_none, r_call, r_callv, v_callf, r_ext, v_ext0, v_exts, r_mkfn, opds, r_conv, v_conv, llen_0, llen_s, n_of, ii_eq, ii_lt, ii_le, get_put, get_add, next_put, next_add, put_put, add_put', ne_s, ne_s', ne_ss, ne_ss', if_true, if_false, ite_self, ite_true, ite_false, Nat.zero_add, Nat.add_zero, Nat.reduceAdd, Nat.reduceLT, Nat.reduceEqDiff, Bool.not_false, Bool.not_true, decide_true, decide_false, eq_self, g]
    exact hK _ _ rfl (fun _ _ => rfl) rfl
  | succ m ih =>
    intro i r H hi hr hR hK
    obtain ⟨r, rfl⟩ : ∃ m, r = m + 1 := ⟨r - 1, by omega⟩
    have g : i < N := by omega
    obtain ⟨z, R, hc, hrow⟩ := hR (by omega)
    obtain ⟨row, hr1, hr2⟩ := hrow i g
    have gw : IntKind.i64.wrap ((i : Int) + ((1 : Nat) : Int)) = ((i + 1 : Nat) : Int) := w_add (by omega)
    have hi2 : idxV 5 (.slc c 0 N cap 5) (.int .i64 (i : Int)) = some (.ptr c i 0) := by rw [v_idx g, Nat.zero_add]
    have hw : wrC 5 (.rows z R) i 0 (tokRow ⟨0, 1, 63, 0, 0, 0⟩) = some (.rows z (rset R i (tokRow ⟨0, 1, 63, 0, 0, 0⟩))) := v_wrAR hr1 hr2 tk_len
    rw [r_roundN b3_0.eq_1]
    simp only [rdR1, rdRN, r_un1, r_convBS, r_convIS, r_isP, r_rngS, r_rngP, r_nxtS, r_nxtP, r_mkmap, r_lkp, r_idxA, v_pnn, v_ppn, v_qnn, v_qpn, r_slcS, r_again1, r_againN, ag_int, ag_bool, ag_str, ag_agg, r_seq, r_reg, r_op, r_op_y, r_op_n, r_op_u, r_move, r_get_v, r_get_t, r_get_c, r_lget_0, r_lget_s, r_lset_0, r_lset_s, r_kOp_t, r_kOp_v, r_kOp_o, r_kReg, r_kSeq_n, r_kSeq_e, r_kSeq_r, r_kBlk_n, r_kBlk_e, r_kBlk_r, r_kBlk_o, r_kLoop_n, r_kLoop_e, r_kLoop_r, r_ops_nil, r_bin, r_binB, r_binP, r_eql, r_neq, r_lss, r_leq, r_gtr, r_geq, r_add, r_sub, r_mul, v_eqs, v_nes, r_opt, r_pick, r_pick_t, r_pick_f, r_not, v_not, r_ret, r_exit, r_skip, r_cond_t, r_cond_f, r_block, r_loop, r_kEnd_n, r_kEnd_r, r_giveO, r_consO, r_evR_0, r_evR_o, r_evR_1, r_evR_N, r_give_0, r_give_1, r_give_2, initV, r_nilck, v_ckp, v_ckf, r_fadr, v_fadr, r_load1, rd1, rdN, v_rd0, rdRow_0, rdRow_s, r_loadN, r_store, v_wrV, v_wrA, v_rdA0, v_some, r_putK, r_alloc, r_box, r_boxK, r_build, r_aggK, fill_0, fill_s, fillK_1, putRow_0, putRow_s, c_agg, c_int, c_bool, c_str, c_slc, c_nils, c_fn, c_ptr, r_buildS, r_rowsK1, fillR_1, fillO_1, r_append, r_fld1, r_idxS, r_idxStr, r_len, v_lenS, v_lenL, v_lenN, r_slcStr, v_sub, map_some, map_none, r_call, r_callv, v_callf, r_ext, v_ext0, v_exts, r_mkfn, opds, r_conv, v_conv, llen_0, llen_s, n_of, ii_eq, ii_lt, ii_le, get_put, get_add, next_put, next_add, put_put, add_put', ne_s, ne_s', ne_ss, ne_ss', if_true, if_false, ite_self, ite_true, ite_false, Nat.zero_add, Nat.add_zero, Nat.reduceAdd, Nat.reduceLT, Nat.reduceEqDiff, Bool.not_false, Bool.not_true, decide_true, decide_false, eq_self, tk_f0, tk_f1, tk_f2, tok_blk, tok_agg, tk_0, tk_1, tk_2, tk_3, tk_4, tk_len, tk_same, tk_w0, tk_w1, g, hi2, hc, hw, gw]
    refine ih (i + 1) r _ (by omega) (by omega) (fun _ => ⟨z, _, by rw [get_put, if_pos rfl], ?_⟩) ?_
    · intro j hj
      rw [rset_set, rget_get]
      rcases Nat.decEq i j with e | e
      · rw [List.getElem?_set_ne e, ← rget_get]
        exact hrow j hj
      · subst e
        obtain ⟨row, h1, _⟩ := hrow i hj
        rw [rget_get] at h1
        have : i < R.length := by
          rcases Nat.lt_or_ge i R.length with h | h
          · exact h
          · rw [List.getElem?_eq_none h] at h1; cases h1
        rw [List.getElem?_set_self this]
        exact ⟨_, rfl, tk_len⟩
    · intro ts H' h1 h2 h3
      exact hK ts H' h1 (fun d hd => by rw [h2 d hd, get_put, if_neg hd]) h3
end
end Dt
