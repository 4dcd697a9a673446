/- A part of the abstract machine and of the proof that the program does what it reckons; no conditions. -/
import Derived.Test.YtmndopeencbamaaL4
import Derived.Test.YtmndopeencbamaaP8
namespace Dt
open Go
set_option linter.all false
theorem look11 : look table 11 = some d11 := (rfl)
theorem look12 : look table 12 = some d12 := (rfl)
theorem look23 : look table 23 = some d23 := (rfl)
theorem look6 : look table 6 = some d6 := (rfl)

/-! ### The tokens of the reference end as they should -/
theorem kindOf_kind {t : Tok} {w : Tx} (h : t.kind = 2 ∨ t.kind = 7) : (kindOf t w).1.kind ≠ 7 := by
  unfold kindOf
  split
  · dsimp only; omega
  split
  · dsimp only
    split
    · simp
    · split <;> simp
  split
  · simp
  · simp
theorem lexStep_ok {l : Tx} {x y : Lx} {t : Tok} (h : lexStep l x = .inr (t, y)) (h7 : x.at_ < l.len) : t.kind ≠ 7 := by
  unfold lexStep at h
  rw [if_pos h7] at h
  split at h
  · split at h
    · simp only [Sum.inr.injEq, Prod.mk.injEq] at h
      rw [← h.1]
      exact kindOf_kind (by dsimp only; split <;> simp)
    · cases h
  · cases h
theorem cur_app {out : List Tok} {t : Tok} {i : Nat} (h : i < out.length) : cur (out ++ [t]) i = cur out i := by
  simp [cur, List.getElem?_append_left h]
theorem cur_last {out : List Tok} {t : Tok} : cur (out ++ [t]) out.length = t := by simp [cur]
theorem lexAll_end {l : Tx} : ∀ (k : Nat) (x : Lx) (out : List Tok), out.length + (k + 1) = 20001 → (∀ i, i < out.length → (cur out i).kind ≠ 7) → (lexAll l (k + 1) x out).2.2 = 0 →
    EndOk (lexAll l (k + 1) x out).1 ∧ (lexAll l (k + 1) x out).1.length ≤ 20000 := by
  intro k
  induction k with
  | zero =>
    intro x out hk ho he
    unfold lexAll at he ⊢
    generalize blank l (l.len + 1) x = y at he ⊢
    by_cases h1 : y.e = 0
    · rw [if_pos h1] at he ⊢
      cases hs : lexStep l y with
      | inl r =>
        rw [hs] at he
        dsimp only at he
        exfalso
        unfold lexStep at hs
        split at hs
        · split at hs
          · split at hs
            · cases hs
            · rename_i h3; simp only [Sum.inl.injEq] at hs; rw [← hs] at he; exact h3 he
          · rename_i h3; simp only [Sum.inl.injEq] at hs; rw [← hs] at he; exact h3 he
        · cases hs
      | inr r =>
        obtain ⟨t, z⟩ := r
        rw [hs] at he
        simp only at he
        rw [if_pos (show 20000 ≤ out.length by omega)] at he
        simp at he
    · rw [if_neg h1] at he
      exact absurd he h1
  | succ k ih =>
    intro x out hk ho he
    unfold lexAll at he ⊢
    generalize blank l (l.len + 1) x = y at he ⊢
    by_cases h1 : y.e = 0
    · rw [if_pos h1] at he ⊢
      cases hs : lexStep l y with
      | inl r =>
        rw [hs] at he
        dsimp only at he
        exfalso
        unfold lexStep at hs
        split at hs
        · split at hs
          · split at hs
            · cases hs
            · rename_i h3; simp only [Sum.inl.injEq] at hs; rw [← hs] at he; exact h3 he
          · rename_i h3; simp only [Sum.inl.injEq] at hs; rw [← hs] at he; exact h3 he
        · cases hs
      | inr r =>
        obtain ⟨t, z⟩ := r
        rw [hs] at he
        simp only at he ⊢
        rw [if_neg (show ¬ 20000 ≤ out.length by omega)] at he ⊢
        by_cases h7 : t.kind = 7
        · rw [if_pos h7] at he ⊢
          refine ⟨⟨by simp, ?_, ?_⟩, by simp; omega⟩
          · simp only [List.length_append, List.length_singleton, Nat.add_sub_cancel]
            rw [cur_last]; exact h7
          · intro i hi
            simp at hi
            rw [cur_app hi]
            exact ho i hi
        · rw [if_neg h7] at he ⊢
          refine ih z (out ++ [t]) (by simp; omega) ?_ he
          intro i hi
          simp at hi
          rcases Nat.lt_or_ge i out.length with h | h
          · rw [cur_app h]; exact ho i h
          · obtain rfl : i = out.length := by omega
            rw [cur_last]; exact h7
    · rw [if_neg h1] at he
      exact absurd he h1
theorem tokensOf_end {l : Tx} (h : (tokensOf l).2.2 = 0) : EndOk (tokensOf l).1 ∧ (tokensOf l).1.length ≤ 20000 := by
  unfold tokensOf at h ⊢
  split at h
  · simp at h
  · rename_i h1
    rw [if_neg h1]
    exact lexAll_end 20000 _ _ rfl (by simp) h

/-! ### kinds, told -/
def kindStep (s : Nat × Nat) (t : Tok) : Nat × Nat :=
  if t.kind = 4 then (s.1 + 1, scat s.1 s.2 60) else if t.kind = 5 then (s.1 + 1, scat s.1 s.2 62) else if t.kind = 6 then (s.1 + 1, scat s.1 s.2 59) else if t.kind = 7 then (s.1 + 1, scat s.1 s.2 46)
  else (s.1 + t.tn + 1, scat (s.1 + t.tn) (scat s.1 s.2 t.tc) 32)
def kindsC : List Tok → Nat × Nat → Nat × Nat
  | [], s => s
  | t :: l, s => kindsC l (kindStep s t)
section
variable {F : Fr} {vin : AVal} {H : Heap} {toks : List Tok} {K : AVal → Heap → Prop} {n : Nat}
/-- A slice of tokens that is only read, maybe nil. -/
def Rd (F : Fr) (vin : AVal) (toks : List Tok) : Prop := (vin = .nils ∧ toks = []) ∨ Inp F vin toks
theorem Rd.len (h : Rd F vin toks) : lenV false vin = some (.int .i64 (toks.length : Int)) := by
  rcases h with ⟨rfl, rfl⟩ | ⟨b, q, z, R, rfl, _⟩ <;> rfl
theorem Rd.at (h : Rd F vin toks) (hs : Sees F H) {i : Nat} {k : IntKind} (hi : i < toks.length) : ∃ b r z R, idxV 5 vin (.int k (i : Int)) = some (.ptr b r 0) ∧ H.get b = .rows z R ∧ rget R r = some (tokRow (cur toks i)) ∧ b < H.next := by
  rcases h with ⟨rfl, rfl⟩ | h
  · simp at hi
  · exact h.at hs hi
theorem drop_cur {i : Nat} (hi : i < toks.length) : toks.drop i = cur toks i :: toks.drop (i + 1) := by
  rw [List.drop_eq_getElem_cons hi]
  simp [cur, hi]
theorem loop23 (hin : Rd F vin toks) (hs : Sees F H) (hbig : toks.length ≤ 1000000) (htn : ∀ t ∈ toks, t.tn ≤ 100000) : ∀ (m i r : Nat) (s : Nat × Nat) (a4 : AVal), i + m = toks.length → m < r → s.1 ≤ i * 100001 →
    loopOf (evF AP (look table) n) b23_0 r [vin, .str 0 0, .str s.1 s.2, .int .i64 (i : Int), a4] H (kBlk 0 (kSeq (evF AP (look table) n) r23_1 (kEnd [.opd (.v 1)] K))) = K (.str (kindsC (toks.drop i) s).1 (kindsC (toks.drop i) s).2) H := by
  intro m
  induction m with
  | zero =>
    intro i r s a4 hi hr hb
    obtain ⟨r, rfl⟩ : ∃ m, r = m + 1 := ⟨r - 1, by omega⟩
    have g : ¬ i < toks.length := by omega
    have hd : toks.drop i = [] := List.drop_eq_nil_of_le (by omega)
    rw [r_roundN b23_0.eq_1, hd]
    simp only [v_pnn, v_ppn, v_qnn, v_qpn, r_slcS, r_again1, r_againN, ag_int, ag_bool, ag_str, ag_agg, r_seq, r_reg, r_op, r_op_y, r_op_n, r_op_u, r_move, r_get_v, r_get_t, r_get_c, r_lget_0, r_lget_s, r_lset_0, r_lset_s, r_kOp_t, r_kOp_v, r_kOp_o, r_kReg, r_kSeq_n, r_kSeq_e, r_kSeq_r, r_kBlk_n, r_kBlk_e, r_kBlk_r, r_kBlk_o, r_kLoop_n, r_kLoop_e, r_kLoop_r, r_ops_nil, r_bin, r_binB, r_binP, r_eql, r_neq, r_lss, r_leq, r_gtr, r_geq, r_add, r_sub, r_mul, v_eqs, v_nes, r_opt, r_pick, r_pick_t, r_pick_f, r_not, v_not, r_ret, r_exit, r_skip, r_cond_t, r_cond_f, r_block, r_loop, r_kEnd_n, r_kEnd_r, r_giveO, r_consO, r_evR_0, r_evR_o, r_evR_1, r_evR_N, r_give_0, r_give_1, r_give_2, initV, r_nilck, v_ckp, v_ckf, r_fadr, v_fadr, r_load1, rd1, rdN, v_rd0, rdRow_0, rdRow_s, r_loadN, r_store, v_wrV, v_wrA, v_rdA0, v_some, r_putK, r_alloc, r_box, r_boxK, r_build, r_aggK, fill_0, fill_s, fillK_1, putRow_0, putRow_s, c_agg, c_int, c_bool, c_str, c_slc, c_nils, c_fn, c_ptr, r_buildS, r_rowsK1, fillR_1, fillO_1, r_append, r_fld1, r_idxS, r_idxStr, r_len, v_lenS, v_lenL, v_lenN, r_slcStr, v_sub, map_some, map_none, r_call, r_callv, v_callf, r_ext, v_ext0, v_exts, r_mkfn, opds, r_conv, v_conv, llen_0, llen_s, n_of, ii_eq, ii_lt, ii_le, get_put, get_add, next_put, next_add, put_put, add_put', ne_s, ne_s', ne_ss, ne_ss', if_true, if_false, ite_self, ite_true, ite_false, Nat.zero_add, Nat.add_zero, Nat.reduceAdd, Nat.reduceLT, Nat.reduceEqDiff, Bool.not_false, Bool.not_true, decide_true, decide_false, eq_self, r23_1, hin.len, g, kindsC]
  | succ m ih =>
    intro i r s a4 hi hr hb
    obtain ⟨r, rfl⟩ : ∃ m, r = m + 1 := ⟨r - 1, by omega⟩
    have g : i < toks.length := by omega
    obtain ⟨b, q, z, R, i1, i2, i3, i4⟩ := hin.at hs (k := .i64) g
    have iA : rdC1 (.rows z R) q 0 = some (.int .i64 ((cur toks i).kind : Int)) := by rw [v_rd i3]; rfl
    have iB : rdC1 (.rows z R) q 1 = some (.str (cur toks i).tn (cur toks i).tc) := by rw [v_rd i3]; rfl
    have gw : IntKind.i64.wrap ((i : Int) + ((1 : Nat) : Int)) = ((i + 1 : Nat) : Int) := w_add (by omega)
    have hmem : cur toks i ∈ toks := by
      have := cur_some g
      exact List.mem_of_getElem? this
    have ht := htn _ hmem
    have hb2 : i * 100001 ≤ 1000000 * 100001 := Nat.mul_le_mul_right _ (by omega)
    have hb3 : (i + 1) * 100001 = i * 100001 + 100001 := Nat.succ_mul _ _
    have c1 : ∀ d, binV .add (.str s.1 s.2) (.str 1 d) = some (.str (s.1 + 1) (scat s.1 s.2 d)) := fun d => v_cat (by omega)
    have c2 : binV .add (.str s.1 s.2) (.str (cur toks i).tn (cur toks i).tc) = some (.str (s.1 + (cur toks i).tn) (scat s.1 s.2 (cur toks i).tc)) := v_cat (by omega)
    have c3 : binV .add (.str (s.1 + (cur toks i).tn) (scat s.1 s.2 (cur toks i).tc)) (.str 1 32) = some (.str (s.1 + (cur toks i).tn + 1) (scat (s.1 + (cur toks i).tn) (scat s.1 s.2 (cur toks i).tc) 32)) := v_cat (by omega)
    rw [r_roundN b23_0.eq_1, drop_cur g, kindsC]
    by_cases k4 : (cur toks i).kind = 4
    · have e : kindStep s (cur toks i) = (s.1 + 1, scat s.1 s.2 60) := by simp only [kindStep, k4, if_true]
      simp only [v_pnn, v_ppn, v_qnn, v_qpn, r_slcS, r_again1, r_againN, ag_int, ag_bool, ag_str, ag_agg, r_seq, r_reg, r_op, r_op_y, r_op_n, r_op_u, r_move, r_get_v, r_get_t, r_get_c, r_lget_0, r_lget_s, r_lset_0, r_lset_s, r_kOp_t, r_kOp_v, r_kOp_o, r_kReg, r_kSeq_n, r_kSeq_e, r_kSeq_r, r_kBlk_n, r_kBlk_e, r_kBlk_r, r_kBlk_o, r_kLoop_n, r_kLoop_e, r_kLoop_r, r_ops_nil, r_bin, r_binB, r_binP, r_eql, r_neq, r_lss, r_leq, r_gtr, r_geq, r_add, r_sub, r_mul, v_eqs, v_nes, r_opt, r_pick, r_pick_t, r_pick_f, r_not, v_not, r_ret, r_exit, r_skip, r_cond_t, r_cond_f, r_block, r_loop, r_kEnd_n, r_kEnd_r, r_giveO, r_consO, r_evR_0, r_evR_o, r_evR_1, r_evR_N, r_give_0, r_give_1, r_give_2, initV, r_nilck, v_ckp, v_ckf, r_fadr, v_fadr, r_load1, rd1, rdN, v_rd0, rdRow_0, rdRow_s, r_loadN, r_store, v_wrV, v_wrA, v_rdA0, v_some, r_putK, r_alloc, r_box, r_boxK, r_build, r_aggK, fill_0, fill_s, fillK_1, putRow_0, putRow_s, c_agg, c_int, c_bool, c_str, c_slc, c_nils, c_fn, c_ptr, r_buildS, r_rowsK1, fillR_1, fillO_1, r_append, r_fld1, r_idxS, r_idxStr, r_len, v_lenS, v_lenL, v_lenN, r_slcStr, v_sub, map_some, map_none, r_call, r_callv, v_callf, r_ext, v_ext0, v_exts, r_mkfn, opds, r_conv, v_conv, llen_0, llen_s, n_of, ii_eq, ii_lt, ii_le, get_put, get_add, next_put, next_add, put_put, add_put', ne_s, ne_s', ne_ss, ne_ss', if_true, if_false, ite_self, ite_true, ite_false, Nat.zero_add, Nat.add_zero, Nat.reduceAdd, Nat.reduceLT, Nat.reduceEqDiff, Bool.not_false, Bool.not_true, decide_true, decide_false, eq_self, hin.len, g, i1, i2, iA, iB, gw, c1, k4, e]
      exact ih (i + 1) r (s.1 + 1, scat s.1 s.2 60) _ (by omega) (by omega) (by dsimp only; omega)
    by_cases k5 : (cur toks i).kind = 5
    · have e : kindStep s (cur toks i) = (s.1 + 1, scat s.1 s.2 62) := by simp only [kindStep, k4, k5, if_true, if_false]; rfl
      have k54 : ¬ (5 = 4) := by omega
      simp only [v_pnn, v_ppn, v_qnn, v_qpn, r_slcS, r_again1, r_againN, ag_int, ag_bool, ag_str, ag_agg, r_seq, r_reg, r_op, r_op_y, r_op_n, r_op_u, r_move, r_get_v, r_get_t, r_get_c, r_lget_0, r_lget_s, r_lset_0, r_lset_s, r_kOp_t, r_kOp_v, r_kOp_o, r_kReg, r_kSeq_n, r_kSeq_e, r_kSeq_r, r_kBlk_n, r_kBlk_e, r_kBlk_r, r_kBlk_o, r_kLoop_n, r_kLoop_e, r_kLoop_r, r_ops_nil, r_bin, r_binB, r_binP, r_eql, r_neq, r_lss, r_leq, r_gtr, r_geq, r_add, r_sub, r_mul, v_eqs, v_nes, r_opt, r_pick, r_pick_t, r_pick_f, r_not, v_not, r_ret, r_exit, r_skip, r_cond_t, r_cond_f, r_block, r_loop, r_kEnd_n, r_kEnd_r, r_giveO, r_consO, r_evR_0, r_evR_o, r_evR_1, r_evR_N, r_give_0, r_give_1, r_give_2, initV, r_nilck, v_ckp, v_ckf, r_fadr, v_fadr, r_load1, rd1, rdN, v_rd0, rdRow_0, rdRow_s, r_loadN, r_store, v_wrV, v_wrA, v_rdA0, v_some, r_putK, r_alloc, r_box, r_boxK, r_build, r_aggK, fill_0, fill_s, fillK_1, putRow_0, putRow_s, c_agg, c_int, c_bool, c_str, c_slc, c_nils, c_fn, c_ptr, r_buildS, r_rowsK1, fillR_1, fillO_1, r_append, r_fld1, r_idxS, r_idxStr, r_len, v_lenS, v_lenL, v_lenN, r_slcStr, v_sub, map_some, map_none, r_call, r_callv, v_callf, r_ext, v_ext0, v_exts, r_mkfn, opds, r_conv, v_conv, llen_0, llen_s, n_of, ii_eq, ii_lt, ii_le, get_put, get_add, next_put, next_add, put_put, add_put', ne_s, ne_s', ne_ss, ne_ss', if_true, if_false, ite_self, ite_true, ite_false, Nat.zero_add, Nat.add_zero, Nat.reduceAdd, Nat.reduceLT, Nat.reduceEqDiff, Bool.not_false, Bool.not_true, decide_true, decide_false, eq_self, hin.len, g, i1, i2, iA, iB, gw, c1, k5, k54, e]
      exact ih (i + 1) r (s.1 + 1, scat s.1 s.2 62) _ (by omega) (by omega) (by dsimp only; omega)
    by_cases k6 : (cur toks i).kind = 6
    · have e : kindStep s (cur toks i) = (s.1 + 1, scat s.1 s.2 59) := by simp only [kindStep, k4, k5, k6, if_true, if_false]; rfl
      have k64 : ¬ (6 = 4) := by omega
      have k65 : ¬ (6 = 5) := by omega
      simp only [v_pnn, v_ppn, v_qnn, v_qpn, r_slcS, r_again1, r_againN, ag_int, ag_bool, ag_str, ag_agg, r_seq, r_reg, r_op, r_op_y, r_op_n, r_op_u, r_move, r_get_v, r_get_t, r_get_c, r_lget_0, r_lget_s, r_lset_0, r_lset_s, r_kOp_t, r_kOp_v, r_kOp_o, r_kReg, r_kSeq_n, r_kSeq_e, r_kSeq_r, r_kBlk_n, r_kBlk_e, r_kBlk_r, r_kBlk_o, r_kLoop_n, r_kLoop_e, r_kLoop_r, r_ops_nil, r_bin, r_binB, r_binP, r_eql, r_neq, r_lss, r_leq, r_gtr, r_geq, r_add, r_sub, r_mul, v_eqs, v_nes, r_opt, r_pick, r_pick_t, r_pick_f, r_not, v_not, r_ret, r_exit, r_skip, r_cond_t, r_cond_f, r_block, r_loop, r_kEnd_n, r_kEnd_r, r_giveO, r_consO, r_evR_0, r_evR_o, r_evR_1, r_evR_N, r_give_0, r_give_1, r_give_2, initV, r_nilck, v_ckp, v_ckf, r_fadr, v_fadr, r_load1, rd1, rdN, v_rd0, rdRow_0, rdRow_s, r_loadN, r_store, v_wrV, v_wrA, v_rdA0, v_some, r_putK, r_alloc, r_box, r_boxK, r_build, r_aggK, fill_0, fill_s, fillK_1, putRow_0, putRow_s, c_agg, c_int, c_bool, c_str, c_slc, c_nils, c_fn, c_ptr, r_buildS, r_rowsK1, fillR_1, fillO_1, r_append, r_fld1, r_idxS, r_idxStr, r_len, v_lenS, v_lenL, v_lenN, r_slcStr, v_sub, map_some, map_none, r_call, r_callv, v_callf, r_ext, v_ext0, v_exts, r_mkfn, opds, r_conv, v_conv, llen_0, llen_s, n_of, ii_eq, ii_lt, ii_le, get_put, get_add, next_put, next_add, put_put, add_put', ne_s, ne_s', ne_ss, ne_ss', if_true, if_false, ite_self, ite_true, ite_false, Nat.zero_add, Nat.add_zero, Nat.reduceAdd, Nat.reduceLT, Nat.reduceEqDiff, Bool.not_false, Bool.not_true, decide_true, decide_false, eq_self, hin.len, g, i1, i2, iA, iB, gw, c1, k6, k64, k65, e]
      exact ih (i + 1) r (s.1 + 1, scat s.1 s.2 59) _ (by omega) (by omega) (by dsimp only; omega)
    by_cases k7 : (cur toks i).kind = 7
    · have e : kindStep s (cur toks i) = (s.1 + 1, scat s.1 s.2 46) := by simp only [kindStep, k4, k5, k6, k7, if_true, if_false]; rfl
      have k74 : ¬ (7 = 4) := by omega
      have k75 : ¬ (7 = 5) := by omega
      have k76 : ¬ (7 = 6) := by omega
      simp only [v_pnn, v_ppn, v_qnn, v_qpn, r_slcS, r_again1, r_againN, ag_int, ag_bool, ag_str, ag_agg, r_seq, r_reg, r_op, r_op_y, r_op_n, r_op_u, r_move, r_get_v, r_get_t, r_get_c, r_lget_0, r_lget_s, r_lset_0, r_lset_s, r_kOp_t, r_kOp_v, r_kOp_o, r_kReg, r_kSeq_n, r_kSeq_e, r_kSeq_r, r_kBlk_n, r_kBlk_e, r_kBlk_r, r_kBlk_o, r_kLoop_n, r_kLoop_e, r_kLoop_r, r_ops_nil, r_bin, r_binB, r_binP, r_eql, r_neq, r_lss, r_leq, r_gtr, r_geq, r_add, r_sub, r_mul, v_eqs, v_nes, r_opt, r_pick, r_pick_t, r_pick_f, r_not, v_not, r_ret, r_exit, r_skip, r_cond_t, r_cond_f, r_block, r_loop, r_kEnd_n, r_kEnd_r, r_giveO, r_consO, r_evR_0, r_evR_o, r_evR_1, r_evR_N, r_give_0, r_give_1, r_give_2, initV, r_nilck, v_ckp, v_ckf, r_fadr, v_fadr, r_load1, rd1, rdN, v_rd0, rdRow_0, rdRow_s, r_loadN, r_store, v_wrV, v_wrA, v_rdA0, v_some, r_putK, r_alloc, r_box, r_boxK, r_build, r_aggK, fill_0, fill_s, fillK_1, putRow_0, putRow_s, c_agg, c_int, c_bool, c_str, c_slc, c_nils, c_fn, c_ptr, r_buildS, r_rowsK1, fillR_1, fillO_1, r_append, r_fld1, r_idxS, r_idxStr, r_len, v_lenS, v_lenL, v_lenN, r_slcStr, v_sub, map_some, map_none, r_call, r_callv, v_callf, r_ext, v_ext0, v_exts, r_mkfn, opds, r_conv, v_conv, llen_0, llen_s, n_of, ii_eq, ii_lt, ii_le, get_put, get_add, next_put, next_add, put_put, add_put', ne_s, ne_s', ne_ss, ne_ss', if_true, if_false, ite_self, ite_true, ite_false, Nat.zero_add, Nat.add_zero, Nat.reduceAdd, Nat.reduceLT, Nat.reduceEqDiff, Bool.not_false, Bool.not_true, decide_true, decide_false, eq_self, hin.len, g, i1, i2, iA, iB, gw, c1, k7, k74, k75, k76, e]
      exact ih (i + 1) r (s.1 + 1, scat s.1 s.2 46) _ (by omega) (by omega) (by dsimp only; omega)
    · have e : kindStep s (cur toks i) = (s.1 + (cur toks i).tn + 1, scat (s.1 + (cur toks i).tn) (scat s.1 s.2 (cur toks i).tc) 32) := by simp only [kindStep, k4, k5, k6, k7, if_false]
      simp only [v_pnn, v_ppn, v_qnn, v_qpn, r_slcS, r_again1, r_againN, ag_int, ag_bool, ag_str, ag_agg, r_seq, r_reg, r_op, r_op_y, r_op_n, r_op_u, r_move, r_get_v, r_get_t, r_get_c, r_lget_0, r_lget_s, r_lset_0, r_lset_s, r_kOp_t, r_kOp_v, r_kOp_o, r_kReg, r_kSeq_n, r_kSeq_e, r_kSeq_r, r_kBlk_n, r_kBlk_e, r_kBlk_r, r_kBlk_o, r_kLoop_n, r_kLoop_e, r_kLoop_r, r_ops_nil, r_bin, r_binB, r_binP, r_eql, r_neq, r_lss, r_leq, r_gtr, r_geq, r_add, r_sub, r_mul, v_eqs, v_nes, r_opt, r_pick, r_pick_t, r_pick_f, r_not, v_not, r_ret, r_exit, r_skip, r_cond_t, r_cond_f, r_block, r_loop, r_kEnd_n, r_kEnd_r, r_giveO, r_consO, r_evR_0, r_evR_o, r_evR_1, r_evR_N, r_give_0, r_give_1, r_give_2, initV, r_nilck, v_ckp, v_ckf, r_fadr, v_fadr, r_load1, rd1, rdN, v_rd0, rdRow_0, rdRow_s, r_loadN, r_store, v_wrV, v_wrA, v_rdA0, v_some, r_putK, r_alloc, r_box, r_boxK, r_build, r_aggK, fill_0, fill_s, fillK_1, putRow_0, putRow_s, c_agg, c_int, c_bool, c_str, c_slc, c_nils, c_fn, c_ptr, r_buildS, r_rowsK1, fillR_1, fillO_1, r_append, r_fld1, r_idxS, r_idxStr, r_len, v_lenS, v_lenL, v_lenN, r_slcStr, v_sub, map_some, map_none, r_call, r_callv, v_callf, r_ext, v_ext0, v_exts, r_mkfn, opds, r_conv, v_conv, llen_0, llen_s, n_of, ii_eq, ii_lt, ii_le, get_put, get_add, next_put, next_add, put_put, add_put', ne_s, ne_s', ne_ss, ne_ss', if_true, if_false, ite_self, ite_true, ite_false, Nat.zero_add, Nat.add_zero, Nat.reduceAdd, Nat.reduceLT, Nat.reduceEqDiff, Bool.not_false, Bool.not_true, decide_true, decide_false, eq_self, hin.len, g, i1, i2, iA, iB, gw, c1, c2, c3, k4, k5, k6, k7, e]
      exact ih (i + 1) r (_, _) _ (by omega) (by omega) (by dsimp only; omega)
/-- kinds. -/
theorem s23 (hin : Rd F vin toks) (hs : Sees F H) (hbig : toks.length ≤ 1000000) (htn : ∀ t ∈ toks, t.tn ≤ 100000) :
    evF AP (look table) (n + 1) 23 [vin] H K = K (.str (kindsC toks (0, 0)).1 (kindsC toks (0, 0)).2) H := by
  rw [r_fun look23]
  simp only [v_pnn, v_ppn, v_qnn, v_qpn, r_slcS, r_again1, r_againN, ag_int, ag_bool, ag_str, ag_agg, r_seq, r_reg, r_op, r_op_y, r_op_n, r_op_u, r_move, r_get_v, r_get_t, r_get_c, r_lget_0, r_lget_s, r_lset_0, r_lset_s, r_kOp_t, r_kOp_v, r_kOp_o, r_kReg, r_kSeq_n, r_kSeq_e, r_kSeq_r, r_kBlk_n, r_kBlk_e, r_kBlk_r, r_kBlk_o, r_kLoop_n, r_kLoop_e, r_kLoop_r, r_ops_nil, r_bin, r_binB, r_binP, r_eql, r_neq, r_lss, r_leq, r_gtr, r_geq, r_add, r_sub, r_mul, v_eqs, v_nes, r_opt, r_pick, r_pick_t, r_pick_f, r_not, v_not, r_ret, r_exit, r_skip, r_cond_t, r_cond_f, r_block, r_loop, r_kEnd_n, r_kEnd_r, r_giveO, r_consO, r_evR_0, r_evR_o, r_evR_1, r_evR_N, r_give_0, r_give_1, r_give_2, initV, r_nilck, v_ckp, v_ckf, r_fadr, v_fadr, r_load1, rd1, rdN, v_rd0, rdRow_0, rdRow_s, r_loadN, r_store, v_wrV, v_wrA, v_rdA0, v_some, r_putK, r_alloc, r_box, r_boxK, r_build, r_aggK, fill_0, fill_s, fillK_1, putRow_0, putRow_s, c_agg, c_int, c_bool, c_str, c_slc, c_nils, c_fn, c_ptr, r_buildS, r_rowsK1, fillR_1, fillO_1, r_append, r_fld1, r_idxS, r_idxStr, r_len, v_lenS, v_lenL, v_lenN, r_slcStr, v_sub, map_some, map_none, r_call, r_callv, v_callf, r_ext, v_ext0, v_exts, r_mkfn, opds, r_conv, v_conv, llen_0, llen_s, n_of, ii_eq, ii_lt, ii_le, get_put, get_add, next_put, next_add, put_put, add_put', ne_s, ne_s', ne_ss, ne_ss', if_true, if_false, ite_self, ite_true, ite_false, Nat.zero_add, Nat.add_zero, Nat.reduceAdd, Nat.reduceLT, Nat.reduceEqDiff, Bool.not_false, Bool.not_true, decide_true, decide_false, eq_self, d23]
  exact loop23 hin hs hbig htn toks.length 0 _ (0, 0) _ (by omega) (by unfold manyRounds; omega) (by simp)
end
end Dt
