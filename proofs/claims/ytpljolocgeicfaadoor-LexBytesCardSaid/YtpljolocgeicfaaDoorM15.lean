/- A part of the abstract machine and of the proof that the program does what it reckons; no conditions. -/
import Derived.Test.YtpljolocgeicfaaDoorM14
namespace Dt
open Go
set_option linter.all false
set_option maxRecDepth 100000
theorem look44 : TT.funs 44 = some d44 := (rfl)
theorem dec_lt {n c i : Nat} (h : sget c i < 128) : decN n c i = (sget c i, 1) := by
  unfold decN
  simp only [Nat.add_zero]
  rw [if_pos h]
theorem dec_ge {n c i : Nat} (h : 128 ≤ sget c i) (hi : i < n) : 128 ≤ (decN n c i).1 ∧ 1 ≤ (decN n c i).2 ∧ i + (decN n c i).2 ≤ n ∧ ∀ j, i < j → j < i + (decN n c i).2 → 128 ≤ sget c j := by
  have base : ∀ x, 128 ≤ x → 128 ≤ ((x, 1) : Nat × Nat).1 ∧ 1 ≤ ((x, 1) : Nat × Nat).2 ∧ i + ((x, 1) : Nat × Nat).2 ≤ n ∧ ∀ j, i < j → j < i + ((x, 1) : Nat × Nat).2 → 128 ≤ sget c j :=
    fun x hx => ⟨hx, Nat.le_refl _, hi, fun j h1 h2 => by simp only at h2; omega⟩
  unfold decN
  simp only [Nat.add_zero]
  rw [if_neg (by omega)]
  split
  · rename_i h1
    simp only [Bool.and_eq_true, decide_eq_true_eq, beq_iff_eq] at h1
    split
    · rename_i h2
      refine ⟨h2, by simp, by simp only; omega, fun j k1 k2 => ?_⟩
      simp only at k2
      obtain rfl : j = i + 1 := by omega
      omega
    · exact base _ (by omega)
  split
  · rename_i h0 h1
    simp only [Bool.and_eq_true, decide_eq_true_eq, beq_iff_eq] at h1
    split
    · rename_i h2
      simp only [Bool.and_eq_true, decide_eq_true_eq] at h2
      refine ⟨by simp only; omega, by simp, by simp only; omega, fun j k1 k2 => ?_⟩
      simp only at k2
      have : j = i + 1 ∨ j = i + 2 := by omega
      rcases this with rfl | rfl <;> omega
    · exact base _ (by omega)
  split
  · rename_i h0 h00 h1
    simp only [Bool.and_eq_true, decide_eq_true_eq, beq_iff_eq] at h1
    split
    · rename_i h2
      simp only [Bool.and_eq_true, decide_eq_true_eq] at h2
      refine ⟨by simp only; omega, by simp, by simp only; omega, fun j k1 k2 => ?_⟩
      simp only at k2
      have : j = i + 1 ∨ j = i + 2 ∨ j = i + 3 := by omega
      rcases this with rfl | rfl | rfl <;> omega
    · exact base _ (by omega)
  · exact base _ (by omega)

/-- Dots, byte by byte. -/
def dotB (l : Tx) : Nat → Nat → Bool → Bool
  | 0, _, ld => ld
  | k + 1, i, ld => if byteAt l i = 46 ∧ ld = true then true else dotB l k (i + 1) (decide (byteAt l i = 46))
theorem dotB_skip {l : Tx} : ∀ (m k i : Nat) (ld : Bool), (∀ j, i ≤ j → j < i + m → 128 ≤ byteAt l j) → dotB l (k + m) i ld = if m = 0 then dotB l k i ld else dotB l k (i + m) false
  | 0, k, i, ld, _ => rfl
  | m + 1, k, i, ld, h => by
    have h0 := h i (Nat.le_refl _) (by omega)
    have ih := dotB_skip m k (i + 1) false (fun j h1 h2 => h j (by omega) (by omega))
    have e : dotB l (k + (m + 1)) i ld = dotB l (k + m) (i + 1) false := by
      rw [show k + (m + 1) = (k + m) + 1 from rfl, dotB, if_neg (fun hh => by have := hh.1; omega), decide_eq_false (by omega)]
    rw [e, ih, if_neg (show ¬ m + 1 = 0 by omega)]
    by_cases hm : m = 0
    · subst hm
      rw [if_pos rfl]
    · rw [if_neg hm, show i + (m + 1) = i + 1 + m by omega]
theorem dotB_iff {l : Tx} : ∀ (k i : Nat) (ld : Bool), i + k = l.len → (dotB l k i ld = true ↔ (k = 0 ∧ ld = true) ∨ (0 < k ∧ byteAt l (l.len - 1) = 46) ∨ ∃ j, i ≤ j ∧ j < l.len ∧ byteAt l j = 46 ∧ (if j = i then ld = true else byteAt l (j - 1) = 46))
  | 0, i, ld, h => by
    show ld = true ↔ _
    constructor
    · intro hh; exact .inl ⟨rfl, hh⟩
    · rintro (⟨_, hh⟩ | ⟨h0, _⟩ | ⟨j, h1, h2, _⟩)
      · exact hh
      · omega
      · omega
  | k + 1, i, ld, h => by
    rw [dotB]
    have ih := dotB_iff (l := l) k (i + 1) (decide (byteAt l i = 46)) (by omega)
    split
    · rename_i h1
      have hil : i < l.len := by omega
      exact ⟨fun _ => .inr (.inr ⟨i, Nat.le_refl _, hil, h1.1, by rw [if_pos rfl]; exact h1.2⟩), fun _ => rfl⟩
    · rename_i h1
      rw [ih]
      constructor
      · rintro (⟨h0, hh⟩ | ⟨h0, hh⟩ | ⟨j, j1, j2, j3, j4⟩)
        · simp only [decide_eq_true_eq] at hh
          refine .inr (.inl ⟨by omega, ?_⟩)
          rw [show l.len - 1 = i by omega]; exact hh
        · exact .inr (.inl ⟨by omega, hh⟩)
        · refine .inr (.inr ⟨j, by omega, j2, j3, ?_⟩)
          rw [if_neg (by omega)]
          split at j4
          · rename_i e
            simp only [decide_eq_true_eq] at j4
            rw [show j - 1 = i by omega]; exact j4
          · exact j4
      · rintro (⟨h0, hh⟩ | ⟨h0, hh⟩ | ⟨j, j1, j2, j3, j4⟩)
        · omega
        · by_cases hk : k = 0
          · refine .inl ⟨hk, ?_⟩
            simp only [decide_eq_true_eq]
            rw [show i = l.len - 1 by omega]; exact hh
          · exact .inr (.inl ⟨by omega, hh⟩)
        · split at j4
          · rename_i e
            subst e
            exact absurd ⟨j3, j4⟩ h1
          · refine .inr (.inr ⟨j, by omega, j2, j3, ?_⟩)
            split
            · rename_i e
              simp only [decide_eq_true_eq]
              rw [show i = j - 1 by omega]; exact j4
            · exact j4
theorem anyFrom_iff {q : Nat → Bool} : ∀ (k i : Nat), anyFrom q i k = true ↔ ∃ j, i ≤ j ∧ j < i + k ∧ q j = true
  | 0, i => by simp [anyFrom]; omega
  | k + 1, i => by
    rw [anyFrom, Bool.or_eq_true, anyFrom_iff k (i + 1)]
    constructor
    · rintro (h | ⟨j, h1, h2, h3⟩)
      · exact ⟨i, Nat.le_refl _, by omega, h⟩
      · exact ⟨j, by omega, by omega, h3⟩
    · rintro ⟨j, h1, h2, h3⟩
      by_cases e : j = i
      · subst e; exact .inl h3
      · exact .inr ⟨j, by omega, by omega, h3⟩
theorem dotB_bad {l : Tx} (h : 0 < l.len) : dotB l l.len 0 true = dotsBad l := by
  rw [Bool.eq_iff_iff, dotB_iff _ _ _ (by omega), dotsBad, anyFrom_iff]
  simp only [dotAt, Bool.and_eq_true, Bool.or_eq_true, decide_eq_true_eq]
  constructor
  · rintro (⟨h0, _⟩ | ⟨_, hh⟩ | ⟨j, j1, j2, j3, j4⟩)
    · omega
    · exact ⟨l.len - 1, by omega, by omega, hh, .inl (.inr rfl)⟩
    · split at j4
      · exact ⟨j, by omega, by omega, j3, .inl (.inl (by omega))⟩
      · exact ⟨j - 1, by omega, by omega, j4, .inr (by rw [show j - 1 + 1 = j by omega]; exact j3)⟩
  · rintro ⟨j, j1, j2, j3, (j4 | j4) | j4⟩
    · exact .inr (.inr ⟨j, by omega, by omega, j3, by simp [j4]⟩)
    · exact .inr (.inl ⟨h, by rw [← j4]; exact j3⟩)
    · by_cases e : j + 1 < l.len
      · exact .inr (.inr ⟨j + 1, by omega, e, j4, by rw [if_neg (by omega)]; exact j3⟩)
      · exact .inr (.inl ⟨h, by rw [show l.len - 1 = j by omega]; exact j3⟩)

section
variable {n : Nat} {K : AVal → Heap → Prop} {l : Tx} {H : Heap}
theorem loop44 (hl : l.len ≤ 1000000) {b : Nat} (hK : ∀ H' , Grow H H' → H'.gl = H.gl → K (.bool (dotsBad l)) H') (hb : H.next ≤ b) : ∀ (k r i la : Nat) (H1 : Heap) (a3 a5 : AVal), i + k = l.len → k < r → H1.get b = .obj (.siter l.len l.code i) → Grow H H1 → H1.gl = H.gl → dotB l k i (decide (la = 46)) = dotsBad l →
    loopOf (evF AP TT n) b44_0 r [.str l.len l.code, .bool false, .int .i32 (la : Int), a3, .ptr b 0 0, a5] H1 (kBlk 0 (kSeq (evF AP TT n) r44_1 (kEnd [.opd (.v 1)] K))) := by
  intro k
  induction k using Nat.strongRecOn with
  | ind k ih =>
    intro r i la H1 a3 a5 hi hr hg hgr hgl hd
    obtain ⟨r, rfl⟩ : ∃ m, r = m + 1 := ⟨r - 1, by omega⟩
    rw [r_roundN b44_0.eq_1]
    by_cases h : i < l.len
    · obtain ⟨k, rfl⟩ : ∃ m, k = m + 1 := ⟨k - 1, by omega⟩
      by_cases h1 : byteAt l i < 128
      · have hdec : decN l.len l.code i = (byteAt l i, 1) := dec_lt h1
        have hn : ∀ {kv : AVal → Heap → Prop}, nxtO b (.obj (.siter l.len l.code i)) kv H1 = kv (.tup [.bool true, .int .i64 (i : Int), .int .i32 (byteAt l i : Int)]) (H1.put b (.obj (.siter l.len l.code (i + 1)))) := by
          intro kv
          rw [nxt_go h, hdec]
          rfl
        rw [dotB] at hd
        by_cases h2 : byteAt l i = 46
        · by_cases h3 : la = 46
          · rw [if_pos ⟨h2, decide_eq_true h3⟩] at hd
            simp only [rdR1, rdRN, r_un1, r_convBS, r_convIS, r_isP, r_rngS, r_rngP, r_nxtS, r_nxtP, r_mkmap, r_lkp, r_idxA, v_pnn, v_ppn, v_qnn, v_qpn, r_slcS, r_again1, r_againN, ag_int, ag_bool, ag_str, ag_agg, r_seq, r_reg, r_op, r_op_y, r_op_n, r_op_u, r_move, r_get_v, r_get_t, r_get_c, r_lget_0, r_lget_s, r_lset_0, r_lset_s, r_kOp_t, r_kOp_v, r_kOp_o, r_kReg, r_kSeq_n, r_kSeq_e, r_kSeq_r, r_kBlk_n, r_kBlk_e, r_kBlk_r, r_kBlk_o, r_kLoop_n, r_kLoop_e, r_kLoop_r, r_ops_nil, r_bin, r_binB, r_binP, r_eql, r_neq, r_lss, r_leq, r_gtr, r_geq, r_add, r_sub, r_mul, v_eqs, v_nes, r_opt, r_pick, r_pick_t, r_pick_f, r_not, v_not, r_ret, r_exit, r_skip, r_cond_t, r_cond_f, r_block, r_loop, r_kEnd_n, r_kEnd_r, r_giveO, r_consO, r_evR_0, r_evR_o, r_evR_1, r_evR_N, r_give_0, r_give_1, r_give_2, initV, r_nilck, v_ckp, v_ckf, r_fadr, v_fadr, r_load1, rd1, rdN, v_rd0, rdRow_0, rdRow_s, r_loadN, r_store, v_wrV, v_wrA, v_rdA0, v_some, r_putK, r_alloc, r_box, r_boxK, r_build, r_aggK, fill_0, fill_s, fillK_1, putRow_0, putRow_s, c_agg, c_int, c_bool, c_str, c_slc, c_nils, c_fn, c_ptr, r_buildS, r_rowsK1, fillR_1, fillO_1, r_append, r_fld1, r_idxS, r_idxStr, r_len, v_lenS, v_lenL, v_lenN, r_slcStr, v_sub, map_some, map_none, r_call, r_callv, v_callf, r_ext, v_ext0, v_exts, r_mkfn, opds, r_conv, v_conv, llen_0, llen_s, n_of, ii_eq, ii_lt, ii_le, get_put, get_add, next_put, next_add, put_put, add_put', ne_s, ne_s', ne_ss, ne_ss', if_true, if_false, ite_self, ite_true, ite_false, Nat.zero_add, Nat.add_zero, Nat.reduceAdd, Nat.reduceLT, Nat.reduceEqDiff, Bool.not_false, Bool.not_true, decide_true, decide_false, eq_self, hg, hn, eq_true h2, eq_true h3]
            have := hK (H1.put b (.obj (.siter l.len l.code (i + 1)))) (hgr.put hb) hgl
            rw [← hd] at this
            exact this
          · rw [if_neg (fun hh => h3 (of_decide_eq_true hh.2))] at hd
            simp only [rdR1, rdRN, r_un1, r_convBS, r_convIS, r_isP, r_rngS, r_rngP, r_nxtS, r_nxtP, r_mkmap, r_lkp, r_idxA, v_pnn, v_ppn, v_qnn, v_qpn, r_slcS, r_again1, r_againN, ag_int, ag_bool, ag_str, ag_agg, r_seq, r_reg, r_op, r_op_y, r_op_n, r_op_u, r_move, r_get_v, r_get_t, r_get_c, r_lget_0, r_lget_s, r_lset_0, r_lset_s, r_kOp_t, r_kOp_v, r_kOp_o, r_kReg, r_kSeq_n, r_kSeq_e, r_kSeq_r, r_kBlk_n, r_kBlk_e, r_kBlk_r, r_kBlk_o, r_kLoop_n, r_kLoop_e, r_kLoop_r, r_ops_nil, r_bin, r_binB, r_binP, r_eql, r_neq, r_lss, r_leq, r_gtr, r_geq, r_add, r_sub, r_mul, v_eqs, v_nes, r_opt, r_pick, r_pick_t, r_pick_f, r_not, v_not, r_ret, r_exit, r_skip, r_cond_t, r_cond_f, r_block, r_loop, r_kEnd_n, r_kEnd_r, r_giveO, r_consO, r_evR_0, r_evR_o, r_evR_1, r_evR_N, r_give_0, r_give_1, r_give_2, initV, r_nilck, v_ckp, v_ckf, r_fadr, v_fadr, r_load1, rd1, rdN, v_rd0, rdRow_0, rdRow_s, r_loadN, r_store, v_wrV, v_wrA, v_rdA0, v_some, r_putK, r_alloc, r_box, r_boxK, r_build, r_aggK, fill_0, fill_s, fillK_1, putRow_0, putRow_s, c_agg, c_int, c_bool, c_str, c_slc, c_nils, c_fn, c_ptr, r_buildS, r_rowsK1, fillR_1, fillO_1, r_append, r_fld1, r_idxS, r_idxStr, r_len, v_lenS, v_lenL, v_lenN, r_slcStr, v_sub, map_some, map_none, r_call, r_callv, v_callf, r_ext, v_ext0, v_exts, r_mkfn, opds, r_conv, v_conv, llen_0, llen_s, n_of, ii_eq, ii_lt, ii_le, get_put, get_add, next_put, next_add, put_put, add_put', ne_s, ne_s', ne_ss, ne_ss', if_true, if_false, ite_self, ite_true, ite_false, Nat.zero_add, Nat.add_zero, Nat.reduceAdd, Nat.reduceLT, Nat.reduceEqDiff, Bool.not_false, Bool.not_true, decide_true, decide_false, eq_self, hg, hn, eq_true h2, h3]
            exact ih k (by omega) r (i + 1) (byteAt l i) _ _ _ (by omega) (by omega) (by rw [get_put, if_pos rfl]) (hgr.put hb) hgl hd
        · rw [if_neg (fun hh => h2 hh.1)] at hd
          simp only [rdR1, rdRN, r_un1, r_convBS, r_convIS, r_isP, r_rngS, r_rngP, r_nxtS, r_nxtP, r_mkmap, r_lkp, r_idxA, v_pnn, v_ppn, v_qnn, v_qpn, r_slcS, r_again1, r_againN, ag_int, ag_bool, ag_str, ag_agg, r_seq, r_reg, r_op, r_op_y, r_op_n, r_op_u, r_move, r_get_v, r_get_t, r_get_c, r_lget_0, r_lget_s, r_lset_0, r_lset_s, r_kOp_t, r_kOp_v, r_kOp_o, r_kReg, r_kSeq_n, r_kSeq_e, r_kSeq_r, r_kBlk_n, r_kBlk_e, r_kBlk_r, r_kBlk_o, r_kLoop_n, r_kLoop_e, r_kLoop_r, r_ops_nil, r_bin, r_binB, r_binP, r_eql, r_neq, r_lss, r_leq, r_gtr, r_geq, r_add, r_sub, r_mul, v_eqs, v_nes, r_opt, r_pick, r_pick_t, r_pick_f, r_not, v_not, r_ret, r_exit, r_skip, r_cond_t, r_cond_f, r_block, r_loop, r_kEnd_n, r_kEnd_r, r_giveO, r_consO, r_evR_0, r_evR_o, r_evR_1, r_evR_N, r_give_0, r_give_1, r_give_2, initV, r_nilck, v_ckp, v_ckf, r_fadr, v_fadr, r_load1, rd1, rdN, v_rd0, rdRow_0, rdRow_s, r_loadN, r_store, v_wrV, v_wrA, v_rdA0, v_some, r_putK, r_alloc, r_box, r_boxK, r_build, r_aggK, fill_0, fill_s, fillK_1, putRow_0, putRow_s, c_agg, c_int, c_bool, c_str, c_slc, c_nils, c_fn, c_ptr, r_buildS, r_rowsK1, fillR_1, fillO_1, r_append, r_fld1, r_idxS, r_idxStr, r_len, v_lenS, v_lenL, v_lenN, r_slcStr, v_sub, map_some, map_none, r_call, r_callv, v_callf, r_ext, v_ext0, v_exts, r_mkfn, opds, r_conv, v_conv, llen_0, llen_s, n_of, ii_eq, ii_lt, ii_le, get_put, get_add, next_put, next_add, put_put, add_put', ne_s, ne_s', ne_ss, ne_ss', if_true, if_false, ite_self, ite_true, ite_false, Nat.zero_add, Nat.add_zero, Nat.reduceAdd, Nat.reduceLT, Nat.reduceEqDiff, Bool.not_false, Bool.not_true, decide_true, decide_false, eq_self, hg, hn, h2]
          exact ih k (by omega) r (i + 1) (byteAt l i) _ _ _ (by omega) (by omega) (by rw [get_put, if_pos rfl]) (hgr.put hb) hgl hd
      · obtain ⟨g1, g2, g3, g4⟩ := dec_ge (n := l.len) (c := l.code) (i := i) (by show 128 ≤ byteAt l i; omega) h
        revert g1 g2 g3 g4
        have hn0 : ∀ {kv : AVal → Heap → Prop}, nxtO b (.obj (.siter l.len l.code i)) kv H1 = kv (.tup [.bool true, .int .i64 (i : Int), .int .i32 ((decN l.len l.code i).1 : Int)]) (H1.put b (.obj (.siter l.len l.code (i + (decN l.len l.code i).2)))) := by
          intro kv
          rw [nxt_go h]
          rfl
        revert hn0
        generalize (decN l.len l.code i).1 = c
        generalize (decN l.len l.code i).2 = m
        intro hn g1 g2 g3 g4
        have h2 : ¬ c = 46 := by omega
        have hsk := dotB_skip (l := l) m (k + 1 - m) i (decide (la = 46)) (fun j j1 j2 => by
          by_cases e : j = i
          · subst e; omega
          · exact g4 j (by omega) j2)
        rw [if_neg (by omega), show k + 1 - m + m = k + 1 by omega, hd] at hsk
        simp only [rdR1, rdRN, r_un1, r_convBS, r_convIS, r_isP, r_rngS, r_rngP, r_nxtS, r_nxtP, r_mkmap, r_lkp, r_idxA, v_pnn, v_ppn, v_qnn, v_qpn, r_slcS, r_again1, r_againN, ag_int, ag_bool, ag_str, ag_agg, r_seq, r_reg, r_op, r_op_y, r_op_n, r_op_u, r_move, r_get_v, r_get_t, r_get_c, r_lget_0, r_lget_s, r_lset_0, r_lset_s, r_kOp_t, r_kOp_v, r_kOp_o, r_kReg, r_kSeq_n, r_kSeq_e, r_kSeq_r, r_kBlk_n, r_kBlk_e, r_kBlk_r, r_kBlk_o, r_kLoop_n, r_kLoop_e, r_kLoop_r, r_ops_nil, r_bin, r_binB, r_binP, r_eql, r_neq, r_lss, r_leq, r_gtr, r_geq, r_add, r_sub, r_mul, v_eqs, v_nes, r_opt, r_pick, r_pick_t, r_pick_f, r_not, v_not, r_ret, r_exit, r_skip, r_cond_t, r_cond_f, r_block, r_loop, r_kEnd_n, r_kEnd_r, r_giveO, r_consO, r_evR_0, r_evR_o, r_evR_1, r_evR_N, r_give_0, r_give_1, r_give_2, initV, r_nilck, v_ckp, v_ckf, r_fadr, v_fadr, r_load1, rd1, rdN, v_rd0, rdRow_0, rdRow_s, r_loadN, r_store, v_wrV, v_wrA, v_rdA0, v_some, r_putK, r_alloc, r_box, r_boxK, r_build, r_aggK, fill_0, fill_s, fillK_1, putRow_0, putRow_s, c_agg, c_int, c_bool, c_str, c_slc, c_nils, c_fn, c_ptr, r_buildS, r_rowsK1, fillR_1, fillO_1, r_append, r_fld1, r_idxS, r_idxStr, r_len, v_lenS, v_lenL, v_lenN, r_slcStr, v_sub, map_some, map_none, r_call, r_callv, v_callf, r_ext, v_ext0, v_exts, r_mkfn, opds, r_conv, v_conv, llen_0, llen_s, n_of, ii_eq, ii_lt, ii_le, get_put, get_add, next_put, next_add, put_put, add_put', ne_s, ne_s', ne_ss, ne_ss', if_true, if_false, ite_self, ite_true, ite_false, Nat.zero_add, Nat.add_zero, Nat.reduceAdd, Nat.reduceLT, Nat.reduceEqDiff, Bool.not_false, Bool.not_true, decide_true, decide_false, eq_self, hg, hn, h2]
        refine ih (k + 1 - m) (by omega) r (i + m) c _ _ _ (by omega) (by omega) (by rw [get_put, if_pos rfl]) (hgr.put hb) hgl ?_
        rw [decide_eq_false h2]
        exact hsk.symm
    · obtain rfl : k = 0 := by omega
      have hn : ∀ {kv : AVal → Heap → Prop}, nxtO b (.obj (.siter l.len l.code i)) kv H1 = kv (.tup [.bool false]) H1 := fun {kv} => nxt_end (by omega)
      simp only [dotB] at hd
      simp only [rdR1, rdRN, r_un1, r_convBS, r_convIS, r_isP, r_rngS, r_rngP, r_nxtS, r_nxtP, r_mkmap, r_lkp, r_idxA, v_pnn, v_ppn, v_qnn, v_qpn, r_slcS, r_again1, r_againN, ag_int, ag_bool, ag_str, ag_agg, r_seq, r_reg, r_op, r_op_y, r_op_n, r_op_u, r_move, r_get_v, r_get_t, r_get_c, r_lget_0, r_lget_s, r_lset_0, r_lset_s, r_kOp_t, r_kOp_v, r_kOp_o, r_kReg, r_kSeq_n, r_kSeq_e, r_kSeq_r, r_kBlk_n, r_kBlk_e, r_kBlk_r, r_kBlk_o, r_kLoop_n, r_kLoop_e, r_kLoop_r, r_ops_nil, r_bin, r_binB, r_binP, r_eql, r_neq, r_lss, r_leq, r_gtr, r_geq, r_add, r_sub, r_mul, v_eqs, v_nes, r_opt, r_pick, r_pick_t, r_pick_f, r_not, v_not, r_ret, r_exit, r_skip, r_cond_t, r_cond_f, r_block, r_loop, r_kEnd_n, r_kEnd_r, r_giveO, r_consO, r_evR_0, r_evR_o, r_evR_1, r_evR_N, r_give_0, r_give_1, r_give_2, initV, r_nilck, v_ckp, v_ckf, r_fadr, v_fadr, r_load1, rd1, rdN, v_rd0, rdRow_0, rdRow_s, r_loadN, r_store, v_wrV, v_wrA, v_rdA0, v_some, r_putK, r_alloc, r_box, r_boxK, r_build, r_aggK, fill_0, fill_s, fillK_1, putRow_0, putRow_s, c_agg, c_int, c_bool, c_str, c_slc, c_nils, c_fn, c_ptr, r_buildS, r_rowsK1, fillR_1, fillO_1, r_append, r_fld1, r_idxS, r_idxStr, r_len, v_lenS, v_lenL, v_lenN, r_slcStr, v_sub, map_some, map_none, r_call, r_callv, v_callf, r_ext, v_ext0, v_exts, r_mkfn, opds, r_conv, v_conv, llen_0, llen_s, n_of, ii_eq, ii_lt, ii_le, get_put, get_add, next_put, next_add, put_put, add_put', ne_s, ne_s', ne_ss, ne_ss', if_true, if_false, ite_self, ite_true, ite_false, Nat.zero_add, Nat.add_zero, Nat.reduceAdd, Nat.reduceLT, Nat.reduceEqDiff, Bool.not_false, Bool.not_true, decide_true, decide_false, eq_self, hg, hn, r44_1, hd]
      exact hK H1 hgr hgl
/-- dotted. -/
theorem s44 (hl : l.len ≤ 1000000) (h0 : 0 < l.len) (hK : ∀ H', Grow H H' → H'.gl = H.gl → K (.bool (dotsBad l)) H') : evF AP TT (n + 1) 44 [.str l.len l.code] H K := by
  rw [r_fun look44]
  simp only [rdR1, rdRN, r_un1, r_convBS, r_convIS, r_isP, r_rngS, r_rngP, r_nxtS, r_nxtP, r_mkmap, r_lkp, r_idxA, v_pnn, v_ppn, v_qnn, v_qpn, r_slcS, r_again1, r_againN, ag_int, ag_bool, ag_str, ag_agg, r_seq, r_reg, r_op, r_op_y, r_op_n, r_op_u, r_move, r_get_v, r_get_t, r_get_c, r_lget_0, r_lget_s, r_lset_0, r_lset_s, r_kOp_t, r_kOp_v, r_kOp_o, r_kReg, r_kSeq_n, r_kSeq_e, r_kSeq_r, r_kBlk_n, r_kBlk_e, r_kBlk_r, r_kBlk_o, r_kLoop_n, r_kLoop_e, r_kLoop_r, r_ops_nil, r_bin, r_binB, r_binP, r_eql, r_neq, r_lss, r_leq, r_gtr, r_geq, r_add, r_sub, r_mul, v_eqs, v_nes, r_opt, r_pick, r_pick_t, r_pick_f, r_not, v_not, r_ret, r_exit, r_skip, r_cond_t, r_cond_f, r_block, r_loop, r_kEnd_n, r_kEnd_r, r_giveO, r_consO, r_evR_0, r_evR_o, r_evR_1, r_evR_N, r_give_0, r_give_1, r_give_2, initV, r_nilck, v_ckp, v_ckf, r_fadr, v_fadr, r_load1, rd1, rdN, v_rd0, rdRow_0, rdRow_s, r_loadN, r_store, v_wrV, v_wrA, v_rdA0, v_some, r_putK, r_alloc, r_box, r_boxK, r_build, r_aggK, fill_0, fill_s, fillK_1, putRow_0, putRow_s, c_agg, c_int, c_bool, c_str, c_slc, c_nils, c_fn, c_ptr, r_buildS, r_rowsK1, fillR_1, fillO_1, r_append, r_fld1, r_idxS, r_idxStr, r_len, v_lenS, v_lenL, v_lenN, r_slcStr, v_sub, map_some, map_none, r_call, r_callv, v_callf, r_ext, v_ext0, v_exts, r_mkfn, opds, r_conv, v_conv, llen_0, llen_s, n_of, ii_eq, ii_lt, ii_le, get_put, get_add, next_put, next_add, put_put, add_put', ne_s, ne_s', ne_ss, ne_ss', if_true, if_false, ite_self, ite_true, ite_false, Nat.zero_add, Nat.add_zero, Nat.reduceAdd, Nat.reduceLT, Nat.reduceEqDiff, Bool.not_false, Bool.not_true, decide_true, decide_false, eq_self, d44]
  exact loop44 hl hK (Nat.le_refl _) l.len manyRounds 0 46 _ _ _ (by omega) (by unfold manyRounds; omega) (by rw [get_add, if_pos rfl]) Grow.add rfl (by rw [show decide (46 = 46) = true from rfl]; exact dotB_bad h0)
end
end Dt
