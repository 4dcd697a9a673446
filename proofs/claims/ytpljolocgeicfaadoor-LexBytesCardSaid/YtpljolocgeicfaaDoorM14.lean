/- A part of the abstract machine and of the proof that the program does what it reckons; no conditions. -/
import Derived.Test.YtpljolocgeicfaaDoorM13
namespace Dt
open Go
set_option linter.all false
set_option maxRecDepth 100000
theorem look43 : TT.funs 43 = some d43 := (rfl)
theorem look51 : TT.funs 51 = some d51 := (rfl)
theorem look52 : TT.funs 52 = some d52 := (rfl)
theorem look61 : TT.funs 61 = some d61 := (rfl)
def digOk : Nat → Bool
  | 0 => true
  | n + 1 => digOk n && (match rdRow (boolsV digT) n with | some (.bool b) => b == isDigitN n | _ => false)
theorem digOk_256 : digOk 256 = true := by kernel_rfl
theorem digOk_get : ∀ (n b : Nat), digOk n = true → b < n → rdRow (boolsV digT) b = some (.bool (isDigitN b))
  | 0, b, _, h => by omega
  | n + 1, b, hn, h => by
    simp only [digOk, Bool.and_eq_true] at hn
    rcases Nat.lt_or_ge b n with hlt | hge
    · exact digOk_get n b hn.1 hlt
    · have : b = n := by omega
      subst this
      have h2 := hn.2
      split at h2
      · rename_i k hk
        rw [hk, eq_of_beq h2]
      · cases h2
theorem dig_at {b : Nat} (h : b < 256) : rdRow (boolsV digT) b = some (.bool (isDigitN b)) := digOk_get 256 b digOk_256 h
theorem v_ida {len z b r c n : Nat} {k : IntKind} (h : n < len) : idaV len z (.ptr b r c) (.int k (n : Int)) = some (.ptr b r (c + n * z)) := by
  have : Nat.blt n len = true := by unfold Nat.blt; exact Nat.ble_eq_true_of_le h
  show (match Nat.blt n len with | true => some (AVal.ptr b r (c + n * z)) | false => none) = _
  rw [this]
theorem llen_digs : llen (boolsV digT) = 256 := by kernel_rfl

/-! Trim, as texts. -/
def cutR (t : Tx) : Tx := ⟨t.len - 1, scut t.code 0 (t.len - 1)⟩
def cutL (t : Tx) : Tx := ⟨t.len - 1, scut t.code 1 t.len⟩
def trimR : Nat → Tx → Tx
  | 0, t => t
  | k + 1, t => if 0 < t.len ∧ isDigitN (byteAt t (t.len - 1)) = true then trimR k (cutR t) else t
def trimL : Nat → Tx → Tx
  | 0, t => t
  | k + 1, t => if 0 < t.len ∧ isDigitN (byteAt t 0) = true then trimL k (cutL t) else t
theorem cutR_byte {t : Tx} {i : Nat} (h : i < t.len - 1) : byteAt (cutR t) i = byteAt t i := by
  show sget (scut t.code 0 (t.len - 1)) i = sget t.code i
  rw [sget_eq, sget_eq, scut_eq, Nat.pow_zero, Nat.div_one, Nat.sub_zero]
  have : 256 ^ (t.len - 1) = 256 ^ i * (256 * 256 ^ (t.len - 1 - i - 1)) := by
    rw [← Nat.pow_succ', ← Nat.pow_add]
    congr 1
    omega
  rw [this, Nat.mod_mul_right_div_self, Nat.mod_mul_right_mod]
theorem cutL_byte {t : Tx} {i : Nat} (h : i < t.len - 1) : byteAt (cutL t) i = byteAt t (1 + i) := sfx_byte (l := t) (i := 1) (by omega)
/-- Are all digits? By the places. -/
theorem all_iff {t : Tx} : allDigits t = true ↔ ∀ i, i < t.len → isDigitN (byteAt t i) = true := by
  have : ∀ (k i : Nat), digitsFrom t i k = true ↔ ∀ j, i ≤ j → j < i + k → isDigitN (byteAt t j) = true := by
    intro k
    induction k with
    | zero => intro i; simp [digitsFrom]; omega
    | succ k ih =>
      intro i
      simp only [digitsFrom, Bool.and_eq_true]
      rw [ih]
      constructor
      · intro h j h1 h2
        by_cases e : j = i
        · subst e; exact h.1
        · exact h.2 j (by omega) (by omega)
      · intro h
        exact ⟨h i (by omega) (by omega), fun j h1 h2 => h j (by omega) (by omega)⟩
  unfold allDigits
  rw [this]
  constructor
  · intro h i hi; exact h i (by omega) (by omega)
  · intro h j _ hj; exact h j (by omega)
theorem all_cutR {t : Tx} (h : 0 < t.len) (hd : isDigitN (byteAt t (t.len - 1)) = true) : allDigits (cutR t) = allDigits t := by
  rw [Bool.eq_iff_iff, all_iff, all_iff]
  constructor
  · intro ha i hi
    by_cases e : i = t.len - 1
    · rw [e]; exact hd
    · rw [← cutR_byte (t := t) (by omega)]; exact ha i (by show i < t.len - 1; omega)
  · intro ha i hi
    have hi' : i < t.len - 1 := hi
    rw [cutR_byte hi']; exact ha i (by omega)
theorem all_cutL {t : Tx} (h : 0 < t.len) (hd : isDigitN (byteAt t 0) = true) : allDigits (cutL t) = allDigits t := by
  rw [Bool.eq_iff_iff, all_iff, all_iff]
  constructor
  · intro ha i hi
    by_cases e : i = 0
    · rw [e]; exact hd
    · have := ha (i - 1) (by show i - 1 < t.len - 1; omega)
      rw [cutL_byte (by omega)] at this
      rwa [show 1 + (i - 1) = i by omega] at this
  · intro ha i hi
    have hi' : i < t.len - 1 := hi
    rw [cutL_byte hi']; exact ha _ (by omega)
theorem trimR_len : ∀ (k : Nat) (t : Tx), (trimR k t).len ≤ t.len
  | 0, t => Nat.le_refl _
  | k + 1, t => by
    unfold trimR
    split
    · exact Nat.le_trans (trimR_len k (cutR t)) (by show t.len - 1 ≤ t.len; omega)
    · exact Nat.le_refl _
theorem trimR_all : ∀ (k : Nat) (t : Tx), allDigits (trimR k t) = allDigits t
  | 0, t => rfl
  | k + 1, t => by
    unfold trimR
    split
    · rename_i h
      rw [trimR_all k, all_cutR h.1 h.2]
    · rfl
theorem trimL_all : ∀ (k : Nat) (t : Tx), allDigits (trimL k t) = allDigits t
  | 0, t => rfl
  | k + 1, t => by
    unfold trimL
    split
    · rename_i h
      rw [trimL_all k, all_cutL h.1 h.2]
    · rfl
/-- Nothing is left just where all were digits. -/
theorem trimL_end : ∀ (k : Nat) (t : Tx), t.len ≤ k → (trimL k t).len = 0 ∨ isDigitN (byteAt (trimL k t) 0) = false
  | 0, t, h => .inl (by simp only [trimL]; omega)
  | k + 1, t, h => by
    unfold trimL
    split
    · exact trimL_end k (cutL t) (by show t.len - 1 ≤ k; omega)
    · rename_i hn
      rcases Nat.eq_zero_or_pos t.len with h0 | h0
      · exact .inl h0
      · right
        cases hd : isDigitN (byteAt t 0) with
        | false => rfl
        | true => exact absurd ⟨h0, hd⟩ hn
theorem trimR_end : ∀ (k : Nat) (t : Tx), t.len ≤ k → (trimR k t).len = 0 ∨ isDigitN (byteAt (trimR k t) ((trimR k t).len - 1)) = false
  | 0, t, h => .inl (by simp only [trimR]; omega)
  | k + 1, t, h => by
    unfold trimR
    split
    · exact trimR_end k (cutR t) (by show t.len - 1 ≤ k; omega)
    · rename_i hn
      rcases Nat.eq_zero_or_pos t.len with h0 | h0
      · exact .inl h0
      · right
        cases hd : isDigitN (byteAt t (t.len - 1)) with
        | false => rfl
        | true => exact absurd ⟨h0, hd⟩ hn
theorem trimL_zero {t : Tx} {k : Nat} (h : t.len ≤ k) : (trimL k t).len = 0 ↔ allDigits t = true := by
  rw [← trimL_all k t]
  constructor
  · intro h0
    rw [all_iff]
    intro i hi
    omega
  · intro ha
    rcases trimL_end k t h with h0 | h0
    · exact h0
    · rcases Nat.eq_zero_or_pos (trimL k t).len with h1 | h1
      · exact h1
      · rw [all_iff] at ha
        rw [ha 0 h1] at h0
        cases h0
theorem trimR_zero {t : Tx} {k : Nat} (h : t.len ≤ k) : (trimR k t).len = 0 ↔ allDigits t = true := by
  rw [← trimR_all k t]
  constructor
  · intro h0
    rw [all_iff]
    intro i hi
    omega
  · intro ha
    rcases trimR_end k t h with h0 | h0
    · exact h0
    · rcases Nat.eq_zero_or_pos (trimR k t).len with h1 | h1
      · exact h1
      · rw [all_iff] at ha
        rw [ha _ (by omega)] at h0
        cases h0
/-- A text of no length has no number. -/
def Tx.Fit (t : Tx) : Prop := t.len = 0 → t.code = 0
theorem cutR_fit {t : Tx} : (cutR t).Fit := fun h => by
  have h' : t.len - 1 = 0 := h
  show scut t.code 0 (t.len - 1) = 0
  rw [h', scut_eq]
  simp [Nat.mod_one]
theorem cutL_fit {t : Tx} : (cutL t).Fit := fun h => by
  have h' : t.len - 1 = 0 := h
  show scut t.code 1 t.len = 0
  rw [scut_eq, h']
  simp [Nat.mod_one]
theorem trimR_fit : ∀ (k : Nat) (t : Tx), t.Fit → (trimR k t).Fit
  | 0, t, h => h
  | k + 1, t, h => by
    unfold trimR
    split
    · exact trimR_fit k _ cutR_fit
    · exact h
theorem trimL_fit : ∀ (k : Nat) (t : Tx), t.Fit → (trimL k t).Fit
  | 0, t, h => h
  | k + 1, t, h => by
    unfold trimL
    split
    · exact trimL_fit k _ cutL_fit
    · exact h

section
variable {n : Nat} {H : Heap} {K : AVal → Heap → Prop} {p : Nat}
theorem b01 : Nat.beq 0 1 = false := rfl
theorem s61 {c : Nat} (hp : H.get p = .rows 256 [boolsV digT]) (hc : c < 256) : evF AP TT (n + 1) 61 [.ptr p 0 0, .int .u8 (c : Int)] H K = K (.bool (isDigitN c)) H := by
  rw [r_fun look61]
  have e := v_ida (len := 256) (z := 1) (b := p) (r := 0) (c := 0) (k := .u8) hc
  rw [Nat.zero_add, Nat.mul_one] at e
  simp only [rdR1, rdRN, r_un1, r_convBS, r_convIS, r_isP, r_rngS, r_rngP, r_nxtS, r_nxtP, r_mkmap, r_lkp, r_idxA, v_pnn, v_ppn, v_qnn, v_qpn, r_slcS, r_again1, r_againN, ag_int, ag_bool, ag_str, ag_agg, r_seq, r_reg, r_op, r_op_y, r_op_n, r_op_u, r_move, r_get_v, r_get_t, r_get_c, r_lget_0, r_lget_s, r_lset_0, r_lset_s, r_kOp_t, r_kOp_v, r_kOp_o, r_kReg, r_kSeq_n, r_kSeq_e, r_kSeq_r, r_kBlk_n, r_kBlk_e, r_kBlk_r, r_kBlk_o, r_kLoop_n, r_kLoop_e, r_kLoop_r, r_ops_nil, r_bin, r_binB, r_binP, r_eql, r_neq, r_lss, r_leq, r_gtr, r_geq, r_add, r_sub, r_mul, v_eqs, v_nes, r_opt, r_pick, r_pick_t, r_pick_f, r_not, v_not, r_ret, r_exit, r_skip, r_cond_t, r_cond_f, r_block, r_loop, r_kEnd_n, r_kEnd_r, r_giveO, r_consO, r_evR_0, r_evR_o, r_evR_1, r_evR_N, r_give_0, r_give_1, r_give_2, initV, r_nilck, v_ckp, v_ckf, r_fadr, v_fadr, r_load1, rd1, rdN, v_rd0, rdRow_0, rdRow_s, r_loadN, r_store, v_wrV, v_wrA, v_rdA0, v_some, r_putK, r_alloc, r_box, r_boxK, r_build, r_aggK, fill_0, fill_s, fillK_1, putRow_0, putRow_s, c_agg, c_int, c_bool, c_str, c_slc, c_nils, c_fn, c_ptr, r_buildS, r_rowsK1, fillR_1, fillO_1, r_append, r_fld1, r_idxS, r_idxStr, r_len, v_lenS, v_lenL, v_lenN, r_slcStr, v_sub, map_some, map_none, r_call, r_callv, v_callf, r_ext, v_ext0, v_exts, r_mkfn, opds, r_conv, v_conv, llen_0, llen_s, n_of, ii_eq, ii_lt, ii_le, get_put, get_add, next_put, next_add, put_put, add_put', ne_s, ne_s', ne_ss, ne_ss', if_true, if_false, ite_self, ite_true, ite_false, Nat.zero_add, Nat.add_zero, Nat.reduceAdd, Nat.reduceLT, Nat.reduceEqDiff, Bool.not_false, Bool.not_true, decide_true, decide_false, eq_self, d61, e, hp, dig_at hc]
theorem loop52 (hp : H.get p = .rows 256 [boolsV digT]) : ∀ (k r : Nat) (t : Tx) (a2 : AVal), t.len ≤ k → k < r → t.len < 1000000000 →
    loopOf (evF AP TT (n + 1)) b52_0 r [.str t.len t.code, .ptr p 0 0, a2] H (kBlk 0 (kSeq (evF AP TT (n + 1)) r52_1 (kEnd [.opd (.v 2)] K))) = K (.str (trimR k t).len (trimR k t).code) H := by
  intro k
  induction k with
  | zero =>
    intro r t a2 h hr hb
    obtain ⟨r, rfl⟩ : ∃ m, r = m + 1 := ⟨r - 1, by omega⟩
    rw [r_roundN b52_0.eq_1]
    have h0 : ¬ 0 < t.len := by omega
    simp only [rdR1, rdRN, r_un1, r_convBS, r_convIS, r_isP, r_rngS, r_rngP, r_nxtS, r_nxtP, r_mkmap, r_lkp, r_idxA, v_pnn, v_ppn, v_qnn, v_qpn, r_slcS, r_again1, r_againN, ag_int, ag_bool, ag_str, ag_agg, r_seq, r_reg, r_op, r_op_y, r_op_n, r_op_u, r_move, r_get_v, r_get_t, r_get_c, r_lget_0, r_lget_s, r_lset_0, r_lset_s, r_kOp_t, r_kOp_v, r_kOp_o, r_kReg, r_kSeq_n, r_kSeq_e, r_kSeq_r, r_kBlk_n, r_kBlk_e, r_kBlk_r, r_kBlk_o, r_kLoop_n, r_kLoop_e, r_kLoop_r, r_ops_nil, r_bin, r_binB, r_binP, r_eql, r_neq, r_lss, r_leq, r_gtr, r_geq, r_add, r_sub, r_mul, v_eqs, v_nes, r_opt, r_pick, r_pick_t, r_pick_f, r_not, v_not, r_ret, r_exit, r_skip, r_cond_t, r_cond_f, r_block, r_loop, r_kEnd_n, r_kEnd_r, r_giveO, r_consO, r_evR_0, r_evR_o, r_evR_1, r_evR_N, r_give_0, r_give_1, r_give_2, initV, r_nilck, v_ckp, v_ckf, r_fadr, v_fadr, r_load1, rd1, rdN, v_rd0, rdRow_0, rdRow_s, r_loadN, r_store, v_wrV, v_wrA, v_rdA0, v_some, r_putK, r_alloc, r_box, r_boxK, r_build, r_aggK, fill_0, fill_s, fillK_1, putRow_0, putRow_s, c_agg, c_int, c_bool, c_str, c_slc, c_nils, c_fn, c_ptr, r_buildS, r_rowsK1, fillR_1, fillO_1, r_append, r_fld1, r_idxS, r_idxStr, r_len, v_lenS, v_lenL, v_lenN, r_slcStr, v_sub, map_some, map_none, r_call, r_callv, v_callf, r_ext, v_ext0, v_exts, r_mkfn, opds, r_conv, v_conv, llen_0, llen_s, n_of, ii_eq, ii_lt, ii_le, get_put, get_add, next_put, next_add, put_put, add_put', ne_s, ne_s', ne_ss, ne_ss', if_true, if_false, ite_self, ite_true, ite_false, Nat.zero_add, Nat.add_zero, Nat.reduceAdd, Nat.reduceLT, Nat.reduceEqDiff, Bool.not_false, Bool.not_true, decide_true, decide_false, eq_self, h0, r52_1, trimR]
  | succ k ih =>
    intro r t a2 h hr hb
    obtain ⟨r, rfl⟩ : ∃ m, r = m + 1 := ⟨r - 1, by omega⟩
    rw [r_roundN b52_0.eq_1]
    unfold trimR
    by_cases h0 : 0 < t.len
    · have w : IntKind.i64.wrap ((t.len : Int) - ((1 : Nat) : Int)) = ((t.len - 1 : Nat) : Int) := w_sub (by omega) (by omega)
      have c1 := v_chrL (k := .i64) (l := t) (i := t.len - 1) (by omega)
      have hs : subK (.str t.len t.code) none (some (.int .i64 ((t.len - 1 : Nat) : Int))) = some (.str (cutR t).len (cutR t).code) := by simp only [subK, bound_nat (show t.len - 1 ≤ t.len by omega)]; rfl
      cases hd : isDigitN (byteAt t (t.len - 1)) with
      | true =>
        rw [if_pos ⟨h0, rfl⟩]
        simp only [rdR1, rdRN, r_un1, r_convBS, r_convIS, r_isP, r_rngS, r_rngP, r_nxtS, r_nxtP, r_mkmap, r_lkp, r_idxA, v_pnn, v_ppn, v_qnn, v_qpn, r_slcS, r_again1, r_againN, ag_int, ag_bool, ag_str, ag_agg, r_seq, r_reg, r_op, r_op_y, r_op_n, r_op_u, r_move, r_get_v, r_get_t, r_get_c, r_lget_0, r_lget_s, r_lset_0, r_lset_s, r_kOp_t, r_kOp_v, r_kOp_o, r_kReg, r_kSeq_n, r_kSeq_e, r_kSeq_r, r_kBlk_n, r_kBlk_e, r_kBlk_r, r_kBlk_o, r_kLoop_n, r_kLoop_e, r_kLoop_r, r_ops_nil, r_bin, r_binB, r_binP, r_eql, r_neq, r_lss, r_leq, r_gtr, r_geq, r_add, r_sub, r_mul, v_eqs, v_nes, r_opt, r_pick, r_pick_t, r_pick_f, r_not, v_not, r_ret, r_exit, r_skip, r_cond_t, r_cond_f, r_block, r_loop, r_kEnd_n, r_kEnd_r, r_giveO, r_consO, r_evR_0, r_evR_o, r_evR_1, r_evR_N, r_give_0, r_give_1, r_give_2, initV, r_nilck, v_ckp, v_ckf, r_fadr, v_fadr, r_load1, rd1, rdN, v_rd0, rdRow_0, rdRow_s, r_loadN, r_store, v_wrV, v_wrA, v_rdA0, v_some, r_putK, r_alloc, r_box, r_boxK, r_build, r_aggK, fill_0, fill_s, fillK_1, putRow_0, putRow_s, c_agg, c_int, c_bool, c_str, c_slc, c_nils, c_fn, c_ptr, r_buildS, r_rowsK1, fillR_1, fillO_1, r_append, r_fld1, r_idxS, r_idxStr, r_len, v_lenS, v_lenL, v_lenN, r_slcStr, v_sub, map_some, map_none, r_call, r_callv, v_callf, r_ext, v_ext0, v_exts, r_mkfn, opds, r_conv, v_conv, llen_0, llen_s, n_of, ii_eq, ii_lt, ii_le, get_put, get_add, next_put, next_add, put_put, add_put', ne_s, ne_s', ne_ss, ne_ss', if_true, if_false, ite_self, ite_true, ite_false, Nat.zero_add, Nat.add_zero, Nat.reduceAdd, Nat.reduceLT, Nat.reduceEqDiff, Bool.not_false, Bool.not_true, decide_true, decide_false, eq_self, h0, w, c1, s61 hp (byteAt_lt t _), hd, hs]
        exact ih r (cutR t) _ (by show t.len - 1 ≤ k; omega) (by omega) (by show t.len - 1 < _; omega)
      | false =>
        rw [if_neg (by simp)]
        simp only [rdR1, rdRN, r_un1, r_convBS, r_convIS, r_isP, r_rngS, r_rngP, r_nxtS, r_nxtP, r_mkmap, r_lkp, r_idxA, v_pnn, v_ppn, v_qnn, v_qpn, r_slcS, r_again1, r_againN, ag_int, ag_bool, ag_str, ag_agg, r_seq, r_reg, r_op, r_op_y, r_op_n, r_op_u, r_move, r_get_v, r_get_t, r_get_c, r_lget_0, r_lget_s, r_lset_0, r_lset_s, r_kOp_t, r_kOp_v, r_kOp_o, r_kReg, r_kSeq_n, r_kSeq_e, r_kSeq_r, r_kBlk_n, r_kBlk_e, r_kBlk_r, r_kBlk_o, r_kLoop_n, r_kLoop_e, r_kLoop_r, r_ops_nil, r_bin, r_binB, r_binP, r_eql, r_neq, r_lss, r_leq, r_gtr, r_geq, r_add, r_sub, r_mul, v_eqs, v_nes, r_opt, r_pick, r_pick_t, r_pick_f, r_not, v_not, r_ret, r_exit, r_skip, r_cond_t, r_cond_f, r_block, r_loop, r_kEnd_n, r_kEnd_r, r_giveO, r_consO, r_evR_0, r_evR_o, r_evR_1, r_evR_N, r_give_0, r_give_1, r_give_2, initV, r_nilck, v_ckp, v_ckf, r_fadr, v_fadr, r_load1, rd1, rdN, v_rd0, rdRow_0, rdRow_s, r_loadN, r_store, v_wrV, v_wrA, v_rdA0, v_some, r_putK, r_alloc, r_box, r_boxK, r_build, r_aggK, fill_0, fill_s, fillK_1, putRow_0, putRow_s, c_agg, c_int, c_bool, c_str, c_slc, c_nils, c_fn, c_ptr, r_buildS, r_rowsK1, fillR_1, fillO_1, r_append, r_fld1, r_idxS, r_idxStr, r_len, v_lenS, v_lenL, v_lenN, r_slcStr, v_sub, map_some, map_none, r_call, r_callv, v_callf, r_ext, v_ext0, v_exts, r_mkfn, opds, r_conv, v_conv, llen_0, llen_s, n_of, ii_eq, ii_lt, ii_le, get_put, get_add, next_put, next_add, put_put, add_put', ne_s, ne_s', ne_ss, ne_ss', if_true, if_false, ite_self, ite_true, ite_false, Nat.zero_add, Nat.add_zero, Nat.reduceAdd, Nat.reduceLT, Nat.reduceEqDiff, Bool.not_false, Bool.not_true, decide_true, decide_false, eq_self, h0, w, c1, s61 hp (byteAt_lt t _), hd, r52_1, b01]
    · rw [if_neg (fun hh => h0 hh.1)]
      simp only [rdR1, rdRN, r_un1, r_convBS, r_convIS, r_isP, r_rngS, r_rngP, r_nxtS, r_nxtP, r_mkmap, r_lkp, r_idxA, v_pnn, v_ppn, v_qnn, v_qpn, r_slcS, r_again1, r_againN, ag_int, ag_bool, ag_str, ag_agg, r_seq, r_reg, r_op, r_op_y, r_op_n, r_op_u, r_move, r_get_v, r_get_t, r_get_c, r_lget_0, r_lget_s, r_lset_0, r_lset_s, r_kOp_t, r_kOp_v, r_kOp_o, r_kReg, r_kSeq_n, r_kSeq_e, r_kSeq_r, r_kBlk_n, r_kBlk_e, r_kBlk_r, r_kBlk_o, r_kLoop_n, r_kLoop_e, r_kLoop_r, r_ops_nil, r_bin, r_binB, r_binP, r_eql, r_neq, r_lss, r_leq, r_gtr, r_geq, r_add, r_sub, r_mul, v_eqs, v_nes, r_opt, r_pick, r_pick_t, r_pick_f, r_not, v_not, r_ret, r_exit, r_skip, r_cond_t, r_cond_f, r_block, r_loop, r_kEnd_n, r_kEnd_r, r_giveO, r_consO, r_evR_0, r_evR_o, r_evR_1, r_evR_N, r_give_0, r_give_1, r_give_2, initV, r_nilck, v_ckp, v_ckf, r_fadr, v_fadr, r_load1, rd1, rdN, v_rd0, rdRow_0, rdRow_s, r_loadN, r_store, v_wrV, v_wrA, v_rdA0, v_some, r_putK, r_alloc, r_box, r_boxK, r_build, r_aggK, fill_0, fill_s, fillK_1, putRow_0, putRow_s, c_agg, c_int, c_bool, c_str, c_slc, c_nils, c_fn, c_ptr, r_buildS, r_rowsK1, fillR_1, fillO_1, r_append, r_fld1, r_idxS, r_idxStr, r_len, v_lenS, v_lenL, v_lenN, r_slcStr, v_sub, map_some, map_none, r_call, r_callv, v_callf, r_ext, v_ext0, v_exts, r_mkfn, opds, r_conv, v_conv, llen_0, llen_s, n_of, ii_eq, ii_lt, ii_le, get_put, get_add, next_put, next_add, put_put, add_put', ne_s, ne_s', ne_ss, ne_ss', if_true, if_false, ite_self, ite_true, ite_false, Nat.zero_add, Nat.add_zero, Nat.reduceAdd, Nat.reduceLT, Nat.reduceEqDiff, Bool.not_false, Bool.not_true, decide_true, decide_false, eq_self, h0, r52_1]
theorem loop51 (hp : H.get p = .rows 256 [boolsV digT]) : ∀ (k r : Nat) (t : Tx) (a2 : AVal), t.len ≤ k → k < r → t.len < 1000000000 →
    loopOf (evF AP TT (n + 1)) b51_0 r [.str t.len t.code, .ptr p 0 0, a2] H (kBlk 0 (kSeq (evF AP TT (n + 1)) r51_1 (kEnd [.opd (.v 2)] K))) = K (.str (trimL k t).len (trimL k t).code) H := by
  intro k
  induction k with
  | zero =>
    intro r t a2 h hr hb
    obtain ⟨r, rfl⟩ : ∃ m, r = m + 1 := ⟨r - 1, by omega⟩
    rw [r_roundN b51_0.eq_1]
    have h0 : ¬ 0 < t.len := by omega
    simp only [rdR1, rdRN, r_un1, r_convBS, r_convIS, r_isP, r_rngS, r_rngP, r_nxtS, r_nxtP, r_mkmap, r_lkp, r_idxA, v_pnn, v_ppn, v_qnn, v_qpn, r_slcS, r_again1, r_againN, ag_int, ag_bool, ag_str, ag_agg, r_seq, r_reg, r_op, r_op_y, r_op_n, r_op_u, r_move, r_get_v, r_get_t, r_get_c, r_lget_0, r_lget_s, r_lset_0, r_lset_s, r_kOp_t, r_kOp_v, r_kOp_o, r_kReg, r_kSeq_n, r_kSeq_e, r_kSeq_r, r_kBlk_n, r_kBlk_e, r_kBlk_r, r_kBlk_o, r_kLoop_n, r_kLoop_e, r_kLoop_r, r_ops_nil, r_bin, r_binB, r_binP, r_eql, r_neq, r_lss, r_leq, r_gtr, r_geq, r_add, r_sub, r_mul, v_eqs, v_nes, r_opt, r_pick, r_pick_t, r_pick_f, r_not, v_not, r_ret, r_exit, r_skip, r_cond_t, r_cond_f, r_block, r_loop, r_kEnd_n, r_kEnd_r, r_giveO, r_consO, r_evR_0, r_evR_o, r_evR_1, r_evR_N, r_give_0, r_give_1, r_give_2, initV, r_nilck, v_ckp, v_ckf, r_fadr, v_fadr, r_load1, rd1, rdN, v_rd0, rdRow_0, rdRow_s, r_loadN, r_store, v_wrV, v_wrA, v_rdA0, v_some, r_putK, r_alloc, r_box, r_boxK, r_build, r_aggK, fill_0, fill_s, fillK_1, putRow_0, putRow_s, c_agg, c_int, c_bool, c_str, c_slc, c_nils, c_fn, c_ptr, r_buildS, r_rowsK1, fillR_1, fillO_1, r_append, r_fld1, r_idxS, r_idxStr, r_len, v_lenS, v_lenL, v_lenN, r_slcStr, v_sub, map_some, map_none, r_call, r_callv, v_callf, r_ext, v_ext0, v_exts, r_mkfn, opds, r_conv, v_conv, llen_0, llen_s, n_of, ii_eq, ii_lt, ii_le, get_put, get_add, next_put, next_add, put_put, add_put', ne_s, ne_s', ne_ss, ne_ss', if_true, if_false, ite_self, ite_true, ite_false, Nat.zero_add, Nat.add_zero, Nat.reduceAdd, Nat.reduceLT, Nat.reduceEqDiff, Bool.not_false, Bool.not_true, decide_true, decide_false, eq_self, h0, r51_1, trimL]
  | succ k ih =>
    intro r t a2 h hr hb
    obtain ⟨r, rfl⟩ : ∃ m, r = m + 1 := ⟨r - 1, by omega⟩
    rw [r_roundN b51_0.eq_1]
    unfold trimL
    by_cases h0 : 0 < t.len
    · have c1 := v_chrL (k := .i64) (l := t) (i := 0) h0
      have hs : subK (.str t.len t.code) (some (.int .i64 ((1 : Nat) : Int))) none = some (.str (cutL t).len (cutL t).code) := by simp only [subK, bound_nat (show 1 ≤ t.len by omega)]; rfl
      cases hd : isDigitN (byteAt t 0) with
      | true =>
        rw [if_pos ⟨h0, rfl⟩]
        simp only [rdR1, rdRN, r_un1, r_convBS, r_convIS, r_isP, r_rngS, r_rngP, r_nxtS, r_nxtP, r_mkmap, r_lkp, r_idxA, v_pnn, v_ppn, v_qnn, v_qpn, r_slcS, r_again1, r_againN, ag_int, ag_bool, ag_str, ag_agg, r_seq, r_reg, r_op, r_op_y, r_op_n, r_op_u, r_move, r_get_v, r_get_t, r_get_c, r_lget_0, r_lget_s, r_lset_0, r_lset_s, r_kOp_t, r_kOp_v, r_kOp_o, r_kReg, r_kSeq_n, r_kSeq_e, r_kSeq_r, r_kBlk_n, r_kBlk_e, r_kBlk_r, r_kBlk_o, r_kLoop_n, r_kLoop_e, r_kLoop_r, r_ops_nil, r_bin, r_binB, r_binP, r_eql, r_neq, r_lss, r_leq, r_gtr, r_geq, r_add, r_sub, r_mul, v_eqs, v_nes, r_opt, r_pick, r_pick_t, r_pick_f, r_not, v_not, r_ret, r_exit, r_skip, r_cond_t, r_cond_f, r_block, r_loop, r_kEnd_n, r_kEnd_r, r_giveO, r_consO, r_evR_0, r_evR_o, r_evR_1, r_evR_N, r_give_0, r_give_1, r_give_2, initV, r_nilck, v_ckp, v_ckf, r_fadr, v_fadr, r_load1, rd1, rdN, v_rd0, rdRow_0, rdRow_s, r_loadN, r_store, v_wrV, v_wrA, v_rdA0, v_some, r_putK, r_alloc, r_box, r_boxK, r_build, r_aggK, fill_0, fill_s, fillK_1, putRow_0, putRow_s, c_agg, c_int, c_bool, c_str, c_slc, c_nils, c_fn, c_ptr, r_buildS, r_rowsK1, fillR_1, fillO_1, r_append, r_fld1, r_idxS, r_idxStr, r_len, v_lenS, v_lenL, v_lenN, r_slcStr, v_sub, map_some, map_none, r_call, r_callv, v_callf, r_ext, v_ext0, v_exts, r_mkfn, opds, r_conv, v_conv, llen_0, llen_s, n_of, ii_eq, ii_lt, ii_le, get_put, get_add, next_put, next_add, put_put, add_put', ne_s, ne_s', ne_ss, ne_ss', if_true, if_false, ite_self, ite_true, ite_false, Nat.zero_add, Nat.add_zero, Nat.reduceAdd, Nat.reduceLT, Nat.reduceEqDiff, Bool.not_false, Bool.not_true, decide_true, decide_false, eq_self, h0, c1, s61 hp (byteAt_lt t _), hd, hs]
        exact ih r (cutL t) _ (by show t.len - 1 ≤ k; omega) (by omega) (by show t.len - 1 < _; omega)
      | false =>
        rw [if_neg (by simp)]
        simp only [rdR1, rdRN, r_un1, r_convBS, r_convIS, r_isP, r_rngS, r_rngP, r_nxtS, r_nxtP, r_mkmap, r_lkp, r_idxA, v_pnn, v_ppn, v_qnn, v_qpn, r_slcS, r_again1, r_againN, ag_int, ag_bool, ag_str, ag_agg, r_seq, r_reg, r_op, r_op_y, r_op_n, r_op_u, r_move, r_get_v, r_get_t, r_get_c, r_lget_0, r_lget_s, r_lset_0, r_lset_s, r_kOp_t, r_kOp_v, r_kOp_o, r_kReg, r_kSeq_n, r_kSeq_e, r_kSeq_r, r_kBlk_n, r_kBlk_e, r_kBlk_r, r_kBlk_o, r_kLoop_n, r_kLoop_e, r_kLoop_r, r_ops_nil, r_bin, r_binB, r_binP, r_eql, r_neq, r_lss, r_leq, r_gtr, r_geq, r_add, r_sub, r_mul, v_eqs, v_nes, r_opt, r_pick, r_pick_t, r_pick_f, r_not, v_not, r_ret, r_exit, r_skip, r_cond_t, r_cond_f, r_block, r_loop, r_kEnd_n, r_kEnd_r, r_giveO, r_consO, r_evR_0, r_evR_o, r_evR_1, r_evR_N, r_give_0, r_give_1, r_give_2, initV, r_nilck, v_ckp, v_ckf, r_fadr, v_fadr, r_load1, rd1, rdN, v_rd0, rdRow_0, rdRow_s, r_loadN, r_store, v_wrV, v_wrA, v_rdA0, v_some, r_putK, r_alloc, r_box, r_boxK, r_build, r_aggK, fill_0, fill_s, fillK_1, putRow_0, putRow_s, c_agg, c_int, c_bool, c_str, c_slc, c_nils, c_fn, c_ptr, r_buildS, r_rowsK1, fillR_1, fillO_1, r_append, r_fld1, r_idxS, r_idxStr, r_len, v_lenS, v_lenL, v_lenN, r_slcStr, v_sub, map_some, map_none, r_call, r_callv, v_callf, r_ext, v_ext0, v_exts, r_mkfn, opds, r_conv, v_conv, llen_0, llen_s, n_of, ii_eq, ii_lt, ii_le, get_put, get_add, next_put, next_add, put_put, add_put', ne_s, ne_s', ne_ss, ne_ss', if_true, if_false, ite_self, ite_true, ite_false, Nat.zero_add, Nat.add_zero, Nat.reduceAdd, Nat.reduceLT, Nat.reduceEqDiff, Bool.not_false, Bool.not_true, decide_true, decide_false, eq_self, h0, c1, s61 hp (byteAt_lt t _), hd, r51_1, b01]
    · rw [if_neg (fun hh => h0 hh.1)]
      simp only [rdR1, rdRN, r_un1, r_convBS, r_convIS, r_isP, r_rngS, r_rngP, r_nxtS, r_nxtP, r_mkmap, r_lkp, r_idxA, v_pnn, v_ppn, v_qnn, v_qpn, r_slcS, r_again1, r_againN, ag_int, ag_bool, ag_str, ag_agg, r_seq, r_reg, r_op, r_op_y, r_op_n, r_op_u, r_move, r_get_v, r_get_t, r_get_c, r_lget_0, r_lget_s, r_lset_0, r_lset_s, r_kOp_t, r_kOp_v, r_kOp_o, r_kReg, r_kSeq_n, r_kSeq_e, r_kSeq_r, r_kBlk_n, r_kBlk_e, r_kBlk_r, r_kBlk_o, r_kLoop_n, r_kLoop_e, r_kLoop_r, r_ops_nil, r_bin, r_binB, r_binP, r_eql, r_neq, r_lss, r_leq, r_gtr, r_geq, r_add, r_sub, r_mul, v_eqs, v_nes, r_opt, r_pick, r_pick_t, r_pick_f, r_not, v_not, r_ret, r_exit, r_skip, r_cond_t, r_cond_f, r_block, r_loop, r_kEnd_n, r_kEnd_r, r_giveO, r_consO, r_evR_0, r_evR_o, r_evR_1, r_evR_N, r_give_0, r_give_1, r_give_2, initV, r_nilck, v_ckp, v_ckf, r_fadr, v_fadr, r_load1, rd1, rdN, v_rd0, rdRow_0, rdRow_s, r_loadN, r_store, v_wrV, v_wrA, v_rdA0, v_some, r_putK, r_alloc, r_box, r_boxK, r_build, r_aggK, fill_0, fill_s, fillK_1, putRow_0, putRow_s, c_agg, c_int, c_bool, c_str, c_slc, c_nils, c_fn, c_ptr, r_buildS, r_rowsK1, fillR_1, fillO_1, r_append, r_fld1, r_idxS, r_idxStr, r_len, v_lenS, v_lenL, v_lenN, r_slcStr, v_sub, map_some, map_none, r_call, r_callv, v_callf, r_ext, v_ext0, v_exts, r_mkfn, opds, r_conv, v_conv, llen_0, llen_s, n_of, ii_eq, ii_lt, ii_le, get_put, get_add, next_put, next_add, put_put, add_put', ne_s, ne_s', ne_ss, ne_ss', if_true, if_false, ite_self, ite_true, ite_false, Nat.zero_add, Nat.add_zero, Nat.reduceAdd, Nat.reduceLT, Nat.reduceEqDiff, Bool.not_false, Bool.not_true, decide_true, decide_false, eq_self, h0, r51_1]
theorem s52 {t : Tx} (hp : H.get p = .rows 256 [boolsV digT]) (hl : t.len ≤ 1000000) : evF AP TT (n + 2) 52 [.str t.len t.code, .ptr p 0 0] H K = K (.str (trimR t.len t).len (trimR t.len t).code) H := by
  rw [r_fun look52]
  simp only [rdR1, rdRN, r_un1, r_convBS, r_convIS, r_isP, r_rngS, r_rngP, r_nxtS, r_nxtP, r_mkmap, r_lkp, r_idxA, v_pnn, v_ppn, v_qnn, v_qpn, r_slcS, r_again1, r_againN, ag_int, ag_bool, ag_str, ag_agg, r_seq, r_reg, r_op, r_op_y, r_op_n, r_op_u, r_move, r_get_v, r_get_t, r_get_c, r_lget_0, r_lget_s, r_lset_0, r_lset_s, r_kOp_t, r_kOp_v, r_kOp_o, r_kReg, r_kSeq_n, r_kSeq_e, r_kSeq_r, r_kBlk_n, r_kBlk_e, r_kBlk_r, r_kBlk_o, r_kLoop_n, r_kLoop_e, r_kLoop_r, r_ops_nil, r_bin, r_binB, r_binP, r_eql, r_neq, r_lss, r_leq, r_gtr, r_geq, r_add, r_sub, r_mul, v_eqs, v_nes, r_opt, r_pick, r_pick_t, r_pick_f, r_not, v_not, r_ret, r_exit, r_skip, r_cond_t, r_cond_f, r_block, r_loop, r_kEnd_n, r_kEnd_r, r_giveO, r_consO, r_evR_0, r_evR_o, r_evR_1, r_evR_N, r_give_0, r_give_1, r_give_2, initV, r_nilck, v_ckp, v_ckf, r_fadr, v_fadr, r_load1, rd1, rdN, v_rd0, rdRow_0, rdRow_s, r_loadN, r_store, v_wrV, v_wrA, v_rdA0, v_some, r_putK, r_alloc, r_box, r_boxK, r_build, r_aggK, fill_0, fill_s, fillK_1, putRow_0, putRow_s, c_agg, c_int, c_bool, c_str, c_slc, c_nils, c_fn, c_ptr, r_buildS, r_rowsK1, fillR_1, fillO_1, r_append, r_fld1, r_idxS, r_idxStr, r_len, v_lenS, v_lenL, v_lenN, r_slcStr, v_sub, map_some, map_none, r_call, r_callv, v_callf, r_ext, v_ext0, v_exts, r_mkfn, opds, r_conv, v_conv, llen_0, llen_s, n_of, ii_eq, ii_lt, ii_le, get_put, get_add, next_put, next_add, put_put, add_put', ne_s, ne_s', ne_ss, ne_ss', if_true, if_false, ite_self, ite_true, ite_false, Nat.zero_add, Nat.add_zero, Nat.reduceAdd, Nat.reduceLT, Nat.reduceEqDiff, Bool.not_false, Bool.not_true, decide_true, decide_false, eq_self, d52]
  exact loop52 hp t.len manyRounds t _ (Nat.le_refl _) (by unfold manyRounds; omega) (by omega)
theorem s51 {t : Tx} (hp : H.get p = .rows 256 [boolsV digT]) (hl : t.len ≤ 1000000) : evF AP TT (n + 2) 51 [.str t.len t.code, .ptr p 0 0] H K = K (.str (trimL t.len t).len (trimL t.len t).code) H := by
  rw [r_fun look51]
  simp only [rdR1, rdRN, r_un1, r_convBS, r_convIS, r_isP, r_rngS, r_rngP, r_nxtS, r_nxtP, r_mkmap, r_lkp, r_idxA, v_pnn, v_ppn, v_qnn, v_qpn, r_slcS, r_again1, r_againN, ag_int, ag_bool, ag_str, ag_agg, r_seq, r_reg, r_op, r_op_y, r_op_n, r_op_u, r_move, r_get_v, r_get_t, r_get_c, r_lget_0, r_lget_s, r_lset_0, r_lset_s, r_kOp_t, r_kOp_v, r_kOp_o, r_kReg, r_kSeq_n, r_kSeq_e, r_kSeq_r, r_kBlk_n, r_kBlk_e, r_kBlk_r, r_kBlk_o, r_kLoop_n, r_kLoop_e, r_kLoop_r, r_ops_nil, r_bin, r_binB, r_binP, r_eql, r_neq, r_lss, r_leq, r_gtr, r_geq, r_add, r_sub, r_mul, v_eqs, v_nes, r_opt, r_pick, r_pick_t, r_pick_f, r_not, v_not, r_ret, r_exit, r_skip, r_cond_t, r_cond_f, r_block, r_loop, r_kEnd_n, r_kEnd_r, r_giveO, r_consO, r_evR_0, r_evR_o, r_evR_1, r_evR_N, r_give_0, r_give_1, r_give_2, initV, r_nilck, v_ckp, v_ckf, r_fadr, v_fadr, r_load1, rd1, rdN, v_rd0, rdRow_0, rdRow_s, r_loadN, r_store, v_wrV, v_wrA, v_rdA0, v_some, r_putK, r_alloc, r_box, r_boxK, r_build, r_aggK, fill_0, fill_s, fillK_1, putRow_0, putRow_s, c_agg, c_int, c_bool, c_str, c_slc, c_nils, c_fn, c_ptr, r_buildS, r_rowsK1, fillR_1, fillO_1, r_append, r_fld1, r_idxS, r_idxStr, r_len, v_lenS, v_lenL, v_lenN, r_slcStr, v_sub, map_some, map_none, r_call, r_callv, v_callf, r_ext, v_ext0, v_exts, r_mkfn, opds, r_conv, v_conv, llen_0, llen_s, n_of, ii_eq, ii_lt, ii_le, get_put, get_add, next_put, next_add, put_put, add_put', ne_s, ne_s', ne_ss, ne_ss', if_true, if_false, ite_self, ite_true, ite_false, Nat.zero_add, Nat.add_zero, Nat.reduceAdd, Nat.reduceLT, Nat.reduceEqDiff, Bool.not_false, Bool.not_true, decide_true, decide_false, eq_self, d51]
  exact loop51 hp t.len manyRounds t _ (Nat.le_refl _) (by unfold manyRounds; omega) (by omega)
theorem s50 : evF AP TT (n + 1) 50 [.str 10 270211885617516653982000] H K = K (.tup [.agg (boolsV digT), .bool true]) H := r_known digs_known
/-- Trim. -/
theorem s43 {t : Tx} (hl : t.len ≤ 1000000) (h0 : 0 < t.len) (hK : ∀ H' n' c', Grow H H' → H'.gl = H.gl → (Nat.beq n' 0 && Nat.beq c' 0) = allDigits t → K (.str n' c') H') :
    evF AP TT (n + 3) 43 [.str t.len t.code, .str 10 270211885617516653982000] H K := by
  rw [r_fun look43]
  have f0 : (Nat.beq t.len 0 && Nat.beq t.code 0) = false := by
    have : Nat.beq t.len 0 = false := by
      cases h : Nat.beq t.len 0 with
      | false => rfl
      | true => have := Nat.eq_of_beq_eq_true h; omega
    rw [this]; rfl
  have f1 : (Nat.beq 10 0 && Nat.beq 270211885617516653982000 0) = false := rfl
  have f2 : (10 = 1) = False := by simp
  have hR := trimR_len t.len t
  have hp : ∀ (R : List (List AVal)), (H.add (.rows 256 [boolsV digT])).get H.next = .rows 256 [boolsV digT] := fun _ => by rw [get_add, if_pos rfl]
  have g1 : ∀ K, evF AP TT (n + 2) 52 [.str t.len t.code, .ptr H.next 0 0] (H.add (.rows 256 [boolsV digT])) K = K (.str (trimR t.len t).len (trimR t.len t).code) (H.add (.rows 256 [boolsV digT])) := fun K => s52 (hp []) hl
  have g2 : ∀ K, evF AP TT (n + 2) 51 [.str (trimR t.len t).len (trimR t.len t).code, .ptr H.next 0 0] (H.add (.rows 256 [boolsV digT])) K = K (.str (trimL (trimR t.len t).len (trimR t.len t)).len (trimL (trimR t.len t).len (trimR t.len t)).code) (H.add (.rows 256 [boolsV digT])) := fun K => s51 (hp []) (by omega)
  simp only [rdR1, rdRN, r_un1, r_convBS, r_convIS, r_isP, r_rngS, r_rngP, r_nxtS, r_nxtP, r_mkmap, r_lkp, r_idxA, v_pnn, v_ppn, v_qnn, v_qpn, r_slcS, r_again1, r_againN, ag_int, ag_bool, ag_str, ag_agg, r_seq, r_reg, r_op, r_op_y, r_op_n, r_op_u, r_move, r_get_v, r_get_t, r_get_c, r_lget_0, r_lget_s, r_lset_0, r_lset_s, r_kOp_t, r_kOp_v, r_kOp_o, r_kReg, r_kSeq_n, r_kSeq_e, r_kSeq_r, r_kBlk_n, r_kBlk_e, r_kBlk_r, r_kBlk_o, r_kLoop_n, r_kLoop_e, r_kLoop_r, r_ops_nil, r_bin, r_binB, r_binP, r_eql, r_neq, r_lss, r_leq, r_gtr, r_geq, r_add, r_sub, r_mul, v_eqs, v_nes, r_opt, r_pick, r_pick_t, r_pick_f, r_not, v_not, r_ret, r_exit, r_skip, r_cond_t, r_cond_f, r_block, r_loop, r_kEnd_n, r_kEnd_r, r_giveO, r_consO, r_evR_0, r_evR_o, r_evR_1, r_evR_N, r_give_0, r_give_1, r_give_2, initV, r_nilck, v_ckp, v_ckf, r_fadr, v_fadr, r_load1, rd1, rdN, v_rd0, rdRow_0, rdRow_s, r_loadN, r_store, v_wrV, v_wrA, v_rdA0, v_some, r_putK, r_alloc, r_box, r_boxK, r_build, r_aggK, fill_0, fill_s, fillK_1, putRow_0, putRow_s, c_agg, c_int, c_bool, c_str, c_slc, c_nils, c_fn, c_ptr, r_buildS, r_rowsK1, fillR_1, fillO_1, r_append, r_fld1, r_idxS, r_idxStr, r_len, v_lenS, v_lenL, v_lenN, r_slcStr, v_sub, map_some, map_none, r_call, r_callv, v_callf, r_ext, v_ext0, v_exts, r_mkfn, opds, r_conv, v_conv, llen_0, llen_s, n_of, ii_eq, ii_lt, ii_le, get_put, get_add, next_put, next_add, put_put, add_put', ne_s, ne_s', ne_ss, ne_ss', if_true, if_false, ite_self, ite_true, ite_false, Nat.zero_add, Nat.add_zero, Nat.reduceAdd, Nat.reduceLT, Nat.reduceEqDiff, Bool.not_false, Bool.not_true, decide_true, decide_false, eq_self, d43, f0, f1, f2, s50, llen_digs, g1, g2]
  refine hK _ _ _ Grow.add rfl ?_
  rw [Bool.eq_iff_iff, Bool.and_eq_true, Nat.beq_eq, Nat.beq_eq, ← trimR_all t.len t]
  constructor
  · intro h; exact (trimL_zero (Nat.le_refl _)).1 h.1
  · intro h
    have h2 := (trimL_zero (Nat.le_refl _)).2 h
    exact ⟨h2, trimL_fit _ _ (trimR_fit _ _ (fun hh => by omega)) h2⟩
end
end Dt
