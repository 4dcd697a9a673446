/- A part of the abstract machine and of the proof that the program does what it reckons; no conditions. -/
import Derived.Test.YtmndopeencbamaaR3
namespace Dt
open Go
set_option linter.all false
inductive SOut where
  | err (a e : Nat)
  | fin (out : List Tok)
  | nxt (begun : Bool) (i : Nat) (st : List Bl) (out : List Tok)
def sBehind (toks : List Tok) (t : Tok) (i : Nat) (st : List Bl) (out : List Tok) : SOut :=
  if opensT t then
    (if isW (cur toks (i + 1)) 1 123 then
      (if 60 ≤ st.length then .err (cur toks (i + 1)).at_ 2 else .nxt false (i + 2) (⟨true, 0, false, 0⟩ :: st) (out ++ [mkT 4 (cur toks (i + 1)).tn (cur toks (i + 1)).tc (cur toks (i + 1))]))
     else if (cur toks (i + 1)).kind = 7 ∨ (cur toks (i + 1)).col ≤ colOf st then .nxt false (i + 1) st (out ++ [mkT 4 0 0 (cur toks (i + 1))] ++ [mkT 5 0 0 (cur toks (i + 1))])
     else if 60 ≤ st.length then .err (cur toks (i + 1)).at_ 2
     else .nxt true (i + 1) (⟨false, (cur toks (i + 1)).col, isW t 3 7628140, 0⟩ :: st) (out ++ [mkT 4 0 0 (cur toks (i + 1))]))
  else .nxt false (i + 1) st out
def sPut (t : Tok) (r : Bool × List Bl × List Tok) : List Tok := if r.1 then r.2.2 else r.2.2 ++ [t]
def sIn (t : Tok) (st : List Bl) (out : List Tok) : List Bl × List Tok := if isW t 2 28265 then sInO t (letIn st 0) st out else (st, out)
def sTok (toks : List Tok) (t : Tok) (i : Nat) (st : List Bl) (out : List Tok) : SOut := sBehind toks t i (sBrace t st out).2.1 (sPut t (sBrace t st out))
def sRest (toks : List Tok) (t : Tok) (i : Nat) (st : List Bl) (out : List Tok) : SOut := sTok toks t i (sIn t st out).1 (sIn t st out).2
def sLineO (toks : List Tok) (begun : Bool) (i : Nat) (st : List Bl) (out : List Tok) : Option (List Bl × List Tok) :=
  if begun = false ∧ 0 < i ∧ (cur toks (i - 1)).line < (cur toks i).line then sLine (cur toks i) st out else some (st, out)
def sAfter (toks : List Tok) (t : Tok) (i : Nat) : Option (List Bl × List Tok) → SOut
  | none => .err t.at_ 42
  | some p => sRest toks t i p.1 p.2
def sEnd (t : Tok) : Option (List Tok) → SOut
  | none => .err t.at_ 42
  | some out => .fin (out ++ [t])
def sStep (toks : List Tok) (begun : Bool) (i : Nat) (st : List Bl) (out : List Tok) : SOut :=
  if (cur toks i).kind = 7 then sEnd (cur toks i) (sLast (cur toks i) st out) else sAfter toks (cur toks i) i (sLineO toks begun i st out)
def sRun (toks : List Tok) : Nat → Bool → Nat → List Bl → List Tok → List Tok × Nat × Nat
  | 0, _, _, _, _ => ([], 0, 0)
  | k + 1, begun, i, st, out => match sStep toks begun i st out with
    | .err a e => ([], a, e)
    | .fin out => (out, 0, 0)
    | .nxt b i st out => sRun toks k b i st out

section
variable {F : Fr} {q : Nat} {vin vo vs : AVal} {H : Heap} {st : List Bl} {out : List Tok} {a : Nat} {K : AVal → Heap → Prop} {n : Nat} {t u : Tok} {tb nb i r : Nat} {a5 a6 a7 a8 a9 a10 a11 a12 a13 a14 a15 : AVal} {toks : List Tok} {ts : List AVal} {call : CallP}
/-- What stands behind the loop. -/
abbrev KB (call : CallP) (K : AVal → Heap → Prop) : KP := kBlk 0 (kSeq call r10_14 (kEnd [.opd (.v 1), .opd (.v 2), .opd (.v 3)] K))
abbrev KN (call : CallP) (r : Nat) (K : AVal → Heap → Prop) : KP := kBlk 1 (kSeq call r10_12 (kLoop call b10_13 r (KB call K)))
/-- What must hold of what stands behind a round. -/
structure After (F : Fr) (q : Nat) (vin : AVal) (a : Nat) (call : CallP) (r : Nat) (K : AVal → Heap → Prop) (o : SOut) : Prop where
  ret : ∀ a' e, o = .err a' e → ∀ H', Sees F H' → K (.tup [.nils, .int .i64 (a' : Int), .int .i64 (e : Int)]) H'
  perr : ∀ a', o = .err a' 2 → ∀ H' vo' vs' st' out' b (i : Nat) a7 a8 a9 a10 a11 a12 a13 a14 a15, RI F q H' vo' vs' st' out' 2 a' → loopOf call b10_13 r [vin, .nils, .int .i64 ((0 : Nat) : Int), .int .i64 ((0 : Nat) : Int), .ptr q 0 0, .bool b, .int .i64 (i : Int), a7, a8, a9, a10, a11, a12, a13, a14, a15] H' (KB call K)
  nxt : ∀ b i st' out', o = .nxt b i st' out' → ∀ H' vo' vs' a7 a8 a9 a10 a11 a12 a13 a14 a15, RI F q H' vo' vs' st' out' 0 a → loopOf call b10_13 r [vin, .nils, .int .i64 ((0 : Nat) : Int), .int .i64 ((0 : Nat) : Int), .ptr q 0 0, .bool b, .int .i64 (i : Int), a7, a8, a9, a10, a11, a12, a13, a14, a15] H' (KB call K)
  fin : ∀ out', o = .fin out' → ∀ H' v', Sees F H' → Sl F H' v' 5 (out'.map tokRow) → K (.tup [v', .int .i64 ((0 : Nat) : Int), .int .i64 ((0 : Nat) : Int)]) H'
theorem After.set {o : SOut} (h : After F q vin a call r K o) {b : Nat} {B : Blk} (hb : F b = none) : After (F.set b B) q vin a call r K o := by
  have hs : ∀ {H'}, Sees (F.set b B) H' → Sees F H' := fun hs c C hc => hs c C (by rw [Fr.set_ne (fun e => by rw [e, hb] at hc; cases hc)]; exact hc)
  refine ⟨fun a' e ho H' h1 => h.ret a' e ho H' (hs h1), fun a' ho H' vo' vs' st' out' b i a7 a8 a9 a10 a11 a12 a13 a14 a15 h1 => h.perr a' ho H' vo' vs' st' out' b i _ _ _ _ _ _ _ _ _ (h1.drop hb), fun b i st' out' ho H' vo' vs' a7 a8 a9 a10 a11 a12 a13 a14 a15 h1 => h.nxt b i st' out' ho H' vo' vs' _ _ _ _ _ _ _ _ _ (h1.drop hb), fun out' ho H' v' h1 h2 => h.fin out' ho H' v' (hs h1) (h2.frame fun c hc => ?_)⟩
  have := h2.free hc
  by_cases e : c = b
  · rw [e, Fr.set_same] at this; cases this
  · rw [Fr.set_ne e] at this; exact this

theorem up_i (hi : i ≤ 2000000) : IntKind.i64.wrap ((i : Int) + ((1 : Nat) : Int)) = ((i + 1 : Nat) : Int) := w_add (by omega)

/-- Behind a token that opens a block, which is not explicit. -/
theorem k10_8 (h : RI F q H vo vs st out 0 a) (ht : F tb = some (.rows 5 [tokRow t])) (hn : F nb = some (.rows 5 [tokRow (cur toks (i + 1))])) (hb : out.length + st.length + 4 < 59990) (hl : st.length ≤ 60)
    (ho : opensT t = true) (hw : isW (cur toks (i + 1)) 1 123 = false) (hi : i ≤ 1000000) (hA : After F q vin a (evF AP (look table) (n + 3)) r K (sBehind toks t i st out)) :
    evC AP (evF AP (look table) (n + 3)) r10_8 [vin, .nils, .int .i64 ((0 : Nat) : Int), .int .i64 ((0 : Nat) : Int), .ptr q 0 0, .bool false, .int .i64 (i : Int), .ptr tb 0 0, a8, a9, a10, a11, a12, .ptr nb 0 0, .int .i64 (colOf st : Int), a15] ts H (KN (evF AP (look table) (n + 3)) r K) := by
  have hnb := (h.sees _ _ hn).2
  unfold sBehind at hA
  rw [if_pos ho, hw] at hA
  simp only [Bool.false_eq_true, if_false] at hA
  have gi := up_i (i := i) (by omega)
  simp only [v_pnn, v_ppn, v_qnn, v_qpn, r_slcS, r_again1, r_againN, ag_int, ag_bool, ag_str, ag_agg, r_seq, r_reg, r_op, r_op_y, r_op_n, r_op_u, r_move, r_get_v, r_get_t, r_get_c, r_lget_0, r_lget_s, r_lset_0, r_lset_s, r_kOp_t, r_kOp_v, r_kOp_o, r_kReg, r_kSeq_n, r_kSeq_e, r_kSeq_r, r_kBlk_n, r_kBlk_e, r_kBlk_r, r_kBlk_o, r_kLoop_n, r_kLoop_e, r_kLoop_r, r_ops_nil, r_bin, r_binB, r_binP, r_eql, r_neq, r_lss, r_leq, r_gtr, r_geq, r_add, r_sub, r_mul, v_eqs, v_nes, r_opt, r_pick, r_pick_t, r_pick_f, r_not, v_not, r_ret, r_exit, r_skip, r_cond_t, r_cond_f, r_block, r_loop, r_kEnd_n, r_kEnd_r, r_giveO, r_consO, r_evR_0, r_evR_o, r_evR_1, r_evR_N, r_give_0, r_give_1, r_give_2, initV, r_nilck, v_ckp, v_ckf, r_fadr, v_fadr, r_load1, rd1, rdN, v_rd0, rdRow_0, rdRow_s, r_loadN, r_store, v_wrV, v_wrA, v_rdA0, v_some, r_putK, r_alloc, r_box, r_boxK, r_build, r_aggK, fill_0, fill_s, fillK_1, putRow_0, putRow_s, c_agg, c_int, c_bool, c_str, c_slc, c_nils, c_fn, c_ptr, r_buildS, r_rowsK1, fillR_1, fillO_1, r_append, r_fld1, r_idxS, r_idxStr, r_len, v_lenS, v_lenL, v_lenN, r_slcStr, v_sub, map_some, map_none, r_call, r_callv, v_callf, r_ext, v_ext0, v_exts, r_mkfn, opds, r_conv, v_conv, llen_0, llen_s, n_of, ii_eq, ii_lt, ii_le, get_put, get_add, next_put, next_add, put_put, add_put', ne_s, ne_s', ne_ss, ne_ss', if_true, if_false, ite_self, ite_true, ite_false, Nat.zero_add, Nat.add_zero, Nat.reduceAdd, Nat.reduceLT, Nat.reduceEqDiff, Bool.not_false, Bool.not_true, decide_true, decide_false, eq_self, tk_f0, tk_f1, tk_f2, tok_blk, tok_agg, tk_0, tk_1, tk_2, tk_3, tk_4, tk_len, tk_same, tk_w0, tk_w1, r10_8, hnb]
  refine t18 h (by omega) ?_
  intro H1 vo1 vs1 h1
  have hnb1 := (h1.sees _ _ hn).2
  have htb1 := (h1.sees _ _ ht).2
  by_cases c1 : (cur toks (i + 1)).kind = 7
  · rw [if_pos (Or.inl c1)] at hA
    simp only [v_pnn, v_ppn, v_qnn, v_qpn, r_slcS, r_again1, r_againN, ag_int, ag_bool, ag_str, ag_agg, r_seq, r_reg, r_op, r_op_y, r_op_n, r_op_u, r_move, r_get_v, r_get_t, r_get_c, r_lget_0, r_lget_s, r_lset_0, r_lset_s, r_kOp_t, r_kOp_v, r_kOp_o, r_kReg, r_kSeq_n, r_kSeq_e, r_kSeq_r, r_kBlk_n, r_kBlk_e, r_kBlk_r, r_kBlk_o, r_kLoop_n, r_kLoop_e, r_kLoop_r, r_ops_nil, r_bin, r_binB, r_binP, r_eql, r_neq, r_lss, r_leq, r_gtr, r_geq, r_add, r_sub, r_mul, v_eqs, v_nes, r_opt, r_pick, r_pick_t, r_pick_f, r_not, v_not, r_ret, r_exit, r_skip, r_cond_t, r_cond_f, r_block, r_loop, r_kEnd_n, r_kEnd_r, r_giveO, r_consO, r_evR_0, r_evR_o, r_evR_1, r_evR_N, r_give_0, r_give_1, r_give_2, initV, r_nilck, v_ckp, v_ckf, r_fadr, v_fadr, r_load1, rd1, rdN, v_rd0, rdRow_0, rdRow_s, r_loadN, r_store, v_wrV, v_wrA, v_rdA0, v_some, r_putK, r_alloc, r_box, r_boxK, r_build, r_aggK, fill_0, fill_s, fillK_1, putRow_0, putRow_s, c_agg, c_int, c_bool, c_str, c_slc, c_nils, c_fn, c_ptr, r_buildS, r_rowsK1, fillR_1, fillO_1, r_append, r_fld1, r_idxS, r_idxStr, r_len, v_lenS, v_lenL, v_lenN, r_slcStr, v_sub, map_some, map_none, r_call, r_callv, v_callf, r_ext, v_ext0, v_exts, r_mkfn, opds, r_conv, v_conv, llen_0, llen_s, n_of, ii_eq, ii_lt, ii_le, get_put, get_add, next_put, next_add, put_put, add_put', ne_s, ne_s', ne_ss, ne_ss', if_true, if_false, ite_self, ite_true, ite_false, Nat.zero_add, Nat.add_zero, Nat.reduceAdd, Nat.reduceLT, Nat.reduceEqDiff, Bool.not_false, Bool.not_true, decide_true, decide_false, eq_self, tk_f0, tk_f1, tk_f2, tok_blk, tok_agg, tk_0, tk_1, tk_2, tk_3, tk_4, tk_len, tk_same, tk_w0, tk_w1, hnb1, c1]
    refine t18 h1 (by simp; omega) ?_
    intro H2 vo2 vs2 h2
    simp only [v_pnn, v_ppn, v_qnn, v_qpn, r_slcS, r_again1, r_againN, ag_int, ag_bool, ag_str, ag_agg, r_seq, r_reg, r_op, r_op_y, r_op_n, r_op_u, r_move, r_get_v, r_get_t, r_get_c, r_lget_0, r_lget_s, r_lset_0, r_lset_s, r_kOp_t, r_kOp_v, r_kOp_o, r_kReg, r_kSeq_n, r_kSeq_e, r_kSeq_r, r_kBlk_n, r_kBlk_e, r_kBlk_r, r_kBlk_o, r_kLoop_n, r_kLoop_e, r_kLoop_r, r_ops_nil, r_bin, r_binB, r_binP, r_eql, r_neq, r_lss, r_leq, r_gtr, r_geq, r_add, r_sub, r_mul, v_eqs, v_nes, r_opt, r_pick, r_pick_t, r_pick_f, r_not, v_not, r_ret, r_exit, r_skip, r_cond_t, r_cond_f, r_block, r_loop, r_kEnd_n, r_kEnd_r, r_giveO, r_consO, r_evR_0, r_evR_o, r_evR_1, r_evR_N, r_give_0, r_give_1, r_give_2, initV, r_nilck, v_ckp, v_ckf, r_fadr, v_fadr, r_load1, rd1, rdN, v_rd0, rdRow_0, rdRow_s, r_loadN, r_store, v_wrV, v_wrA, v_rdA0, v_some, r_putK, r_alloc, r_box, r_boxK, r_build, r_aggK, fill_0, fill_s, fillK_1, putRow_0, putRow_s, c_agg, c_int, c_bool, c_str, c_slc, c_nils, c_fn, c_ptr, r_buildS, r_rowsK1, fillR_1, fillO_1, r_append, r_fld1, r_idxS, r_idxStr, r_len, v_lenS, v_lenL, v_lenN, r_slcStr, v_sub, map_some, map_none, r_call, r_callv, v_callf, r_ext, v_ext0, v_exts, r_mkfn, opds, r_conv, v_conv, llen_0, llen_s, n_of, ii_eq, ii_lt, ii_le, get_put, get_add, next_put, next_add, put_put, add_put', ne_s, ne_s', ne_ss, ne_ss', if_true, if_false, ite_self, ite_true, ite_false, Nat.zero_add, Nat.add_zero, Nat.reduceAdd, Nat.reduceLT, Nat.reduceEqDiff, Bool.not_false, Bool.not_true, decide_true, decide_false, eq_self, r10_12, gi]
    exact hA.nxt _ _ _ _ rfl _ _ _ _ _ _ _ _ _ _ _ _ h2
  by_cases c2 : (cur toks (i + 1)).col ≤ colOf st
  · rw [if_pos (Or.inr c2)] at hA
    simp only [v_pnn, v_ppn, v_qnn, v_qpn, r_slcS, r_again1, r_againN, ag_int, ag_bool, ag_str, ag_agg, r_seq, r_reg, r_op, r_op_y, r_op_n, r_op_u, r_move, r_get_v, r_get_t, r_get_c, r_lget_0, r_lget_s, r_lset_0, r_lset_s, r_kOp_t, r_kOp_v, r_kOp_o, r_kReg, r_kSeq_n, r_kSeq_e, r_kSeq_r, r_kBlk_n, r_kBlk_e, r_kBlk_r, r_kBlk_o, r_kLoop_n, r_kLoop_e, r_kLoop_r, r_ops_nil, r_bin, r_binB, r_binP, r_eql, r_neq, r_lss, r_leq, r_gtr, r_geq, r_add, r_sub, r_mul, v_eqs, v_nes, r_opt, r_pick, r_pick_t, r_pick_f, r_not, v_not, r_ret, r_exit, r_skip, r_cond_t, r_cond_f, r_block, r_loop, r_kEnd_n, r_kEnd_r, r_giveO, r_consO, r_evR_0, r_evR_o, r_evR_1, r_evR_N, r_give_0, r_give_1, r_give_2, initV, r_nilck, v_ckp, v_ckf, r_fadr, v_fadr, r_load1, rd1, rdN, v_rd0, rdRow_0, rdRow_s, r_loadN, r_store, v_wrV, v_wrA, v_rdA0, v_some, r_putK, r_alloc, r_box, r_boxK, r_build, r_aggK, fill_0, fill_s, fillK_1, putRow_0, putRow_s, c_agg, c_int, c_bool, c_str, c_slc, c_nils, c_fn, c_ptr, r_buildS, r_rowsK1, fillR_1, fillO_1, r_append, r_fld1, r_idxS, r_idxStr, r_len, v_lenS, v_lenL, v_lenN, r_slcStr, v_sub, map_some, map_none, r_call, r_callv, v_callf, r_ext, v_ext0, v_exts, r_mkfn, opds, r_conv, v_conv, llen_0, llen_s, n_of, ii_eq, ii_lt, ii_le, get_put, get_add, next_put, next_add, put_put, add_put', ne_s, ne_s', ne_ss, ne_ss', if_true, if_false, ite_self, ite_true, ite_false, Nat.zero_add, Nat.add_zero, Nat.reduceAdd, Nat.reduceLT, Nat.reduceEqDiff, Bool.not_false, Bool.not_true, decide_true, decide_false, eq_self, tk_f0, tk_f1, tk_f2, tok_blk, tok_agg, tk_0, tk_1, tk_2, tk_3, tk_4, tk_len, tk_same, tk_w0, tk_w1, hnb1, c1, c2]
    refine t18 h1 (by simp; omega) ?_
    intro H2 vo2 vs2 h2
    simp only [v_pnn, v_ppn, v_qnn, v_qpn, r_slcS, r_again1, r_againN, ag_int, ag_bool, ag_str, ag_agg, r_seq, r_reg, r_op, r_op_y, r_op_n, r_op_u, r_move, r_get_v, r_get_t, r_get_c, r_lget_0, r_lget_s, r_lset_0, r_lset_s, r_kOp_t, r_kOp_v, r_kOp_o, r_kReg, r_kSeq_n, r_kSeq_e, r_kSeq_r, r_kBlk_n, r_kBlk_e, r_kBlk_r, r_kBlk_o, r_kLoop_n, r_kLoop_e, r_kLoop_r, r_ops_nil, r_bin, r_binB, r_binP, r_eql, r_neq, r_lss, r_leq, r_gtr, r_geq, r_add, r_sub, r_mul, v_eqs, v_nes, r_opt, r_pick, r_pick_t, r_pick_f, r_not, v_not, r_ret, r_exit, r_skip, r_cond_t, r_cond_f, r_block, r_loop, r_kEnd_n, r_kEnd_r, r_giveO, r_consO, r_evR_0, r_evR_o, r_evR_1, r_evR_N, r_give_0, r_give_1, r_give_2, initV, r_nilck, v_ckp, v_ckf, r_fadr, v_fadr, r_load1, rd1, rdN, v_rd0, rdRow_0, rdRow_s, r_loadN, r_store, v_wrV, v_wrA, v_rdA0, v_some, r_putK, r_alloc, r_box, r_boxK, r_build, r_aggK, fill_0, fill_s, fillK_1, putRow_0, putRow_s, c_agg, c_int, c_bool, c_str, c_slc, c_nils, c_fn, c_ptr, r_buildS, r_rowsK1, fillR_1, fillO_1, r_append, r_fld1, r_idxS, r_idxStr, r_len, v_lenS, v_lenL, v_lenN, r_slcStr, v_sub, map_some, map_none, r_call, r_callv, v_callf, r_ext, v_ext0, v_exts, r_mkfn, opds, r_conv, v_conv, llen_0, llen_s, n_of, ii_eq, ii_lt, ii_le, get_put, get_add, next_put, next_add, put_put, add_put', ne_s, ne_s', ne_ss, ne_ss', if_true, if_false, ite_self, ite_true, ite_false, Nat.zero_add, Nat.add_zero, Nat.reduceAdd, Nat.reduceLT, Nat.reduceEqDiff, Bool.not_false, Bool.not_true, decide_true, decide_false, eq_self, r10_12, gi]
    exact hA.nxt _ _ _ _ rfl _ _ _ _ _ _ _ _ _ _ _ _ h2
  rw [if_neg (by simp [c1, c2])] at hA
  have hlet : (Nat.beq t.tn 3 && Nat.beq t.tc 7628140) = isW t 3 7628140 := (isW_2 (opens_kind2 ho) _ _).symm
  simp only [v_pnn, v_ppn, v_qnn, v_qpn, r_slcS, r_again1, r_againN, ag_int, ag_bool, ag_str, ag_agg, r_seq, r_reg, r_op, r_op_y, r_op_n, r_op_u, r_move, r_get_v, r_get_t, r_get_c, r_lget_0, r_lget_s, r_lset_0, r_lset_s, r_kOp_t, r_kOp_v, r_kOp_o, r_kReg, r_kSeq_n, r_kSeq_e, r_kSeq_r, r_kBlk_n, r_kBlk_e, r_kBlk_r, r_kBlk_o, r_kLoop_n, r_kLoop_e, r_kLoop_r, r_ops_nil, r_bin, r_binB, r_binP, r_eql, r_neq, r_lss, r_leq, r_gtr, r_geq, r_add, r_sub, r_mul, v_eqs, v_nes, r_opt, r_pick, r_pick_t, r_pick_f, r_not, v_not, r_ret, r_exit, r_skip, r_cond_t, r_cond_f, r_block, r_loop, r_kEnd_n, r_kEnd_r, r_giveO, r_consO, r_evR_0, r_evR_o, r_evR_1, r_evR_N, r_give_0, r_give_1, r_give_2, initV, r_nilck, v_ckp, v_ckf, r_fadr, v_fadr, r_load1, rd1, rdN, v_rd0, rdRow_0, rdRow_s, r_loadN, r_store, v_wrV, v_wrA, v_rdA0, v_some, r_putK, r_alloc, r_box, r_boxK, r_build, r_aggK, fill_0, fill_s, fillK_1, putRow_0, putRow_s, c_agg, c_int, c_bool, c_str, c_slc, c_nils, c_fn, c_ptr, r_buildS, r_rowsK1, fillR_1, fillO_1, r_append, r_fld1, r_idxS, r_idxStr, r_len, v_lenS, v_lenL, v_lenN, r_slcStr, v_sub, map_some, map_none, r_call, r_callv, v_callf, r_ext, v_ext0, v_exts, r_mkfn, opds, r_conv, v_conv, llen_0, llen_s, n_of, ii_eq, ii_lt, ii_le, get_put, get_add, next_put, next_add, put_put, add_put', ne_s, ne_s', ne_ss, ne_ss', if_true, if_false, ite_self, ite_true, ite_false, Nat.zero_add, Nat.add_zero, Nat.reduceAdd, Nat.reduceLT, Nat.reduceEqDiff, Bool.not_false, Bool.not_true, decide_true, decide_false, eq_self, tk_f0, tk_f1, tk_f2, tok_blk, tok_agg, tk_0, tk_1, tk_2, tk_3, tk_4, tk_len, tk_same, tk_w0, tk_w1, hnb1, htb1, c1, c2, hlet, rb_agg]
  refine t19 h1 (by omega) ?_ ?_
  · intro hlt H2 vo2 vs2 h2
    rw [if_neg (by omega)] at hA
    simp only [v_pnn, v_ppn, v_qnn, v_qpn, r_slcS, r_again1, r_againN, ag_int, ag_bool, ag_str, ag_agg, r_seq, r_reg, r_op, r_op_y, r_op_n, r_op_u, r_move, r_get_v, r_get_t, r_get_c, r_lget_0, r_lget_s, r_lset_0, r_lset_s, r_kOp_t, r_kOp_v, r_kOp_o, r_kReg, r_kSeq_n, r_kSeq_e, r_kSeq_r, r_kBlk_n, r_kBlk_e, r_kBlk_r, r_kBlk_o, r_kLoop_n, r_kLoop_e, r_kLoop_r, r_ops_nil, r_bin, r_binB, r_binP, r_eql, r_neq, r_lss, r_leq, r_gtr, r_geq, r_add, r_sub, r_mul, v_eqs, v_nes, r_opt, r_pick, r_pick_t, r_pick_f, r_not, v_not, r_ret, r_exit, r_skip, r_cond_t, r_cond_f, r_block, r_loop, r_kEnd_n, r_kEnd_r, r_giveO, r_consO, r_evR_0, r_evR_o, r_evR_1, r_evR_N, r_give_0, r_give_1, r_give_2, initV, r_nilck, v_ckp, v_ckf, r_fadr, v_fadr, r_load1, rd1, rdN, v_rd0, rdRow_0, rdRow_s, r_loadN, r_store, v_wrV, v_wrA, v_rdA0, v_some, r_putK, r_alloc, r_box, r_boxK, r_build, r_aggK, fill_0, fill_s, fillK_1, putRow_0, putRow_s, c_agg, c_int, c_bool, c_str, c_slc, c_nils, c_fn, c_ptr, r_buildS, r_rowsK1, fillR_1, fillO_1, r_append, r_fld1, r_idxS, r_idxStr, r_len, v_lenS, v_lenL, v_lenN, r_slcStr, v_sub, map_some, map_none, r_call, r_callv, v_callf, r_ext, v_ext0, v_exts, r_mkfn, opds, r_conv, v_conv, llen_0, llen_s, n_of, ii_eq, ii_lt, ii_le, get_put, get_add, next_put, next_add, put_put, add_put', ne_s, ne_s', ne_ss, ne_ss', if_true, if_false, ite_self, ite_true, ite_false, Nat.zero_add, Nat.add_zero, Nat.reduceAdd, Nat.reduceLT, Nat.reduceEqDiff, Bool.not_false, Bool.not_true, decide_true, decide_false, eq_self, r10_12, gi]
    exact hA.nxt _ _ _ _ rfl _ _ _ _ _ _ _ _ _ _ _ _ h2
  · intro hge H2 vo2 vs2 h2
    rw [if_pos hge] at hA
    simp only [v_pnn, v_ppn, v_qnn, v_qpn, r_slcS, r_again1, r_againN, ag_int, ag_bool, ag_str, ag_agg, r_seq, r_reg, r_op, r_op_y, r_op_n, r_op_u, r_move, r_get_v, r_get_t, r_get_c, r_lget_0, r_lget_s, r_lset_0, r_lset_s, r_kOp_t, r_kOp_v, r_kOp_o, r_kReg, r_kSeq_n, r_kSeq_e, r_kSeq_r, r_kBlk_n, r_kBlk_e, r_kBlk_r, r_kBlk_o, r_kLoop_n, r_kLoop_e, r_kLoop_r, r_ops_nil, r_bin, r_binB, r_binP, r_eql, r_neq, r_lss, r_leq, r_gtr, r_geq, r_add, r_sub, r_mul, v_eqs, v_nes, r_opt, r_pick, r_pick_t, r_pick_f, r_not, v_not, r_ret, r_exit, r_skip, r_cond_t, r_cond_f, r_block, r_loop, r_kEnd_n, r_kEnd_r, r_giveO, r_consO, r_evR_0, r_evR_o, r_evR_1, r_evR_N, r_give_0, r_give_1, r_give_2, initV, r_nilck, v_ckp, v_ckf, r_fadr, v_fadr, r_load1, rd1, rdN, v_rd0, rdRow_0, rdRow_s, r_loadN, r_store, v_wrV, v_wrA, v_rdA0, v_some, r_putK, r_alloc, r_box, r_boxK, r_build, r_aggK, fill_0, fill_s, fillK_1, putRow_0, putRow_s, c_agg, c_int, c_bool, c_str, c_slc, c_nils, c_fn, c_ptr, r_buildS, r_rowsK1, fillR_1, fillO_1, r_append, r_fld1, r_idxS, r_idxStr, r_len, v_lenS, v_lenL, v_lenN, r_slcStr, v_sub, map_some, map_none, r_call, r_callv, v_callf, r_ext, v_ext0, v_exts, r_mkfn, opds, r_conv, v_conv, llen_0, llen_s, n_of, ii_eq, ii_lt, ii_le, get_put, get_add, next_put, next_add, put_put, add_put', ne_s, ne_s', ne_ss, ne_ss', if_true, if_false, ite_self, ite_true, ite_false, Nat.zero_add, Nat.add_zero, Nat.reduceAdd, Nat.reduceLT, Nat.reduceEqDiff, Bool.not_false, Bool.not_true, decide_true, decide_false, eq_self, r10_12, gi]
    exact hA.perr _ rfl _ _ _ _ _ _ _ _ _ _ _ _ _ _ _ _ h2

theorem sBrace_len (t : Tok) (st : List Bl) (out : List Tok) : (sBrace t st out).2.2.length ≤ out.length + 1 ∧ (sBrace t st out).2.1.length ≤ st.length ∧ (sPut t (sBrace t st out)).length + (sBrace t st out).2.1.length ≤ out.length + st.length + 1 := by
  unfold sBrace sPut
  split
  · refine ⟨by simp, by simp, ?_⟩
    simp; omega
  · cases st with
    | nil => simp
    | cons b st =>
      dsimp only
      split
      · split
        · simp; omega
        · split
          · split
            · simp; omega
            · simp; omega
          · simp; omega
      · simp; omega

def k9d : DC := .seq (.seq (.reg [⟨.tmp, .move (.v 4), .none⟩,
   ⟨.tmp, .nilck (.t 0), .none⟩,
   ⟨.tmp, .fadr 1 (.t 0), .none⟩,
   ⟨.tmp, .load1 (.t 0), .none⟩,
   ⟨.tmp, .len false (.t 0), .none⟩,
   ⟨.tmp, .bin .sub (.t 0) (.c (.int .i64 (.ofNat 1))), .none⟩,
   ⟨(.var 15), .move (.t 0), .none⟩]) (
 .block 10 (
  .loop b10_7))) r10_8
def k9c : DC := .seq (.seq (.reg [⟨.tmp, .move (.v 12), .none⟩,
   ⟨.tmp, .not (.t 0), .none⟩,
   ⟨.tmp, .move (.t 0), .none⟩,
   ⟨.tmp, .move (.v 4), .some ((.t 0), false)⟩,
   ⟨.tmp, .nilck (.t 0), .some ((.t 1), false)⟩,
   ⟨.tmp, .fadr 2 (.t 0), .some ((.t 2), false)⟩,
   ⟨.tmp, .load1 (.t 0), .some ((.t 3), false)⟩,
   ⟨.tmp, .bin .neq (.t 0) (.c (.int .i64 (.ofNat 0))), .some ((.t 4), false)⟩,
   ⟨.tmp, .pick (.t 5) (.c (.bool true)) (.t 0), .none⟩]) (
 .cond (.t 0) (
  .exit 1) (
  .skip))) (.seq (.reg [⟨.tmp, .move (.v 0), .none⟩,
   ⟨.tmp, .move (.v 6), .none⟩,
   ⟨.tmp, .bin .add (.t 0) (.c (.int .i64 (.ofNat 1))), .none⟩,
   ⟨.tmp, .idxS 5 (.t 2) (.t 0), .none⟩,
   ⟨.tmp, .loadN 5 (.t 0), .none⟩,
   ⟨(.var 13), .alloc [.int .i64 (.ofNat 0), .str 0 0, .int .i64 (.ofNat 0), .int .i64 (.ofNat 0), .int .i64 (.ofNat 0)], .none⟩,
   ⟨.no, .store 5 (.v 13) (.t 0), .none⟩]) (.seq (.seq (.reg [⟨.tmp, .fadr 0 (.v 13), .none⟩,
   ⟨.tmp, .load1 (.t 0), .none⟩,
   ⟨.tmp, .bin .eql (.t 0) (.c (.int .i64 (.ofNat 2))), .none⟩,
   ⟨.tmp, .move (.t 0), .none⟩,
   ⟨.tmp, .fadr 1 (.v 13), .some ((.t 0), true)⟩,
   ⟨.tmp, .load1 (.t 0), .some ((.t 1), true)⟩,
   ⟨.tmp, .bin .eql (.t 0) (.c (.str 1 123)), .some ((.t 2), true)⟩,
   ⟨.tmp, .pick (.t 3) (.t 0) (.c (.bool false)), .none⟩]) (
 .cond (.t 0) (
  .seq (.reg [⟨.tmp, .move (.v 4), .none⟩,
    ⟨.tmp, .loadN 5 (.v 13), .none⟩,
    ⟨.tmp, .call 18 [(.t 1), (.c (.int .i64 (.ofNat 4))), (.t 0), (.c (.bool true))], .none⟩]) (
  .seq (.reg [⟨.tmp, .move (.v 4), .none⟩,
    ⟨.tmp, .build [.int .i64 (.ofNat 0), .bool false, .int .i64 (.ofNat 0), .bool false] [(3, 1, (.c (.bool true)))], .none⟩,
    ⟨.tmp, .loadN 5 (.v 13), .none⟩,
    ⟨.tmp, .call 19 [(.t 2), (.t 1), (.t 0)], .none⟩]) (
  .seq (.reg [⟨.tmp, .move (.v 6), .none⟩,
    ⟨.tmp, .bin .add (.t 0) (.c (.int .i64 (.ofNat 1))), .none⟩,
    ⟨(.var 6), .move (.t 0), .none⟩]) (
  .exit 1)))) (
  .skip))) (.seq (.reg [⟨(.var 14), .move (.c (.int .i64 (.ofNat 0))), .none⟩]) k9d)))
def k9b : DC := .seq (.reg [⟨.tmp, .loadN 5 (.v 7), .none⟩,
   ⟨.tmp, .call 22 [(.t 0)], .none⟩,
   ⟨(.var 12), .move (.t 0), .none⟩]) k9c
def k9p : DC := .seq (.reg [⟨.tmp, .move (.v 11), .none⟩,
   ⟨.tmp, .not (.t 0), .none⟩,
   ⟨.tmp, .move (.t 0), .none⟩,
   ⟨.tmp, .move (.v 4), .some ((.t 0), true)⟩,
   ⟨.tmp, .nilck (.t 0), .some ((.t 1), true)⟩,
   ⟨.tmp, .fadr 2 (.t 0), .some ((.t 2), true)⟩,
   ⟨.tmp, .load1 (.t 0), .some ((.t 3), true)⟩,
   ⟨.tmp, .bin .eql (.t 0) (.c (.int .i64 (.ofNat 0))), .some ((.t 4), true)⟩,
   ⟨.tmp, .pick (.t 5) (.t 0) (.c (.bool false)), .none⟩]) (
 .cond (.t 0) (
  .seq (.seq (.reg [⟨.tmp, .move (.v 4), .none⟩,
    ⟨.tmp, .nilck (.t 0), .none⟩,
    ⟨.tmp, .fadr 0 (.t 0), .none⟩,
    ⟨.tmp, .load1 (.t 0), .none⟩,
    ⟨.tmp, .len false (.t 0), .none⟩,
    ⟨.tmp, .bin .geq (.t 0) (.c (.int .i64 (.ofNat 60000))), .none⟩]) (
  .cond (.t 0) (
   .seq (.reg [⟨.tmp, .fadr 2 (.v 7), .none⟩,
     ⟨.tmp, .load1 (.t 0), .none⟩,
     ⟨(.var 1), .move (.c (.nils)), .none⟩,
     ⟨(.var 2), .move (.t 0), .none⟩,
     ⟨(.var 3), .move (.c (.int .i64 (.ofNat 2))), .none⟩]) (
   .ret)) (
   .skip))) (
  .reg [⟨.tmp, .move (.v 4), .none⟩,
    ⟨.tmp, .move (.v 4), .none⟩,
    ⟨.tmp, .nilck (.t 0), .none⟩,
    ⟨.tmp, .fadr 0 (.t 0), .none⟩,
    ⟨.tmp, .load1 (.t 0), .none⟩,
    ⟨.tmp, .loadN 5 (.v 7), .none⟩,
    ⟨.tmp, .buildS 5 [[.int .i64 (.ofNat 0), .str 0 0, .int .i64 (.ofNat 0), .int .i64 (.ofNat 0), .int .i64 (.ofNat 0)]] [(0, (.t 0))], .none⟩,
    ⟨.tmp, .append 5 48 (.t 2) (.t 0), .none⟩,
    ⟨.tmp, .nilck (.t 7), .none⟩,
    ⟨.tmp, .fadr 0 (.t 0), .none⟩,
    ⟨.no, .store 1 (.t 0) (.t 2), .none⟩])) (
  .skip))
theorem r9_eq : r10_9 = .seq (.reg [⟨.tmp, .move (.v 4), .none⟩,
   ⟨.tmp, .loadN 5 (.v 7), .none⟩,
   ⟨.tmp, .call 21 [(.t 1), (.t 0)], .none⟩,
   ⟨(.var 11), .move (.t 0), .none⟩]) (.seq k9p k9b) := rfl
/-- From the rule of braces on. -/
theorem k10_9 (h : RI F q H vo vs st out 0 a) (hin : Inp F vin toks) (ht : F tb = some (.rows 5 [tokRow t])) (hb : out.length + st.length + 8 < 59990) (hl : st.length ≤ 60) (hbr : ∀ b ∈ st, 0 ≤ b.braces ∧ b.braces ≤ 1000000)
    (hi : i ≤ 1000000) (hnx : opensT t = true → i + 1 < toks.length) (hA : After F q vin a (evF AP (look table) (n + 3)) r K (sTok toks t i st out)) :
    evC AP (evF AP (look table) (n + 3)) r10_9 [vin, .nils, .int .i64 ((0 : Nat) : Int), .int .i64 ((0 : Nat) : Int), .ptr q 0 0, .bool false, .int .i64 (i : Int), .ptr tb 0 0, a8, a9, a10, a11, a12, a13, a14, a15] ts H (KN (evF AP (look table) (n + 3)) r K) := by
  have htb := (h.sees _ _ ht).2
  have gi := up_i (i := i) (by omega)
  obtain ⟨l1, l2, l3⟩ := sBrace_len t st out
  -- behind the token's own place
  have rest : ∀ (H1 : Heap) (vo1 vs1 : AVal) (ts : List AVal), RI F q H1 vo1 vs1 (sBrace t st out).2.1 (sPut t (sBrace t st out)) 0 a → ∀ a11 a12,
      evC AP (evF AP (look table) (n + 3)) k9b [vin, .nils, .int .i64 ((0 : Nat) : Int), .int .i64 ((0 : Nat) : Int), .ptr q 0 0, .bool false, .int .i64 (i : Int), .ptr tb 0 0, a8, a9, a10, a11, a12, a13, a14, a15] ts H1 (KN (evF AP (look table) (n + 3)) r K) := by
    intro H1 vo1 vs1 ts h1 a11 a12
    have htb1 := (h1.sees _ _ ht).2
    have q0 := lt_ne0 h1.hp
    have q1 := lt_ne1 h1.hp
    unfold sTok at hA
    cases ho : opensT t with
    | false =>
      unfold sBehind at hA
      rw [ho] at hA
      simp only [Bool.false_eq_true, if_false] at hA
      simp only [v_pnn, v_ppn, v_qnn, v_qpn, r_slcS, r_again1, r_againN, ag_int, ag_bool, ag_str, ag_agg, r_seq, r_reg, r_op, r_op_y, r_op_n, r_op_u, r_move, r_get_v, r_get_t, r_get_c, r_lget_0, r_lget_s, r_lset_0, r_lset_s, r_kOp_t, r_kOp_v, r_kOp_o, r_kReg, r_kSeq_n, r_kSeq_e, r_kSeq_r, r_kBlk_n, r_kBlk_e, r_kBlk_r, r_kBlk_o, r_kLoop_n, r_kLoop_e, r_kLoop_r, r_ops_nil, r_bin, r_binB, r_binP, r_eql, r_neq, r_lss, r_leq, r_gtr, r_geq, r_add, r_sub, r_mul, v_eqs, v_nes, r_opt, r_pick, r_pick_t, r_pick_f, r_not, v_not, r_ret, r_exit, r_skip, r_cond_t, r_cond_f, r_block, r_loop, r_kEnd_n, r_kEnd_r, r_giveO, r_consO, r_evR_0, r_evR_o, r_evR_1, r_evR_N, r_give_0, r_give_1, r_give_2, initV, r_nilck, v_ckp, v_ckf, r_fadr, v_fadr, r_load1, rd1, rdN, v_rd0, rdRow_0, rdRow_s, r_loadN, r_store, v_wrV, v_wrA, v_rdA0, v_some, r_putK, r_alloc, r_box, r_boxK, r_build, r_aggK, fill_0, fill_s, fillK_1, putRow_0, putRow_s, c_agg, c_int, c_bool, c_str, c_slc, c_nils, c_fn, c_ptr, r_buildS, r_rowsK1, fillR_1, fillO_1, r_append, r_fld1, r_idxS, r_idxStr, r_len, v_lenS, v_lenL, v_lenN, r_slcStr, v_sub, map_some, map_none, r_call, r_callv, v_callf, r_ext, v_ext0, v_exts, r_mkfn, opds, r_conv, v_conv, llen_0, llen_s, n_of, ii_eq, ii_lt, ii_le, get_put, get_add, next_put, next_add, put_put, add_put', ne_s, ne_s', ne_ss, ne_ss', if_true, if_false, ite_self, ite_true, ite_false, Nat.zero_add, Nat.add_zero, Nat.reduceAdd, Nat.reduceLT, Nat.reduceEqDiff, Bool.not_false, Bool.not_true, decide_true, decide_false, eq_self, tk_f0, tk_f1, tk_f2, tok_blk, tok_agg, tk_0, tk_1, tk_2, tk_3, tk_4, tk_len, tk_same, tk_w0, tk_w1, k9b, k9c, htb1, t22, ho, r10_12, gi]
      exact hA.nxt _ _ _ _ rfl _ _ _ _ _ _ _ _ _ _ _ _ (h1.grow Grow.add)
    | true =>
      have hi1 := hnx ho
      have h2 := h1.grow (Grow.add (x := .rows 5 [tokRow t]))
      obtain ⟨b, w, z, R, i1, i2, i3, i4⟩ := hin.at h2.sees (k := .i64) hi1
      have iA : rdCN 5 (.rows z R) w 0 = some (.agg (tokRow (cur toks (i + 1)))) := v_rdA i3 tk_len
      have h3 := h2.loc (.rows 5 [tokRow (cur toks (i + 1))])
      have f3 := h2.fresh
      have ht3 : F.set (H1.add (.rows 5 [tokRow t])).next (.rows 5 [tokRow (cur toks (i + 1))]) tb = some (.rows 5 [tokRow t]) := by
        rw [Fr.set_ne (fun e => by rw [e, f3] at ht; cases ht)]
        exact ht
      have hA3 := hA.set (B := .rows 5 [tokRow (cur toks (i + 1))]) f3
      rw [get_add] at i2
      cases hw : isW (cur toks (i + 1)) 1 123 with
      | true =>
        have hw' := hw
        have hk2 : (cur toks (i + 1)).kind = 2 := by
          simp [isW] at hw; exact hw.1
        rw [isW_2 hk2] at hw'
        unfold sBehind at hA3
        rw [if_pos ho, hw, if_pos rfl] at hA3
        simp only [v_pnn, v_ppn, v_qnn, v_qpn, r_slcS, r_again1, r_againN, ag_int, ag_bool, ag_str, ag_agg, r_seq, r_reg, r_op, r_op_y, r_op_n, r_op_u, r_move, r_get_v, r_get_t, r_get_c, r_lget_0, r_lget_s, r_lset_0, r_lset_s, r_kOp_t, r_kOp_v, r_kOp_o, r_kReg, r_kSeq_n, r_kSeq_e, r_kSeq_r, r_kBlk_n, r_kBlk_e, r_kBlk_r, r_kBlk_o, r_kLoop_n, r_kLoop_e, r_kLoop_r, r_ops_nil, r_bin, r_binB, r_binP, r_eql, r_neq, r_lss, r_leq, r_gtr, r_geq, r_add, r_sub, r_mul, v_eqs, v_nes, r_opt, r_pick, r_pick_t, r_pick_f, r_not, v_not, r_ret, r_exit, r_skip, r_cond_t, r_cond_f, r_block, r_loop, r_kEnd_n, r_kEnd_r, r_giveO, r_consO, r_evR_0, r_evR_o, r_evR_1, r_evR_N, r_give_0, r_give_1, r_give_2, initV, r_nilck, v_ckp, v_ckf, r_fadr, v_fadr, r_load1, rd1, rdN, v_rd0, rdRow_0, rdRow_s, r_loadN, r_store, v_wrV, v_wrA, v_rdA0, v_some, r_putK, r_alloc, r_box, r_boxK, r_build, r_aggK, fill_0, fill_s, fillK_1, putRow_0, putRow_s, c_agg, c_int, c_bool, c_str, c_slc, c_nils, c_fn, c_ptr, r_buildS, r_rowsK1, fillR_1, fillO_1, r_append, r_fld1, r_idxS, r_idxStr, r_len, v_lenS, v_lenL, v_lenN, r_slcStr, v_sub, map_some, map_none, r_call, r_callv, v_callf, r_ext, v_ext0, v_exts, r_mkfn, opds, r_conv, v_conv, llen_0, llen_s, n_of, ii_eq, ii_lt, ii_le, get_put, get_add, next_put, next_add, put_put, add_put', ne_s, ne_s', ne_ss, ne_ss', if_true, if_false, ite_self, ite_true, ite_false, Nat.zero_add, Nat.add_zero, Nat.reduceAdd, Nat.reduceLT, Nat.reduceEqDiff, Bool.not_false, Bool.not_true, decide_true, decide_false, eq_self, tk_f0, tk_f1, tk_f2, tok_blk, tok_agg, tk_0, tk_1, tk_2, tk_3, tk_4, tk_len, tk_same, tk_w0, tk_w1, k9b, k9c, htb1, t22, ho, h1.cell, q0, q1, ly_2, gi, i1, i2, iA, hk2, hw']
        refine t18 h3 (by omega) ?_
        intro H4 vo4 vs4 h4
        have hn4 := (h4.sees _ _ Fr.set_same).2
        rw [next_add] at hn4
        simp only [v_pnn, v_ppn, v_qnn, v_qpn, r_slcS, r_again1, r_againN, ag_int, ag_bool, ag_str, ag_agg, r_seq, r_reg, r_op, r_op_y, r_op_n, r_op_u, r_move, r_get_v, r_get_t, r_get_c, r_lget_0, r_lget_s, r_lset_0, r_lset_s, r_kOp_t, r_kOp_v, r_kOp_o, r_kReg, r_kSeq_n, r_kSeq_e, r_kSeq_r, r_kBlk_n, r_kBlk_e, r_kBlk_r, r_kBlk_o, r_kLoop_n, r_kLoop_e, r_kLoop_r, r_ops_nil, r_bin, r_binB, r_binP, r_eql, r_neq, r_lss, r_leq, r_gtr, r_geq, r_add, r_sub, r_mul, v_eqs, v_nes, r_opt, r_pick, r_pick_t, r_pick_f, r_not, v_not, r_ret, r_exit, r_skip, r_cond_t, r_cond_f, r_block, r_loop, r_kEnd_n, r_kEnd_r, r_giveO, r_consO, r_evR_0, r_evR_o, r_evR_1, r_evR_N, r_give_0, r_give_1, r_give_2, initV, r_nilck, v_ckp, v_ckf, r_fadr, v_fadr, r_load1, rd1, rdN, v_rd0, rdRow_0, rdRow_s, r_loadN, r_store, v_wrV, v_wrA, v_rdA0, v_some, r_putK, r_alloc, r_box, r_boxK, r_build, r_aggK, fill_0, fill_s, fillK_1, putRow_0, putRow_s, c_agg, c_int, c_bool, c_str, c_slc, c_nils, c_fn, c_ptr, r_buildS, r_rowsK1, fillR_1, fillO_1, r_append, r_fld1, r_idxS, r_idxStr, r_len, v_lenS, v_lenL, v_lenN, r_slcStr, v_sub, map_some, map_none, r_call, r_callv, v_callf, r_ext, v_ext0, v_exts, r_mkfn, opds, r_conv, v_conv, llen_0, llen_s, n_of, ii_eq, ii_lt, ii_le, get_put, get_add, next_put, next_add, put_put, add_put', ne_s, ne_s', ne_ss, ne_ss', if_true, if_false, ite_self, ite_true, ite_false, Nat.zero_add, Nat.add_zero, Nat.reduceAdd, Nat.reduceLT, Nat.reduceEqDiff, Bool.not_false, Bool.not_true, decide_true, decide_false, eq_self, tk_f0, tk_f1, tk_f2, tok_blk, tok_agg, tk_0, tk_1, tk_2, tk_3, tk_4, tk_len, tk_same, tk_w0, tk_w1, hn4, rb_agg]
        refine t19 h4 (by omega) ?_ ?_
        · intro hlt H5 vo5 vs5 h5
          rw [if_neg (by omega)] at hA3
          have gi2 := up_i (i := i + 1) (by omega)
          simp only [v_pnn, v_ppn, v_qnn, v_qpn, r_slcS, r_again1, r_againN, ag_int, ag_bool, ag_str, ag_agg, r_seq, r_reg, r_op, r_op_y, r_op_n, r_op_u, r_move, r_get_v, r_get_t, r_get_c, r_lget_0, r_lget_s, r_lset_0, r_lset_s, r_kOp_t, r_kOp_v, r_kOp_o, r_kReg, r_kSeq_n, r_kSeq_e, r_kSeq_r, r_kBlk_n, r_kBlk_e, r_kBlk_r, r_kBlk_o, r_kLoop_n, r_kLoop_e, r_kLoop_r, r_ops_nil, r_bin, r_binB, r_binP, r_eql, r_neq, r_lss, r_leq, r_gtr, r_geq, r_add, r_sub, r_mul, v_eqs, v_nes, r_opt, r_pick, r_pick_t, r_pick_f, r_not, v_not, r_ret, r_exit, r_skip, r_cond_t, r_cond_f, r_block, r_loop, r_kEnd_n, r_kEnd_r, r_giveO, r_consO, r_evR_0, r_evR_o, r_evR_1, r_evR_N, r_give_0, r_give_1, r_give_2, initV, r_nilck, v_ckp, v_ckf, r_fadr, v_fadr, r_load1, rd1, rdN, v_rd0, rdRow_0, rdRow_s, r_loadN, r_store, v_wrV, v_wrA, v_rdA0, v_some, r_putK, r_alloc, r_box, r_boxK, r_build, r_aggK, fill_0, fill_s, fillK_1, putRow_0, putRow_s, c_agg, c_int, c_bool, c_str, c_slc, c_nils, c_fn, c_ptr, r_buildS, r_rowsK1, fillR_1, fillO_1, r_append, r_fld1, r_idxS, r_idxStr, r_len, v_lenS, v_lenL, v_lenN, r_slcStr, v_sub, map_some, map_none, r_call, r_callv, v_callf, r_ext, v_ext0, v_exts, r_mkfn, opds, r_conv, v_conv, llen_0, llen_s, n_of, ii_eq, ii_lt, ii_le, get_put, get_add, next_put, next_add, put_put, add_put', ne_s, ne_s', ne_ss, ne_ss', if_true, if_false, ite_self, ite_true, ite_false, Nat.zero_add, Nat.add_zero, Nat.reduceAdd, Nat.reduceLT, Nat.reduceEqDiff, Bool.not_false, Bool.not_true, decide_true, decide_false, eq_self, gi, r10_12, gi2]
          exact hA3.nxt _ _ _ _ rfl _ _ _ _ _ _ _ _ _ _ _ _ h5
        · intro hge H5 vo5 vs5 h5
          rw [if_pos hge] at hA3
          have gi2 := up_i (i := i + 1) (by omega)
          simp only [v_pnn, v_ppn, v_qnn, v_qpn, r_slcS, r_again1, r_againN, ag_int, ag_bool, ag_str, ag_agg, r_seq, r_reg, r_op, r_op_y, r_op_n, r_op_u, r_move, r_get_v, r_get_t, r_get_c, r_lget_0, r_lget_s, r_lset_0, r_lset_s, r_kOp_t, r_kOp_v, r_kOp_o, r_kReg, r_kSeq_n, r_kSeq_e, r_kSeq_r, r_kBlk_n, r_kBlk_e, r_kBlk_r, r_kBlk_o, r_kLoop_n, r_kLoop_e, r_kLoop_r, r_ops_nil, r_bin, r_binB, r_binP, r_eql, r_neq, r_lss, r_leq, r_gtr, r_geq, r_add, r_sub, r_mul, v_eqs, v_nes, r_opt, r_pick, r_pick_t, r_pick_f, r_not, v_not, r_ret, r_exit, r_skip, r_cond_t, r_cond_f, r_block, r_loop, r_kEnd_n, r_kEnd_r, r_giveO, r_consO, r_evR_0, r_evR_o, r_evR_1, r_evR_N, r_give_0, r_give_1, r_give_2, initV, r_nilck, v_ckp, v_ckf, r_fadr, v_fadr, r_load1, rd1, rdN, v_rd0, rdRow_0, rdRow_s, r_loadN, r_store, v_wrV, v_wrA, v_rdA0, v_some, r_putK, r_alloc, r_box, r_boxK, r_build, r_aggK, fill_0, fill_s, fillK_1, putRow_0, putRow_s, c_agg, c_int, c_bool, c_str, c_slc, c_nils, c_fn, c_ptr, r_buildS, r_rowsK1, fillR_1, fillO_1, r_append, r_fld1, r_idxS, r_idxStr, r_len, v_lenS, v_lenL, v_lenN, r_slcStr, v_sub, map_some, map_none, r_call, r_callv, v_callf, r_ext, v_ext0, v_exts, r_mkfn, opds, r_conv, v_conv, llen_0, llen_s, n_of, ii_eq, ii_lt, ii_le, get_put, get_add, next_put, next_add, put_put, add_put', ne_s, ne_s', ne_ss, ne_ss', if_true, if_false, ite_self, ite_true, ite_false, Nat.zero_add, Nat.add_zero, Nat.reduceAdd, Nat.reduceLT, Nat.reduceEqDiff, Bool.not_false, Bool.not_true, decide_true, decide_false, eq_self, gi, r10_12, gi2]
          exact hA3.perr _ rfl _ _ _ _ _ _ _ _ _ _ _ _ _ _ _ _ h5
      | false =>
        have hws : (decide ((cur toks (i + 1)).kind = 2) && (Nat.beq (cur toks (i + 1)).tn 1 && Nat.beq (cur toks (i + 1)).tc 123)) = false := hw
        have gl : IntKind.i64.wrap (((sBrace t st out).2.1.length : Int) - ((1 : Nat) : Int)) = ((sBrace t st out).2.1.length : Int) - 1 := w_i (by omega) (by omega)
        have fin : evC AP (evF AP (look table) (n + 3)) (.seq (.reg [⟨.var 14, .move (.c (.int .i64 (.ofNat 0))), .none⟩]) k9d) [vin, .nils, .int .i64 ((0 : Nat) : Int), .int .i64 ((0 : Nat) : Int), .ptr q 0 0, .bool false, .int .i64 (i : Int), .ptr tb 0 0, a8, a9, a10, a11, .bool true, .ptr (H1.next + 1) 0 0, a14, a15] [] ((H1.add (.rows 5 [tokRow t])).add (.rows 5 [tokRow (cur toks (i + 1))])) (KN (evF AP (look table) (n + 3)) r K) := by
          have e1 : ∀ a, RI F q H1 vo1 vs1 (sBrace t st out).2.1 (sPut t (sBrace t st out)) 0 a → lenV false vs1 = some (.int .i64 ((sBrace t st out).2.1.length : Int)) := fun a h => h.st_len
          simp only [v_pnn, v_ppn, v_qnn, v_qpn, r_slcS, r_again1, r_againN, ag_int, ag_bool, ag_str, ag_agg, r_seq, r_reg, r_op, r_op_y, r_op_n, r_op_u, r_move, r_get_v, r_get_t, r_get_c, r_lget_0, r_lget_s, r_lset_0, r_lset_s, r_kOp_t, r_kOp_v, r_kOp_o, r_kReg, r_kSeq_n, r_kSeq_e, r_kSeq_r, r_kBlk_n, r_kBlk_e, r_kBlk_r, r_kBlk_o, r_kLoop_n, r_kLoop_e, r_kLoop_r, r_ops_nil, r_bin, r_binB, r_binP, r_eql, r_neq, r_lss, r_leq, r_gtr, r_geq, r_add, r_sub, r_mul, v_eqs, v_nes, r_opt, r_pick, r_pick_t, r_pick_f, r_not, v_not, r_ret, r_exit, r_skip, r_cond_t, r_cond_f, r_block, r_loop, r_kEnd_n, r_kEnd_r, r_giveO, r_consO, r_evR_0, r_evR_o, r_evR_1, r_evR_N, r_give_0, r_give_1, r_give_2, initV, r_nilck, v_ckp, v_ckf, r_fadr, v_fadr, r_load1, rd1, rdN, v_rd0, rdRow_0, rdRow_s, r_loadN, r_store, v_wrV, v_wrA, v_rdA0, v_some, r_putK, r_alloc, r_box, r_boxK, r_build, r_aggK, fill_0, fill_s, fillK_1, putRow_0, putRow_s, c_agg, c_int, c_bool, c_str, c_slc, c_nils, c_fn, c_ptr, r_buildS, r_rowsK1, fillR_1, fillO_1, r_append, r_fld1, r_idxS, r_idxStr, r_len, v_lenS, v_lenL, v_lenN, r_slcStr, v_sub, map_some, map_none, r_call, r_callv, v_callf, r_ext, v_ext0, v_exts, r_mkfn, opds, r_conv, v_conv, llen_0, llen_s, n_of, ii_eq, ii_lt, ii_le, get_put, get_add, next_put, next_add, put_put, add_put', ne_s, ne_s', ne_ss, ne_ss', if_true, if_false, ite_self, ite_true, ite_false, Nat.zero_add, Nat.add_zero, Nat.reduceAdd, Nat.reduceLT, Nat.reduceEqDiff, Bool.not_false, Bool.not_true, decide_true, decide_false, eq_self, k9d, h1.cell, q0, q1, ly_1, e1 _ h1, gl]
          refine loop10_7 h3 (by omega) (sBrace t st out).2.1 _ _ 0 rfl rfl (by omega) (by unfold manyRounds; omega) ?_
          intro ts a15
          simp only [v_pnn, v_ppn, v_qnn, v_qpn, r_slcS, r_again1, r_againN, ag_int, ag_bool, ag_str, ag_agg, r_seq, r_reg, r_op, r_op_y, r_op_n, r_op_u, r_move, r_get_v, r_get_t, r_get_c, r_lget_0, r_lget_s, r_lset_0, r_lset_s, r_kOp_t, r_kOp_v, r_kOp_o, r_kReg, r_kSeq_n, r_kSeq_e, r_kSeq_r, r_kBlk_n, r_kBlk_e, r_kBlk_r, r_kBlk_o, r_kLoop_n, r_kLoop_e, r_kLoop_r, r_ops_nil, r_bin, r_binB, r_binP, r_eql, r_neq, r_lss, r_leq, r_gtr, r_geq, r_add, r_sub, r_mul, v_eqs, v_nes, r_opt, r_pick, r_pick_t, r_pick_f, r_not, v_not, r_ret, r_exit, r_skip, r_cond_t, r_cond_f, r_block, r_loop, r_kEnd_n, r_kEnd_r, r_giveO, r_consO, r_evR_0, r_evR_o, r_evR_1, r_evR_N, r_give_0, r_give_1, r_give_2, initV, r_nilck, v_ckp, v_ckf, r_fadr, v_fadr, r_load1, rd1, rdN, v_rd0, rdRow_0, rdRow_s, r_loadN, r_store, v_wrV, v_wrA, v_rdA0, v_some, r_putK, r_alloc, r_box, r_boxK, r_build, r_aggK, fill_0, fill_s, fillK_1, putRow_0, putRow_s, c_agg, c_int, c_bool, c_str, c_slc, c_nils, c_fn, c_ptr, r_buildS, r_rowsK1, fillR_1, fillO_1, r_append, r_fld1, r_idxS, r_idxStr, r_len, v_lenS, v_lenL, v_lenN, r_slcStr, v_sub, map_some, map_none, r_call, r_callv, v_callf, r_ext, v_ext0, v_exts, r_mkfn, opds, r_conv, v_conv, llen_0, llen_s, n_of, ii_eq, ii_lt, ii_le, get_put, get_add, next_put, next_add, put_put, add_put', ne_s, ne_s', ne_ss, ne_ss', if_true, if_false, ite_self, ite_true, ite_false, Nat.zero_add, Nat.add_zero, Nat.reduceAdd, Nat.reduceLT, Nat.reduceEqDiff, Bool.not_false, Bool.not_true, decide_true, decide_false, eq_self]
          exact k10_8 h3 ht3 Fr.set_same (by omega) (by omega) ho hw hi hA3
        by_cases hk2 : (cur toks (i + 1)).kind = 2
        · have hw' := hw
          rw [isW_2 hk2] at hw'
          simp only [v_pnn, v_ppn, v_qnn, v_qpn, r_slcS, r_again1, r_againN, ag_int, ag_bool, ag_str, ag_agg, r_seq, r_reg, r_op, r_op_y, r_op_n, r_op_u, r_move, r_get_v, r_get_t, r_get_c, r_lget_0, r_lget_s, r_lset_0, r_lset_s, r_kOp_t, r_kOp_v, r_kOp_o, r_kReg, r_kSeq_n, r_kSeq_e, r_kSeq_r, r_kBlk_n, r_kBlk_e, r_kBlk_r, r_kBlk_o, r_kLoop_n, r_kLoop_e, r_kLoop_r, r_ops_nil, r_bin, r_binB, r_binP, r_eql, r_neq, r_lss, r_leq, r_gtr, r_geq, r_add, r_sub, r_mul, v_eqs, v_nes, r_opt, r_pick, r_pick_t, r_pick_f, r_not, v_not, r_ret, r_exit, r_skip, r_cond_t, r_cond_f, r_block, r_loop, r_kEnd_n, r_kEnd_r, r_giveO, r_consO, r_evR_0, r_evR_o, r_evR_1, r_evR_N, r_give_0, r_give_1, r_give_2, initV, r_nilck, v_ckp, v_ckf, r_fadr, v_fadr, r_load1, rd1, rdN, v_rd0, rdRow_0, rdRow_s, r_loadN, r_store, v_wrV, v_wrA, v_rdA0, v_some, r_putK, r_alloc, r_box, r_boxK, r_build, r_aggK, fill_0, fill_s, fillK_1, putRow_0, putRow_s, c_agg, c_int, c_bool, c_str, c_slc, c_nils, c_fn, c_ptr, r_buildS, r_rowsK1, fillR_1, fillO_1, r_append, r_fld1, r_idxS, r_idxStr, r_len, v_lenS, v_lenL, v_lenN, r_slcStr, v_sub, map_some, map_none, r_call, r_callv, v_callf, r_ext, v_ext0, v_exts, r_mkfn, opds, r_conv, v_conv, llen_0, llen_s, n_of, ii_eq, ii_lt, ii_le, get_put, get_add, next_put, next_add, put_put, add_put', ne_s, ne_s', ne_ss, ne_ss', if_true, if_false, ite_self, ite_true, ite_false, Nat.zero_add, Nat.add_zero, Nat.reduceAdd, Nat.reduceLT, Nat.reduceEqDiff, Bool.not_false, Bool.not_true, decide_true, decide_false, eq_self, tk_f0, tk_f1, tk_f2, tok_blk, tok_agg, tk_0, tk_1, tk_2, tk_3, tk_4, tk_len, tk_same, tk_w0, tk_w1, k9b, k9c, htb1, t22, ho, h1.cell, q0, q1, ly_2, gi, i1, i2, iA, hk2, hw']
          simp only [v_pnn, v_ppn, v_qnn, v_qpn, r_slcS, r_again1, r_againN, ag_int, ag_bool, ag_str, ag_agg, r_seq, r_reg, r_op, r_op_y, r_op_n, r_op_u, r_move, r_get_v, r_get_t, r_get_c, r_lget_0, r_lget_s, r_lset_0, r_lset_s, r_kOp_t, r_kOp_v, r_kOp_o, r_kReg, r_kSeq_n, r_kSeq_e, r_kSeq_r, r_kBlk_n, r_kBlk_e, r_kBlk_r, r_kBlk_o, r_kLoop_n, r_kLoop_e, r_kLoop_r, r_ops_nil, r_bin, r_binB, r_binP, r_eql, r_neq, r_lss, r_leq, r_gtr, r_geq, r_add, r_sub, r_mul, v_eqs, v_nes, r_opt, r_pick, r_pick_t, r_pick_f, r_not, v_not, r_ret, r_exit, r_skip, r_cond_t, r_cond_f, r_block, r_loop, r_kEnd_n, r_kEnd_r, r_giveO, r_consO, r_evR_0, r_evR_o, r_evR_1, r_evR_N, r_give_0, r_give_1, r_give_2, initV, r_nilck, v_ckp, v_ckf, r_fadr, v_fadr, r_load1, rd1, rdN, v_rd0, rdRow_0, rdRow_s, r_loadN, r_store, v_wrV, v_wrA, v_rdA0, v_some, r_putK, r_alloc, r_box, r_boxK, r_build, r_aggK, fill_0, fill_s, fillK_1, putRow_0, putRow_s, c_agg, c_int, c_bool, c_str, c_slc, c_nils, c_fn, c_ptr, r_buildS, r_rowsK1, fillR_1, fillO_1, r_append, r_fld1, r_idxS, r_idxStr, r_len, v_lenS, v_lenL, v_lenN, r_slcStr, v_sub, map_some, map_none, r_call, r_callv, v_callf, r_ext, v_ext0, v_exts, r_mkfn, opds, r_conv, v_conv, llen_0, llen_s, n_of, ii_eq, ii_lt, ii_le, get_put, get_add, next_put, next_add, put_put, add_put', ne_s, ne_s', ne_ss, ne_ss', if_true, if_false, ite_self, ite_true, ite_false, Nat.zero_add, Nat.add_zero, Nat.reduceAdd, Nat.reduceLT, Nat.reduceEqDiff, Bool.not_false, Bool.not_true, decide_true, decide_false, eq_self, tk_f0, tk_f1, tk_f2, tok_blk, tok_agg, tk_0, tk_1, tk_2, tk_3, tk_4, tk_len, tk_same, tk_w0, tk_w1] at fin
          exact fin
        · simp only [v_pnn, v_ppn, v_qnn, v_qpn, r_slcS, r_again1, r_againN, ag_int, ag_bool, ag_str, ag_agg, r_seq, r_reg, r_op, r_op_y, r_op_n, r_op_u, r_move, r_get_v, r_get_t, r_get_c, r_lget_0, r_lget_s, r_lset_0, r_lset_s, r_kOp_t, r_kOp_v, r_kOp_o, r_kReg, r_kSeq_n, r_kSeq_e, r_kSeq_r, r_kBlk_n, r_kBlk_e, r_kBlk_r, r_kBlk_o, r_kLoop_n, r_kLoop_e, r_kLoop_r, r_ops_nil, r_bin, r_binB, r_binP, r_eql, r_neq, r_lss, r_leq, r_gtr, r_geq, r_add, r_sub, r_mul, v_eqs, v_nes, r_opt, r_pick, r_pick_t, r_pick_f, r_not, v_not, r_ret, r_exit, r_skip, r_cond_t, r_cond_f, r_block, r_loop, r_kEnd_n, r_kEnd_r, r_giveO, r_consO, r_evR_0, r_evR_o, r_evR_1, r_evR_N, r_give_0, r_give_1, r_give_2, initV, r_nilck, v_ckp, v_ckf, r_fadr, v_fadr, r_load1, rd1, rdN, v_rd0, rdRow_0, rdRow_s, r_loadN, r_store, v_wrV, v_wrA, v_rdA0, v_some, r_putK, r_alloc, r_box, r_boxK, r_build, r_aggK, fill_0, fill_s, fillK_1, putRow_0, putRow_s, c_agg, c_int, c_bool, c_str, c_slc, c_nils, c_fn, c_ptr, r_buildS, r_rowsK1, fillR_1, fillO_1, r_append, r_fld1, r_idxS, r_idxStr, r_len, v_lenS, v_lenL, v_lenN, r_slcStr, v_sub, map_some, map_none, r_call, r_callv, v_callf, r_ext, v_ext0, v_exts, r_mkfn, opds, r_conv, v_conv, llen_0, llen_s, n_of, ii_eq, ii_lt, ii_le, get_put, get_add, next_put, next_add, put_put, add_put', ne_s, ne_s', ne_ss, ne_ss', if_true, if_false, ite_self, ite_true, ite_false, Nat.zero_add, Nat.add_zero, Nat.reduceAdd, Nat.reduceLT, Nat.reduceEqDiff, Bool.not_false, Bool.not_true, decide_true, decide_false, eq_self, tk_f0, tk_f1, tk_f2, tok_blk, tok_agg, tk_0, tk_1, tk_2, tk_3, tk_4, tk_len, tk_same, tk_w0, tk_w1, k9b, k9c, htb1, t22, ho, h1.cell, q0, q1, ly_2, gi, i1, i2, iA, hk2]
          simp only [v_pnn, v_ppn, v_qnn, v_qpn, r_slcS, r_again1, r_againN, ag_int, ag_bool, ag_str, ag_agg, r_seq, r_reg, r_op, r_op_y, r_op_n, r_op_u, r_move, r_get_v, r_get_t, r_get_c, r_lget_0, r_lget_s, r_lset_0, r_lset_s, r_kOp_t, r_kOp_v, r_kOp_o, r_kReg, r_kSeq_n, r_kSeq_e, r_kSeq_r, r_kBlk_n, r_kBlk_e, r_kBlk_r, r_kBlk_o, r_kLoop_n, r_kLoop_e, r_kLoop_r, r_ops_nil, r_bin, r_binB, r_binP, r_eql, r_neq, r_lss, r_leq, r_gtr, r_geq, r_add, r_sub, r_mul, v_eqs, v_nes, r_opt, r_pick, r_pick_t, r_pick_f, r_not, v_not, r_ret, r_exit, r_skip, r_cond_t, r_cond_f, r_block, r_loop, r_kEnd_n, r_kEnd_r, r_giveO, r_consO, r_evR_0, r_evR_o, r_evR_1, r_evR_N, r_give_0, r_give_1, r_give_2, initV, r_nilck, v_ckp, v_ckf, r_fadr, v_fadr, r_load1, rd1, rdN, v_rd0, rdRow_0, rdRow_s, r_loadN, r_store, v_wrV, v_wrA, v_rdA0, v_some, r_putK, r_alloc, r_box, r_boxK, r_build, r_aggK, fill_0, fill_s, fillK_1, putRow_0, putRow_s, c_agg, c_int, c_bool, c_str, c_slc, c_nils, c_fn, c_ptr, r_buildS, r_rowsK1, fillR_1, fillO_1, r_append, r_fld1, r_idxS, r_idxStr, r_len, v_lenS, v_lenL, v_lenN, r_slcStr, v_sub, map_some, map_none, r_call, r_callv, v_callf, r_ext, v_ext0, v_exts, r_mkfn, opds, r_conv, v_conv, llen_0, llen_s, n_of, ii_eq, ii_lt, ii_le, get_put, get_add, next_put, next_add, put_put, add_put', ne_s, ne_s', ne_ss, ne_ss', if_true, if_false, ite_self, ite_true, ite_false, Nat.zero_add, Nat.add_zero, Nat.reduceAdd, Nat.reduceLT, Nat.reduceEqDiff, Bool.not_false, Bool.not_true, decide_true, decide_false, eq_self, tk_f0, tk_f1, tk_f2, tok_blk, tok_agg, tk_0, tk_1, tk_2, tk_3, tk_4, tk_len, tk_same, tk_w0, tk_w1] at fin
          exact fin
  rw [r9_eq]
  simp only [v_pnn, v_ppn, v_qnn, v_qpn, r_slcS, r_again1, r_againN, ag_int, ag_bool, ag_str, ag_agg, r_seq, r_reg, r_op, r_op_y, r_op_n, r_op_u, r_move, r_get_v, r_get_t, r_get_c, r_lget_0, r_lget_s, r_lset_0, r_lset_s, r_kOp_t, r_kOp_v, r_kOp_o, r_kReg, r_kSeq_n, r_kSeq_e, r_kSeq_r, r_kBlk_n, r_kBlk_e, r_kBlk_r, r_kBlk_o, r_kLoop_n, r_kLoop_e, r_kLoop_r, r_ops_nil, r_bin, r_binB, r_binP, r_eql, r_neq, r_lss, r_leq, r_gtr, r_geq, r_add, r_sub, r_mul, v_eqs, v_nes, r_opt, r_pick, r_pick_t, r_pick_f, r_not, v_not, r_ret, r_exit, r_skip, r_cond_t, r_cond_f, r_block, r_loop, r_kEnd_n, r_kEnd_r, r_giveO, r_consO, r_evR_0, r_evR_o, r_evR_1, r_evR_N, r_give_0, r_give_1, r_give_2, initV, r_nilck, v_ckp, v_ckf, r_fadr, v_fadr, r_load1, rd1, rdN, v_rd0, rdRow_0, rdRow_s, r_loadN, r_store, v_wrV, v_wrA, v_rdA0, v_some, r_putK, r_alloc, r_box, r_boxK, r_build, r_aggK, fill_0, fill_s, fillK_1, putRow_0, putRow_s, c_agg, c_int, c_bool, c_str, c_slc, c_nils, c_fn, c_ptr, r_buildS, r_rowsK1, fillR_1, fillO_1, r_append, r_fld1, r_idxS, r_idxStr, r_len, v_lenS, v_lenL, v_lenN, r_slcStr, v_sub, map_some, map_none, r_call, r_callv, v_callf, r_ext, v_ext0, v_exts, r_mkfn, opds, r_conv, v_conv, llen_0, llen_s, n_of, ii_eq, ii_lt, ii_le, get_put, get_add, next_put, next_add, put_put, add_put', ne_s, ne_s', ne_ss, ne_ss', if_true, if_false, ite_self, ite_true, ite_false, Nat.zero_add, Nat.add_zero, Nat.reduceAdd, Nat.reduceLT, Nat.reduceEqDiff, Bool.not_false, Bool.not_true, decide_true, decide_false, eq_self, tk_f0, tk_f1, tk_f2, tok_blk, tok_agg, tk_0, tk_1, tk_2, tk_3, tk_4, tk_len, tk_same, tk_w0, tk_w1, htb]
  refine t21 h (by omega) (by omega) hbr ?_
  intro H1 vo1 vs1 h1
  have htb1 := (h1.sees _ _ ht).2
  cases hd : (sBrace t st out).1 with
  | true =>
    simp only [v_pnn, v_ppn, v_qnn, v_qpn, r_slcS, r_again1, r_againN, ag_int, ag_bool, ag_str, ag_agg, r_seq, r_reg, r_op, r_op_y, r_op_n, r_op_u, r_move, r_get_v, r_get_t, r_get_c, r_lget_0, r_lget_s, r_lset_0, r_lset_s, r_kOp_t, r_kOp_v, r_kOp_o, r_kReg, r_kSeq_n, r_kSeq_e, r_kSeq_r, r_kBlk_n, r_kBlk_e, r_kBlk_r, r_kBlk_o, r_kLoop_n, r_kLoop_e, r_kLoop_r, r_ops_nil, r_bin, r_binB, r_binP, r_eql, r_neq, r_lss, r_leq, r_gtr, r_geq, r_add, r_sub, r_mul, v_eqs, v_nes, r_opt, r_pick, r_pick_t, r_pick_f, r_not, v_not, r_ret, r_exit, r_skip, r_cond_t, r_cond_f, r_block, r_loop, r_kEnd_n, r_kEnd_r, r_giveO, r_consO, r_evR_0, r_evR_o, r_evR_1, r_evR_N, r_give_0, r_give_1, r_give_2, initV, r_nilck, v_ckp, v_ckf, r_fadr, v_fadr, r_load1, rd1, rdN, v_rd0, rdRow_0, rdRow_s, r_loadN, r_store, v_wrV, v_wrA, v_rdA0, v_some, r_putK, r_alloc, r_box, r_boxK, r_build, r_aggK, fill_0, fill_s, fillK_1, putRow_0, putRow_s, c_agg, c_int, c_bool, c_str, c_slc, c_nils, c_fn, c_ptr, r_buildS, r_rowsK1, fillR_1, fillO_1, r_append, r_fld1, r_idxS, r_idxStr, r_len, v_lenS, v_lenL, v_lenN, r_slcStr, v_sub, map_some, map_none, r_call, r_callv, v_callf, r_ext, v_ext0, v_exts, r_mkfn, opds, r_conv, v_conv, llen_0, llen_s, n_of, ii_eq, ii_lt, ii_le, get_put, get_add, next_put, next_add, put_put, add_put', ne_s, ne_s', ne_ss, ne_ss', if_true, if_false, ite_self, ite_true, ite_false, Nat.zero_add, Nat.add_zero, Nat.reduceAdd, Nat.reduceLT, Nat.reduceEqDiff, Bool.not_false, Bool.not_true, decide_true, decide_false, eq_self, k9p]
    refine rest _ vo1 vs1 _ ?_ _ _
    unfold sPut
    rw [if_pos hd]
    exact h1
  | false =>
    have g6 : ¬ 60000 ≤ (sBrace t st out).2.2.length := by omega
    simp only [v_pnn, v_ppn, v_qnn, v_qpn, r_slcS, r_again1, r_againN, ag_int, ag_bool, ag_str, ag_agg, r_seq, r_reg, r_op, r_op_y, r_op_n, r_op_u, r_move, r_get_v, r_get_t, r_get_c, r_lget_0, r_lget_s, r_lset_0, r_lset_s, r_kOp_t, r_kOp_v, r_kOp_o, r_kReg, r_kSeq_n, r_kSeq_e, r_kSeq_r, r_kBlk_n, r_kBlk_e, r_kBlk_r, r_kBlk_o, r_kLoop_n, r_kLoop_e, r_kLoop_r, r_ops_nil, r_bin, r_binB, r_binP, r_eql, r_neq, r_lss, r_leq, r_gtr, r_geq, r_add, r_sub, r_mul, v_eqs, v_nes, r_opt, r_pick, r_pick_t, r_pick_f, r_not, v_not, r_ret, r_exit, r_skip, r_cond_t, r_cond_f, r_block, r_loop, r_kEnd_n, r_kEnd_r, r_giveO, r_consO, r_evR_0, r_evR_o, r_evR_1, r_evR_N, r_give_0, r_give_1, r_give_2, initV, r_nilck, v_ckp, v_ckf, r_fadr, v_fadr, r_load1, rd1, rdN, v_rd0, rdRow_0, rdRow_s, r_loadN, r_store, v_wrV, v_wrA, v_rdA0, v_some, r_putK, r_alloc, r_box, r_boxK, r_build, r_aggK, fill_0, fill_s, fillK_1, putRow_0, putRow_s, c_agg, c_int, c_bool, c_str, c_slc, c_nils, c_fn, c_ptr, r_buildS, r_rowsK1, fillR_1, fillO_1, r_append, r_fld1, r_idxS, r_idxStr, r_len, v_lenS, v_lenL, v_lenN, r_slcStr, v_sub, map_some, map_none, r_call, r_callv, v_callf, r_ext, v_ext0, v_exts, r_mkfn, opds, r_conv, v_conv, llen_0, llen_s, n_of, ii_eq, ii_lt, ii_le, get_put, get_add, next_put, next_add, put_put, add_put', ne_s, ne_s', ne_ss, ne_ss', if_true, if_false, ite_self, ite_true, ite_false, Nat.zero_add, Nat.add_zero, Nat.reduceAdd, Nat.reduceLT, Nat.reduceEqDiff, Bool.not_false, Bool.not_true, decide_true, decide_false, eq_self, tk_f0, tk_f1, tk_f2, tok_blk, tok_agg, tk_0, tk_1, tk_2, tk_3, tk_4, tk_len, tk_same, tk_w0, tk_w1, k9p, h1.cell, ly_0, ly_2, h1.out_len, g6, htb1]
    refine RI.pushOut (t := t) (h1.grow Grow.add) rows_one (by omega) ?_
    intro v' H2 hc hg h2
    simp only [v_pnn, v_ppn, v_qnn, v_qpn, r_slcS, r_again1, r_againN, ag_int, ag_bool, ag_str, ag_agg, r_seq, r_reg, r_op, r_op_y, r_op_n, r_op_u, r_move, r_get_v, r_get_t, r_get_c, r_lget_0, r_lget_s, r_lset_0, r_lset_s, r_kOp_t, r_kOp_v, r_kOp_o, r_kReg, r_kSeq_n, r_kSeq_e, r_kSeq_r, r_kBlk_n, r_kBlk_e, r_kBlk_r, r_kBlk_o, r_kLoop_n, r_kLoop_e, r_kLoop_r, r_ops_nil, r_bin, r_binB, r_binP, r_eql, r_neq, r_lss, r_leq, r_gtr, r_geq, r_add, r_sub, r_mul, v_eqs, v_nes, r_opt, r_pick, r_pick_t, r_pick_f, r_not, v_not, r_ret, r_exit, r_skip, r_cond_t, r_cond_f, r_block, r_loop, r_kEnd_n, r_kEnd_r, r_giveO, r_consO, r_evR_0, r_evR_o, r_evR_1, r_evR_N, r_give_0, r_give_1, r_give_2, initV, r_nilck, v_ckp, v_ckf, r_fadr, v_fadr, r_load1, rd1, rdN, v_rd0, rdRow_0, rdRow_s, r_loadN, r_store, v_wrV, v_wrA, v_rdA0, v_some, r_putK, r_alloc, r_box, r_boxK, r_build, r_aggK, fill_0, fill_s, fillK_1, putRow_0, putRow_s, c_agg, c_int, c_bool, c_str, c_slc, c_nils, c_fn, c_ptr, r_buildS, r_rowsK1, fillR_1, fillO_1, r_append, r_fld1, r_idxS, r_idxStr, r_len, v_lenS, v_lenL, v_lenN, r_slcStr, v_sub, map_some, map_none, r_call, r_callv, v_callf, r_ext, v_ext0, v_exts, r_mkfn, opds, r_conv, v_conv, llen_0, llen_s, n_of, ii_eq, ii_lt, ii_le, get_put, get_add, next_put, next_add, put_put, add_put', ne_s, ne_s', ne_ss, ne_ss', if_true, if_false, ite_self, ite_true, ite_false, Nat.zero_add, Nat.add_zero, Nat.reduceAdd, Nat.reduceLT, Nat.reduceEqDiff, Bool.not_false, Bool.not_true, decide_true, decide_false, eq_self, hc, hg, ly_w0]
    refine rest _ v' vs1 _ ?_ _ _
    unfold sPut
    rw [if_neg (by simp [hd])]
    exact h2
end
end Dt
