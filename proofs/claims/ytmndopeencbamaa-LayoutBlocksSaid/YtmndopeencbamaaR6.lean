/- A part of the abstract machine and of the proof that the program does what it reckons; no conditions. -/
import Derived.Test.YtmndopeencbamaaR5
import Derived.Test.YtmndopeencbamaaP8
namespace Dt
open Go
set_option linter.all false
/-- The outermost block is implicit, and of no let. -/
def Bot : List Bl → Prop
  | [] => False
  | [b] => b.explicit = false ∧ b.lt = false
  | _ :: b :: st => Bot (b :: st)
theorem Bot.ne {st : List Bl} (h : Bot st) : st ≠ [] := by cases st with | nil => cases h | cons => simp
theorem Bot.cons {b : Bl} {st : List Bl} (h : Bot st) : Bot (b :: st) := by
  cases st with
  | nil => cases h
  | cons c st => exact h
theorem Bot.tail {b : Bl} {st : List Bl} (h : Bot (b :: st)) (hne : st ≠ []) : Bot st := by
  cases st with
  | nil => exact absurd rfl hne
  | cons c st => exact h
theorem Bot.tail' {b : Bl} {st : List Bl} (h : Bot (b :: st)) (hx : b.explicit = true ∨ b.lt = true) : Bot st := by
  cases st with
  | nil => rcases hx with hx | hx <;> simp [Bot, hx] at h
  | cons c st => exact h
theorem Bot.top {b b' : Bl} {st : List Bl} (h : Bot (b :: st)) (h1 : b'.explicit = b.explicit) (h2 : b'.lt = b.lt) : Bot (b' :: st) := by
  cases st with
  | nil => simpa [Bot, h1, h2] using h
  | cons c st => exact h
theorem sLine_bot (t : Tok) : ∀ (st : List Bl) (out : List Tok) (st' : List Bl) (out' : List Tok), Bot st → sLine t st out = some (st', out') → Bot st' := by
  intro st
  induction st with
  | nil => intro out st' out' h; cases h
  | cons b st ih =>
    intro out st' out' hB h
    unfold sLine at h
    split at h
    · simp only [Option.some.injEq, Prod.mk.injEq] at h; rw [← h.1]; exact hB
    split at h
    · split at h
      · cases h
      · rename_i h1
        exact ih _ _ _ (hB.tail (fun e => h1 (by rw [e]; rfl))) h
    · split at h
      · simp only [Option.some.injEq, Prod.mk.injEq] at h; rw [← h.1]; exact hB
      · simp only [Option.some.injEq, Prod.mk.injEq] at h; rw [← h.1]; exact hB
theorem letIn_bot : ∀ (st : List Bl) (k m : Nat), Bot st → letIn st k = some m → k < m ∧ Bot (st.drop (m - k)) := by
  intro st
  induction st with
  | nil => intro k m h; cases h
  | cons b st ih =>
    intro k m hB h
    unfold letIn at h
    split at h
    · cases h
    split at h
    · rename_i h1 h2
      simp only [Option.some.injEq] at h
      subst h
      refine ⟨by omega, ?_⟩
      rw [show k + 1 - k = 1 from by omega]
      exact hB.tail' (Or.inr h2)
    · rename_i h1 h2
      cases st with
      | nil => simp [letIn] at h
      | cons c st =>
        obtain ⟨h3, h4⟩ := ih (k + 1) m hB h
        refine ⟨by omega, ?_⟩
        rw [show m - k = (m - (k + 1)) + 1 from by omega, List.drop_succ_cons]
        exact h4
theorem sIn_bot (t : Tok) {st : List Bl} {out : List Tok} (h : Bot st) : Bot (sIn t st out).1 := by
  unfold sIn
  split
  · cases e : letIn st 0 with
    | none => exact h
    | some m => exact (letIn_bot st 0 m h e).2
  · exact h
theorem sBrace_bot (t : Tok) {st : List Bl} {out : List Tok} {m : Nat} (h : Bot st) (hb : ∀ b ∈ st, 0 ≤ b.braces ∧ b.braces ≤ (m : Int)) : Bot (sBrace t st out).2.1 ∧ ∀ b ∈ (sBrace t st out).2.1, 0 ≤ b.braces ∧ b.braces ≤ ((m + 1 : Nat) : Int) := by
  have up : ∀ st : List Bl, (∀ b ∈ st, 0 ≤ b.braces ∧ b.braces ≤ (m : Int)) → ∀ b ∈ st, 0 ≤ b.braces ∧ b.braces ≤ ((m + 1 : Nat) : Int) := fun st h b hb => by have := h b hb; omega
  unfold sBrace
  split
  · exact ⟨h, up _ hb⟩
  · cases st with
    | nil => cases h
    | cons b st =>
      have hb0 := hb b (by simp)
      have hst := up st (fun c hc => hb c (by simp [hc]))
      dsimp only
      split
      · rename_i hx
        split
        · refine ⟨h.top rfl rfl, ?_⟩
          intro c hc
          rcases List.mem_cons.1 hc with rfl | hc
          · dsimp only; omega
          · exact hst c hc
        split
        · split
          · exact ⟨h.tail' (Or.inl hx), hst⟩
          · refine ⟨h.top rfl rfl, ?_⟩
            intro c hc
            rcases List.mem_cons.1 hc with rfl | hc
            · dsimp only; omega
            · exact hst c hc
        · exact ⟨h, up _ hb⟩
      · exact ⟨h, up _ hb⟩

/-- What each token may add at most. -/
def Wt (toks : List Tok) (W : Nat → Nat) : Prop := ∀ i, i < toks.length → W (i + 1) + 2 + (if opensT (cur toks i) then 2 else 0) ≤ W i
structure SInv (toks : List Tok) (W : Nat → Nat) (i : Nat) (st : List Bl) (out : List Tok) : Prop where
  bot : Bot st
  len : st.length ≤ 60
  br : ∀ b ∈ st, 0 ≤ b.braces ∧ b.braces ≤ (i : Int)
  room : out.length + st.length + W i ≤ 59900
  lt : i < toks.length
theorem EndOk.lt {toks : List Tok} (h : EndOk toks) {i : Nat} (hi : i < toks.length) (hk : (cur toks i).kind ≠ 7) : i + 1 < toks.length := by
  rcases Nat.lt_or_ge (i + 1) toks.length with h1 | h1
  · exact h1
  · have : i = toks.length - 1 := by omega
    rw [this, h.2.1] at hk
    exact absurd rfl hk
theorem brace_kind {t : Tok} (h : isW t 1 123 = true) : t.kind ≠ 7 := by
  simp [isW] at h
  omega
theorem sBehind_inv {toks : List Tok} {W : Nat → Nat} (hW : Wt toks W) (hend : EndOk toks) {i : Nat} {st : List Bl} {out : List Tok} (hB : Bot st) (hl : st.length ≤ 60) (hbr : ∀ b ∈ st, 0 ≤ b.braces ∧ b.braces ≤ ((i + 1 : Nat) : Int))
    (hr : out.length + st.length + W (i + 1) + (if opensT (cur toks i) then 2 else 0) ≤ 59900) (hi : i + 1 < toks.length) {b : Bool} {i' : Nat} {st' : List Bl} {out' : List Tok} (h : sBehind toks (cur toks i) i st out = .nxt b i' st' out') :
    SInv toks W i' st' out' ∧ i < i' := by
  unfold sBehind at h
  split at h
  · rename_i ho
    rw [if_pos ho] at hr
    split at h
    · rename_i hw
      split at h
      · cases h
      · rename_i h60
        simp only [SOut.nxt.injEq] at h
        obtain ⟨rfl, rfl, rfl, rfl⟩ := h
        have h2 := hend.lt hi (brace_kind hw)
        have h3 : W (i + 2) + 2 + (if opensT (cur toks (i + 1)) then 2 else 0) ≤ W (i + 1) := hW (i + 1) hi
        refine ⟨⟨hB.cons, by simp; omega, ?_, by simp; omega, h2⟩, by omega⟩
        intro c hc
        rcases List.mem_cons.1 hc with rfl | hc
        · dsimp only; omega
        · have := hbr c hc; omega
    split at h
    · simp only [SOut.nxt.injEq] at h
      obtain ⟨rfl, rfl, rfl, rfl⟩ := h
      exact ⟨⟨hB, hl, hbr, by simp; omega, hi⟩, by omega⟩
    split at h
    · cases h
    · simp only [SOut.nxt.injEq] at h
      obtain ⟨rfl, rfl, rfl, rfl⟩ := h
      refine ⟨⟨hB.cons, by simp; omega, ?_, by simp; omega, hi⟩, by omega⟩
      intro c hc
      rcases List.mem_cons.1 hc with rfl | hc
      · dsimp only; omega
      · exact hbr c hc
  · rename_i ho
    rw [if_neg ho] at hr
    simp only [SOut.nxt.injEq] at h
    obtain ⟨rfl, rfl, rfl, rfl⟩ := h
    exact ⟨⟨hB, hl, hbr, by omega, hi⟩, by omega⟩
theorem sRest_inv {toks : List Tok} {W : Nat → Nat} (hW : Wt toks W) (hend : EndOk toks) {i : Nat} {st : List Bl} {out : List Tok} (hB : Bot st) (hl : st.length ≤ 60) (hbr : ∀ b ∈ st, 0 ≤ b.braces ∧ b.braces ≤ (i : Int))
    (hr : out.length + st.length + W (i + 1) + 1 + (if opensT (cur toks i) then 2 else 0) ≤ 59900) (hi : i + 1 < toks.length) {b : Bool} {i' : Nat} {st' : List Bl} {out' : List Tok} (h : sRest toks (cur toks i) i st out = .nxt b i' st' out') :
    SInv toks W i' st' out' ∧ i < i' := by
  unfold sRest sTok at h
  obtain ⟨l1, k, l2⟩ := sIn_ok (cur toks i) st out
  have l3 : (sIn (cur toks i) st out).1.length ≤ st.length := by rw [l2]; simp
  have hbr2 : ∀ b ∈ (sIn (cur toks i) st out).1, 0 ≤ b.braces ∧ b.braces ≤ (i : Int) := fun b hb => hbr b (by rw [l2] at hb; exact List.mem_of_mem_drop hb)
  obtain ⟨b1, b2⟩ := sBrace_bot (cur toks i) (out := (sIn (cur toks i) st out).2) (sIn_bot (cur toks i) (out := out) hB) hbr2
  obtain ⟨m1, m2, m3⟩ := sBrace_len (cur toks i) (sIn (cur toks i) st out).1 (sIn (cur toks i) st out).2
  exact sBehind_inv hW hend b1 (by omega) b2 (by omega) hi h
theorem sLineO_ok {toks : List Tok} {begun : Bool} {i : Nat} {st : List Bl} {out : List Tok} {st' : List Bl} {out' : List Tok} (h : sLineO toks begun i st out = some (st', out')) (hB : Bot st) : out'.length + st'.length ≤ out.length + st.length + 1 ∧ (∃ k, st' = st.drop k) ∧ Bot st' := by
  unfold sLineO at h
  split at h
  · obtain ⟨h1, h2⟩ := sLine_ok _ _ _ _ _ h
    exact ⟨h1, h2, sLine_bot _ _ _ _ _ hB h⟩
  · simp only [Option.some.injEq, Prod.mk.injEq] at h
    obtain ⟨rfl, rfl⟩ := h
    exact ⟨by omega, ⟨0, rfl⟩, hB⟩
theorem sStep_inv {toks : List Tok} {W : Nat → Nat} (hW : Wt toks W) (hend : EndOk toks) {i : Nat} {st : List Bl} {out : List Tok} (hI : SInv toks W i st out) {begun b : Bool} {i' : Nat} {st' : List Bl} {out' : List Tok} (h : sStep toks begun i st out = .nxt b i' st' out') :
    SInv toks W i' st' out' ∧ i < i' := by
  unfold sStep at h
  split at h
  · cases e : sLast (cur toks i) st out with
    | none => rw [e] at h; cases h
    | some out' => rw [e] at h; cases h
  · rename_i hk
    cases e : sLineO toks begun i st out with
    | none => rw [e] at h; cases h
    | some p =>
      obtain ⟨st1, out1⟩ := p
      rw [e] at h
      obtain ⟨l1, ⟨k, l2⟩, l3⟩ := sLineO_ok e hI.bot
      have l4 : st1.length ≤ st.length := by rw [l2]; simp
      have hi := hend.lt hI.lt hk
      have hw := hW i hI.lt
      have hr := hI.room
      have hl := hI.len
      have h' : sRest toks (cur toks i) i st1 out1 = .nxt b i' st' out' := h
      exact sRest_inv hW hend l3 (by omega) (fun b hb => hI.br b (by rw [l2] at hb; exact List.mem_of_mem_drop hb)) (by omega) hi h'

section
variable {F : Fr} {q : Nat} {vin vo vs : AVal} {H : Heap} {a : Nat} {K : AVal → Heap → Prop} {n : Nat} {toks : List Tok}
/-- Behind the last round. -/
theorem end10 {st : List Bl} {out : List Tok} {e a : Nat} {vs' : List AVal} {r : Nat} {call : CallP} {i : Nat} {b : Bool} {a7 a8 a9 a10 a11 a12 a13 a14 a15 : AVal} (hin : Inp F vin toks) (h : RI F q H vo vs st out e a) (he : e ≠ 0)
    (hK : ∀ H', Sees F H' → K (.tup [.nils, .int .i64 (a : Int), .int .i64 (e : Int)]) H') :
    loopOf call b10_13 (r + 1) [vin, .nils, .int .i64 ((0 : Nat) : Int), .int .i64 ((0 : Nat) : Int), .ptr q 0 0, .bool b, .int .i64 (i : Int), a7, a8, a9, a10, a11, a12, a13, a14, a15] H (KB call K) := by
  have hlen : lenV false vin = some (.int .i64 (toks.length : Int)) := by obtain ⟨b, w, z, R, rfl, _⟩ := hin; rfl
  have b01 : Nat.beq 0 1 = false := rfl
  rw [r_roundN b10_13.eq_1]
  by_cases c1 : i < toks.length
  · simp only [v_pnn, v_ppn, v_qnn, v_qpn, r_slcS, r_again1, r_againN, ag_int, ag_bool, ag_str, ag_agg, r_seq, r_reg, r_op, r_op_y, r_op_n, r_op_u, r_move, r_get_v, r_get_t, r_get_c, r_lget_0, r_lget_s, r_lset_0, r_lset_s, r_kOp_t, r_kOp_v, r_kOp_o, r_kReg, r_kSeq_n, r_kSeq_e, r_kSeq_r, r_kBlk_n, r_kBlk_e, r_kBlk_r, r_kBlk_o, r_kLoop_n, r_kLoop_e, r_kLoop_r, r_ops_nil, r_bin, r_binB, r_binP, r_eql, r_neq, r_lss, r_leq, r_gtr, r_geq, r_add, r_sub, r_mul, v_eqs, v_nes, r_opt, r_pick, r_pick_t, r_pick_f, r_not, v_not, r_ret, r_exit, r_skip, r_cond_t, r_cond_f, r_block, r_loop, r_kEnd_n, r_kEnd_r, r_giveO, r_consO, r_evR_0, r_evR_o, r_evR_1, r_evR_N, r_give_0, r_give_1, r_give_2, initV, r_nilck, v_ckp, v_ckf, r_fadr, v_fadr, r_load1, rd1, rdN, v_rd0, rdRow_0, rdRow_s, r_loadN, r_store, v_wrV, v_wrA, v_rdA0, v_some, r_putK, r_alloc, r_box, r_boxK, r_build, r_aggK, fill_0, fill_s, fillK_1, putRow_0, putRow_s, c_agg, c_int, c_bool, c_str, c_slc, c_nils, c_fn, c_ptr, r_buildS, r_rowsK1, fillR_1, fillO_1, r_append, r_fld1, r_idxS, r_idxStr, r_len, v_lenS, v_lenL, v_lenN, r_slcStr, v_sub, map_some, map_none, r_call, r_callv, v_callf, r_ext, v_ext0, v_exts, r_mkfn, opds, r_conv, v_conv, llen_0, llen_s, n_of, ii_eq, ii_lt, ii_le, get_put, get_add, next_put, next_add, put_put, add_put', ne_s, ne_s', ne_ss, ne_ss', if_true, if_false, ite_self, ite_true, ite_false, Nat.zero_add, Nat.add_zero, Nat.reduceAdd, Nat.reduceLT, Nat.reduceEqDiff, Bool.not_false, Bool.not_true, decide_true, decide_false, eq_self, r10_14, hlen, c1, h.cell, ly_2, ly_3, he, b01]
    exact hK _ h.sees
  · simp only [v_pnn, v_ppn, v_qnn, v_qpn, r_slcS, r_again1, r_againN, ag_int, ag_bool, ag_str, ag_agg, r_seq, r_reg, r_op, r_op_y, r_op_n, r_op_u, r_move, r_get_v, r_get_t, r_get_c, r_lget_0, r_lget_s, r_lset_0, r_lset_s, r_kOp_t, r_kOp_v, r_kOp_o, r_kReg, r_kSeq_n, r_kSeq_e, r_kSeq_r, r_kBlk_n, r_kBlk_e, r_kBlk_r, r_kBlk_o, r_kLoop_n, r_kLoop_e, r_kLoop_r, r_ops_nil, r_bin, r_binB, r_binP, r_eql, r_neq, r_lss, r_leq, r_gtr, r_geq, r_add, r_sub, r_mul, v_eqs, v_nes, r_opt, r_pick, r_pick_t, r_pick_f, r_not, v_not, r_ret, r_exit, r_skip, r_cond_t, r_cond_f, r_block, r_loop, r_kEnd_n, r_kEnd_r, r_giveO, r_consO, r_evR_0, r_evR_o, r_evR_1, r_evR_N, r_give_0, r_give_1, r_give_2, initV, r_nilck, v_ckp, v_ckf, r_fadr, v_fadr, r_load1, rd1, rdN, v_rd0, rdRow_0, rdRow_s, r_loadN, r_store, v_wrV, v_wrA, v_rdA0, v_some, r_putK, r_alloc, r_box, r_boxK, r_build, r_aggK, fill_0, fill_s, fillK_1, putRow_0, putRow_s, c_agg, c_int, c_bool, c_str, c_slc, c_nils, c_fn, c_ptr, r_buildS, r_rowsK1, fillR_1, fillO_1, r_append, r_fld1, r_idxS, r_idxStr, r_len, v_lenS, v_lenL, v_lenN, r_slcStr, v_sub, map_some, map_none, r_call, r_callv, v_callf, r_ext, v_ext0, v_exts, r_mkfn, opds, r_conv, v_conv, llen_0, llen_s, n_of, ii_eq, ii_lt, ii_le, get_put, get_add, next_put, next_add, put_put, add_put', ne_s, ne_s', ne_ss, ne_ss', if_true, if_false, ite_self, ite_true, ite_false, Nat.zero_add, Nat.add_zero, Nat.reduceAdd, Nat.reduceLT, Nat.reduceEqDiff, Bool.not_false, Bool.not_true, decide_true, decide_false, eq_self, r10_14, hlen, c1, h.cell, ly_2, ly_3, he, b01]
    exact hK _ h.sees

theorem loop10 {W : Nat → Nat} (hin : Inp F vin toks) (hW : Wt toks W) (hend : EndOk toks) (hbig : toks.length ≤ 1000000) : ∀ (k r : Nat) (begun : Bool) (i : Nat) (st : List Bl) (out : List Tok) (H : Heap) (vo vs a7 a8 a9 a10 a11 a12 a13 a14 a15 : AVal), RI F q H vo vs st out 0 a → SInv toks W i st out → toks.length ≤ k + i → k + 2 < r →
    (∀ H' v', Sees F H' → Sl F H' v' 5 ((sRun toks k begun i st out).1.map tokRow) → K (.tup [v', .int .i64 ((sRun toks k begun i st out).2.1 : Int), .int .i64 ((sRun toks k begun i st out).2.2 : Int)]) H') →
    loopOf (evF AP (look table) (n + 3)) b10_13 r [vin, .nils, .int .i64 ((0 : Nat) : Int), .int .i64 ((0 : Nat) : Int), .ptr q 0 0, .bool begun, .int .i64 (i : Int), a7, a8, a9, a10, a11, a12, a13, a14, a15] H (KB (evF AP (look table) (n + 3)) K) := by
  intro k
  induction k with
  | zero =>
    intro r begun i st out H vo vs a7 a8 a9 a10 a11 a12 a13 a14 a15 h hI hk hr hK
    have := hI.lt
    omega
  | succ k ih =>
    intro r begun i st out H vo vs a7 a8 a9 a10 a11 a12 a13 a14 a15 h hI hk hr hK
    obtain ⟨r, rfl⟩ : ∃ m, r = m + 1 := ⟨r - 1, by omega⟩
    have hlt := hI.lt
    have hroom := hI.room
    have hw := hW i hlt
    refine round10 h hin hI.bot.ne (by omega) hI.len (fun b hb => by have := hI.br b hb; omega) (by omega) hlt (fun ho => hend.next hlt ho) ?_
    unfold sRun at hK
    refine ⟨?_, ?_, ?_, ?_⟩
    · intro a' e ho H' hs
      rw [ho] at hK
      exact hK _ _ hs (Or.inl ⟨rfl, rfl⟩)
    · intro a' ho H' vo' vs' st' out' b i' b7 b8 b9 b10 b11 b12 b13 b14 b15 h'
      rw [ho] at hK
      obtain ⟨r, rfl⟩ : ∃ m, r = m + 1 := ⟨r - 1, by omega⟩
      exact end10 (vs' := []) hin h' (by omega) (fun H' hs => hK _ _ hs (Or.inl ⟨rfl, rfl⟩))
    · intro b i' st' out' ho H' vo' vs' b7 b8 b9 b10 b11 b12 b13 b14 b15 h'
      rw [ho] at hK
      obtain ⟨hI', hlt'⟩ := sStep_inv hW hend hI ho
      exact ih r b i' st' out' _ _ _ _ _ _ _ _ _ _ _ _ h' hI' (by omega) (by omega) hK
    · intro out' ho H' v' hs hsl
      rw [ho] at hK
      exact hK _ _ hs hsl
end
end Dt
