/- A part of the abstract machine and of the proof that the program does what it reckons; no conditions. -/
import Derived.Test.YtmndopeencbamaaR6
namespace Dt
open Go
set_option linter.all false
/-! ### The program's placer does the same steps -/
section
variable {toks : List Tok} {i pl : Nat} {f d : Bool}
theorem pPut_ok {t : Tok} {st : List Bl} {out : List Tok} {b : Nat} (h : out.length < 60000) : pPut toks t ⟨st, i, out, b, pl, f, d⟩ = (true, ⟨st, i, out ++ [t], b, pl, f, d⟩) := by
  unfold pPut
  rw [if_neg (by simp; omega)]
theorem pSign_ok {k n c : Nat} {t : Tok} {st : List Bl} {out : List Tok} {b : Nat} (h : out.length < 60000) : pSign toks k n c t ⟨st, i, out, b, pl, f, d⟩ = (true, ⟨st, i, out ++ [mkT k n c t], b, pl, f, d⟩) := pPut_ok h
theorem pEnd_ok {st : List Bl} {out : List Tok} {b : Nat} (h : out.length < 60000) : pEnd toks ⟨st, i, out, b, pl, f, d⟩ = (true, ⟨st.tail, i, out ++ [mkT 5 0 0 (cur toks i)], b, pl, f, d⟩) := pSign_ok h
theorem pFail_ok {e : Nat} {st : List Bl} {out : List Tok} : pFail toks e ⟨st, i, out, 0, pl, f, d⟩ = (false, ⟨st, i, out, e, (cur toks i).at_, f, d⟩) := by simp [pFail]
theorem thenP_t {σ : PS} {g : PS → Bool × PS} : thenP (true, σ) g = g σ := rfl
theorem thenP_f {σ : PS} {g : PS → Bool × PS} : thenP (false, σ) g = (false, σ) := rfl
/-- A step of the one answers as a step of the other. -/
def Rel2 (r : Bool × PS) (i pl : Nat) (f d : Bool) (a e : Nat) : Option (List Bl × List Tok) → Prop
  | none => r.1 = false ∧ r.2.bad = e ∧ r.2.place = a
  | some p => r = (true, ⟨p.1, i, p.2, 0, pl, f, d⟩)
theorem lineL_ok : ∀ (st : List Bl) (out : List Tok), out.length + st.length < 59999 → Rel2 (lineL toks (cur toks i) st ⟨st, i, out, 0, pl, f, d⟩) i pl f d (cur toks i).at_ 42 (sLine (cur toks i) st out) := by
  intro st
  induction st with
  | nil => intro out h; rfl
  | cons b st ih =>
    intro out h
    simp only [List.length_cons] at h
    unfold lineL sLine
    split
    · rfl
    split
    · split
      · rw [pFail_ok]; exact ⟨rfl, rfl, rfl⟩
      · rw [pEnd_ok (by omega)]
        simp only [if_true, List.tail_cons]
        exact ih _ (by simp; omega)
    · split
      · rw [pSign_ok (by omega)]; rfl
      · rfl
theorem popN_ok : ∀ (m : Nat) (st : List Bl) (out : List Tok), m ≤ st.length → out.length + st.length < 60000 → popN toks m ⟨st, i, out, 0, pl, f, d⟩ = (true, ⟨st.drop m, i, ends (cur toks i) m out, 0, pl, f, d⟩) := by
  intro m
  induction m with
  | zero => intro st out h1 h2; rfl
  | succ m ih =>
    intro st out h1 h2
    cases st with
    | nil => simp at h1
    | cons b st =>
      simp only [List.length_cons] at h1 h2
      unfold popN
      rw [pEnd_ok (by omega)]
      simp only [if_true, List.tail_cons]
      rw [ih st _ (by omega) (by simp; omega)]
      rfl
theorem lastL_ok : ∀ (st : List Bl) (out : List Tok), out.length + st.length < 60000 → Rel2 (lastL toks st ⟨st, i, out, 0, pl, f, d⟩) i pl f d (cur toks i).at_ 42 ((sLast (cur toks i) st out).map fun o => ([], o)) := by
  intro st
  induction st with
  | nil => intro out h; rfl
  | cons b st ih =>
    intro out h
    simp only [List.length_cons] at h
    unfold lastL sLast
    split
    · rw [pFail_ok]; exact ⟨rfl, rfl, rfl⟩
    · rw [pEnd_ok (by omega)]
      simp only [if_true, List.tail_cons]
      exact ih _ (by simp; omega)
theorem pLine_ok {st : List Bl} {out : List Tok} (hk : (cur toks i).kind ≠ 7) (h : out.length + st.length < 59999) : Rel2 (pLine toks ⟨st, i, out, 0, pl, f, d⟩) i pl f d (cur toks i).at_ 42 (sLineO toks f i st out) := by
  unfold pLine sLineO
  dsimp only
  by_cases c1 : i = 0
  · rw [if_pos (Or.inl c1), if_neg (by omega)]; rfl
  cases f with
  | true => rw [if_pos (Or.inr (Or.inl rfl)), if_neg (by simp)]; rfl
  | false =>
    by_cases c2 : (cur toks i).line ≤ (cur toks (i - 1)).line
    · rw [if_pos (Or.inr (Or.inr (Or.inr c2))), if_neg (by omega)]; rfl
    · rw [if_neg (by simp [c1, hk, c2]), if_pos ⟨rfl, by omega, by omega⟩]
      exact lineL_ok st out h
theorem pInward_ok {st : List Bl} {out : List Tok} (h : out.length + st.length < 60000) : pInward toks ⟨st, i, out, 0, pl, f, d⟩ = (true, ⟨(sIn (cur toks i) st out).1, i, (sIn (cur toks i) st out).2, 0, pl, f, d⟩) := by
  unfold pInward sIn
  dsimp only
  split
  · cases e : letIn st 0 with
    | none => rfl
    | some m =>
      have := letIn_le st 0 m e
      exact popN_ok m st out (by omega) h
  · rfl
theorem pBrace_ok {st : List Bl} {out : List Tok} (h : out.length < 60000) (hbr : ∀ b ∈ st, 0 ≤ b.braces) : pBrace toks ⟨st, i, out, 0, pl, f, false⟩ = (true, ⟨(sBrace (cur toks i) st out).2.1, i, (sBrace (cur toks i) st out).2.2, 0, pl, f, (sBrace (cur toks i) st out).1⟩) := by
  unfold pBrace sBrace
  dsimp only
  split
  · rw [pSign_ok h]
  · cases st with
    | nil => rfl
    | cons b st =>
      have hb := hbr b (by simp)
      dsimp only
      split
      · split
        · rfl
        split
        · by_cases c : b.braces = 0
          · rw [if_pos (by omega), if_pos c, pSign_ok h]
          · rw [if_neg (by omega), if_neg c]
        · rfl
      · rfl
theorem pPutCur_ok {st : List Bl} {out : List Tok} (h : out.length < 60000) : pPutCur toks ⟨st, i, out, 0, pl, f, d⟩ = (true, ⟨st, i, if d then out else out ++ [cur toks i], 0, pl, false, d⟩) := by
  unfold pPutCur
  cases d with
  | true => rfl
  | false =>
    simp only [Bool.false_eq_true, if_false]
    exact pPut_ok h
/-- The same for a token's step as a whole. -/
def RelS (toks : List Tok) (r : Bool × PS) : SOut → Prop
  | .err a e => r.1 = false ∧ r.2.bad = e ∧ r.2.place = a ∧ e ≠ 0
  | .fin out => r.1 = true ∧ r.2.bad = 0 ∧ r.2.out = out ∧ toks.length ≤ r.2.at_ + 1
  | .nxt b i st out => ∃ pl d, r = (true, ⟨st, i - 1, out, 0, pl, b, d⟩) ∧ 0 < i
theorem pBehind_ok {st : List Bl} {out : List Tok} (h : out.length + 2 < 60000) : RelS toks (pBehind toks ⟨st, i, out, 0, pl, false, d⟩) (sBehind toks (cur toks i) i st out) := by
  unfold pBehind sBehind
  dsimp only
  split
  · split
    · unfold pBegin
      dsimp only
      split
      · exact ⟨rfl, rfl, rfl, by omega⟩
      · rw [pSign_ok (by omega)]
        exact ⟨_, _, rfl, by omega⟩
    split
    · rw [pSign_ok (by omega)]
      simp only [if_true]
      rw [pSign_ok (by simp; omega)]
      exact ⟨_, _, rfl, by omega⟩
    · unfold pBegin
      dsimp only
      split
      · exact ⟨rfl, rfl, rfl, by omega⟩
      · rw [pSign_ok (by omega)]
        exact ⟨_, _, rfl, by omega⟩
  · exact ⟨_, _, rfl, by omega⟩
theorem pToken_ok {W : Nat → Nat} {st : List Bl} {out : List Tok} (hend : EndOk toks) (hW : Wt toks W) (hI : SInv toks W i st out) : RelS toks (pToken toks ⟨st, i, out, 0, pl, f, d⟩) (sStep toks f i st out) := by
  have hw := hW i hI.lt
  have hroom := hI.room
  unfold pToken pRules sStep
  dsimp only
  by_cases hk : (cur toks i).kind = 7
  · rw [if_pos hk]
    have e1 : pLine toks ⟨st, i, out, 0, pl, f, false⟩ = (true, ⟨st, i, out, 0, pl, f, false⟩) := by
      unfold pLine; rw [if_pos (Or.inr (Or.inr (Or.inl hk)))]
    have hk2 : (cur toks i).kind ≠ 2 := by omega
    have e2 : pInward toks ⟨st, i, out, 0, pl, f, false⟩ = (true, ⟨st, i, out, 0, pl, f, false⟩) := by
      unfold pInward; dsimp only; rw [isW_n hk2]; rfl
    rw [e1, thenP_t, e2, thenP_t]
    have e3 : pLast toks ⟨st, i, out, 0, pl, f, false⟩ = lastL toks st ⟨st, i, out, 0, pl, f, false⟩ := by
      unfold pLast; rw [if_pos hk]
    rw [e3]
    have hL := lastL_ok (toks := toks) (i := i) (pl := pl) (f := f) (d := false) st out (by omega)
    cases e : sLast (cur toks i) st out with
    | none =>
      rw [e] at hL
      obtain ⟨h1, h2, h3⟩ := hL
      rw [thenP_no h1, thenP_f, thenP_f]
      exact ⟨rfl, h2, h3, by omega⟩
    | some out' =>
      rw [e] at hL
      have hL' : lastL toks st ⟨st, i, out, 0, pl, f, false⟩ = (true, ⟨[], i, out', 0, pl, f, false⟩) := hL
      have hl2 := sLast_len _ _ _ _ e
      rw [hL', thenP_t, pBrace_ok (by omega) (by simp), thenP_t, pPutCur_ok (by
        have := (sBrace_len (cur toks i) [] out').1; omega)]
      rw [thenP_t]
      have e5 : sBrace (cur toks i) [] out' = (false, [], out') := by
        unfold sBrace; rw [isW_n hk2]; rfl
      have e6 : opensT (cur toks i) = false := by simp only [opensT, isW_n hk2, Bool.or_self]
      unfold pBehind
      dsimp only
      rw [e5, e6]
      refine ⟨rfl, rfl, rfl, ?_⟩
      dsimp only
      rcases Nat.lt_or_ge (i + 1) toks.length with h1 | h1
      · exact absurd hk (hend.2.2 i h1)
      · exact h1
  · rw [if_neg hk]
    have hLn := pLine_ok (toks := toks) (i := i) (pl := pl) (f := f) (d := false) (st := st) (out := out) hk (by omega)
    cases e : sLineO toks f i st out with
    | none =>
      rw [e] at hLn
      obtain ⟨h1, h2, h3⟩ := hLn
      rw [thenP_no h1, thenP_f, thenP_f, thenP_f, thenP_f]
      exact ⟨rfl, h2, h3, by omega⟩
    | some p =>
      obtain ⟨st1, out1⟩ := p
      rw [e] at hLn
      have hLn' : pLine toks ⟨st, i, out, 0, pl, f, false⟩ = (true, ⟨st1, i, out1, 0, pl, f, false⟩) := hLn
      obtain ⟨l1, ⟨k, l2⟩, l3⟩ := sLineO_ok e hI.bot
      obtain ⟨m1, k2, m2⟩ := sIn_ok (cur toks i) st1 out1
      have m3 : (sIn (cur toks i) st1 out1).1.length ≤ st1.length := by rw [m2]; simp
      have hbr1 : ∀ b ∈ st1, 0 ≤ b.braces := fun b hb => (hI.br b (by rw [l2] at hb; exact List.mem_of_mem_drop hb)).1
      have hbr2 : ∀ b ∈ (sIn (cur toks i) st1 out1).1, 0 ≤ b.braces := fun b hb => hbr1 b (by rw [m2] at hb; exact List.mem_of_mem_drop hb)
      obtain ⟨n1, n2, n3⟩ := sBrace_len (cur toks i) (sIn (cur toks i) st1 out1).1 (sIn (cur toks i) st1 out1).2
      rw [hLn', thenP_t, pInward_ok (by omega), thenP_t]
      have e4 : pLast toks ⟨(sIn (cur toks i) st1 out1).1, i, (sIn (cur toks i) st1 out1).2, 0, pl, f, false⟩ = (true, ⟨(sIn (cur toks i) st1 out1).1, i, (sIn (cur toks i) st1 out1).2, 0, pl, f, false⟩) := by
        unfold pLast; rw [if_neg hk]
      rw [e4, thenP_t, pBrace_ok (by omega) hbr2, thenP_t, pPutCur_ok (by omega), thenP_t]
      refine pBehind_ok ?_
      have : (if (sBrace (cur toks i) (sIn (cur toks i) st1 out1).1 (sIn (cur toks i) st1 out1).2).1 then (sBrace (cur toks i) (sIn (cur toks i) st1 out1).1 (sIn (cur toks i) st1 out1).2).2.2 else (sBrace (cur toks i) (sIn (cur toks i) st1 out1).1 (sIn (cur toks i) st1 out1).2).2.2 ++ [cur toks i]) = sPut (cur toks i) (sBrace (cur toks i) (sIn (cur toks i) st1 out1).1 (sIn (cur toks i) st1 out1).2) := rfl
      rw [this]
      omega
end
def pAns (σ : PS) : List Tok × Nat × Nat := if σ.bad = 0 then (σ.out, 0, 0) else ([], σ.place, σ.bad)
theorem pLoop_false (toks : List Tok) (k : Nat) (σ : PS) : pLoop toks k (false, σ) = σ := by
  cases k with
  | zero => rfl
  | succ k => unfold pLoop; rw [if_neg (by simp)]
theorem pLoop_end (toks : List Tok) (k : Nat) (b : Bool) (σ : PS) (h : toks.length ≤ σ.at_) : pLoop toks k (b, σ) = σ := by
  cases k with
  | zero => rfl
  | succ k => unfold pLoop; rw [if_neg (by simp; intro _; omega)]
theorem pLoop_ok {toks : List Tok} {W : Nat → Nat} (hend : EndOk toks) (hW : Wt toks W) : ∀ (k i : Nat) (f d : Bool) (pl : Nat) (st : List Bl) (out : List Tok), SInv toks W i st out → toks.length ≤ k + i →
    pAns (pLoop toks k (true, ⟨st, i, out, 0, pl, f, d⟩)) = sRun toks k f i st out := by
  intro k
  induction k with
  | zero => intro i f d pl st out hI hk; have := hI.lt; omega
  | succ k ih =>
    intro i f d pl st out hI hk
    have hR := pToken_ok (pl := pl) (f := f) (d := d) hend hW hI
    unfold pLoop sRun
    rw [if_pos ⟨rfl, hI.lt⟩]
    cases e : sStep toks f i st out with
    | err a' e' =>
      rw [e] at hR
      obtain ⟨h1, h2, h3, h4⟩ := hR
      dsimp only at h1 h2 h3 ⊢
      rw [h1, pLoop_false]
      simp only [pAns]
      rw [h2, h3, if_neg h4]
    | fin out' =>
      rw [e] at hR
      obtain ⟨h1, h2, h3, h4⟩ := hR
      dsimp only at h1 h2 h3 h4 ⊢
      rw [pLoop_end _ _ _ _ (by dsimp only; exact h4)]
      simp only [pAns]
      rw [h2, h3, if_pos rfl]
    | nxt b i' st' out' =>
      rw [e] at hR
      obtain ⟨pl', d', h1, h2⟩ := hR
      obtain ⟨hI', hlt⟩ := sStep_inv hW hend hI e
      dsimp only at h1 ⊢
      rw [h1]
      dsimp only
      rw [show i' - 1 + 1 = i' from by omega]
      exact ih i' b d' pl' st' out' hI' (by omega)
def sBlocks (toks : List Tok) : List Tok × Nat × Nat := sRun toks toks.length true 0 [⟨false, (cur toks 0).col, false, 0⟩] [mkT 4 0 0 (cur toks 0)]
theorem sStep_0 (toks : List Tok) (st : List Bl) (out : List Tok) : sStep toks true 0 st out = sStep toks false 0 st out := by
  simp [sStep, sLineO]
theorem sRun_0 (toks : List Tok) (k : Nat) (st : List Bl) (out : List Tok) : sRun toks k true 0 st out = sRun toks k false 0 st out := by
  cases k with
  | zero => rfl
  | succ k => unfold sRun; rw [sStep_0]
theorem SInv.start {toks : List Tok} {W : Nat → Nat} (hend : EndOk toks) (h0 : W 0 ≤ 59000) : SInv toks W 0 [⟨false, (cur toks 0).col, false, 0⟩] [mkT 4 0 0 (cur toks 0)] :=
  ⟨⟨rfl, rfl⟩, by simp, by simp, by simp; omega, List.length_pos_iff.2 hend.1⟩
/-- The two agree. -/
theorem blocks_same {toks : List Tok} {W : Nat → Nat} (hend : EndOk toks) (hW : Wt toks W) (h0 : W 0 ≤ 59000) : blocksOf toks = sBlocks toks := by
  have hs : pStart toks = (true, ⟨[⟨false, (cur toks 0).col, false, 0⟩], 0, [mkT 4 0 0 (cur toks 0)], 0, 0, false, false⟩) := by
    unfold pStart pBegin
    rw [if_neg (by simp), pSign_ok (by simp)]
    rfl
  have := pLoop_ok hend hW toks.length 0 false false 0 _ _ (SInv.start hend h0) (by omega)
  rw [← sRun_0] at this
  unfold sBlocks
  rw [← this]
  unfold blocksOf pAns pAll
  rw [hs]

theorem Sees.next_le {H H' : Heap} (h : Sees H.all H') : H.next ≤ H'.next := by
  rcases Nat.eq_zero_or_pos H.next with e | e
  · omega
  · have := (h (H.next - 1) (H.get (H.next - 1)) (by unfold Heap.all; rw [if_pos (by omega)])).1
    omega
section
variable {F : Fr} {q : Nat} {vin vo vs : AVal} {H : Heap} {a : Nat} {K : AVal → Heap → Prop} {n : Nat} {toks : List Tok}
/-- The reference's Blocks. -/
theorem t10 {W : Nat → Nat} (hin : Inp H.all vin toks) (hend : EndOk toks) (hbig : toks.length ≤ 1000000) (hW : Wt toks W) (h0 : W 0 ≤ 59000)
    (hK : ∀ H' v', Grow H H' → Sl H.all H' v' 5 ((sBlocks toks).1.map tokRow) → K (.tup [v', .int .i64 ((sBlocks toks).2.1 : Int), .int .i64 ((sBlocks toks).2.2 : Int)]) H') :
    evF AP (look table) (n + 4) 10 [vin] H K := by
  rw [r_fun look10]
  have hne : 0 < toks.length := List.length_pos_iff.2 hend.1
  have hlen : lenV false vin = some (.int .i64 (toks.length : Int)) := by obtain ⟨b, w, z, R, rfl, _⟩ := hin; rfl
  have hs := Sees.all H
  have g0 : ¬ (toks.length = 0) := by omega
  obtain ⟨b, w, z, R, j1, j2, j3, j4⟩ := hin.at hs (k := .i64) hne
  have jA : rdC1 (.rows z R) w 4 = some (.int .i64 ((cur toks 0).col : Int)) := by rw [v_rd j3]; rfl
  have jB : rdCN 5 (.rows z R) w 0 = some (.agg (tokRow (cur toks 0))) := v_rdA j3 tk_len
  have u0 := lt_ne0 j4
  have h1 : RI H.all H.next (H.add (.rows 4 [lyRow .nils .nils 0 0])) .nils .nils [] [] 0 0 :=
    ⟨hs.grow Grow.add, by rw [next_add]; omega, all_none (Nat.le_refl _), by rw [get_add, if_pos rfl], Or.inl ⟨rfl, rfl⟩, Or.inl ⟨rfl, rfl⟩, by simp [blkOf], by simp [blkOf], by simp [blkOf]⟩
  simp only [v_pnn, v_ppn, v_qnn, v_qpn, r_slcS, r_again1, r_againN, ag_int, ag_bool, ag_str, ag_agg, r_seq, r_reg, r_op, r_op_y, r_op_n, r_op_u, r_move, r_get_v, r_get_t, r_get_c, r_lget_0, r_lget_s, r_lset_0, r_lset_s, r_kOp_t, r_kOp_v, r_kOp_o, r_kReg, r_kSeq_n, r_kSeq_e, r_kSeq_r, r_kBlk_n, r_kBlk_e, r_kBlk_r, r_kBlk_o, r_kLoop_n, r_kLoop_e, r_kLoop_r, r_ops_nil, r_bin, r_binB, r_binP, r_eql, r_neq, r_lss, r_leq, r_gtr, r_geq, r_add, r_sub, r_mul, v_eqs, v_nes, r_opt, r_pick, r_pick_t, r_pick_f, r_not, v_not, r_ret, r_exit, r_skip, r_cond_t, r_cond_f, r_block, r_loop, r_kEnd_n, r_kEnd_r, r_giveO, r_consO, r_evR_0, r_evR_o, r_evR_1, r_evR_N, r_give_0, r_give_1, r_give_2, initV, r_nilck, v_ckp, v_ckf, r_fadr, v_fadr, r_load1, rd1, rdN, v_rd0, rdRow_0, rdRow_s, r_loadN, r_store, v_wrV, v_wrA, v_rdA0, v_some, r_putK, r_alloc, r_box, r_boxK, r_build, r_aggK, fill_0, fill_s, fillK_1, putRow_0, putRow_s, c_agg, c_int, c_bool, c_str, c_slc, c_nils, c_fn, c_ptr, r_buildS, r_rowsK1, fillR_1, fillO_1, r_append, r_fld1, r_idxS, r_idxStr, r_len, v_lenS, v_lenL, v_lenN, r_slcStr, v_sub, map_some, map_none, r_call, r_callv, v_callf, r_ext, v_ext0, v_exts, r_mkfn, opds, r_conv, v_conv, llen_0, llen_s, n_of, ii_eq, ii_lt, ii_le, get_put, get_add, next_put, next_add, put_put, add_put', ne_s, ne_s', ne_ss, ne_ss', if_true, if_false, ite_self, ite_true, ite_false, Nat.zero_add, Nat.add_zero, Nat.reduceAdd, Nat.reduceLT, Nat.reduceEqDiff, Bool.not_false, Bool.not_true, decide_true, decide_false, eq_self, tk_f0, tk_f1, tk_f2, tok_blk, tok_agg, tk_0, tk_1, tk_2, tk_3, tk_4, tk_len, tk_same, tk_w0, tk_w1, d10, hlen, g0, j1, j2, jB, u0]
  refine t18 h1 (by simp) ?_
  intro H2 vo2 vs2 h2
  have j2' : H2.get b = .rows z R := (h2.sees b _ (by simp [Heap.all, j4, j2])).2
  simp only [v_pnn, v_ppn, v_qnn, v_qpn, r_slcS, r_again1, r_againN, ag_int, ag_bool, ag_str, ag_agg, r_seq, r_reg, r_op, r_op_y, r_op_n, r_op_u, r_move, r_get_v, r_get_t, r_get_c, r_lget_0, r_lget_s, r_lset_0, r_lset_s, r_kOp_t, r_kOp_v, r_kOp_o, r_kReg, r_kSeq_n, r_kSeq_e, r_kSeq_r, r_kBlk_n, r_kBlk_e, r_kBlk_r, r_kBlk_o, r_kLoop_n, r_kLoop_e, r_kLoop_r, r_ops_nil, r_bin, r_binB, r_binP, r_eql, r_neq, r_lss, r_leq, r_gtr, r_geq, r_add, r_sub, r_mul, v_eqs, v_nes, r_opt, r_pick, r_pick_t, r_pick_f, r_not, v_not, r_ret, r_exit, r_skip, r_cond_t, r_cond_f, r_block, r_loop, r_kEnd_n, r_kEnd_r, r_giveO, r_consO, r_evR_0, r_evR_o, r_evR_1, r_evR_N, r_give_0, r_give_1, r_give_2, initV, r_nilck, v_ckp, v_ckf, r_fadr, v_fadr, r_load1, rd1, rdN, v_rd0, rdRow_0, rdRow_s, r_loadN, r_store, v_wrV, v_wrA, v_rdA0, v_some, r_putK, r_alloc, r_box, r_boxK, r_build, r_aggK, fill_0, fill_s, fillK_1, putRow_0, putRow_s, c_agg, c_int, c_bool, c_str, c_slc, c_nils, c_fn, c_ptr, r_buildS, r_rowsK1, fillR_1, fillO_1, r_append, r_fld1, r_idxS, r_idxStr, r_len, v_lenS, v_lenL, v_lenN, r_slcStr, v_sub, map_some, map_none, r_call, r_callv, v_callf, r_ext, v_ext0, v_exts, r_mkfn, opds, r_conv, v_conv, llen_0, llen_s, n_of, ii_eq, ii_lt, ii_le, get_put, get_add, next_put, next_add, put_put, add_put', ne_s, ne_s', ne_ss, ne_ss', if_true, if_false, ite_self, ite_true, ite_false, Nat.zero_add, Nat.add_zero, Nat.reduceAdd, Nat.reduceLT, Nat.reduceEqDiff, Bool.not_false, Bool.not_true, decide_true, decide_false, eq_self, tk_f0, tk_f1, tk_f2, tok_blk, tok_agg, tk_0, tk_1, tk_2, tk_3, tk_4, tk_len, tk_same, tk_w0, tk_w1, j1, j2', jA, jB, rb_agg]
  refine t19 h2 (by simp) ?_ ?_
  · intro _ H3 vo3 vs3 h3
    simp only [v_pnn, v_ppn, v_qnn, v_qpn, r_slcS, r_again1, r_againN, ag_int, ag_bool, ag_str, ag_agg, r_seq, r_reg, r_op, r_op_y, r_op_n, r_op_u, r_move, r_get_v, r_get_t, r_get_c, r_lget_0, r_lget_s, r_lset_0, r_lset_s, r_kOp_t, r_kOp_v, r_kOp_o, r_kReg, r_kSeq_n, r_kSeq_e, r_kSeq_r, r_kBlk_n, r_kBlk_e, r_kBlk_r, r_kBlk_o, r_kLoop_n, r_kLoop_e, r_kLoop_r, r_ops_nil, r_bin, r_binB, r_binP, r_eql, r_neq, r_lss, r_leq, r_gtr, r_geq, r_add, r_sub, r_mul, v_eqs, v_nes, r_opt, r_pick, r_pick_t, r_pick_f, r_not, v_not, r_ret, r_exit, r_skip, r_cond_t, r_cond_f, r_block, r_loop, r_kEnd_n, r_kEnd_r, r_giveO, r_consO, r_evR_0, r_evR_o, r_evR_1, r_evR_N, r_give_0, r_give_1, r_give_2, initV, r_nilck, v_ckp, v_ckf, r_fadr, v_fadr, r_load1, rd1, rdN, v_rd0, rdRow_0, rdRow_s, r_loadN, r_store, v_wrV, v_wrA, v_rdA0, v_some, r_putK, r_alloc, r_box, r_boxK, r_build, r_aggK, fill_0, fill_s, fillK_1, putRow_0, putRow_s, c_agg, c_int, c_bool, c_str, c_slc, c_nils, c_fn, c_ptr, r_buildS, r_rowsK1, fillR_1, fillO_1, r_append, r_fld1, r_idxS, r_idxStr, r_len, v_lenS, v_lenL, v_lenN, r_slcStr, v_sub, map_some, map_none, r_call, r_callv, v_callf, r_ext, v_ext0, v_exts, r_mkfn, opds, r_conv, v_conv, llen_0, llen_s, n_of, ii_eq, ii_lt, ii_le, get_put, get_add, next_put, next_add, put_put, add_put', ne_s, ne_s', ne_ss, ne_ss', if_true, if_false, ite_self, ite_true, ite_false, Nat.zero_add, Nat.add_zero, Nat.reduceAdd, Nat.reduceLT, Nat.reduceEqDiff, Bool.not_false, Bool.not_true, decide_true, decide_false, eq_self]
    refine loop10 hin hW hend hbig toks.length manyRounds true 0 _ _ _ _ _ _ _ _ _ _ _ _ _ _ h3 (SInv.start hend h0) (by omega) (by unfold manyRounds; omega) ?_
    intro H' v' hs' hsl
    exact hK H' v' (hs'.toGrow hs'.next_le) hsl
  · intro h; simp at h
end
end Dt
