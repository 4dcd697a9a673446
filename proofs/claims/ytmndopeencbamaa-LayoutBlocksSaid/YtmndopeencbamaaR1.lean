/- A part of the abstract machine and of the proof that the program does what it reckons; no conditions. -/
import Derived.Test.YtmndopeencbamaaP2
namespace Dt
open Go
set_option linter.all false
theorem look10 : look table 10 = some d10 := (rfl)
theorem look18 : look table 18 = some d18 := (rfl)
theorem look19 : look table 19 = some d19 := (rfl)
theorem look20 : look table 20 = some d20 := (rfl)
theorem look21 : look table 21 = some d21 := (rfl)
theorem look22 : look table 22 = some d22 := (rfl)

/-! ### The reference's layer: what it holds, and where -/
def rbRow (b : Bl) : List AVal := [.int .i64 (b.col : Int), .bool b.lt, .int .i64 b.braces, .bool b.explicit]
theorem rb_len {b : Bl} : llen (rbRow b) = 4 := (rfl)
theorem rb_agg {e t : Bool} {c : Nat} {n : Int} : AVal.agg [.int .i64 (c : Int), .bool t, .int .i64 n, .bool e] = AVal.agg (rbRow ⟨e, c, t, n⟩) := (rfl)
def lyRow (vo vs : AVal) (e a : Nat) : List AVal := [vo, vs, .int .i64 (e : Int), .int .i64 (a : Int)]
section
variable {vo vs : AVal} {e a : Nat}
theorem ly_0 : rdRow (lyRow vo vs e a) 0 = some vo := (rfl)
theorem ly_1 : rdRow (lyRow vo vs e a) 1 = some vs := (rfl)
theorem ly_2 : rdRow (lyRow vo vs e a) 2 = some (.int .i64 (e : Int)) := (rfl)
theorem ly_3 : rdRow (lyRow vo vs e a) 3 = some (.int .i64 (a : Int)) := (rfl)
theorem ly_w0 {v : AVal} : wrC 1 (.rows 4 [lyRow vo vs e a]) 0 0 [v] = some (.rows 4 [lyRow v vs e a]) := v_wr (by simp [lyRow, llen])
theorem ly_w1 {v : AVal} : wrC 1 (.rows 4 [lyRow vo vs e a]) 0 1 [v] = some (.rows 4 [lyRow vo v e a]) := v_wr (by simp [lyRow, llen])
theorem ly_w2 {n : Nat} : wrC 1 (.rows 4 [lyRow vo vs e a]) 0 2 [.int .i64 (n : Int)] = some (.rows 4 [lyRow vo vs n a]) := v_wr (by simp [lyRow, llen])
theorem ly_w3 {n : Nat} : wrC 1 (.rows 4 [lyRow vo vs e a]) 0 3 [.int .i64 (n : Int)] = some (.rows 4 [lyRow vo vs e n]) := v_wr (by simp [lyRow, llen])
end
def rsRows (st : List Bl) : List (List AVal) := st.reverse.map rbRow
structure RI (F : Fr) (q : Nat) (H : Heap) (vo vs : AVal) (st : List Bl) (out : List Tok) (e a : Nat) : Prop where
  sees : Sees F H
  hp : q < H.next
  fp : F q = none
  cell : H.get q = .rows 4 [lyRow vo vs e a]
  st : Sl F H vs 4 (rsRows st)
  out : Sl F H vo 5 (out.map tokRow)
  lp : blkOf vs ≠ some q
  op : blkOf vo ≠ some q
  lo : ∀ b, blkOf vs = some b → blkOf vo ≠ some b
section
variable {F : Fr} {q : Nat} {vo vs : AVal} {H H' : Heap} {st : List Bl} {out : List Tok} {e a : Nat}
theorem RI.grow (h : RI F q H vo vs st out e a) (g : Grow H H') : RI F q H' vo vs st out e a :=
  ⟨h.sees.grow g, Nat.lt_of_lt_of_le h.hp g.1, h.fp, (g.2 q h.hp).trans h.cell, h.st.grow g, h.out.grow g, h.lp, h.op, h.lo⟩
theorem RI.lput (h : RI F q H vo vs st out e a) {e' a' : Nat} : RI F q (H.put q (.rows 4 [lyRow vo vs e' a'])) vo vs st out e' a' :=
  ⟨h.sees.put h.fp, h.hp, h.fp, by rw [get_put, if_pos rfl], h.st.put h.lp, h.out.put h.op, h.lp, h.op, h.lo⟩
theorem RI.weaken {F' : Fr} (h : RI F' q H vo vs st out e a) (hF : ∀ b B, F b = some B → F' b = some B) : RI F q H vo vs st out e a := by
  have hn : ∀ b, F' b = none → F b = none := fun b hb => by
    cases e : F b with
    | none => rfl
    | some B => rw [hF b B e] at hb; cases hb
  exact ⟨fun b B hb => h.sees b B (hF b B hb), h.hp, hn _ h.fp, h.cell, h.st.frame fun b hb => hn b (h.st.free hb), h.out.frame fun b hb => hn b (h.out.free hb), h.lp, h.op, h.lo⟩
theorem RI.set (h : RI F q H vo vs st out e a) {b : Nat} {B : Blk} (hb : b < H.next) (hB : H.get b = B) (h1 : q ≠ b) (h2 : blkOf vs ≠ some b) (h3 : blkOf vo ≠ some b) : RI (F.set b B) q H vo vs st out e a :=
  ⟨h.sees.set hb hB, h.hp, by rw [Fr.set_ne h1]; exact h.fp, h.cell,
   h.st.frame fun c hc => by rw [Fr.set_ne (fun e => h2 (by rw [← e]; exact hc))]; exact h.st.free hc,
   h.out.frame fun c hc => by rw [Fr.set_ne (fun e => h3 (by rw [← e]; exact hc))]; exact h.out.free hc, h.lp, h.op, h.lo⟩
theorem RI.loc (h : RI F q H vo vs st out e a) (B : Blk) : RI (F.set H.next B) q (H.add B) vo vs st out e a :=
  (h.grow Grow.add).set (by rw [next_add]; omega) (by rw [get_add, if_pos rfl]) (by have := h.hp; omega) (h.st.ne (Nat.le_refl _)) (h.out.ne (Nat.le_refl _))
theorem RI.fresh (h : RI F q H vo vs st out e a) : F H.next = none := h.sees.fresh (Nat.le_refl _)
theorem RI.drop {b : Nat} {B : Blk} (h : RI (F.set b B) q H vo vs st out e a) (hb : F b = none) : RI F q H vo vs st out e a := by
  refine h.weaken fun c C hc => ?_
  rw [Fr.set_ne (fun e => by rw [e, hb] at hc; cases hc)]
  exact hc
theorem RI.pushOut (h : RI F q H vo vs st out e a) {y : AVal} {t : Tok} {kv : AVal → Heap → Prop} (hy : rowsOf H 5 y = some [tokRow t]) (hlen : out.length < 60000)
    (hK : ∀ v' H', v'.cells = some [v'] → H'.get q = .rows 4 [lyRow vo vs e a] → RI F q (H'.put q (.rows 4 [lyRow v' vs e a])) v' vs st (out ++ [t]) e a → kv v' H') :
    doAppend AP 5 48 vo y H kv := by
  refine app1 (bytes := 48) h.sees h.out hy (by simp; omega) ?_
  intro v' H' hn hF hv hw hfr
  have hpp : H'.get q = .rows 4 [lyRow vo vs e a] := by rw [hfr q h.hp h.op]; exact h.cell
  have hv2 : Sl F H' v' 5 ((out ++ [t]).map tokRow) := by simpa using hv
  have hvl : Sl F H' vs 4 (rsRows st) := by
    rcases h.st with ⟨e1, e2⟩ | ⟨b, R, e1, hlt, hFb, hR, hrows⟩
    · exact Or.inl ⟨e1, e2⟩
    · refine Or.inr ⟨b, R, e1, by omega, hFb, ?_, hrows⟩
      rw [hfr b hlt (h.lo b (by rw [e1]; rfl))]
      exact hR
  obtain ⟨b, rfl, hb⟩ := hw
  have hp' : blkOf (.slc b 0 ((out.map tokRow).length + 1) none 5) ≠ some q := by
    intro e
    cases e
    rcases hb with hb | hb
    · exact h.op hb
    · have := h.hp; omega
  refine hK _ H' hv2.cells hpp ⟨hF.put h.fp, Nat.lt_of_lt_of_le h.hp hn, h.fp, by rw [get_put, if_pos rfl], hvl.put h.lp, hv2.put hp', h.lp, hp', ?_⟩
  intro c hc e
  cases e
  rcases hb with hb | hb
  · exact h.lo _ hc hb
  · have := h.st.lt hc; omega
theorem RI.pushSt (h : RI F q H vo vs st out e a) {y : AVal} {t : Bl} {kv : AVal → Heap → Prop} (hy : rowsOf H 4 y = some [rbRow t]) (hlen : st.length < 60000)
    (hK : ∀ v' H', v'.cells = some [v'] → H'.get q = .rows 4 [lyRow vo vs e a] → RI F q (H'.put q (.rows 4 [lyRow vo v' e a])) vo v' (t :: st) out e a → kv v' H') :
    doAppend AP 4 32 vs y H kv := by
  refine app1 (bytes := 32) h.sees h.st hy (by simp [rsRows]; omega) ?_
  intro v' H' hn hF hv hw hfr
  have hpp : H'.get q = .rows 4 [lyRow vo vs e a] := by rw [hfr q h.hp h.lp]; exact h.cell
  have hv2 : Sl F H' v' 4 (rsRows (t :: st)) := by simpa [rsRows] using hv
  have hvo : Sl F H' vo 5 (out.map tokRow) := by
    rcases h.out with ⟨e1, e2⟩ | ⟨b, R, e1, hlt, hFb, hR, hrows⟩
    · exact Or.inl ⟨e1, e2⟩
    · refine Or.inr ⟨b, R, e1, by omega, hFb, ?_, hrows⟩
      rw [hfr b hlt (fun e => h.lo b e (by rw [e1]; rfl))]
      exact hR
  obtain ⟨b, rfl, hb⟩ := hw
  have hp' : blkOf (.slc b 0 ((rsRows st).length + 1) none 4) ≠ some q := by
    intro e
    cases e
    rcases hb with hb | hb
    · exact h.lp hb
    · have := h.hp; omega
  refine hK _ H' hv2.cells hpp ⟨hF.put h.fp, Nat.lt_of_lt_of_le h.hp hn, h.fp, by rw [get_put, if_pos rfl], hv2.put hp', hvo.put h.op, hp', h.op, ?_⟩
  intro c hc e
  cases hc
  rcases hb with hb | hb
  · exact h.lo _ hb e
  · have := h.out.lt e; omega
theorem RI.st_len (h : RI F q H vo vs st out e a) : lenV false vs = some (.int .i64 (st.length : Int)) := by rw [h.st.len]; simp [rsRows]
theorem RI.out_len (h : RI F q H vo vs st out e a) : lenV false vo = some (.int .i64 (out.length : Int)) := by rw [h.out.len]; simp
theorem RI.st_at (h : RI F q H vo vs st out e a) {i : Nat} {b : Bl} (hi : i < st.length) (hb : st[st.length - 1 - i]? = some b) {k : IntKind} : ∃ c R, idxV 4 vs (.int k (i : Int)) = some (.ptr c i 0) ∧ H.get c = .rows 4 R ∧ rget R i = some (rbRow b) ∧ c < H.next ∧ c ≠ q := by
  rcases h.st with ⟨e1, e2⟩ | ⟨c, R, e1, hlt, hFb, hR, hrows⟩
  · simp [rsRows] at e2
    rw [e2] at hi
    simp at hi
  · have e3 : (rsRows st).length = st.length := by simp [rsRows]
    rw [e3] at e1 hrows
    refine ⟨c, R, ?_, hR, ?_, hlt, fun e => h.lp (by rw [e1, e]; rfl)⟩
    · rw [e1, v_idx hi, Nat.zero_add]
    · rw [rget_get]
      have : (R.take st.length)[i]? = (rsRows st)[i]? := by rw [hrows]
      rw [List.getElem?_take_of_lt hi] at this
      rw [this]
      simp only [rsRows, List.getElem?_map, List.getElem?_reverse hi, hb, Option.map]
theorem RI.top_ok {b : Bl} (h : RI F q H vo vs (b :: st) out e a) : ∃ c R, vs = .slc c 0 (st.length + 1) none 4 ∧ (∀ k : IntKind, idxV 4 vs (.int k (st.length : Int)) = some (.ptr c st.length 0)) ∧ H.get c = .rows 4 R ∧ rget R st.length = some (rbRow b) ∧ c < H.next ∧ c ≠ q ∧ R.take (st.length + 1) = rsRows (b :: st) := by
  rcases h.st with ⟨e1, e2⟩ | ⟨c, R, e1, hlt, hFb, hR, hrows⟩
  · simp [rsRows] at e2
  · have e3 : (rsRows (b :: st)).length = st.length + 1 := by simp [rsRows]
    rw [e3] at e1 hrows
    refine ⟨c, R, e1, fun k => by rw [e1, v_idx (by omega), Nat.zero_add], hR, ?_, hlt, fun e => h.lp (by rw [e1, e]; rfl), hrows⟩
    rw [rget_get]
    have : (R.take (st.length + 1))[st.length]? = (rsRows (b :: st))[st.length]? := by rw [hrows]
    rw [List.getElem?_take_of_lt (by omega)] at this
    rw [this]
    simp [rsRows]
theorem rset_set' : ∀ (R : List (List AVal)) (i : Nat) (x : List AVal), rset R i x = R.set i x
  | [], _, _ => rfl
  | y :: R, 0, x => rfl
  | y :: R, i + 1, x => by simp only [rset, List.set_cons_succ, rset_set' R i x]
theorem RI.setTop {b b' : Bl} (h : RI F q H vo vs (b :: st) out e a) {c : Nat} {R : List (List AVal)} (e1 : vs = .slc c 0 (st.length + 1) none 4) (hR : H.get c = .rows 4 R) :
    RI F q (H.put c (.rows 4 (rset R st.length (rbRow b')))) vo vs (b' :: st) out e a := by
  obtain ⟨c', R', e1', e2', e3', e4, e5, e6, e7⟩ := h.top_ok
  rw [e1] at e1'
  obtain rfl : c = c' := by injection e1'
  rw [hR] at e3'
  obtain rfl : R = R' := by injection e3'
  have hbl : blkOf vs = some c := by rw [e1]; rfl
  have hlen : st.length + 1 ≤ R.length := by
    have := congrArg List.length e7
    simp [rsRows] at this
    omega
  refine ⟨h.sees.put (h.st.free hbl), h.hp, h.fp, by rw [get_put, if_neg (fun e => e6 e.symm)]; exact h.cell, ?_, h.out.put (h.lo c hbl), h.lp, h.op, h.lo⟩
  have e3 : (rsRows (b' :: st)).length = st.length + 1 := by simp [rsRows]
  refine Or.inr ⟨c, rset R st.length (rbRow b'), by rw [e3]; exact e1, e5, h.st.free hbl, by rw [get_put, if_pos rfl], ?_⟩
  rw [e3, rset_set', List.take_succ_eq_append_getElem (by simp; omega)]
  simp only [List.getElem_set_self, List.take_set_of_le (Nat.le_refl _)]
  have := congrArg (List.take st.length) e7
  rw [List.take_take] at this
  simp [rsRows] at this ⊢
  exact this
end

section
variable {F : Fr} {q : Nat} {vo vs : AVal} {H : Heap} {st : List Bl} {out : List Tok} {a : Nat} {K : AVal → Heap → Prop} {n : Nat} {toks : List Tok}
/-- The reference is in good order: no error so far. -/
abbrev RPost (F : Fr) (q : Nat) (st : List Bl) (out : List Tok) (a : Nat) (kv : Heap → Prop) : Prop := ∀ H' vo' vs', RI F q H' vo' vs' st out 0 a → kv H'
def mkO (k : Nat) (own : Bool) (t : Tok) : Tok := if own then mkT k t.tn t.tc t else mkT k 0 0 t

/-- put. -/
theorem t18 (h : RI F q H vo vs st out 0 a) {k : Nat} {own : Bool} {t : Tok} (hb : out.length < 60000) (hK : RPost F q st (out ++ [mkO k own t]) a (K (.tup []))) :
    evF AP (look table) (n + 1) 18 [.ptr q 0 0, .int .i64 (k : Int), .agg (tokRow t), .bool own] H K := by
  rw [r_fun look18]
  have q0 := lt_ne0 h.hp
  have q1 := lt_ne1 h.hp
  have q0' := lt_ne0' h.hp
  have q1' := lt_ne1' h.hp
  have g : ¬ 60000 ≤ out.length := by omega
  cases own with
  | true =>
    simp only [v_pnn, v_ppn, v_qnn, v_qpn, r_slcS, r_again1, r_againN, ag_int, ag_bool, ag_str, ag_agg, r_seq, r_reg, r_op, r_op_y, r_op_n, r_op_u, r_move, r_get_v, r_get_t, r_get_c, r_lget_0, r_lget_s, r_lset_0, r_lset_s, r_kOp_t, r_kOp_v, r_kOp_o, r_kReg, r_kSeq_n, r_kSeq_e, r_kSeq_r, r_kBlk_n, r_kBlk_e, r_kBlk_r, r_kBlk_o, r_kLoop_n, r_kLoop_e, r_kLoop_r, r_ops_nil, r_bin, r_binB, r_binP, r_eql, r_neq, r_lss, r_leq, r_gtr, r_geq, r_add, r_sub, r_mul, v_eqs, v_nes, r_opt, r_pick, r_pick_t, r_pick_f, r_not, v_not, r_ret, r_exit, r_skip, r_cond_t, r_cond_f, r_block, r_loop, r_kEnd_n, r_kEnd_r, r_giveO, r_consO, r_evR_0, r_evR_o, r_evR_1, r_evR_N, r_give_0, r_give_1, r_give_2, initV, r_nilck, v_ckp, v_ckf, r_fadr, v_fadr, r_load1, rd1, rdN, v_rd0, rdRow_0, rdRow_s, r_loadN, r_store, v_wrV, v_wrA, v_rdA0, v_some, r_putK, r_alloc, r_box, r_boxK, r_build, r_aggK, fill_0, fill_s, fillK_1, putRow_0, putRow_s, c_agg, c_int, c_bool, c_str, c_slc, c_nils, c_fn, c_ptr, r_buildS, r_rowsK1, fillR_1, fillO_1, r_append, r_fld1, r_idxS, r_idxStr, r_len, v_lenS, v_lenL, v_lenN, r_slcStr, v_sub, map_some, map_none, r_call, r_callv, v_callf, r_ext, v_ext0, v_exts, r_mkfn, opds, r_conv, v_conv, llen_0, llen_s, n_of, ii_eq, ii_lt, ii_le, get_put, get_add, next_put, next_add, put_put, add_put', ne_s, ne_s', ne_ss, ne_ss', if_true, if_false, ite_self, ite_true, ite_false, Nat.zero_add, Nat.add_zero, Nat.reduceAdd, Nat.reduceLT, Nat.reduceEqDiff, Bool.not_false, Bool.not_true, decide_true, decide_false, eq_self, tk_f0, tk_f1, tk_f2, tok_blk, tok_agg, tk_0, tk_1, tk_2, tk_3, tk_4, tk_len, tk_same, tk_w0, tk_w1, d18, h.cell, q0, q1, q0', q1', ly_0, ly_2, h.out_len, g]
    refine RI.pushOut (t := mkO k true t) (((h.grow Grow.add).grow Grow.add).grow Grow.add) rows_one hb ?_
    intro v' H' hc hg h'
    simp only [v_pnn, v_ppn, v_qnn, v_qpn, r_slcS, r_again1, r_againN, ag_int, ag_bool, ag_str, ag_agg, r_seq, r_reg, r_op, r_op_y, r_op_n, r_op_u, r_move, r_get_v, r_get_t, r_get_c, r_lget_0, r_lget_s, r_lset_0, r_lset_s, r_kOp_t, r_kOp_v, r_kOp_o, r_kReg, r_kSeq_n, r_kSeq_e, r_kSeq_r, r_kBlk_n, r_kBlk_e, r_kBlk_r, r_kBlk_o, r_kLoop_n, r_kLoop_e, r_kLoop_r, r_ops_nil, r_bin, r_binB, r_binP, r_eql, r_neq, r_lss, r_leq, r_gtr, r_geq, r_add, r_sub, r_mul, v_eqs, v_nes, r_opt, r_pick, r_pick_t, r_pick_f, r_not, v_not, r_ret, r_exit, r_skip, r_cond_t, r_cond_f, r_block, r_loop, r_kEnd_n, r_kEnd_r, r_giveO, r_consO, r_evR_0, r_evR_o, r_evR_1, r_evR_N, r_give_0, r_give_1, r_give_2, initV, r_nilck, v_ckp, v_ckf, r_fadr, v_fadr, r_load1, rd1, rdN, v_rd0, rdRow_0, rdRow_s, r_loadN, r_store, v_wrV, v_wrA, v_rdA0, v_some, r_putK, r_alloc, r_box, r_boxK, r_build, r_aggK, fill_0, fill_s, fillK_1, putRow_0, putRow_s, c_agg, c_int, c_bool, c_str, c_slc, c_nils, c_fn, c_ptr, r_buildS, r_rowsK1, fillR_1, fillO_1, r_append, r_fld1, r_idxS, r_idxStr, r_len, v_lenS, v_lenL, v_lenN, r_slcStr, v_sub, map_some, map_none, r_call, r_callv, v_callf, r_ext, v_ext0, v_exts, r_mkfn, opds, r_conv, v_conv, llen_0, llen_s, n_of, ii_eq, ii_lt, ii_le, get_put, get_add, next_put, next_add, put_put, add_put', ne_s, ne_s', ne_ss, ne_ss', if_true, if_false, ite_self, ite_true, ite_false, Nat.zero_add, Nat.add_zero, Nat.reduceAdd, Nat.reduceLT, Nat.reduceEqDiff, Bool.not_false, Bool.not_true, decide_true, decide_false, eq_self, hc, hg, ly_w0]
    exact hK _ _ _ h'
  | false =>
    simp only [v_pnn, v_ppn, v_qnn, v_qpn, r_slcS, r_again1, r_againN, ag_int, ag_bool, ag_str, ag_agg, r_seq, r_reg, r_op, r_op_y, r_op_n, r_op_u, r_move, r_get_v, r_get_t, r_get_c, r_lget_0, r_lget_s, r_lset_0, r_lset_s, r_kOp_t, r_kOp_v, r_kOp_o, r_kReg, r_kSeq_n, r_kSeq_e, r_kSeq_r, r_kBlk_n, r_kBlk_e, r_kBlk_r, r_kBlk_o, r_kLoop_n, r_kLoop_e, r_kLoop_r, r_ops_nil, r_bin, r_binB, r_binP, r_eql, r_neq, r_lss, r_leq, r_gtr, r_geq, r_add, r_sub, r_mul, v_eqs, v_nes, r_opt, r_pick, r_pick_t, r_pick_f, r_not, v_not, r_ret, r_exit, r_skip, r_cond_t, r_cond_f, r_block, r_loop, r_kEnd_n, r_kEnd_r, r_giveO, r_consO, r_evR_0, r_evR_o, r_evR_1, r_evR_N, r_give_0, r_give_1, r_give_2, initV, r_nilck, v_ckp, v_ckf, r_fadr, v_fadr, r_load1, rd1, rdN, v_rd0, rdRow_0, rdRow_s, r_loadN, r_store, v_wrV, v_wrA, v_rdA0, v_some, r_putK, r_alloc, r_box, r_boxK, r_build, r_aggK, fill_0, fill_s, fillK_1, putRow_0, putRow_s, c_agg, c_int, c_bool, c_str, c_slc, c_nils, c_fn, c_ptr, r_buildS, r_rowsK1, fillR_1, fillO_1, r_append, r_fld1, r_idxS, r_idxStr, r_len, v_lenS, v_lenL, v_lenN, r_slcStr, v_sub, map_some, map_none, r_call, r_callv, v_callf, r_ext, v_ext0, v_exts, r_mkfn, opds, r_conv, v_conv, llen_0, llen_s, n_of, ii_eq, ii_lt, ii_le, get_put, get_add, next_put, next_add, put_put, add_put', ne_s, ne_s', ne_ss, ne_ss', if_true, if_false, ite_self, ite_true, ite_false, Nat.zero_add, Nat.add_zero, Nat.reduceAdd, Nat.reduceLT, Nat.reduceEqDiff, Bool.not_false, Bool.not_true, decide_true, decide_false, eq_self, tk_f0, tk_f1, tk_f2, tok_blk, tok_agg, tk_0, tk_1, tk_2, tk_3, tk_4, tk_len, tk_same, tk_w0, tk_w1, d18, h.cell, q0, q1, q0', q1', ly_0, ly_2, h.out_len, g]
    refine RI.pushOut (t := mkO k false t) (((h.grow Grow.add).grow Grow.add).grow Grow.add) rows_one hb ?_
    intro v' H' hc hg h'
    simp only [v_pnn, v_ppn, v_qnn, v_qpn, r_slcS, r_again1, r_againN, ag_int, ag_bool, ag_str, ag_agg, r_seq, r_reg, r_op, r_op_y, r_op_n, r_op_u, r_move, r_get_v, r_get_t, r_get_c, r_lget_0, r_lget_s, r_lset_0, r_lset_s, r_kOp_t, r_kOp_v, r_kOp_o, r_kReg, r_kSeq_n, r_kSeq_e, r_kSeq_r, r_kBlk_n, r_kBlk_e, r_kBlk_r, r_kBlk_o, r_kLoop_n, r_kLoop_e, r_kLoop_r, r_ops_nil, r_bin, r_binB, r_binP, r_eql, r_neq, r_lss, r_leq, r_gtr, r_geq, r_add, r_sub, r_mul, v_eqs, v_nes, r_opt, r_pick, r_pick_t, r_pick_f, r_not, v_not, r_ret, r_exit, r_skip, r_cond_t, r_cond_f, r_block, r_loop, r_kEnd_n, r_kEnd_r, r_giveO, r_consO, r_evR_0, r_evR_o, r_evR_1, r_evR_N, r_give_0, r_give_1, r_give_2, initV, r_nilck, v_ckp, v_ckf, r_fadr, v_fadr, r_load1, rd1, rdN, v_rd0, rdRow_0, rdRow_s, r_loadN, r_store, v_wrV, v_wrA, v_rdA0, v_some, r_putK, r_alloc, r_box, r_boxK, r_build, r_aggK, fill_0, fill_s, fillK_1, putRow_0, putRow_s, c_agg, c_int, c_bool, c_str, c_slc, c_nils, c_fn, c_ptr, r_buildS, r_rowsK1, fillR_1, fillO_1, r_append, r_fld1, r_idxS, r_idxStr, r_len, v_lenS, v_lenL, v_lenN, r_slcStr, v_sub, map_some, map_none, r_call, r_callv, v_callf, r_ext, v_ext0, v_exts, r_mkfn, opds, r_conv, v_conv, llen_0, llen_s, n_of, ii_eq, ii_lt, ii_le, get_put, get_add, next_put, next_add, put_put, add_put', ne_s, ne_s', ne_ss, ne_ss', if_true, if_false, ite_self, ite_true, ite_false, Nat.zero_add, Nat.add_zero, Nat.reduceAdd, Nat.reduceLT, Nat.reduceEqDiff, Bool.not_false, Bool.not_true, decide_true, decide_false, eq_self, hc, hg, ly_w0]
    exact hK _ _ _ h'
/-- push. -/
theorem t19 (h : RI F q H vo vs st out 0 a) {b : Bl} {t : Tok} (hb : st.length < 59000) (h1 : st.length < 60 → RPost F q (b :: st) out a (K (.tup [])))
    (h2 : 60 ≤ st.length → ∀ H' vo' vs', RI F q H' vo' vs' st out 2 t.at_ → K (.tup []) H') :
    evF AP (look table) (n + 1) 19 [.ptr q 0 0, .agg (rbRow b), .agg (tokRow t)] H K := by
  rw [r_fun look19]
  have q0 := lt_ne0 h.hp
  have q1 := lt_ne1 h.hp
  have q0' := lt_ne0' h.hp
  have q1' := lt_ne1' h.hp
  by_cases g : 60 ≤ st.length
  · simp only [v_pnn, v_ppn, v_qnn, v_qpn, r_slcS, r_again1, r_againN, ag_int, ag_bool, ag_str, ag_agg, r_seq, r_reg, r_op, r_op_y, r_op_n, r_op_u, r_move, r_get_v, r_get_t, r_get_c, r_lget_0, r_lget_s, r_lset_0, r_lset_s, r_kOp_t, r_kOp_v, r_kOp_o, r_kReg, r_kSeq_n, r_kSeq_e, r_kSeq_r, r_kBlk_n, r_kBlk_e, r_kBlk_r, r_kBlk_o, r_kLoop_n, r_kLoop_e, r_kLoop_r, r_ops_nil, r_bin, r_binB, r_binP, r_eql, r_neq, r_lss, r_leq, r_gtr, r_geq, r_add, r_sub, r_mul, v_eqs, v_nes, r_opt, r_pick, r_pick_t, r_pick_f, r_not, v_not, r_ret, r_exit, r_skip, r_cond_t, r_cond_f, r_block, r_loop, r_kEnd_n, r_kEnd_r, r_giveO, r_consO, r_evR_0, r_evR_o, r_evR_1, r_evR_N, r_give_0, r_give_1, r_give_2, initV, r_nilck, v_ckp, v_ckf, r_fadr, v_fadr, r_load1, rd1, rdN, v_rd0, rdRow_0, rdRow_s, r_loadN, r_store, v_wrV, v_wrA, v_rdA0, v_some, r_putK, r_alloc, r_box, r_boxK, r_build, r_aggK, fill_0, fill_s, fillK_1, putRow_0, putRow_s, c_agg, c_int, c_bool, c_str, c_slc, c_nils, c_fn, c_ptr, r_buildS, r_rowsK1, fillR_1, fillO_1, r_append, r_fld1, r_idxS, r_idxStr, r_len, v_lenS, v_lenL, v_lenN, r_slcStr, v_sub, map_some, map_none, r_call, r_callv, v_callf, r_ext, v_ext0, v_exts, r_mkfn, opds, r_conv, v_conv, llen_0, llen_s, n_of, ii_eq, ii_lt, ii_le, get_put, get_add, next_put, next_add, put_put, add_put', ne_s, ne_s', ne_ss, ne_ss', if_true, if_false, ite_self, ite_true, ite_false, Nat.zero_add, Nat.add_zero, Nat.reduceAdd, Nat.reduceLT, Nat.reduceEqDiff, Bool.not_false, Bool.not_true, decide_true, decide_false, eq_self, tk_f0, tk_f1, tk_f2, tok_blk, tok_agg, tk_0, tk_1, tk_2, tk_3, tk_4, tk_len, tk_same, tk_w0, tk_w1, rb_len, d19, h.cell, q0, q1, q0', q1', ly_1, ly_2, h.st_len, g, ly_w2, ly_w3]
    exact h2 g _ _ _ ((h.grow Grow.add).grow Grow.add).lput
  · simp only [v_pnn, v_ppn, v_qnn, v_qpn, r_slcS, r_again1, r_againN, ag_int, ag_bool, ag_str, ag_agg, r_seq, r_reg, r_op, r_op_y, r_op_n, r_op_u, r_move, r_get_v, r_get_t, r_get_c, r_lget_0, r_lget_s, r_lset_0, r_lset_s, r_kOp_t, r_kOp_v, r_kOp_o, r_kReg, r_kSeq_n, r_kSeq_e, r_kSeq_r, r_kBlk_n, r_kBlk_e, r_kBlk_r, r_kBlk_o, r_kLoop_n, r_kLoop_e, r_kLoop_r, r_ops_nil, r_bin, r_binB, r_binP, r_eql, r_neq, r_lss, r_leq, r_gtr, r_geq, r_add, r_sub, r_mul, v_eqs, v_nes, r_opt, r_pick, r_pick_t, r_pick_f, r_not, v_not, r_ret, r_exit, r_skip, r_cond_t, r_cond_f, r_block, r_loop, r_kEnd_n, r_kEnd_r, r_giveO, r_consO, r_evR_0, r_evR_o, r_evR_1, r_evR_N, r_give_0, r_give_1, r_give_2, initV, r_nilck, v_ckp, v_ckf, r_fadr, v_fadr, r_load1, rd1, rdN, v_rd0, rdRow_0, rdRow_s, r_loadN, r_store, v_wrV, v_wrA, v_rdA0, v_some, r_putK, r_alloc, r_box, r_boxK, r_build, r_aggK, fill_0, fill_s, fillK_1, putRow_0, putRow_s, c_agg, c_int, c_bool, c_str, c_slc, c_nils, c_fn, c_ptr, r_buildS, r_rowsK1, fillR_1, fillO_1, r_append, r_fld1, r_idxS, r_idxStr, r_len, v_lenS, v_lenL, v_lenN, r_slcStr, v_sub, map_some, map_none, r_call, r_callv, v_callf, r_ext, v_ext0, v_exts, r_mkfn, opds, r_conv, v_conv, llen_0, llen_s, n_of, ii_eq, ii_lt, ii_le, get_put, get_add, next_put, next_add, put_put, add_put', ne_s, ne_s', ne_ss, ne_ss', if_true, if_false, ite_self, ite_true, ite_false, Nat.zero_add, Nat.add_zero, Nat.reduceAdd, Nat.reduceLT, Nat.reduceEqDiff, Bool.not_false, Bool.not_true, decide_true, decide_false, eq_self, tk_f0, tk_f1, tk_f2, tok_blk, tok_agg, tk_0, tk_1, tk_2, tk_3, tk_4, tk_len, tk_same, tk_w0, tk_w1, rb_len, d19, h.cell, q0, q1, q0', q1', ly_1, ly_2, h.st_len, g]
    refine RI.pushSt (t := b) (((h.grow Grow.add).grow Grow.add).grow Grow.add) rows_one (by omega) ?_
    intro v' H' hc hg h'
    simp only [v_pnn, v_ppn, v_qnn, v_qpn, r_slcS, r_again1, r_againN, ag_int, ag_bool, ag_str, ag_agg, r_seq, r_reg, r_op, r_op_y, r_op_n, r_op_u, r_move, r_get_v, r_get_t, r_get_c, r_lget_0, r_lget_s, r_lset_0, r_lset_s, r_kOp_t, r_kOp_v, r_kOp_o, r_kReg, r_kSeq_n, r_kSeq_e, r_kSeq_r, r_kBlk_n, r_kBlk_e, r_kBlk_r, r_kBlk_o, r_kLoop_n, r_kLoop_e, r_kLoop_r, r_ops_nil, r_bin, r_binB, r_binP, r_eql, r_neq, r_lss, r_leq, r_gtr, r_geq, r_add, r_sub, r_mul, v_eqs, v_nes, r_opt, r_pick, r_pick_t, r_pick_f, r_not, v_not, r_ret, r_exit, r_skip, r_cond_t, r_cond_f, r_block, r_loop, r_kEnd_n, r_kEnd_r, r_giveO, r_consO, r_evR_0, r_evR_o, r_evR_1, r_evR_N, r_give_0, r_give_1, r_give_2, initV, r_nilck, v_ckp, v_ckf, r_fadr, v_fadr, r_load1, rd1, rdN, v_rd0, rdRow_0, rdRow_s, r_loadN, r_store, v_wrV, v_wrA, v_rdA0, v_some, r_putK, r_alloc, r_box, r_boxK, r_build, r_aggK, fill_0, fill_s, fillK_1, putRow_0, putRow_s, c_agg, c_int, c_bool, c_str, c_slc, c_nils, c_fn, c_ptr, r_buildS, r_rowsK1, fillR_1, fillO_1, r_append, r_fld1, r_idxS, r_idxStr, r_len, v_lenS, v_lenL, v_lenN, r_slcStr, v_sub, map_some, map_none, r_call, r_callv, v_callf, r_ext, v_ext0, v_exts, r_mkfn, opds, r_conv, v_conv, llen_0, llen_s, n_of, ii_eq, ii_lt, ii_le, get_put, get_add, next_put, next_add, put_put, add_put', ne_s, ne_s', ne_ss, ne_ss', if_true, if_false, ite_self, ite_true, ite_false, Nat.zero_add, Nat.add_zero, Nat.reduceAdd, Nat.reduceLT, Nat.reduceEqDiff, Bool.not_false, Bool.not_true, decide_true, decide_false, eq_self, hc, hg, ly_w1]
    exact h1 (by omega) _ _ _ h'
/-- pop. -/
theorem t20 {b : Bl} (h : RI F q H vo vs (b :: st) out 0 a) {own : Bool} {t : Tok} (hb : out.length < 60000) (hl : st.length ≤ 60000) (hK : RPost F q st (out ++ [mkO 5 own t]) a (K (.tup []))) :
    evF AP (look table) (n + 2) 20 [.ptr q 0 0, .agg (tokRow t), .bool own] H K := by
  rw [r_fun look20]
  simp only [v_pnn, v_ppn, v_qnn, v_qpn, r_slcS, r_again1, r_againN, ag_int, ag_bool, ag_str, ag_agg, r_seq, r_reg, r_op, r_op_y, r_op_n, r_op_u, r_move, r_get_v, r_get_t, r_get_c, r_lget_0, r_lget_s, r_lset_0, r_lset_s, r_kOp_t, r_kOp_v, r_kOp_o, r_kReg, r_kSeq_n, r_kSeq_e, r_kSeq_r, r_kBlk_n, r_kBlk_e, r_kBlk_r, r_kBlk_o, r_kLoop_n, r_kLoop_e, r_kLoop_r, r_ops_nil, r_bin, r_binB, r_binP, r_eql, r_neq, r_lss, r_leq, r_gtr, r_geq, r_add, r_sub, r_mul, v_eqs, v_nes, r_opt, r_pick, r_pick_t, r_pick_f, r_not, v_not, r_ret, r_exit, r_skip, r_cond_t, r_cond_f, r_block, r_loop, r_kEnd_n, r_kEnd_r, r_giveO, r_consO, r_evR_0, r_evR_o, r_evR_1, r_evR_N, r_give_0, r_give_1, r_give_2, initV, r_nilck, v_ckp, v_ckf, r_fadr, v_fadr, r_load1, rd1, rdN, v_rd0, rdRow_0, rdRow_s, r_loadN, r_store, v_wrV, v_wrA, v_rdA0, v_some, r_putK, r_alloc, r_box, r_boxK, r_build, r_aggK, fill_0, fill_s, fillK_1, putRow_0, putRow_s, c_agg, c_int, c_bool, c_str, c_slc, c_nils, c_fn, c_ptr, r_buildS, r_rowsK1, fillR_1, fillO_1, r_append, r_fld1, r_idxS, r_idxStr, r_len, v_lenS, v_lenL, v_lenN, r_slcStr, v_sub, map_some, map_none, r_call, r_callv, v_callf, r_ext, v_ext0, v_exts, r_mkfn, opds, r_conv, v_conv, llen_0, llen_s, n_of, ii_eq, ii_lt, ii_le, get_put, get_add, next_put, next_add, put_put, add_put', ne_s, ne_s', ne_ss, ne_ss', if_true, if_false, ite_self, ite_true, ite_false, Nat.zero_add, Nat.add_zero, Nat.reduceAdd, Nat.reduceLT, Nat.reduceEqDiff, Bool.not_false, Bool.not_true, decide_true, decide_false, eq_self, tk_f0, tk_f1, tk_f2, tok_blk, tok_agg, tk_0, tk_1, tk_2, tk_3, tk_4, tk_len, tk_same, tk_w0, tk_w1, d20]
  refine t18 (h.grow Grow.add) hb ?_
  intro H' vo' vs' h'
  obtain ⟨c, R, e1, e2, e3, e4, e5, e6, e7⟩ := h'.top_ok
  have hln := h'.st_len
  simp only [List.length_cons] at hln
  have gw : IntKind.i64.wrap (((st.length + 1 : Nat) : Int) - ((1 : Nat) : Int)) = ((st.length : Nat) : Int) := w_sub (a := st.length + 1) (by omega) (by omega)
  have hsl : slV 4 vs' none (some (.int .i64 (st.length : Int))) = some (.slc c 0 st.length none 4) := by rw [e1, slV_hi (by omega)]
  simp only [v_pnn, v_ppn, v_qnn, v_qpn, r_slcS, r_again1, r_againN, ag_int, ag_bool, ag_str, ag_agg, r_seq, r_reg, r_op, r_op_y, r_op_n, r_op_u, r_move, r_get_v, r_get_t, r_get_c, r_lget_0, r_lget_s, r_lset_0, r_lset_s, r_kOp_t, r_kOp_v, r_kOp_o, r_kReg, r_kSeq_n, r_kSeq_e, r_kSeq_r, r_kBlk_n, r_kBlk_e, r_kBlk_r, r_kBlk_o, r_kLoop_n, r_kLoop_e, r_kLoop_r, r_ops_nil, r_bin, r_binB, r_binP, r_eql, r_neq, r_lss, r_leq, r_gtr, r_geq, r_add, r_sub, r_mul, v_eqs, v_nes, r_opt, r_pick, r_pick_t, r_pick_f, r_not, v_not, r_ret, r_exit, r_skip, r_cond_t, r_cond_f, r_block, r_loop, r_kEnd_n, r_kEnd_r, r_giveO, r_consO, r_evR_0, r_evR_o, r_evR_1, r_evR_N, r_give_0, r_give_1, r_give_2, initV, r_nilck, v_ckp, v_ckf, r_fadr, v_fadr, r_load1, rd1, rdN, v_rd0, rdRow_0, rdRow_s, r_loadN, r_store, v_wrV, v_wrA, v_rdA0, v_some, r_putK, r_alloc, r_box, r_boxK, r_build, r_aggK, fill_0, fill_s, fillK_1, putRow_0, putRow_s, c_agg, c_int, c_bool, c_str, c_slc, c_nils, c_fn, c_ptr, r_buildS, r_rowsK1, fillR_1, fillO_1, r_append, r_fld1, r_idxS, r_idxStr, r_len, v_lenS, v_lenL, v_lenN, r_slcStr, v_sub, map_some, map_none, r_call, r_callv, v_callf, r_ext, v_ext0, v_exts, r_mkfn, opds, r_conv, v_conv, llen_0, llen_s, n_of, ii_eq, ii_lt, ii_le, get_put, get_add, next_put, next_add, put_put, add_put', ne_s, ne_s', ne_ss, ne_ss', if_true, if_false, ite_self, ite_true, ite_false, Nat.zero_add, Nat.add_zero, Nat.reduceAdd, Nat.reduceLT, Nat.reduceEqDiff, Bool.not_false, Bool.not_true, decide_true, decide_false, eq_self, h'.cell, ly_1, hln, gw, hsl, ly_w1]
  have hs := h'.st
  have hlr : (rsRows st).length = st.length := by simp [rsRows]
  have hs' : Sl F H' (.slc c 0 st.length none 4) 4 (rsRows st) := by
    rw [← hlr]
    refine Sl.short (x := rbRow b) ?_
    rw [e1] at hs
    rw [hlr]
    simpa [rsRows] using hs
  have hne : blkOf (.slc c 0 st.length none 4) ≠ some q := fun e => e6 (by cases e; rfl)
  refine hK _ _ _ ⟨h'.sees.put h'.fp, h'.hp, h'.fp, by rw [get_put, if_pos rfl], hs'.put hne, h'.out.put h'.op, hne, h'.op, ?_⟩
  intro q hq
  exact h'.lo q (by rw [e1]; exact hq)
end
end Dt
