/- A part of the abstract machine and of the proof that the program does what it reckons; no conditions. -/
import Derived.Test.YtpljolocgeicfaaDoorM17
namespace Dt
open Go
set_option linter.all false
set_option maxRecDepth 100000
theorem look18 : TT.funs 18 = some d18 := (rfl)
theorem app1g {F : Fr} {H : Heap} {v y : AVal} {z bytes : Nat} {rows : List (List AVal)} {x : List AVal} {kv : AVal → Heap → Prop}
    (hF : Sees F H) (hv : Sl F H v z rows) (hy : rowsOf H z y = some [x]) (hb : (rows.length + 1) * bytes ≤ 1000000000)
    (hK : ∀ v' H', H.next ≤ H'.next → Sees F H' → Sl F H' v' z (rows ++ [x]) → (∃ b, v' = .slc b 0 (rows.length + 1) none z ∧ (blkOf v = some b ∨ H.next ≤ b)) →
      (∀ c, c < H.next → blkOf v ≠ some c → H'.get c = H.get c) → H'.gl = H.gl → kv v' H') :
    doAppend AP z bytes v y H kv := by
  rcases hv with ⟨rfl, rfl⟩ | ⟨b, R, rfl, hlt, hFb, hR, hrows⟩
  · have h1 : Nat.ble (Nat.mul (rlen [x]) bytes) 1000000000 = true := Nat.ble_eq_true_of_le (by simpa [rlen] using hb)
    simp only [doAppend, hy, h1, fL_eq, fN_eq, hAdd_eq]
    refine hK _ _ (by rw [next_add]; omega) (hF.grow Grow.add) (Or.inr ⟨H.next, [x], rfl, by rw [next_add]; omega, hF.fresh (Nat.le_refl _), by rw [get_add, if_pos rfl], rfl⟩) ⟨H.next, rfl, Or.inr (Nat.le_refl _)⟩ (fun c hc _ => by rw [get_add, if_neg (by omega)]) rfl
  · have hz : Nat.beq z z = true := by rw [Nat.beq_eq]
    have hle := take_len hrows
    have h1 : Nat.ble (Nat.mul (rows.length + rlen [x]) bytes) 1000000000 = true := Nat.ble_eq_true_of_le (by simpa [rlen] using hb)
    have hold : rowsOf H z (.slc b 0 rows.length none z) = some rows := by
      simp only [rowsOf, hz]
      cases hn : rows.length with
      | zero => simp [List.length_eq_zero_iff.1 hn]
      | succ n =>
        simp only [hR]
        rw [rtake_ok R 0 (n + 1) (by omega), List.drop_zero, ← hn, hrows]
    simp only [doAppend, hy, hz, h1, Bool.and_self, hold, hR]
    cases h2 : Nat.ble (0 + (rows.length + rlen [x])) (rlen R) with
    | true =>
      have h3 : rows.length < R.length := by
        have := Nat.le_of_ble_eq_true h2
        simp only [rlen_len, List.length_singleton] at this
        omega
      simp only [fL_eq, fN_eq, hPut_eq]
      rw [Nat.zero_add, rsplice_ok R _ x h3]
      have hlen : (rows ++ [x]).length = rows.length + 1 := by simp
      refine hK _ _ (Nat.le_refl _) (hF.put hFb) (Or.inr ⟨b, R.set rows.length x, by rw [hlen]; rfl, hlt, hFb, by rw [get_put, if_pos rfl], ?_⟩) ⟨b, rfl, Or.inl rfl⟩ (fun c hc hne => ?_) rfl
      · rw [hlen, List.take_succ_eq_append_getElem (by simpa using h3)]
        simp only [List.getElem_set_self]
        congr 1
        rw [List.take_set_of_le (Nat.le_refl _)]
        exact hrows
      · rw [get_put, if_neg (fun e => hne (by rw [e]; rfl))]
    | false =>
      simp only [fL_eq, fN_eq, hPut_eq, hAdd_eq, rlen_len]
      have hlen : (rows ++ [x]).length = rows.length + 1 := by simp
      rw [hlen]
      have hs : Sees F ((H.put b .dead).add (.rows z (rows ++ [x]))) := (hF.put hFb).grow Grow.add
      refine hK _ _ (by rw [next_add, next_put]; omega) hs (Or.inr ⟨H.next, rows ++ [x], by rw [hlen]; rfl, by rw [next_add, next_put]; omega, hF.fresh (Nat.le_refl _), by rw [get_add, next_put, if_pos rfl], by rw [hlen, ← hlen, List.take_length]⟩) ⟨H.next, rfl, Or.inr (Nat.le_refl _)⟩ (fun c hc hne => ?_) rfl
      rw [get_add, next_put, if_neg (by omega), get_put, if_neg (fun e => hne (by rw [e]; rfl))]


theorem Sl.upd {F : Fr} {H H' : Heap} {v : AVal} {z p : Nat} {rows : List (List AVal)} (h : Sl F H v z rows) (u : Upd p H H') (hn : blkOf v ≠ some p) : Sl F H' v z rows := by
  rcases h with ⟨rfl, rfl⟩ | ⟨b, R, rfl, hlt, hFb, hR, hrows⟩
  · exact Or.inl ⟨rfl, rfl⟩
  · exact Or.inr ⟨b, R, rfl, Nat.lt_of_lt_of_le hlt u.1, hFb, by rw [u.2.1 b hlt (fun e => hn (by rw [e]; rfl))]; exact hR, hrows⟩
theorem Upd.toGrow {p : Nat} {H0 H H' : Heap} (h : Grow H0 H) (hp : H0.next ≤ p) (u : Upd p H H') : Grow H0 H' := ⟨Nat.le_trans h.1 u.1, fun b hb => (u.2.1 b (Nat.lt_of_lt_of_le hb h.1) (by omega)).trans (h.2 b hb)⟩

/-- Where the scanner stands, and all that it has. -/
structure St (H0 H : Heap) (l : Tx) (p mb : Nat) (v : AVal) (out : List Tok) : Prop where
  grow : Grow H0 H
  gl : H.gl = GT
  p0 : H0.next ≤ p
  pn : p < H.next
  m0 : H0.next ≤ mb
  mn : mb < H.next
  mp : mb ≠ p
  words : H.get mb = .obj (.map wordsL)
  sl : Sl H0.all H v 5 (out.map tokRow)
  vp : blkOf v ≠ some p
  vm : blkOf v ≠ some mb
theorem St.updP {H0 H H' : Heap} {l : Tx} {p mb : Nat} {v : AVal} {out : List Tok} (s : St H0 H l p mb v out) (u : Upd p H H') : St H0 H' l p mb v out :=
  ⟨u.toGrow s.grow s.p0, u.2.2.trans s.gl, s.p0, Nat.lt_of_lt_of_le s.pn u.1, s.m0, Nat.lt_of_lt_of_le s.mn u.1, s.mp, by rw [u.2.1 mb s.mn s.mp]; exact s.words, s.sl.upd u s.vp, s.vp, s.vm⟩
/-- .. and a block of its own is turned. -/
theorem St.updT {H0 H H' : Heap} {l : Tx} {p mb tb : Nat} {v : AVal} {out : List Tok} (s : St H0 H l p mb v out) (u : Upd tb H H') (ht : H0.next ≤ tb) (hp : p ≠ tb) (hm : mb ≠ tb) (hv : blkOf v ≠ some tb) : St H0 H' l p mb v out :=
  ⟨u.toGrow s.grow ht, u.2.2.trans s.gl, s.p0, Nat.lt_of_lt_of_le s.pn u.1, s.m0, Nat.lt_of_lt_of_le s.mn u.1, s.mp, by rw [u.2.1 mb s.mn hm]; exact s.words, s.sl.upd u hv, s.vp, s.vm⟩

section
variable {n : Nat} {H0 : Heap} {l : Tx} {p mb pl tb : Nat} {K : AVal → Heap → Prop}
/-- Behind a token: it is put to the others. -/
theorem w18 {y : Lx} {t : Tok} {out : List Tok} {H : Heap} {v a3 a4 a5 a6 a7 a8 a9 a10 a11 : AVal} {ts : List AVal} (s : St H0 H l p mb v out) (hp : H.get p = .rows 8 [scRow l y mb v pl]) (hy : y.e = 0) (ht : H.get tb = .rows 5 [tokRow t]) (htn : tb < H.next) (htp : p ≠ tb) (htm : mb ≠ tb) (hvt : blkOf v ≠ some tb)
    (hlong : 20000 ≤ out.length → ∀ H', St H0 H' l p mb v out → H'.get p = .rows 8 [scRow l { y with e := 2 } mb v t.at_] → K (.bool false) H')
    (hnext : out.length < 20000 → ∀ H' v', St H0 H' l p mb v' (out ++ [t]) → H'.get p = .rows 8 [scRow l y mb v' pl] → K (.bool (!decide (t.kind = 7))) H') :
    evC AP (evF AP TT (n + 1)) r18_1 [.ptr p 0 0, .bool false, .ptr tb 0 0, a3, a4, a5, a6, a7, a8, a9, a10, a11] ts H (kEnd [.opd (.v 1)] K) := by
  have hlen : lenV false v = some (.int .i64 (out.length : Int)) := by rw [s.sl.len, List.length_map]
  by_cases h1 : 20000 ≤ out.length
  · simp only [rdR1, rdRN, r_un1, r_convBS, r_convIS, r_isP, r_rngS, r_rngP, r_nxtS, r_nxtP, r_mkmap, r_lkp, r_idxA, v_pnn, v_ppn, v_qnn, v_qpn, r_slcS, r_again1, r_againN, ag_int, ag_bool, ag_str, ag_agg, r_seq, r_reg, r_op, r_op_y, r_op_n, r_op_u, r_move, r_get_v, r_get_t, r_get_c, r_lget_0, r_lget_s, r_lset_0, r_lset_s, r_kOp_t, r_kOp_v, r_kOp_o, r_kReg, r_kSeq_n, r_kSeq_e, r_kSeq_r, r_kBlk_n, r_kBlk_e, r_kBlk_r, r_kBlk_o, r_kLoop_n, r_kLoop_e, r_kLoop_r, r_ops_nil, r_bin, r_binB, r_binP, r_eql, r_neq, r_lss, r_leq, r_gtr, r_geq, r_add, r_sub, r_mul, v_eqs, v_nes, r_opt, r_pick, r_pick_t, r_pick_f, r_not, v_not, r_ret, r_exit, r_skip, r_cond_t, r_cond_f, r_block, r_loop, r_kEnd_n, r_kEnd_r, r_giveO, r_consO, r_evR_0, r_evR_o, r_evR_1, r_evR_N, r_give_0, r_give_1, r_give_2, initV, r_nilck, v_ckp, v_ckf, r_fadr, v_fadr, r_load1, rd1, rdN, v_rd0, rdRow_0, rdRow_s, r_loadN, r_store, v_wrV, v_wrA, v_rdA0, v_some, r_putK, r_alloc, r_box, r_boxK, r_build, r_aggK, fill_0, fill_s, fillK_1, putRow_0, putRow_s, c_agg, c_int, c_bool, c_str, c_slc, c_nils, c_fn, c_ptr, r_buildS, r_rowsK1, fillR_1, fillO_1, r_append, r_fld1, r_idxS, r_idxStr, r_len, v_lenS, v_lenL, v_lenN, r_slcStr, v_sub, map_some, map_none, r_call, r_callv, v_callf, r_ext, v_ext0, v_exts, r_mkfn, opds, r_conv, v_conv, llen_0, llen_s, n_of, ii_eq, ii_lt, ii_le, get_put, get_add, next_put, next_add, put_put, add_put', ne_s, ne_s', ne_ss, ne_ss', if_true, if_false, ite_self, ite_true, ite_false, Nat.zero_add, Nat.add_zero, Nat.reduceAdd, Nat.reduceLT, Nat.reduceEqDiff, Bool.not_false, Bool.not_true, decide_true, decide_false, eq_self, tk_f0, tk_f1, tk_f2, tok_blk, tok_agg, tk_0, tk_1, tk_2, tk_3, tk_4, tk_len, tk_same, tk_w0, tk_w1, r18_1, hp, sc_5, hlen, h1, ht, tk_2, s34 hp hy]
    exact hlong h1 _ (s.updP Upd.put) (by rw [get_put, if_pos rfl])
  have q0 := lt_ne0 s.pn
  have q1 := lt_ne0' s.pn
  simp only [rdR1, rdRN, r_un1, r_convBS, r_convIS, r_isP, r_rngS, r_rngP, r_nxtS, r_nxtP, r_mkmap, r_lkp, r_idxA, v_pnn, v_ppn, v_qnn, v_qpn, r_slcS, r_again1, r_againN, ag_int, ag_bool, ag_str, ag_agg, r_seq, r_reg, r_op, r_op_y, r_op_n, r_op_u, r_move, r_get_v, r_get_t, r_get_c, r_lget_0, r_lget_s, r_lset_0, r_lset_s, r_kOp_t, r_kOp_v, r_kOp_o, r_kReg, r_kSeq_n, r_kSeq_e, r_kSeq_r, r_kBlk_n, r_kBlk_e, r_kBlk_r, r_kBlk_o, r_kLoop_n, r_kLoop_e, r_kLoop_r, r_ops_nil, r_bin, r_binB, r_binP, r_eql, r_neq, r_lss, r_leq, r_gtr, r_geq, r_add, r_sub, r_mul, v_eqs, v_nes, r_opt, r_pick, r_pick_t, r_pick_f, r_not, v_not, r_ret, r_exit, r_skip, r_cond_t, r_cond_f, r_block, r_loop, r_kEnd_n, r_kEnd_r, r_giveO, r_consO, r_evR_0, r_evR_o, r_evR_1, r_evR_N, r_give_0, r_give_1, r_give_2, initV, r_nilck, v_ckp, v_ckf, r_fadr, v_fadr, r_load1, rd1, rdN, v_rd0, rdRow_0, rdRow_s, r_loadN, r_store, v_wrV, v_wrA, v_rdA0, v_some, r_putK, r_alloc, r_box, r_boxK, r_build, r_aggK, fill_0, fill_s, fillK_1, putRow_0, putRow_s, c_agg, c_int, c_bool, c_str, c_slc, c_nils, c_fn, c_ptr, r_buildS, r_rowsK1, fillR_1, fillO_1, r_append, r_fld1, r_idxS, r_idxStr, r_len, v_lenS, v_lenL, v_lenN, r_slcStr, v_sub, map_some, map_none, r_call, r_callv, v_callf, r_ext, v_ext0, v_exts, r_mkfn, opds, r_conv, v_conv, llen_0, llen_s, n_of, ii_eq, ii_lt, ii_le, get_put, get_add, next_put, next_add, put_put, add_put', ne_s, ne_s', ne_ss, ne_ss', if_true, if_false, ite_self, ite_true, ite_false, Nat.zero_add, Nat.add_zero, Nat.reduceAdd, Nat.reduceLT, Nat.reduceEqDiff, Bool.not_false, Bool.not_true, decide_true, decide_false, eq_self, tk_f0, tk_f1, tk_f2, tok_blk, tok_agg, tk_0, tk_1, tk_2, tk_3, tk_4, tk_len, tk_same, tk_w0, tk_w1, r18_1, hp, sc_5, hlen, h1, ht, tok_agg]
  have hs : Sees H0.all (H.add (.rows 5 [tokRow t])) := (Sees.all H0).grow (s.grow.trans Grow.add)
  refine app1g (bytes := 48) hs s.sl.add rows_one (by simp; omega) ?_
  intro v' H' hn hF' hv' hw hfr hgl
  rw [next_add] at hn
  have gp : H'.get p = .rows 8 [scRow l y mb v pl] := by rw [hfr p (by rw [next_add]; have := s.pn; omega) s.vp, get_add, if_neg (by have := s.pn; omega)]; exact hp
  have gt : H'.get tb = .rows 5 [tokRow t] := by rw [hfr tb (by rw [next_add]; omega) hvt, get_add, if_neg (by omega)]; exact ht
  have gm : H'.get mb = .obj (.map wordsL) := by rw [hfr mb (by rw [next_add]; have := s.mn; omega) s.vm, get_add, if_neg (by have := s.mn; omega)]; exact s.words
  have ge : ∀ b, H.next ≤ b ∨ blkOf v = some b → b ≠ p ∧ b ≠ mb := by
    intro b hb
    rcases hb with hb | hb
    · have := s.pn; have := s.mn; exact ⟨by omega, by omega⟩
    · exact ⟨fun e => s.vp (by rw [hb, e]), fun e => s.vm (by rw [hb, e])⟩
  obtain ⟨b, hvb, hbb⟩ := hw
  have hb2 : b ≠ p ∧ b ≠ mb := by
    rcases hbb with hbb | hbb
    · exact ge b (.inr hbb)
    · rw [next_add] at hbb; exact ge b (.inl (by omega))
  have hvp : blkOf v' ≠ some p := by rw [hvb]; intro e; cases e; exact hb2.1 rfl
  have hvm : blkOf v' ≠ some mb := by rw [hvb]; intro e; cases e; exact hb2.2 rfl
  have hcv : v'.cells = some [v'] := by rw [hvb]; rfl
  have st : St H0 H' l p mb v' (out ++ [t]) := ⟨hF'.toGrow (Nat.le_trans s.grow.1 (by omega)), by rw [hgl]; exact s.gl, s.p0, by have := s.pn; omega, s.m0, by have := s.mn; omega, s.mp, gm, by simpa using hv', hvp, hvm⟩
  have gtp : (H'.put p (.rows 8 [scRow l y mb v' pl])).get tb = .rows 5 [tokRow t] := by rw [get_put, if_neg (fun e => htp e.symm)]; exact gt
  simp only [rdR1, rdRN, r_un1, r_convBS, r_convIS, r_isP, r_rngS, r_rngP, r_nxtS, r_nxtP, r_mkmap, r_lkp, r_idxA, v_pnn, v_ppn, v_qnn, v_qpn, r_slcS, r_again1, r_againN, ag_int, ag_bool, ag_str, ag_agg, r_seq, r_reg, r_op, r_op_y, r_op_n, r_op_u, r_move, r_get_v, r_get_t, r_get_c, r_lget_0, r_lget_s, r_lset_0, r_lset_s, r_kOp_t, r_kOp_v, r_kOp_o, r_kReg, r_kSeq_n, r_kSeq_e, r_kSeq_r, r_kBlk_n, r_kBlk_e, r_kBlk_r, r_kBlk_o, r_kLoop_n, r_kLoop_e, r_kLoop_r, r_ops_nil, r_bin, r_binB, r_binP, r_eql, r_neq, r_lss, r_leq, r_gtr, r_geq, r_add, r_sub, r_mul, v_eqs, v_nes, r_opt, r_pick, r_pick_t, r_pick_f, r_not, v_not, r_ret, r_exit, r_skip, r_cond_t, r_cond_f, r_block, r_loop, r_kEnd_n, r_kEnd_r, r_giveO, r_consO, r_evR_0, r_evR_o, r_evR_1, r_evR_N, r_give_0, r_give_1, r_give_2, initV, r_nilck, v_ckp, v_ckf, r_fadr, v_fadr, r_load1, rd1, rdN, v_rd0, rdRow_0, rdRow_s, r_loadN, r_store, v_wrV, v_wrA, v_rdA0, v_some, r_putK, r_alloc, r_box, r_boxK, r_build, r_aggK, fill_0, fill_s, fillK_1, putRow_0, putRow_s, c_agg, c_int, c_bool, c_str, c_slc, c_nils, c_fn, c_ptr, r_buildS, r_rowsK1, fillR_1, fillO_1, r_append, r_fld1, r_idxS, r_idxStr, r_len, v_lenS, v_lenL, v_lenN, r_slcStr, v_sub, map_some, map_none, r_call, r_callv, v_callf, r_ext, v_ext0, v_exts, r_mkfn, opds, r_conv, v_conv, llen_0, llen_s, n_of, ii_eq, ii_lt, ii_le, get_put, get_add, next_put, next_add, put_put, add_put', ne_s, ne_s', ne_ss, ne_ss', if_true, if_false, ite_self, ite_true, ite_false, Nat.zero_add, Nat.add_zero, Nat.reduceAdd, Nat.reduceLT, Nat.reduceEqDiff, Bool.not_false, Bool.not_true, decide_true, decide_false, eq_self, tk_f0, tk_f1, tk_f2, tok_blk, tok_agg, tk_0, tk_1, tk_2, tk_3, tk_4, tk_len, tk_same, tk_w0, tk_w1, gp, hcv, sc_w5, gtp, tk_0, htp, (Ne.symm htp), gt]
  exact hnext (by omega) _ v' (st.updP Upd.put) (by rw [get_put, if_pos rfl])
end
end Dt
