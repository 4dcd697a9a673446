/- A part of the abstract machine and of the proof that the program does what it reckons; no conditions. -/
import Derived.Test.YtmndopeencbamaaN2
namespace Dt
open Go
set_option linter.all false
set_option maxRecDepth 100000
theorem vrel_str {ρ ρ' : Env} {n c : Nat} {v : Value} (h : VRel ρ (.str n c) v) : VRel ρ' (.str n c) v := by
  cases h
  exact .str _
theorem vrel_bool {ρ ρ' : Env} {b : Bool} {v : Value} (h : VRel ρ (.bool b) v) : VRel ρ' (.bool b) v := by
  cases h
  exact .bool _
theorem s6 {H : Heap} {K : AVal → Heap → Prop} {n : Nat} (hK : ∀ H', Grow H H' → K (.bool true) H') : evF AP (look table) (n + 10) 6 [] H K := by
  rw [r_fun look6]
  simp only [v_pnn, v_ppn, v_qnn, v_qpn, r_slcS, r_again1, r_againN, ag_int, ag_bool, ag_str, ag_agg, r_seq, r_reg, r_op, r_op_y, r_op_n, r_op_u, r_move, r_get_v, r_get_t, r_get_c, r_lget_0, r_lget_s, r_lset_0, r_lset_s, r_kOp_t, r_kOp_v, r_kOp_o, r_kReg, r_kSeq_n, r_kSeq_e, r_kSeq_r, r_kBlk_n, r_kBlk_e, r_kBlk_r, r_kBlk_o, r_kLoop_n, r_kLoop_e, r_kLoop_r, r_ops_nil, r_bin, r_binB, r_binP, r_eql, r_neq, r_lss, r_leq, r_gtr, r_geq, r_add, r_sub, r_mul, v_eqs, v_nes, r_opt, r_pick, r_pick_t, r_pick_f, r_not, v_not, r_ret, r_exit, r_skip, r_cond_t, r_cond_f, r_block, r_loop, r_kEnd_n, r_kEnd_r, r_giveO, r_consO, r_evR_0, r_evR_o, r_evR_1, r_evR_N, r_give_0, r_give_1, r_give_2, initV, r_nilck, v_ckp, v_ckf, r_fadr, v_fadr, r_load1, rd1, rdN, v_rd0, rdRow_0, rdRow_s, r_loadN, r_store, v_wrV, v_wrA, v_rdA0, v_some, r_putK, r_alloc, r_box, r_boxK, r_build, r_aggK, fill_0, fill_s, fillK_1, putRow_0, putRow_s, c_agg, c_int, c_bool, c_str, c_slc, c_nils, c_fn, c_ptr, r_buildS, r_rowsK1, fillR_1, fillO_1, r_append, r_fld1, r_idxS, r_idxStr, r_len, v_lenS, v_lenL, v_lenN, r_slcStr, v_sub, map_some, map_none, r_call, r_callv, v_callf, r_ext, v_ext0, v_exts, r_mkfn, opds, r_conv, v_conv, llen_0, llen_s, n_of, ii_eq, ii_lt, ii_le, get_put, get_add, next_put, next_add, put_put, add_put', ne_s, ne_s', ne_ss, ne_ss', if_true, if_false, ite_self, ite_true, ite_false, Nat.zero_add, Nat.add_zero, Nat.reduceAdd, Nat.reduceLT, Nat.reduceEqDiff, Bool.not_false, Bool.not_true, decide_true, decide_false, eq_self, d6]
  refine s12 (n := n) (l := ⟨_, _⟩) alive_told ?_
  intro H' g
  simp only [v_pnn, v_ppn, v_qnn, v_qpn, r_slcS, r_again1, r_againN, ag_int, ag_bool, ag_str, ag_agg, r_seq, r_reg, r_op, r_op_y, r_op_n, r_op_u, r_move, r_get_v, r_get_t, r_get_c, r_lget_0, r_lget_s, r_lset_0, r_lset_s, r_kOp_t, r_kOp_v, r_kOp_o, r_kReg, r_kSeq_n, r_kSeq_e, r_kSeq_r, r_kBlk_n, r_kBlk_e, r_kBlk_r, r_kBlk_o, r_kLoop_n, r_kLoop_e, r_kLoop_r, r_ops_nil, r_bin, r_binB, r_binP, r_eql, r_neq, r_lss, r_leq, r_gtr, r_geq, r_add, r_sub, r_mul, v_eqs, v_nes, r_opt, r_pick, r_pick_t, r_pick_f, r_not, v_not, r_ret, r_exit, r_skip, r_cond_t, r_cond_f, r_block, r_loop, r_kEnd_n, r_kEnd_r, r_giveO, r_consO, r_evR_0, r_evR_o, r_evR_1, r_evR_N, r_give_0, r_give_1, r_give_2, initV, r_nilck, v_ckp, v_ckf, r_fadr, v_fadr, r_load1, rd1, rdN, v_rd0, rdRow_0, rdRow_s, r_loadN, r_store, v_wrV, v_wrA, v_rdA0, v_some, r_putK, r_alloc, r_box, r_boxK, r_build, r_aggK, fill_0, fill_s, fillK_1, putRow_0, putRow_s, c_agg, c_int, c_bool, c_str, c_slc, c_nils, c_fn, c_ptr, r_buildS, r_rowsK1, fillR_1, fillO_1, r_append, r_fld1, r_idxS, r_idxStr, r_len, v_lenS, v_lenL, v_lenN, r_slcStr, v_sub, map_some, map_none, r_call, r_callv, v_callf, r_ext, v_ext0, v_exts, r_mkfn, opds, r_conv, v_conv, llen_0, llen_s, n_of, ii_eq, ii_lt, ii_le, get_put, get_add, next_put, next_add, put_put, add_put', ne_s, ne_s', ne_ss, ne_ss', if_true, if_false, ite_self, ite_true, ite_false, Nat.zero_add, Nat.add_zero, Nat.reduceAdd, Nat.reduceLT, Nat.reduceEqDiff, Bool.not_false, Bool.not_true, decide_true, decide_false, eq_self]
  exact hK _ g
/-- What is known ahead: that the example holds, and what 'told' tells. -/
def known2 (f : Nat) (args : List AVal) : Option AVal := match args with
  | [] => match Nat.beq f 6 with
    | true => some (.bool true)
    | false => none
  | [.str n c] => match Nat.beq f 12 with
    | true => match toldC ⟨n, c⟩ with
      | some a => match a with
        | (a, b) => some (.str a b)
      | none => none
    | false => none
  | _ => none
theorem knows_P {f : Nat} {args : List AVal} {x : AVal} (ha : ∀ (ρ : Env) us, VRels ρ args us → VRels Env.none args us) (hx : ∀ (ρ ρ' : Env) v, VRel ρ x v → VRel ρ' x v)
    {N : Nat} (h : ∀ H, evF AP (look table) N f args H (fun y _ => y = x)) : Knows Go.Proofs.Try.prog f args x := by
  intro w ρ us hs
  obtain ⟨h1, h2⟩ := evF_sound (A := AP) follows funs_ok N f args ⟨0, .nil⟩ _ Env.none w us (ha ρ us hs) (HRel.nobody w) (h _)
  refine ⟨h1, Calls.mono h2 fun e w' he => ?_⟩
  obtain ⟨v, g1, y, H', ρ', g2, g3, g4⟩ := he
  obtain rfl : y = x := g2
  exact ⟨v, g1, hx _ _ _ g3, ρ', H', g4⟩
theorem alive6 (H : Heap) : evF AP (look table) (50 + 10) 6 [] H (fun y _ => y = .bool true) := by
  refine s6 (n := 50) ?_
  intro H' _
  rfl
theorem known2_ok (f : Nat) (args : List AVal) (x : AVal) (h : known2 f args = some x) : Knows Go.Proofs.Try.prog f args x := by
  unfold known2 at h
  split at h
  · split at h
    · rename_i hb
      have := Nat.eq_of_beq_eq_true hb
      subst this
      simp only [Option.some.injEq] at h
      subst h
      refine knows_P (N := 50 + 10) (fun ρ us hs => ?_) (fun ρ ρ' v hv => vrel_bool hv) ?_
      · cases hs; exact .nil
      · exact alive6
    · cases h
  · rename_i n c
    split at h
    · rename_i hb
      have := Nat.eq_of_beq_eq_true hb
      subst this
      cases ht : toldC ⟨n, c⟩ with
      | none => rw [ht] at h; cases h
      | some a =>
        obtain ⟨a, b⟩ := a
        rw [ht] at h
        simp only [Option.some.injEq] at h
        subst h
        refine knows_P (fun ρ us hs => ?_) (fun ρ ρ' v hv => vrel_str hv) (fun H => s12 (n := 51) ht fun H' _ => rfl)
        cases hs with
        | cons h1 h2 => cases h2; exact .cons (vrel_str h1) .nil
    · cases h
  · cases h

/-- What a law's function does, with that known. -/
def law2 (F : DF) (args : List AVal) : Bool := evG AB (withKnown known2 (evF AB (look table) 60)) F args ⟨0, .nil⟩ yes
theorem law2_sound {f : Nat} {F : DF} (hf : FunOk Go.Proofs.Try.prog f F) {args : List AVal} {us : List Value} (hs : VRels Env.none args us) (h : law2 F args = true) (w : World) :
    Calls Go.Proofs.Try.prog f us.toArray w fun e w' => e = .returned (.bool true) ∧ Go.RowKit.Below w.heap.size w w' := by
  obtain ⟨_, h2⟩ := evG_sound (A := AB) follows (withKnown_sound known2_ok (evF_sound follows funs_ok 60)) hf args ⟨0, .nil⟩ yes Env.none w us hs (HRel.nobody w) h
  refine Calls.mono h2 fun e w' he => ?_
  obtain ⟨v, g1, x, H', ρ', g2, g3, g4⟩ := he
  rw [yes_true g2] at g3
  cases g3
  exact ⟨g1, g4.os, g4.tape, g4.output, g4.size, fun k hk => g4.frame k hk fun b R e => (by cases e)⟩
/-- The same for what is shown of all heaps. -/
theorem lawP_sound {f : Nat} {args : List AVal} {us : List Value} {N : Nat} (hs : VRels Env.none args us) (h : evF AP (look table) N f args ⟨0, .nil⟩ (fun y _ => y = .bool true)) (w : World) :
    Calls Go.Proofs.Try.prog f us.toArray w fun e w' => e = .returned (.bool true) ∧ Go.RowKit.Below w.heap.size w w' := by
  obtain ⟨_, h2⟩ := evF_sound (A := AP) follows funs_ok N f args ⟨0, .nil⟩ _ Env.none w us hs (HRel.nobody w) h
  refine Calls.mono h2 fun e w' he => ?_
  obtain ⟨v, g1, x, H', ρ', g2, g3, g4⟩ := he
  obtain rfl : x = .bool true := g2
  cases g3
  exact ⟨g1, g4.os, g4.tape, g4.output, g4.size, fun k hk => g4.frame k hk fun b R e => (by cases e)⟩
set_option maxRecDepth 100000
end Dt
