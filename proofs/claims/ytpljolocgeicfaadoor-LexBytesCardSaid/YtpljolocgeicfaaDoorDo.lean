/- A part of the abstract machine and of the proof that the program does what it reckons; no conditions. -/
import Derived.Test.YtpljolocgeicfaaDoorDn
namespace Dt
open Go Go.RowKit
/-! ### Code -/
section code
variable {R : Type} {A : Alg R} {P : Program} {call : Nat → List AVal → Heap → (AVal → Heap → R) → R} {vm : List Nat} {N : Nat}

def DX.exit' : DX → Exit
  | .normal => .normal
  | .exit id => .exit id
  | .ret => .ret

def namesAt (x : DX) (names : List Nat) : List Nat := match x with | .normal => names | _ => []

theorem ERel.at {ρ : Env} {names : List Nat} {vs ts : List AVal} {a : Act} (e : ERel ρ vm names N vs ts a) (x : DX) : ERel ρ vm (namesAt x names) N vs ts a := by
  cases x <;> first | exact e | exact e.forget ts

theorem code_sound (hm : P.follows .mixedOrders = true) (hcall : CallOk P A call) (hvm : vm.Nodup) : ∀ (c : Code) (names names' : List Nat) (dc : DC), cCode P vm N names c = some (dc, names') →
    ∀ (K : DX → List AVal → List AVal → Heap → R) (vs ts : List AVal) (H : Heap) (ρ : Env) (a : Act) (w : World), ERel ρ vm names N vs ts a → HRel ρ H w → A.holds (evC A call dc vs ts H K) →
    ∀ Q : Exit → Act → World → Prop, (∀ x vs ts H' ρ' a' w', A.holds (K x vs ts H') → ERel ρ' vm (namesAt x names') N vs ts a' → Step ρ H w ρ' H' w' → Q x.exit' a' w') → c.wp P Q a w
  | .skip, names, names', dc, hc, K, vs, ts, H, ρ, a, w, e, hH, h, Q, hQ => by
    simp only [cCode, Option.some.injEq, Prod.mk.injEq] at hc
    obtain ⟨rfl, rfl⟩ := hc
    exact wp_skip (hQ .normal vs ts H ρ a w h e (Step.refl hH))
  | .region id ops draw, names, names', dc, hc, K, vs, ts, H, ρ, a, w, e, hH, h, Q, hQ => by
    simp only [cCode] at hc
    split at hc
    · cases hc
    · rename_i items hit
      split at hc
      · rename_i ds names1 hco
        simp only [Option.some.injEq, Prod.mk.injEq] at hc
        obtain ⟨rfl, rfl⟩ := hc
        simp only [evC] at h
        exact region_sound hm hcall hvm hit hco (e.forget []) hH h fun vs ts H' ρ' a' w' g1 g2 g3 => hQ .normal vs ts H' ρ' a' w' g1 g2 g3
      · cases hc
  | .seq x y, names, names', dc, hc, K, vs, ts, H, ρ, a, w, e, hH, h, Q, hQ => by
    simp only [cCode] at hc
    split at hc
    · cases hc
    · rename_i dx n1 h1
      split at hc
      · cases hc
      · rename_i dy n2 h2
        simp only [Option.some.injEq, Prod.mk.injEq] at hc
        obtain ⟨rfl, rfl⟩ := hc
        simp only [evC] at h
        refine wp_seq (code_sound hm hcall hvm x _ _ _ h1 _ _ _ _ _ _ _ e hH h _ fun z vs1 ts1 H1 ρ1 a1 w1 g1 g2 g3 => ?_)
        cases z with
        | normal =>
          simp only [DX.exit', Exit.then]
          exact code_sound hm hcall hvm y _ _ _ h2 _ _ _ _ _ _ _ g2 g3.rel g1 Q fun z vs2 ts2 H2 ρ2 a2 w2 k1 k2 k3 => hQ z vs2 ts2 H2 ρ2 a2 w2 k1 k2 (g3.trans k3)
        | exit id => exact hQ (.exit id) vs1 ts1 H1 ρ1 a1 w1 g1 g2 g3
        | ret => exact hQ .ret vs1 ts1 H1 ρ1 a1 w1 g1 g2 g3
  | .cond c x y, names, names', dc, hc, K, vs, ts, H, ρ, a, w, e, hH, h, Q, hQ => by
    simp only [cCode] at hc
    split at hc
    · rename_i dc' dx n1 dy n2 h0 h1 h2
      simp only [Option.some.injEq, Prod.mk.injEq] at hc
      obtain ⟨rfl, rfl⟩ := hc
      simp only [evC] at h
      have hr := opd_rel e h0
      generalize dc'.get vs ts = X at hr h
      generalize hv : a.eval c = u at hr
      cases hr <;> try exact (A.fail_no h).elim
      rename_i b
      cases b with
      | true =>
        refine wp_cond_true hv (code_sound hm hcall hvm x _ _ _ h1 _ _ _ _ _ _ _ e hH h Q fun z vs1 ts1 H1 ρ1 a1 w1 g1 g2 g3 => hQ z vs1 ts1 H1 ρ1 a1 w1 g1 ?_ g3)
        cases z <;> exact g2.forget ts1
      | false =>
        refine wp_cond_false hv (code_sound hm hcall hvm y _ _ _ h2 _ _ _ _ _ _ _ e hH h Q fun z vs1 ts1 H1 ρ1 a1 w1 g1 g2 g3 => hQ z vs1 ts1 H1 ρ1 a1 w1 g1 ?_ g3)
        cases z <;> exact g2.forget ts1
    · cases hc
  | .block id c, names, names', dc, hc, K, vs, ts, H, ρ, a, w, e, hH, h, Q, hQ => by
    simp only [cCode] at hc
    split at hc
    · rename_i dx n1 h1
      simp only [Option.some.injEq, Prod.mk.injEq] at hc
      obtain ⟨rfl, rfl⟩ := hc
      simp only [evC] at h
      refine wp_block (code_sound hm hcall hvm c _ _ _ h1 _ _ _ _ _ _ _ e hH h _ fun z vs1 ts1 H1 ρ1 a1 w1 g1 g2 g3 => ?_)
      have g2' : ∀ z, ERel ρ1 vm (namesAt z []) N vs1 ts1 a1 := fun z => by cases z <;> exact g2.forget ts1
      cases z with
      | normal => exact hQ .normal vs1 ts1 H1 ρ1 a1 w1 g1 (g2' .normal) g3
      | ret => exact hQ .ret vs1 ts1 H1 ρ1 a1 w1 g1 (g2' .ret) g3
      | exit j =>
        simp only at g1
        simp only [DX.exit', Exit.inBlock]
        by_cases hj : j = id
        · rw [if_pos hj]
          have : Nat.beq j id = true := by rw [Nat.beq_eq]; exact hj
          rw [this] at g1
          exact hQ .normal vs1 ts1 H1 ρ1 a1 w1 g1 (g2' .normal) g3
        · rw [if_neg hj]
          have : Nat.beq j id = false := by
            cases hb : Nat.beq j id with
            | false => rfl
            | true => exact absurd (Nat.eq_of_beq_eq_true hb) hj
          rw [this] at g1
          exact hQ (.exit j) vs1 ts1 H1 ρ1 a1 w1 g1 (g2' (.exit j)) g3
    · cases hc
  | .loop c, names, names', dc, hc, K, vs, ts, H, ρ, a, w, e, hH, h, Q, hQ => by
    simp only [cCode] at hc
    split at hc
    · rename_i dx n1 h1
      simp only [Option.some.injEq, Prod.mk.injEq] at hc
      obtain ⟨rfl, rfl⟩ := hc
      simp only [evC] at h
      have ih := code_sound hm hcall hvm c _ _ _ h1
      have key : ∀ (n : Nat) (vs : List AVal) (H1 : Heap) (ρ1 : Env) (a1 : Act) (w1 : World), ERel ρ1 vm [] N vs [] a1 → Step ρ H w ρ1 H1 w1 → A.holds (rounds A (fun vs H K => evC A call dx vs [] H K) n vs H1 K) → Code.rounds P c Q n a1 w1 := by
        intro n
        induction n with
        | zero => intro vs H1 ρ1 a1 w1 _ _ h; exact (A.fail_no h).elim
        | succ n ihn =>
          intro vs H1 ρ1 a1 w1 e1 st h
          rw [rounds_succ]
          simp only [rounds] at h
          refine ih _ _ _ _ _ _ _ e1 st.rel h _ fun z vs2 ts2 H2 ρ2 a2 w2 g1 g2 g3 => ?_
          cases z with
          | normal => exact ihn vs2 H2 ρ2 a2 w2 (g2.forget []) (st.trans g3) g1
          | exit id => exact hQ (.exit id) vs2 ts2 H2 ρ2 a2 w2 g1 g2 (st.trans g3)
          | ret => exact hQ .ret vs2 ts2 H2 ρ2 a2 w2 g1 g2 (st.trans g3)
      exact wp_loop_rounds manyRounds (key manyRounds vs H ρ a w (e.forget []) (Step.refl hH) h)
    · cases hc
  | .exit id, names, names', dc, hc, K, vs, ts, H, ρ, a, w, e, hH, h, Q, hQ => by
    simp only [cCode, Option.some.injEq, Prod.mk.injEq] at hc
    obtain ⟨rfl, rfl⟩ := hc
    exact wp_exit (hQ (.exit id) vs ts H ρ a w h (e.forget ts) (Step.refl hH))
  | .scope c, names, names', dc, hc, K, vs, ts, H, ρ, a, w, e, hH, h, Q, hQ => by
    simp only [cCode] at hc
    split at hc
    · rename_i dx n1 h1
      simp only [Option.some.injEq, Prod.mk.injEq] at hc
      obtain ⟨rfl, rfl⟩ := hc
      refine wp_scope_straight (code_sound hm hcall hvm c _ _ _ h1 _ _ _ _ _ _ _ e hH h _ fun z vs1 ts1 H1 ρ1 a1 w1 g1 g2 g3 => ?_)
      have := hQ z vs1 ts1 H1 ρ1 a1 w1 g1 (by cases z <;> exact g2.forget ts1) g3
      cases z <;> exact this
    · cases hc
  | .label l, names, names', dc, hc, K, vs, ts, H, ρ, a, w, e, hH, h, Q, hQ => by
    simp only [cCode, Option.some.injEq, Prod.mk.injEq] at hc
    obtain ⟨rfl, rfl⟩ := hc
    exact wp_label (hQ .normal vs ts H ρ a w h e (Step.refl hH))
  | .ret, names, names', dc, hc, K, vs, ts, H, ρ, a, w, e, hH, h, Q, hQ => by
    simp only [cCode, Option.some.injEq, Prod.mk.injEq] at hc
    obtain ⟨rfl, rfl⟩ := hc
    exact wp_ret (hQ .ret vs ts H ρ a w h (e.forget ts) (Step.refl hH))
  | .goto l, names, names', dc, hc, K, vs, ts, H, ρ, a, w, e, hH, h, Q, hQ => by
    simp only [cCode, Option.some.injEq, Prod.mk.injEq] at hc
    obtain ⟨rfl, rfl⟩ := hc
    exact (A.fail_no h).elim
  | .rangeFunc _ _ _ _, _, _, _, hc, _, _, _, _, _, _, _, _, _, _, _, _ => by simp [cCode] at hc

/-! ### Results, functions -/

def resOne (tmps : Array Value) (r : ResultVar) : Sem Value := match r with
  | .tmp t => pure (tmps.getD t undef)
  | .cell b t => do loadVar t (← asAddr (tmps.getD b undef))

theorem loadAt_loadVar {P : Program} {t : TypeId} {ad u : Value} {w w' : World} (h : (Instr.loadAt t ad).run P w = .ok u w') : (do loadVar t (← asAddr ad) : Sem Value).run P w = .ok u w' := by
  cases ad with
  | pointer p => cases p with
    | none => simp [Instr.loadAt, Instr.sureAddr] at h
    | some p => simpa [Instr.loadAt, Instr.sureAddr, asAddr] using h
  | _ => simp [Instr.loadAt, Instr.sureAddr] at h

theorem res_sound {names : List Nat} {vs ts : List AVal} {H : Heap} {ρ : Env} {a : Act} {w : World} (e : ERel ρ vm names N vs ts a) (hH : HRel ρ H w) : ∀ (rs : List ResultVar) (drs : List DR) (l : List AVal), cRes P vm rs = some drs → evR vs H drs = some l →
    ∃ us, VRels ρ l us ∧ (rs.mapM (resOne a.tmps)).run P w = .ok us w
  | [], drs, l, hc, hr => by
    simp [cRes] at hc
    subst hc
    simp [evR] at hr
    subst hr
    exact ⟨[], .nil, by simp⟩
  | r :: rs, drs, l, hc, hr => by
    simp only [cRes] at hc
    split at hc
    · rename_i x xs h1 h2
      simp at hc
      subst hc
      simp only [evR] at hr
      split at hr
      · cases hr
      · rename_i v hv
        split at hr
        · cases hr
        · rename_i vs' hvs
          simp at hr
          subst hr
          obtain ⟨us, g1, g2⟩ := res_sound e hH rs xs vs' h2 hvs
          have e0 := e.forget []
          have key : ∃ u, VRel ρ v u ∧ (resOne a.tmps r).run P w = .ok u w := by
            cases r with
            | tmp t =>
              simp only [Option.map_eq_some_iff] at h1
              obtain ⟨y, hy, rfl⟩ := h1
              simp only [Option.some.injEq] at hv
              subst hv
              exact ⟨_, opd_rel e0 hy, by simp [resOne, Act.eval]⟩
            | cell b t =>
              simp only at h1
              split at h1
              · rename_i hmany
                simp only [Option.map_eq_some_iff] at h1
                obtain ⟨y, hy, rfl⟩ := h1
                have hrel := opd_rel e0 hy
                have hh : AP.holds (evI (R := Prop) AP (fun _ _ _ _ => False) (.loadN (P.cellsOf t) y) vs [] H fun x _ => x = v) := by
                  simp only [evI]
                  simp only at hv
                  revert hv
                  cases y.get vs [] <;> simp
                  rename_i bb rr cc
                  cases H.get bb <;> simp
                  rename_i z ll
                  cases rget ll rr <;> simp
                  rename_i row
                  cases cut row cc (P.cellsOf t) <;> simp [fL_eq]
                  intro h; exact h
                obtain ⟨X, u, _, q1, q3, _, q4⟩ := y_loadN (P := P) hmany hrel hH hh
                have q1' : X = v := q1
                subst q1'
                exact ⟨u, q3, loadAt_loadVar (q4 w rfl)⟩
              · split at h1
                · rename_i hone
                  simp only [Option.map_eq_some_iff] at h1
                  obtain ⟨y, hy, rfl⟩ := h1
                  have hrel := opd_rel e0 hy
                  have hh : AP.holds (evI (R := Prop) AP (fun _ _ _ _ => False) (.load1 y) vs [] H fun x _ => x = v) := by
                    simp only [evI]
                    simp only at hv
                    revert hv
                    cases y.get vs [] <;> simp
                    rename_i bb rr cc
                    cases H.get bb <;> simp
                    rename_i z ll
                    cases rget ll rr <;> simp
                    rename_i row
                    rcases cut row cc 1 with _ | q
                    · simp
                    · rcases q with _ | ⟨q, q'⟩
                      · simp
                      · simp only [Option.some.injEq]
                        intro h; exact h
                  obtain ⟨X, u, _, q1, q3, _, q4⟩ := y_load1 (P := P) hone hrel hH hh
                  have q1' : X = v := q1
                  subst q1'
                  exact ⟨u, q3, loadAt_loadVar (q4 w rfl)⟩
                · cases h1
          obtain ⟨u, k1, k2⟩ := key
          refine ⟨u :: us, .cons k1 g1, ?_⟩
          rw [List.mapM_cons]
          simp only [Sem.run_bind, k2, Result.andThen_ok, g2, Sem.run_pure]
    · cases hc

/-- A function is what the abstract machine has for it. -/
def FunOk (P : Program) (f : Nat) (F : DF) : Prop := ∃ fn c vm, P.funcs[f]? = some fn ∧ fn.body = some c ∧ fn.name ≠ "runtime.NumGoroutine" ∧ List.Nodup vm ∧ cFunc P vm fn = some F

theorem initV_get (args : List AVal) : ∀ (vm : List Nat) (i t : Nat), vm[i]? = some t → lget (initV args (vm.map some)) i = lget args t
  | [], i, t, h => by simp at h
  | u :: vm, 0, t, h => by simp at h; subst h; simp [initV, lget]
  | u :: vm, i + 1, t, h => by
    simp only [List.map_cons, initV, lget]
    exact initV_get args vm i t (by simpa using h)
theorem initV_length (args : List AVal) : ∀ (vm : List Nat), (initV args (vm.map some)).length = vm.length
  | [] => rfl
  | u :: vm => by simp [initV, initV_length args vm]

/-- One function, with what its calls do given. -/
def evG (A : Alg R) (call : Nat → List AVal → Heap → (AVal → Heap → R) → R) (F : DF) (args : List AVal) (H : Heap) (K : AVal → Heap → R) : R :=
  fL (initV args F.init) fun vs => evC A call F.code vs [] H fun x vs _ H => match x with
    | .exit _ => A.fail
    | _ => match evR vs H F.res with
      | none => A.fail
      | some l => match l with
        | [v] => fV v fun v => K v H
        | l => fL l fun l => K (.tup l) H

theorem evG_sound (hm : P.follows .mixedOrders = true) (hcall : CallOk P A call) {f : Nat} {F : DF} (hf : FunOk P f F) (args : List AVal) (H : Heap) (K : AVal → Heap → R) (ρ : Env) (w : World) (us : List Value) (hs : VRels ρ args us) (hH : HRel ρ H w) (h : A.holds (evG A call F args H K)) :
    (∃ fn c, P.funcs[f]? = some fn ∧ fn.body = some c ∧ fn.name ≠ "runtime.NumGoroutine") ∧
    Calls P f us.toArray w fun e w' => ∃ v, e = .returned v ∧ ∃ x H' ρ', A.holds (K x H') ∧ VRel ρ' x v ∧ Step ρ H w ρ' H' w' := by
  simp only [evG, fL_eq] at h
  obtain ⟨fn, c, vm, h1, h2, h3, h4, h5⟩ := hf
  refine ⟨⟨fn, c, h1, h2, h3⟩, ?_⟩
  unfold cFunc at h5
  rw [h2] at h5
  simp only at h5
  split at h5
  · rename_i x names rs hc hr
    simp at h5
    subst h5
    simp only at h
    have hl := hs.length
    refine calls_of_wp h1 h2 (code_sound hm hcall h4 c _ _ _ hc _ _ _ _ ρ _ w ⟨?_, fun i t ht => ?_, fun i t ht => by simp at ht, initV_length _ _, rfl⟩ hH h _ fun z vs ts H' ρ' a' w' g1 g2 g3 => ?_)
    · simp only [Array.size_append, Array.size_replicate, List.size_toArray]
      omega
    · rw [initV_get _ _ _ _ ht]
      have hg := hs.of_get t
      have : (us.toArray ++ Array.replicate (fn.ntmps - us.toArray.size) undef).getD t undef = us[t]?.getD undef := by
        simp only [Array.getD_eq_getD_getElem?, Array.getElem?_append, List.size_toArray, List.getElem?_toArray, Array.getElem?_replicate]
        split
        · rfl
        · rename_i hge
          rw [List.getElem?_eq_none (by omega)]
          split <;> rfl
      rw [this]
      exact hg
    · have fin : ∀ {v : AVal}, (∃ l, evR vs H' rs = some l ∧ A.holds (match l with | [v] => fV v fun v => K v H' | l => K (.tup l) H')) →
          a'.defers = [] ∧ ∃ v, (results fn a'.tmps).run P w' = .ok v w' ∧ ∃ u, Ending.returned v = .returned u ∧ ∃ x H2 ρ2, A.holds (K x H2) ∧ VRel ρ2 x u ∧ Step ρ H w ρ2 H2 w' := by
        intro _ ⟨l, hl, hh⟩
        obtain ⟨us', k1, k2⟩ := res_sound g2 g3.rel fn.results.toList rs l hr hl
        refine ⟨g2.nodefer, ?_⟩
        have hres : (results fn a'.tmps).run P w' = .ok (if h : us'.toArray.size = 1 then us'.toArray[0] else .tuple us'.toArray) w' := by
          have hfun : results fn a'.tmps = (do
              let vs ← fn.results.mapM (resOne a'.tmps)
              pure (if h : vs.size = 1 then vs[0] else .tuple vs)) := by
            unfold results
            congr 2
          rw [hfun, Array.mapM_eq_mapM_toList, Sem.run_bind, map_eq_pure_bind, Sem.run_bind, k2]
          simp only [Result.andThen_ok, Sem.run_pure]
        refine ⟨_, hres, _, rfl, ?_⟩
        cases k1 with
        | nil => exact ⟨.tup [], H', ρ', by simpa using hh, .tup .nil, g3⟩
        | cons q1 q2 => cases q2 with
          | nil => exact ⟨_, H', ρ', by simpa [fV_eq] using hh, by simpa using q1, g3⟩
          | cons q3 q4 => exact ⟨_, H', ρ', by simpa using hh, by simpa using VRel.tup (.cons q1 (.cons q3 q4)), g3⟩
      have hk : A.holds (match evR vs H' rs with | none => A.fail | some l => match l with | [v] => fV v fun v => K v H' | l => K (.tup l) H') →
          a'.defers = [] ∧ ∃ v, (results fn a'.tmps).run P w' = .ok v w' ∧ ∃ u, Ending.returned v = .returned u ∧ ∃ x H2 ρ2, A.holds (K x H2) ∧ VRel ρ2 x u ∧ Step ρ H w ρ2 H2 w' := by
        intro hh
        cases hev : evR vs H' rs with
        | none => rw [hev] at hh; exact (A.fail_no hh).elim
        | some l => rw [hev] at hh; exact fin (v := .un) ⟨l, hev, hh⟩
      cases z with
      | normal => exact hk g1
      | ret => exact hk g1
      | exit id => exact (A.fail_no g1).elim
  · cases h5

/-! ### Calls whose answer is known -/

/-- The memory of nobody: what a call of plain arguments needs. -/
def Env.none : Env := fun _ => Option.none
theorem HRel.nobody (w : World) {gl : List (List AVal)} (h : GRel w gl) : HRel Env.none ⟨0, .nil, gl⟩ w := ⟨fun b R e => (by cases e), fun b b' R R' e => (by cases e), fun b R e => (by cases e), h, fun b R e => (by cases e)⟩

/-- All that stood stands as it did. -/
structure Quiet (w w' : World) : Prop where
  size : w.heap.size ≤ w'.heap.size
  os : w'.os = w.os
  tape : w'.tape = w.tape
  output : w'.output = w.output
  same : ∀ k, k < w.heap.size → w'.heap[k]? = w.heap[k]?
theorem Quiet.refl (w : World) : Quiet w w := ⟨Nat.le_refl _, rfl, rfl, rfl, fun _ _ => rfl⟩
theorem Step.quiet {w w' : World} {ρ' : Env} {H' : Heap} {gl : List (List AVal)} (s : Step Env.none ⟨0, .nil, gl⟩ w ρ' H' w') : Quiet w w' :=
  ⟨s.size, s.os, s.tape, s.output, fun k hk => s.frame k hk fun b R e => by cases e⟩

theorem Quiet.hrel {w w' : World} (q : Quiet w w') {ρ : Env} {H : Heap} (hH : HRel ρ H w) : HRel ρ H w' :=
  ⟨fun b R e => (hH.blk b R e).same (q.same _ (hH.dom b R e).2), hH.inj, fun b R e => ⟨(hH.dom b R e).1, Nat.lt_of_lt_of_le (hH.dom b R e).2 q.size⟩, hH.glob.same fun g hg => q.same _ (Nat.lt_of_lt_of_le hg hH.glob.size), hH.high⟩
/-- What a piece did that touched nothing that stood: so it is for anybody. -/
theorem Quiet.step {w w' : World} (q : Quiet w w') {ρ : Env} {H : Heap} (hH : HRel ρ H w) : Step ρ H w ρ H w' :=
  ⟨q.hrel hH, fun _ _ e => e, q.size, q.os, q.tape, q.output, fun r hr _ => q.same r hr, fun b R e hd => .inr ⟨b, R, e, hd, rfl⟩⟩
/-- .. and it laid an object. -/
theorem Quiet.stepObj {w w' : World} (q : Quiet w w') {ρ : Env} {H : Heap} (hH : HRel ρ H w) {r : Nat} {o : Obj} {x : OB} (h1 : w.heap.size ≤ r) (h2 : w'.heap[r]? = some o) (h3 : ObRel Env.none o x) :
    Step ρ H w (ρ.add H.next ⟨r, 0, 0, 0, 0⟩) (H.add (.obj x)) w' := by
  have hx := Env.add_ext (R := ⟨r, 0, 0, 0, 0⟩) hH.fresh
  have hr : r < w'.heap.size := (Array.getElem?_eq_some_iff.1 h2).1
  have hg : ∀ b, b ≠ H.next → (H.add (.obj x)).get b = H.get b := fun b hb => by rw [Heap.get_add _ _ _ trivial, if_neg hb]
  have hgn : (H.add (.obj x)).get H.next = .obj x := by rw [Heap.get_add _ _ _ trivial, if_pos rfl]
  have old : ∀ b S, ρ.add H.next ⟨r, 0, 0, 0, 0⟩ b = some S → b ≠ H.next → ρ b = some S := fun b S e hb => by simpa [Env.add, hb] using e
  have new : ∀ S, ρ.add H.next ⟨r, 0, 0, 0, 0⟩ H.next = some S → S = ⟨r, 0, 0, 0, 0⟩ := fun S e => by simpa [Env.add] using e.symm
  refine ⟨⟨fun b S e => ?_, fun b b' S S' e e' hd hd' hS => ?_, fun b S e => ?_, ?_, fun b S e hwr => ?_⟩, hx, q.size, q.os, q.tape, q.output, fun k hk _ => q.same k hk, fun b S e hd => ?_⟩
  · by_cases hb : b = H.next
    · subst hb
      obtain rfl := new S e
      rw [hgn]
      exact ⟨rfl, o, h2, h3.mono fun b R e => by cases e⟩
    · have e' := old b S e hb
      rw [hg b hb]
      exact ((hH.blk b S e').same (q.same _ (hH.dom _ _ e').2)).mono hx
  · by_cases hb : b = H.next <;> by_cases hb' : b' = H.next
    · rw [hb, hb']
    · subst hb
      obtain rfl := new S e
      have := (hH.dom _ _ (old b' S' e' hb')).2
      simp only at hS
      omega
    · subst hb'
      obtain rfl := new S' e'
      have := (hH.dom _ _ (old b S e hb)).2
      simp only at hS
      omega
    · rw [hg b hb] at hd
      rw [hg b' hb'] at hd'
      exact hH.inj b b' S S' (old _ _ e hb) (old _ _ e' hb') hd hd' hS
  · by_cases hb : b = H.next
    · subst hb
      obtain rfl := new S e
      exact ⟨by rw [Heap.next_add]; omega, hr⟩
    · have := hH.dom _ _ (old b S e hb)
      have := q.size
      exact ⟨by rw [Heap.next_add]; omega, by omega⟩
  · exact hH.glob.same fun g hgl => q.same _ (Nat.lt_of_lt_of_le hgl hH.glob.size)
  · rw [Heap.gl_add]
    by_cases hb : b = H.next
    · subst hb
      obtain rfl := new S e
      exact Nat.le_trans hH.glob.size h1
    · rw [hg b hb] at hwr
      exact hH.high _ _ (old b S e hb) hwr
  · by_cases hb : b = H.next
    · subst hb
      obtain rfl := new S e
      exact .inl h1
    · have e' := old b S e hb
      rw [hg b hb] at hd
      exact .inr ⟨b, S, e', hd, rfl⟩

/-- What the answer is, really. -/
def KRel (w : World) (v : Value) (w' : World) : KA → Prop
  | .val x => VRel Env.none x v ∧ Quiet w w'
  | .map l => Quiet w w' ∧ ∃ r es, v = .map (some r) ∧ w.heap.size ≤ r ∧ w'.heap[r]? = some (.map es es.size) ∧ MRel Env.none l es.toList 0

/-- A call whose answer is known. -/
def Knows (P : Program) (gl : List (List AVal)) (f : Nat) (args : List AVal) (a : KA) : Prop :=
  ∀ (w : World) (ρ : Env) (us : List Value), GRel w gl → VRels ρ args us → Out P (callFunc f us.toArray) w fun v w' => KRel w v w' a

/-- All is as it should be. -/
structure ProgOk (P : Program) (T : Prog) : Prop where
  mixed : P.follows .mixedOrders = true
  funs : ∀ f F, T.funs f = some F → FunOk P f F
  known : ∀ gl f args a, T.known gl f args = some a → Knows P gl f args a

theorem evF_sound {T : Prog} (hT : ProgOk P T) : ∀ n, CallOk P A (evF A T n)
  | 0 => fun _ _ _ _ _ _ _ _ _ h => (A.fail_no h).elim
  | n + 1 => by
    intro f args H K ρ w us hs hH h
    cases hk : T.known H.gl f args with
    | some a =>
      simp only [evF, hk] at h
      have hkn := hT.known _ _ _ _ hk w ρ us hH.glob hs
      cases a with
      | val x =>
        simp only at h
        refine Out.mono ?_ hkn
        intro v w' hv
        exact ⟨x, H, ρ, h, hv.1.mono (fun b R e => by cases e), hv.2.step hH⟩
      | map l =>
        simp only at h
        obtain ⟨_, h⟩ := hAdd_holds h
        refine Out.mono ?_ hkn
        intro v w' hv
        obtain ⟨q, r, es, rfl, h1, h2, h3⟩ := hv
        have st := q.stepObj hH (x := .map l) h1 h2 ⟨es, rfl, h3⟩
        have hm : VRel (ρ.add H.next ⟨r, 0, 0, 0, 0⟩) (.mp H.next) (.map (some r)) := .mp (R := ⟨r, 0, 0, 0, 0⟩) Env.add_same
        exact ⟨_, _, _, h, hm, st⟩
    | none =>
      cases hF : T.funs f with
      | none =>
        simp only [evF, hk, hF] at h
        exact (A.fail_no h).elim
      | some F =>
        simp only [evF, hk, hF] at h
        obtain ⟨g1, g2⟩ := evG_sound hT.mixed (evF_sound hT n) (hT.funs f F hF) args H K ρ w us hs hH h
        exact Out.ofBody g1 g2
end code
end Dt
