/- A part of the abstract machine and of the proof that the program does what it reckons; no conditions. -/
import Derived.Test.YtpljolocgeicfaaDoorDk
namespace Dt
open Go Go.RowKit
/-! ### An operation under its guard, and where its value goes -/
section step
variable {R : Type} {A : Alg R} {P : Program} {call : Nat → List AVal → Heap → (AVal → Heap → R) → R} {vm names : List Nat} {N : Nat} {vs ts : List AVal} {ρ : Env} {H : Heap} {w : World} {a : Act} {ops : Array Oper}

theorem put_get {a : Act} {t : Nat} {v : Value} (h : t < a.tmps.size) (u : Nat) : (a.put (some t) v).tmps.getD u undef = if u = t then v else a.tmps.getD u undef := by
  simp only [Act.put]
  by_cases hu : u = t
  · subst hu
    rw [if_pos rfl]
    simp [h]
  · rw [if_neg hu]
    simp [Array.getElem?_setIfInBounds_ne (Ne.symm hu)]
theorem put_size {a : Act} {d : Option Nat} {v : Value} : (a.put d v).tmps.size = a.tmps.size := by
  cases d <;> simp [Act.put]

theorem put_nodefer {a : Act} {d : Option Nat} {v : Value} : (a.put d v).defers = a.defers := by cases d <;> rfl

def gsays (vs ts : List AVal) : Option (Opd × Bool) → Bool
  | none => true
  | some (x, want) => match x.get vs ts with | .bool b => b == want | _ => false

/-- What a guard says. -/
theorem guard_rel (e : ERel ρ vm names N vs ts a) {o : Oper} {g : Option (Opd × Bool)} (h : cGuard vm names ops o = some g) :
    Region.wanted o (yielded ops a.tmps) = gsays vs ts g := by
  unfold cGuard at h
  unfold Region.wanted
  cases hg : o.guard with
  | none => rw [hg] at h; simp at h; subst h; rfl
  | some p =>
    obtain ⟨j, want⟩ := p
    rw [hg] at h
    simp only at h
    cases ht : (ops[j]?).bind (·.dst) with
    | none => rw [ht] at h; cases h
    | some t =>
      rw [ht] at h
      simp only [Option.map_eq_some_iff] at h
      obtain ⟨x, hx, rfl⟩ := h
      show (yielded ops a.tmps j == some want) = _
      have hr := opd_rel e hx
      simp only [Act.eval] at hr
      have hy : yielded ops a.tmps j = (match a.tmps.getD t undef with | .bool b => some b | _ => none) := by
        unfold yielded
        rw [ht]
        simp only [Option.bind_some, Array.getD_eq_getD_getElem?]
        cases a.tmps[t]? with
        | none => rfl
        | some v => cases v <;> rfl
      rw [hy]
      simp only [gsays]
      generalize x.get vs ts = X at hr
      generalize a.tmps.getD t undef = u at hr
      cases hr <;> simp

/-- The value is laid where it belongs. -/
theorem sink_rel (hvm : vm.Nodup) (e : ERel ρ vm names N vs ts a) {o : Oper} {d : DO} {names' : List Nat} (h : cOper P vm N ops names o = some (d, names')) {x : AVal} {v : Value} (hx : VRel ρ x v) {K : List AVal → List AVal → R} (hs : A.holds (sink d.dst vs ts x K)) :
    ∃ vs' ts', A.holds (K vs' ts') ∧ ERel ρ vm names' N vs' ts' (a.put o.dst v) := by
  unfold cOper at h
  split at h
  · rename_i di g h1 h2
    split at h
    · rename_i hd
      simp at h
      obtain ⟨rfl, rfl⟩ := h
      simp only [sink] at hs
      exact ⟨vs, ts, hs, by rw [hd]; exact e⟩
    · rename_i t hd
      split at h
      · rename_i ht
        have hsz : t < a.tmps.size := Nat.lt_of_lt_of_le ht e.size
        split at h
        · rename_i i hi
          split at h
          · cases h
          · rename_i hc
            simp at h
            obtain ⟨rfl, rfl⟩ := h
            simp only [sink, fL_eq] at hs
            obtain ⟨k, hk, hvk⟩ := findT_some hi
            simp at hk
            subst hk
            have hil : i < vm.length := (List.getElem?_eq_some_iff.1 hvk).1
            refine ⟨_, _, hs, ⟨by rw [put_size]; exact e.size, fun j u hj => ?_, fun j u hj => ?_, by rw [lset_eq, List.length_set, e.len], by rw [put_nodefer]; exact e.nodefer⟩⟩
            · rw [hd, put_get hsz, lget_eq, lset_eq, List.getElem?_set]
              by_cases hij : i = j
              · subst hij
                rw [hvk] at hj
                simp at hj
                subst hj
                rw [if_pos rfl, if_pos (by rw [e.len]; exact hil), if_pos rfl]
                exact hx
              · have hne : u ≠ t := fun he => by
                  subst he
                  have h1 := List.getElem?_eq_some_iff.1 hvk
                  have h2 := List.getElem?_eq_some_iff.1 hj
                  exact hij (List.getElem_inj hvm |>.1 (h1.2.trans h2.2.symm))
                rw [if_neg hij, if_neg hne, ← lget_eq]
                exact e.vars j u hj
            · have hne : u ≠ t := fun he => by
                subst he
                exact hc (by simpa using List.mem_of_getElem? hj)
              rw [hd, put_get hsz, if_neg hne]
              exact e.tmps j u hj
        · rename_i hi
          split at h
          · cases h
          · rename_i hc
            simp at h
            obtain ⟨rfl, rfl⟩ := h
            simp only [sink] at hs
            have hv := findT_none hi
            refine ⟨_, _, hs, ⟨by rw [put_size]; exact e.size, fun j u hj => ?_, fun j u hj => ?_, e.len, by rw [put_nodefer]; exact e.nodefer⟩⟩
            · have hne : u ≠ t := fun he => by
                subst he
                exact hv (List.mem_of_getElem? hj)
              rw [hd, put_get hsz, if_neg hne]
              exact e.vars j u hj
            · rw [hd, put_get hsz]
              cases j with
              | zero =>
                simp at hj
                subst hj
                rw [if_pos rfl]
                exact hx
              | succ j =>
                have hj' : names[j]? = some u := by simpa using hj
                have hne : u ≠ t := fun he => by
                  subst he
                  exact hc (by simpa using List.mem_of_getElem? hj')
                rw [if_neg hne]
                exact e.tmps j u hj'
      · cases h
  · cases h

theorem cOper_parts {o : Oper} {d : DO} {names' : List Nat} (h : cOper P vm N ops names o = some (d, names')) : cOp P vm names o.op = some d.op ∧ cGuard vm names ops o = some d.guard := by
  unfold cOper at h
  split at h
  · rename_i di g h1 h2
    split at h
    · simp at h
      obtain ⟨rfl, rfl⟩ := h
      exact ⟨h1, h2⟩
    · split at h
      · split at h <;> split at h <;> simp at h <;> obtain ⟨rfl, rfl⟩ := h <;> exact ⟨h1, h2⟩
      · cases h
  · cases h

theorem evOps_yes {d : DO} {ds : List DO} {K : List AVal → List AVal → Heap → R} (hw : gsays vs ts d.guard = true) :
    evOps A call (d :: ds) vs ts H K = evI A call d.op vs ts H fun v H => sink d.dst vs ts v fun vs ts => evOps A call ds vs ts H K := by
  obtain ⟨dst, op, guard⟩ := d
  cases guard with
  | none => rfl
  | some p =>
    obtain ⟨x, want⟩ := p
    simp only [gsays] at hw
    simp only [evOps]
    split
    · rfl
    · rename_i h
      exact absurd (h.symm.trans hw) (by simp)
theorem evOps_no {d : DO} {ds : List DO} {K : List AVal → List AVal → Heap → R} (hw : gsays vs ts d.guard = false) :
    evOps A call (d :: ds) vs ts H K = sink d.dst vs ts (.tup []) fun vs ts => evOps A call ds vs ts H K := by
  obtain ⟨dst, op, guard⟩ := d
  cases guard with
  | none => simp [gsays] at hw
  | some p =>
    obtain ⟨x, want⟩ := p
    simp only [gsays] at hw
    simp only [evOps]
    split
    · rename_i h
      exact absurd (h.symm.trans hw) (by simp)
    · rfl

/-- How an operation is done, or passed over. -/
def Does (P : Program) (ops : Array Oper) (o : Oper) (a : Act) (w : World) (Q : Value → World → Prop) : Prop :=
  (Region.wanted o (yielded ops a.tmps) = true ∧ Out P (execOp a.eval o) w Q) ∨ (Region.wanted o (yielded ops a.tmps) = false ∧ Q undef w)
/-- The operation yields a value and turns nothing. -/
def YieldsAt (P : Program) (ops : Array Oper) (o : Oper) (v : Value) (a : Act) (w : World) : Prop :=
  (Region.wanted o (yielded ops a.tmps) = true ∧ (execOp a.eval o).run P w = .ok (.value v) w) ∨ (Region.wanted o (yielded ops a.tmps) = false ∧ v = undef)

theorem Does.wpOp {i : Nat} {o : Oper} (ho : ops[i]? = some o) {Q : Exit → Act → World → Prop} {K : Act → World → Prop} {QQ : Value → World → Prop} (h : Does P ops o a w QQ) (hk : ∀ v w', QQ v w' → K (a.put o.dst v) w') : wpOp P ops Q i K a w := by
  unfold Go.wpOp
  simp only [ho]
  rcases h with ⟨h1, h2⟩ | ⟨h1, h2⟩
  · rw [if_pos h1]
    refine .inl ?_
    unfold Oper.wp
    unfold Out at h2
    split at h2 <;> rename_i hrun
    · rw [hrun]; exact hk _ _ h2
    · rw [hrun]; exact hk _ _ h2
    · rw [hrun]
      refine Calls.mono h2 fun e w'' he => ?_
      obtain ⟨v, rfl, hv⟩ := he
      exact hk _ _ hv
    · exact h2.elim
  · rw [if_neg (by rw [h1]; simp)]
    exact hk _ _ h2
theorem YieldsAt.does {o : Oper} {v : Value} (h : YieldsAt P ops o v a w) {Q : Value → World → Prop} (hq : Q v w) : Does P ops o a w Q := by
  rcases h with ⟨h1, h2⟩ | ⟨h1, rfl⟩
  · refine .inl ⟨h1, ?_⟩
    simp only [Out, h2]
    exact hq
  · exact .inr ⟨h1, hq⟩

/-- The operation yields the value in each world that agrees with this one on some blocks of it. -/
def Firm (P : Program) (ops : Array Oper) (o : Oper) (v : Value) (a : Act) (w : World) : Prop :=
  ∃ S : Nat → Prop, (∀ k, S k → k < w.heap.size) ∧ ∀ w' : World, (∀ k, S k → w'.heap[k]? = w.heap[k]?) → YieldsAt P ops o v a w'
theorem Firm.here {o : Oper} {v : Value} (h : Firm P ops o v a w) : YieldsAt P ops o v a w :=
  let ⟨_, _, h⟩ := h
  h w fun _ _ => rfl
theorem Firm.any {o : Oper} {v : Value} (h : ∀ w, YieldsAt P ops o v a w) : Firm P ops o v a w := ⟨fun _ => False, fun _ h => h.elim, fun w' _ => h w'⟩
theorem Firm.keep {o : Oper} {v : Value} {w' : World} (h : Firm P ops o v a w) (hs : w.heap.size ≤ w'.heap.size) (hk : ∀ k, k < w.heap.size → w'.heap[k]? = w.heap[k]?) : Firm P ops o v a w' :=
  let ⟨S, h1, h2⟩ := h
  ⟨S, fun k hS => Nat.lt_of_lt_of_le (h1 k hS) hs, fun w'' hw => h2 w'' fun k hS => (hw k hS).trans (hk k (h1 k hS))⟩

theorem step_do (hcall : CallOk P A call) (hvm : vm.Nodup) (e : ERel ρ vm names N vs ts a) (hH : HRel ρ H w) {o : Oper} {d : DO} {ds : List DO} {names' : List Nat} (hc : cOper P vm N ops names o = some (d, names')) {K : List AVal → List AVal → Heap → R}
    (h : A.holds (evOps A call (d :: ds) vs ts H K)) :
    Does P ops o a w fun v w' => ∃ vs' ts' H' ρ', A.holds (evOps A call ds vs' ts' H' K) ∧ ERel ρ' vm names' N vs' ts' (a.put o.dst v) ∧ Step ρ H w ρ' H' w' ∧ (rawFresh o.op = true → ∀ k, k < w.heap.size → w'.heap[k]? = w.heap[k]?) := by
  obtain ⟨hc1, hc2⟩ := cOper_parts hc
  have hgr := guard_rel e hc2
  cases hw : Region.wanted o (yielded ops a.tmps) with
  | false =>
    rw [evOps_no (hgr.symm.trans hw)] at h
    obtain ⟨vs', ts', h1, h2⟩ := sink_rel hvm e hc (.tup .nil) h
    exact .inr ⟨hw, vs', ts', H, ρ, h1, h2, Step.refl hH, fun _ _ _ => rfl⟩
  | true =>
    rw [evOps_yes (hgr.symm.trans hw)] at h
    refine .inl ⟨hw, Out.mono (fun v w' hq => ?_) (op_any hcall e hH hc1 h)⟩
    obtain ⟨x, H', ρ', h1, h2, h3, h4⟩ := hq
    obtain ⟨vs', ts', g1, g2⟩ := sink_rel hvm (e.mono h3.ext) hc h2 h1
    exact ⟨vs', ts', H', ρ', g1, g2, h3, h4⟩

theorem step_quiet (hvm : vm.Nodup) (e : ERel ρ vm names N vs ts a) (hH : HRel ρ H w) {o : Oper} (hk : rawKind o.op ≠ 2) {d : DO} {ds : List DO} {names' : List Nat} (hc : cOper P vm N ops names o = some (d, names')) {K : List AVal → List AVal → Heap → R}
    (h : A.holds (evOps A call (d :: ds) vs ts H K)) :
    ∃ v vs' ts', A.holds (evOps A call ds vs' ts' H K) ∧ ERel ρ vm names' N vs' ts' (a.put o.dst v) ∧ Firm P ops o v a w ∧ (rawKind o.op = 0 → ∀ w, YieldsAt P ops o v a w) := by
  obtain ⟨hc1, hc2⟩ := cOper_parts hc
  have hgr := guard_rel e hc2
  cases hw : Region.wanted o (yielded ops a.tmps) with
  | false =>
    rw [evOps_no (hgr.symm.trans hw)] at h
    obtain ⟨vs', ts', h1, h2⟩ := sink_rel hvm e hc (.tup .nil) h
    exact ⟨undef, vs', ts', h1, h2, Firm.any fun _ => .inr ⟨hw, rfl⟩, fun _ _ => .inr ⟨hw, rfl⟩⟩
  | true =>
    rw [evOps_yes (hgr.symm.trans hw)] at h
    by_cases hk0 : rawKind o.op = 0
    · obtain ⟨x, v, g1, g2, g3⟩ := op_pure e hk0 hc1 h
      obtain ⟨vs', ts', h1, h2⟩ := sink_rel hvm e hc g3 g1
      exact ⟨v, vs', ts', h1, h2, Firm.any fun w => .inl ⟨hw, g2 w⟩, fun _ w => .inl ⟨hw, g2 w⟩⟩
    · have hk1 : rawKind o.op = 1 := by
        revert hk hk0
        generalize o.op = op
        unfold rawKind
        split <;> simp
      obtain ⟨x, v, blk, g1, g2, g3, g4⟩ := op_read e hH hk1 hc1 h
      obtain ⟨vs', ts', h1, h2⟩ := sink_rel hvm e hc g2 g1
      exact ⟨v, vs', ts', h1, h2, ⟨fun k => k = blk, fun k hk => hk ▸ g3, fun w' hk => .inl ⟨hw, g4 w' (hk blk rfl)⟩⟩, fun h0 => absurd h0 hk0⟩

/-! ### A load looked at once more -/

theorem same1_uniq {x y : AVal} (h : same1 x y = true) {u v : Value} (hx : VRel ρ x u) (hy : VRel ρ y v) : u = v := by
  cases hx <;> cases hy <;> try (simp [same1] at h; done)
  · simp [same1] at h; rw [h]
  · simp [same1, ieq_eq] at h; rw [h.1, h.2]
  · rename_i s t
    have h' : (Nat.beq s.size t.size && Nat.beq (codeOf s.data.toList) (codeOf t.data.toList)) = true := h
    rw [str_beq] at h'
    have h2 : s.toList = t.toList := by simpa using h'
    rw [ByteArray.toList_eq, ByteArray.toList_eq] at h2
    obtain ⟨⟨s⟩⟩ := s
    obtain ⟨⟨t⟩⟩ := t
    have h3 : s = t := h2
    rw [h3]
  · rename_i b S hb r c b' S' hb' r' c'
    simp [same1] at h
    obtain ⟨rfl, rfl, rfl⟩ := h
    rw [hb] at hb'
    obtain rfl : S = S' := by simpa using hb'
    rfl
  · rfl
theorem sameL_uniq : ∀ {x y : List AVal}, sameL x y = true → ∀ {u v : List Value}, VRels ρ x u → VRels ρ y v → u = v
  | [], [], _, _, _, .nil, .nil => rfl
  | x :: l, y :: m, h, _, _, .cons h1 h2, .cons g1 g2 => by
    simp only [sameL, Bool.and_eq_true] at h
    rw [same1_uniq h.1 h1 g1, sameL_uniq h.2 h2 g2]
  | [], _ :: _, h, _, _, _, _ => by simp [sameL] at h
  | _ :: _, [], h, _, _, _, _ => by simp [sameL] at h
theorem same_uniq {x y : AVal} (h : same x y = true) {u v : Value} (hx : VRel ρ x u) (hy : VRel ρ y v) : u = v := by
  unfold same at h
  split at h
  · cases hx with
    | agg h1 _ => cases hy with
      | agg h2 _ => rw [sameL_uniq h h1 h2]
  · exact same1_uniq h hx hy

theorem step_again (e : ERel ρ vm names N vs ts a) (hH : HRel ρ H w) {o : Oper} {d : DO} {ds : List DO} (hc : cAgain P vm N ops names o = some d) {K : List AVal → List AVal → Heap → R}
    (h : A.holds (evOps A call (d :: ds) vs ts H K)) :
    A.holds (evOps A call ds vs ts H K) ∧ ∃ t, o.dst = some t ∧ t < N ∧ (Region.wanted o (yielded ops a.tmps) = true → ∃ blk, blk < w.heap.size ∧ ∀ w' : World, w'.heap[blk]? = w.heap[blk]? → (execOp a.eval o).run P w' = .ok (.value (a.tmps.getD t undef)) w') := by
  unfold cAgain at hc
  split at hc
  · rename_i t x t' h1 h2
    split at hc
    · cases hc
    rename_i hlt
    have hlt := Nat.lt_of_not_le hlt
    split at hc
    · rename_i y z g g1 g2 g3
      have hgr := guard_rel e g3
      have e1 := opd_rel e g1
      have e2 := opd_rel e g2
      simp only [Act.eval] at e2
      have fin : ∀ {di : DI}, d = ⟨.no, di, g⟩ → (A.holds (evI A call di vs ts H fun v H => evOps A call ds vs ts H K) → A.holds (evOps A call ds vs ts H K) ∧ ∃ blk, blk < w.heap.size ∧ ∀ w' : World, w'.heap[blk]? = w.heap[blk]? → (Instr.loadAt t (a.eval x)).run P w' = .ok (a.tmps.getD t' undef) w') →
          A.holds (evOps A call ds vs ts H K) ∧ ∃ t, o.dst = some t ∧ t < N ∧ (Region.wanted o (yielded ops a.tmps) = true → ∃ blk, blk < w.heap.size ∧ ∀ w' : World, w'.heap[blk]? = w.heap[blk]? → (execOp a.eval o).run P w' = .ok (.value (a.tmps.getD t undef)) w') := by
        intro di hd hh
        subst hd
        cases hw : Region.wanted o (yielded ops a.tmps) with
        | false =>
          rw [evOps_no (hgr.symm.trans hw)] at h
          exact ⟨h, t', h2, hlt, fun hh => by cases hh⟩
        | true =>
          rw [evOps_yes (hgr.symm.trans hw)] at h
          obtain ⟨k1, blk, k2, k3⟩ := hh h
          refine ⟨k1, t', h2, hlt, fun _ => ⟨blk, k2, fun w' hw' => ?_⟩⟩
          obtain ⟨dst, op, ty, pos, after, guard⟩ := o
          simp only at h1
          subst h1
          simp [execOp, k3 w' hw']
      split at hc
      · rename_i hm
        simp at hc
        refine fin hc.symm fun hh => ?_
        have key : A.holds (evI A call (.loadN (P.cellsOf t) y) vs ts H fun v H => match same v (z.get vs ts) with | true => evOps A call ds vs ts H K | false => A.fail) := by
          simp only [evI] at hh ⊢
          simp only [fL_eq]
          exact hh
        obtain ⟨x', v', blk, q1, q3, q4, q5⟩ := y_loadN hm e1 hH key
        split at q1
        · rename_i hs
          rw [← same_uniq hs q3 e2]
          exact ⟨q1, blk, q4, q5⟩
        · exact (A.fail_no q1).elim
      · split at hc
        · rename_i hm
          simp at hc
          refine fin hc.symm fun hh => ?_
          have key : A.holds (evI A call (.load1 y) vs ts H fun v H => match same v (z.get vs ts) with | true => evOps A call ds vs ts H K | false => A.fail) := by
            simp only [evI] at hh ⊢
            exact hh
          obtain ⟨x', v', blk, q1, q3, q4, q5⟩ := y_load1 hm e1 hH key
          split at q1
          · rename_i hs
            rw [← same_uniq hs q3 e2]
            exact ⟨q1, blk, q4, q5⟩
          · exact (A.fail_no q1).elim
        · cases hc
    · cases hc
  · cases hc
end step
end Dt
