/- A part of the abstract machine and of the proof that the program does what it reckons; no conditions. -/
import Derived.Test.YtpljolocgeicfaaDoorDjb
namespace Dt
open Go Go.RowKit
/-! ### One operation -/

/-- The piece comes to an end as R says. -/
def Out (P : Program) (s : Sem Next) (w : World) (Q : Value → World → Prop) : Prop := match s.run P w with
  | .ok (.value v) w' => Q v w'
  | .ok .skip w' => Q undef w'
  | .ok (.enter f args) w' => Calls P f args w' fun e w'' => ∃ v, e = .returned v ∧ Q v w''
  | _ => False

theorem Out.mono {P : Program} {s : Sem Next} {w : World} {Q Q' : Value → World → Prop} (h : ∀ v w', Q v w' → Q' v w') (hh : Out P s w Q) : Out P s w Q' := by
  unfold Out at *
  split at hh
  · exact h _ _ hh
  · exact h _ _ hh
  · exact Calls.mono hh fun e w'' he => he.imp fun v hv => ⟨hv.1, h _ _ hv.2⟩
  · exact hh.elim

/-- Calls come back as the abstract machine says. -/
def CallOk {R : Type} (P : Program) (A : Alg R) (call : Nat → List AVal → Heap → (AVal → Heap → R) → R) : Prop :=
  ∀ (f : Nat) (args : List AVal) (H : Heap) (K : AVal → Heap → R) (ρ : Env) (w : World) (us : List Value), VRels ρ args us → HRel ρ H w → A.holds (call f args H K) →
    Out P (callFunc f us.toArray) w fun v w' => ∃ x H' ρ', A.holds (K x H') ∧ VRel ρ' x v ∧ Step ρ H w ρ' H' w'

theorem run_callFunc_body {P : Program} {f : Nat} {fn : Func} {c : Code} (h1 : P.funcs[f]? = some fn) (h2 : fn.body = some c) (h3 : fn.name ≠ "runtime.NumGoroutine") (args : Array Value) (w : World) :
    (callFunc f args).run P w = .ok (.enter f args) w := by simp [callFunc, h1, h2, h3]

/-- A function that has a body. -/
theorem Out.ofBody {P : Program} {f : Nat} {args : Array Value} {w : World} {Q : Value → World → Prop} (h : ∃ fn c, P.funcs[f]? = some fn ∧ fn.body = some c ∧ fn.name ≠ "runtime.NumGoroutine")
    (hc : Calls P f args w fun e w' => ∃ v, e = .returned v ∧ Q v w') : Out P (callFunc f args) w Q := by
  obtain ⟨fn, c, h1, h2, h3⟩ := h
  unfold Out
  rw [run_callFunc_body h1 h2 h3]
  exact hc

section one
variable {R : Type} {A : Alg R} {P : Program} {call : Nat → List AVal → Heap → (AVal → Heap → R) → R} {vm names : List Nat} {N : Nat} {vs ts : List AVal} {ρ : Env} {H : Heap} {w : World} {K : AVal → Heap → R} {a : Act}

theorem orel (e : ERel ρ vm names N vs ts a) {x : Option Operand} {y : Option Opd} (h : (match x with | none => some none | some x => (cOpd vm names x).map some) = some y) : ORel ρ vs ts y (x.map a.eval) := by
  cases x with
  | none => simp at h; subst h; exact .none
  | some x =>
    simp only [Option.map_eq_some_iff] at h
    obtain ⟨z, hz, rfl⟩ := h
    exact .some (opd_rel e hz)

/-- A pure operation. -/
theorem op_pure (e : ERel ρ vm names N vs ts a) {o : Oper} {di : DI} (hk : rawKind o.op = 0) (hc : cOp P vm names o.op = some di) (h : A.holds (evI A call di vs ts H K)) :
    ∃ x v, A.holds (K x H) ∧ (∀ w, (execOp a.eval o).run P w = .ok (.value v) w) ∧ VRel ρ x v := by
  have lift : ∀ {s : Sem Value}, execOp a.eval o = (do pure (.value (← s))) → Pure P s ρ H (fun x H => A.holds (K x H)) → ∃ x v, A.holds (K x H) ∧ (∀ w, (execOp a.eval o).run P w = .ok (.value v) w) ∧ VRel ρ x v := by
    intro s hs ⟨x, v, h1, h2, h3⟩
    exact ⟨x, v, h1, fun w => by rw [hs]; simp [h2 w], h3⟩
  obtain ⟨dst, op, ty, pos, after, guard⟩ := o
  simp only at hk hc
  cases op <;> first
    | (simp [rawKind] at hk; done)
    | skip
  case move x =>
    simp only [cOp, Option.map_eq_some_iff] at hc
    obtain ⟨y, hy, rfl⟩ := hc
    exact ⟨_, _, h, fun w => by simp [execOp], opd_rel e hy⟩
  case assign x =>
    simp only [cOp, Option.map_eq_some_iff] at hc
    obtain ⟨y, hy, rfl⟩ := hc
    exact ⟨_, _, h, fun w => by simp [execOp], opd_rel e hy⟩
  case pick c x y =>
    simp only [cOp] at hc
    split at hc
    · rename_i c' x' y' h1 h2 h3
      simp at hc
      subst hc
      obtain ⟨z, v, g1, g2, g3⟩ := y_pick (P := P) (opd_rel e h1) (opd_rel e h2) (opd_rel e h3) h
      refine ⟨z, v, g1, fun w => ?_, g3⟩
      have := g2 w
      simp only [execOp]
      simp only [Sem.run_bind, Sem.run_pure] at this ⊢
      revert this
      cases (asBool (a.eval c)).run P w with
      | ok b w' => simp
      | halt x w' => simp [Result.andThen]
    · cases hc
  case build t ps =>
    exact lift rfl (y_build e hc h)
  case nilCheck x =>
    simp only [cOp, Option.map_eq_some_iff] at hc
    obtain ⟨y, hy, rfl⟩ := hc
    have hr := opd_rel e hy
    simp only [evI] at h
    generalize y.get vs ts = Y at hr h
    simp only [execOp]
    generalize a.eval x = u at hr
    cases hr <;> try exact (A.fail_no h).elim
    · refine ⟨_, _, h, fun w => ?_, .ptr (by assumption) _ _⟩
      simp
    · refine ⟨_, _, h, fun w => ?_, .fn _ (by assumption) (by assumption)⟩
      simp
    · refine ⟨_, _, h, fun w => ?_, .gp _ _⟩
      simp
  case binOp op t x y yt =>
    simp only [cOp] at hc
    split at hc
    · rename_i x' y' h1 h2
      split at hc
      · simp at hc; subst hc; exact lift rfl (y_bin (opd_rel e h1) (opd_rel e h2) h)
      · simp at hc; subst hc; exact lift rfl (y_bin (opd_rel e h1) (opd_rel e h2) h)
      · rename_i ht; simp at hc; subst hc; exact lift rfl (y_binB ht (opd_rel e h1) (opd_rel e h2) h)
      · rename_i ht; simp at hc; subst hc; exact lift rfl (y_binP ht (opd_rel e h1) (opd_rel e h2) h)
      · rename_i fs ht
        split at hc
        · rename_i ks hks
          split at hc <;> simp at hc
          · subst hc; exact lift rfl (y_eqAgg (neg := false) ht hks (opd_rel e h1) (opd_rel e h2) h)
          · subst hc; exact lift rfl (y_eqAgg (neg := true) ht hks (opd_rel e h1) (opd_rel e h2) h)
        · cases hc
      · cases hc
    · cases hc
  case unOp op t x =>
    cases op <;> simp [cOp] at hc
    · obtain ⟨y, hy, rfl⟩ := hc
      exact lift rfl (y_un1 (neg := true) (opd_rel e hy) h)
    · obtain ⟨y, hy, rfl⟩ := hc
      exact lift rfl (y_un1 (neg := false) (opd_rel e hy) h)
    · obtain ⟨y, hy, rfl⟩ := hc
      exact lift rfl (y_not (t := t) (opd_rel e hy) h)
  case makeFunc fn first capt =>
    cases fn <;> simp only [cOp] at hc <;> try (cases hc; done)
    split at hc
    · rename_i x y h1 h2
      simp at hc
      subst hc
      simp only [evI, fL_eq] at h
      have r1 := opds_rel e h1
      have r2 := opds_rel e h2
      refine ⟨_, _, h, fun w => ?_, VRel.fn _ r1 r2⟩
      simp only [execOp, Instr.makeFunc, Sem.run_bind, Sem.run_pure, Result.andThen_ok]
      congr 3 <;> (apply Array.ext'; simp)
    · cases hc
  case slice t x lo hi mx =>
    simp only [cOp] at hc
    split at hc
    · rename_i x' lo' hi' mx' h1 h2 h3 h4
      have r2 := orel e h2
      have r3 := orel e h3
      have r4 := orel e h4
      split at hc
      · rename_i ht
        split at hc
        · simp at hc
          subst hc
          cases mx with
          | some _ => cases r4
          | none => exact lift (s := Instr.sliceAt t (a.eval x) (lo.map a.eval) (hi.map a.eval) none) rfl (y_slcStr ht (opd_rel e h1) r2 r3 h)
        · cases hc
      · rename_i el ht
        split at hc
        · cases hc
        · rename_i hmh
          split at hc
          · rename_i hz
            simp at hc
            subst hc
            obtain ⟨i, hi0⟩ : ∃ i, P.info? el = some i := by
              cases hh : P.info? el with
              | none => simp [Program.cellsOf, hh] at hz
              | some i => exact ⟨i, rfl⟩
            refine lift rfl (y_slcS ht hi0 hz (opd_rel e h1) r2 r3 r4 ?_ h)
            revert hmh
            cases mx' <;> cases hi' <;> simp
          · cases hc
      · cases hc
    · cases hc
  case fieldAddr t x f =>
    simp only [cOp] at hc
    split at hc
    · rename_i fs ht
      split at hc
      · rename_i fd hf
        split at hc
        · cases hc
        · rename_i hz
          simp only [Option.map_eq_some_iff] at hc
          obtain ⟨y, hy, rfl⟩ := hc
          exact lift rfl (y_fadr ht hf hz (opd_rel e hy) h)
      · cases hc
    · cases hc
  case field t x f =>
    simp only [cOp] at hc
    split at hc
    · rename_i fs ht
      split at hc
      · rename_i fd hf
        split at hc
        · rename_i hm
          simp only [Option.map_eq_some_iff] at hc
          obtain ⟨y, hy, rfl⟩ := hc
          exact lift rfl (y_fldN ht hf hm (opd_rel e hy) h)
        · split at hc
          · rename_i hm
            simp only [Option.map_eq_some_iff] at hc
            obtain ⟨y, hy, rfl⟩ := hc
            exact lift rfl (y_fld1 ht hf hm (opd_rel e hy) h)
          · cases hc
      · cases hc
    · cases hc
  case indexAddr t x i =>
    simp only [cOp] at hc
    split at hc
    · rename_i x' i' h1 h2
      split at hc
      · rename_i el ht
        split at hc
        · cases hc
        · rename_i hz
          simp at hc; subst hc
          exact lift rfl (y_idxS ht hz (opd_rel e h1) (opd_rel e h2) h)
      · rename_i n el ht
        split at hc
        · cases hc
        · rename_i hz
          simp at hc; subst hc
          exact lift rfl (y_idxA ht hz (opd_rel e h1) (opd_rel e h2) h)
      · cases hc
    · cases hc
  case index t x i =>
    simp only [cOp] at hc
    split at hc
    · rename_i x' i' h1 h2
      split at hc
      · rename_i ht
        simp at hc; subst hc
        exact lift rfl (y_idxStr ht (opd_rel e h1) (opd_rel e h2) h)
      · cases hc
    · cases hc
  case extract x i =>
    simp only [cOp, Option.map_eq_some_iff] at hc
    obtain ⟨y, hy, rfl⟩ := hc
    exact lift rfl (y_ext (opd_rel e hy) h)
  case call c =>
    obtain ⟨callee, args, argTypes⟩ := c
    cases callee <;> try (simp [rawKind] at hk; done)
    rename_i b
    cases b <;> try (simp [rawKind] at hk; done)
    simp only [cOp] at hc
    split at hc
    · rename_i x t h1 h2
      have e1 : args = #[x] := by rw [← Array.toArray_toList (xs := args), h1]
      have e2 : argTypes = #[t] := by rw [← Array.toArray_toList (xs := argTypes), h2]
      subst e1; subst e2
      have go : ∀ {str : Bool} {y : Opd}, cOpd vm names x = some y → di = .len str y → (match str with | true => P.underlying t = some .string | false => ∃ e, P.underlying t = some (.slice e)) →
          ∃ x0 v, A.holds (K x0 H) ∧ (∀ w, (execOp a.eval ⟨dst, .call ⟨.builtin .len, #[x], #[t]⟩, ty, pos, after, guard⟩).run P w = .ok (.value v) w) ∧ VRel ρ x0 v := by
        intro str y hy hdi ht
        subst hdi
        obtain ⟨z, v, g1, g2, g3⟩ := y_len (P := P) (ty := ty) ht (opd_rel e hy) h
        exact ⟨z, v, g1, fun w => by simp [execOp, resolve, invoke, builtin, g2 w], g3⟩
      split at hc
      · rename_i ht
        simp only [Option.map_eq_some_iff] at hc
        obtain ⟨y, hy, rfl⟩ := hc
        exact go hy rfl ht
      · rename_i el ht
        simp only [Option.map_eq_some_iff] at hc
        obtain ⟨y, hy, rfl⟩ := hc
        exact go hy rfl ⟨el, ht⟩
      · cases hc
    · cases hc

/-- A load. -/
theorem op_read (e : ERel ρ vm names N vs ts a) (hH : HRel ρ H w) {o : Oper} {di : DI} (hk : rawKind o.op = 1) (hc : cOp P vm names o.op = some di) (h : A.holds (evI A call di vs ts H K)) :
    ∃ x v blk, A.holds (K x H) ∧ VRel ρ x v ∧ blk < w.heap.size ∧ ∀ w' : World, w'.heap[blk]? = w.heap[blk]? → (execOp a.eval o).run P w' = .ok (.value v) w' := by
  obtain ⟨dst, op, ty, pos, after, guard⟩ := o
  simp only at hk hc
  have lift : ∀ {t : TypeId} {x : Operand}, op = .load t x → Reads P (Instr.loadAt t (a.eval x)) ρ H w (fun x H => A.holds (K x H)) → ∃ x v blk, A.holds (K x H) ∧ VRel ρ x v ∧ blk < w.heap.size ∧ ∀ w' : World, w'.heap[blk]? = w.heap[blk]? → (execOp a.eval ⟨dst, op, ty, pos, after, guard⟩).run P w' = .ok (.value v) w' := by
    intro t x hs ⟨y, v, blk, h1, h2, h3, h4⟩
    subst hs
    exact ⟨y, v, blk, h1, h2, h3, fun w' hw => by simp [execOp, h4 w' hw]⟩
  cases op <;> first
    | (simp [rawKind] at hk; done)
    | skip
  case call c =>
    obtain ⟨callee, args, argTypes⟩ := c
    cases callee <;> try (simp [rawKind] at hk; done)
    rename_i b
    cases b <;> simp [rawKind] at hk
  case load t x =>
    simp only [cOp] at hc
    split at hc
    · rename_i hm
      simp only [Option.map_eq_some_iff] at hc
      obtain ⟨y, hy, rfl⟩ := hc
      exact lift rfl (y_loadN hm (opd_rel e hy) hH h)
    · split at hc
      · rename_i hm
        simp only [Option.map_eq_some_iff] at hc
        obtain ⟨y, hy, rfl⟩ := hc
        exact lift rfl (y_load1 hm (opd_rel e hy) hH h)
      · cases hc

/-- Any operation. -/
theorem op_any (hcall : CallOk P A call) (e : ERel ρ vm names N vs ts a) (hH : HRel ρ H w) {o : Oper} {di : DI} (hc : cOp P vm names o.op = some di) (h : A.holds (evI A call di vs ts H K)) :
    Out P (execOp a.eval o) w fun v w' => ∃ x H' ρ', A.holds (K x H') ∧ VRel ρ' x v ∧ Step ρ H w ρ' H' w' ∧ (rawFresh o.op = true → ∀ k, k < w.heap.size → w'.heap[k]? = w.heap[k]?) := by
  by_cases hk0 : rawKind o.op = 0
  · obtain ⟨x, v, h1, h2, h3⟩ := op_pure e hk0 hc h
    simp only [Out, h2 w]
    exact ⟨x, H, ρ, h1, h3, Step.refl hH, by simp⟩
  by_cases hk1 : rawKind o.op = 1
  · obtain ⟨x, v, blk, h1, h2, h3, h4⟩ := op_read e hH hk1 hc h
    simp only [Out, h4 w rfl]
    exact ⟨x, H, ρ, h1, h2, Step.refl hH, by simp⟩
  have lift : ∀ {s : Sem Value}, rawFresh o.op = false → execOp a.eval o = (do pure (.value (← s))) → Yields P s ρ H w (fun x H => A.holds (K x H)) → Out P (execOp a.eval o) w fun v w' => ∃ x H' ρ', A.holds (K x H') ∧ VRel ρ' x v ∧ Step ρ H w ρ' H' w' ∧ (rawFresh o.op = true → ∀ k, k < w.heap.size → w'.heap[k]? = w.heap[k]?) := by
    intro s hfr hs ⟨x, H', ρ', v, w', h1, h2, h3, h4⟩
    have : (execOp a.eval o).run P w = .ok (.value v) w' := by rw [hs]; simp [h2]
    simp only [Out, this]
    exact ⟨x, H', ρ', h1, h3, h4, fun h => by rw [hfr] at h; cases h⟩
  have liftK : ∀ {s : Sem Value}, execOp a.eval o = (do pure (.value (← s))) → YieldsK P s ρ H w (fun x H => A.holds (K x H)) → Out P (execOp a.eval o) w fun v w' => ∃ x H' ρ', A.holds (K x H') ∧ VRel ρ' x v ∧ Step ρ H w ρ' H' w' ∧ (rawFresh o.op = true → ∀ k, k < w.heap.size → w'.heap[k]? = w.heap[k]?) := by
    intro s hs ⟨x, H', ρ', v, w', h1, h2, h3, h4, h5⟩
    have : (execOp a.eval o).run P w = .ok (.value v) w' := by rw [hs]; simp [h2]
    simp only [Out, this]
    exact ⟨x, H', ρ', h1, h3, h4, fun _ => h5⟩
  obtain ⟨dst, op, ty, pos, after, guard⟩ := o
  simp only at hk0 hk1 hc
  cases op <;> first
    | (simp [rawKind] at hk0; done)
    | (simp [rawKind] at hk1; done)
    | (simp [cOp] at hc; done)
    | skip
  case alloc t =>
    simp only [cOp, Option.map_eq_some_iff] at hc
    obtain ⟨y, hy, rfl⟩ := hc
    exact liftK rfl (y_alloc hy hH h _)
  case box t x =>
    simp only [cOp, Option.map_eq_some_iff] at hc
    obtain ⟨y, hy, rfl⟩ := hc
    exact liftK rfl (y_box (opd_rel e hy) hH h)
  case buildSlice t n ps => exact liftK rfl (y_buildS e hc hH h)
  case store t x v =>
    simp only [cOp] at hc
    split at hc
    · rename_i i x' v' hi h1 h2
      simp at hc
      subst hc
      obtain ⟨H', w', g1, g2, g3⟩ := y_store hi (opd_rel e h1) (opd_rel e h2) hH h
      have : (execOp a.eval ⟨dst, .store t x v, ty, pos, after, guard⟩).run P w = .ok .skip w' := by simp [execOp, g2]
      simp only [Out, this]
      exact ⟨_, H', ρ, g1, .tup .nil, g3, fun h => by cases h⟩
    · cases hc
  case convert s d x =>
    simp only [cOp] at hc
    split at hc
    · rename_i h1 h2
      simp only [Option.map_eq_some_iff] at hc
      obtain ⟨y, hy, rfl⟩ := hc
      obtain ⟨z, v, g1, g2, g3⟩ := y_conv h1 h2 (opd_rel e hy) h
      exact lift rfl rfl (Yields.here hH g1 (g2 w) g3)
    · rename_i h1 h2
      simp only [Option.map_eq_some_iff] at hc
      obtain ⟨y, hy, rfl⟩ := hc
      exact lift rfl rfl (y_convIS h1 h2 (opd_rel e hy) hH h)
    · rename_i h1 h2
      split at hc
      · rename_i h3
        simp only [Option.map_eq_some_iff] at hc
        obtain ⟨y, hy, rfl⟩ := hc
        exact lift rfl rfl (y_convBS h1 h3 h2 (opd_rel e hy) hH h)
      · cases hc
    · cases hc
  case range t x =>
    simp only [cOp] at hc
    split at hc
    · rename_i ht
      simp only [Option.map_eq_some_iff] at hc
      obtain ⟨y, hy, rfl⟩ := hc
      exact lift rfl rfl (y_rngS ht (opd_rel e hy) hH h)
    · cases hc
  case next x str =>
    cases str <;> simp only [cOp] at hc <;> try (cases hc; done)
    simp only [Option.map_eq_some_iff] at hc
    obtain ⟨y, hy, rfl⟩ := hc
    exact lift rfl rfl (y_nxtS (opd_rel e hy) hH h)
  case makeMap t r =>
    cases r <;> simp only [cOp] at hc <;> try (cases hc; done)
    simp only [Option.some.injEq] at hc
    subst hc
    exact lift (s := Instr.makeMap t none) rfl rfl (y_mkmap hH h)
  case lookup t x k ok =>
    simp only [cOp] at hc
    split at hc
    · rename_i kt et ht
      split at hc
      · rename_i kk z x' k' g1 g2 g3 g4
        simp at hc
        subst hc
        exact lift rfl rfl (y_lkp ht g1 g2 (opd_rel e g3) (opd_rel e g4) hH h)
      · cases hc
    · cases hc
  case mapUpdate t m k x =>
    simp only [cOp] at hc
    split at hc
    · rename_i kt et ht
      split at hc
      · rename_i kk m' k' v' g1 g2 g3 g4
        simp at hc
        subst hc
        obtain ⟨H', w', q1, q2, q3⟩ := y_mupd ht g1 (opd_rel e g2) (opd_rel e g3) (opd_rel e g4) hH h
        have : (execOp a.eval ⟨dst, .mapUpdate t m k x, ty, pos, after, guard⟩).run P w = .ok .skip w' := by simp [execOp, q2]
        simp only [Out, this]
        exact ⟨_, H', ρ, q1, .tup .nil, q3, fun h => by cases h⟩
      · cases hc
    · cases hc
  case insert t m k x =>
    simp only [cOp] at hc
    split at hc
    · rename_i kt et ht
      split at hc
      · rename_i kk m' k' v' g1 g2 g3 g4
        simp at hc
        subst hc
        obtain ⟨H', w', q1, q2, q3⟩ := y_mupd ht g1 (opd_rel e g2) (opd_rel e g3) (opd_rel e g4) hH h
        have : (execOp a.eval ⟨dst, .insert t m k x, ty, pos, after, guard⟩).run P w = .ok .skip w' := by simp [execOp, q2]
        simp only [Out, this]
        exact ⟨_, H', ρ, q1, .tup .nil, q3, fun h => by cases h⟩
      · cases hc
    · cases hc
  case makeSlice t l c =>
    simp only [cOp] at hc
    split at hc
    · rename_i el ht
      split at hc
      · rename_i z l' c' hz h1 h2
        split at hc
        · rename_i hp
          simp at hc
          subst hc
          exact lift rfl rfl (y_mkS ht hz hp.1 hp.2 (opd_rel e h1) (opd_rel e h2) hH h)
        · cases hc
      · cases hc
    · cases hc
  case call c =>
    obtain ⟨callee, args, argTypes⟩ := c
    cases callee with
    | invoke r m => simp [cOp] at hc
    | builtin b =>
      cases b <;> simp only [cOp] at hc <;> try (cases hc; done)
      · -- append
        split at hc
        · rename_i x y t u h1 h2
          have e1 : args = #[x, y] := by rw [← Array.toArray_toList (xs := args), h1]
          have e2 : argTypes = #[t, u] := by rw [← Array.toArray_toList (xs := argTypes), h2]
          subst e1; subst e2
          split at hc
          · rename_i htu
            subst htu
            split at hc
            · rename_i el ht
              split at hc
              · rename_i x' y' g1 g2
                split at hc
                · rename_i hp
                  simp at hc
                  subst hc
                  obtain ⟨zr, hzr⟩ := Option.isSome_iff_exists.1 hp.2.2
                  obtain ⟨i, hi⟩ : ∃ i, P.info? el = some i := by
                    cases hh : P.info? el with
                    | none => simp [Program.cellsOf, hh] at hp
                    | some i => exact ⟨i, rfl⟩
                  have c1 : P.cellsOf el = i.size := by simp [Program.cellsOf, hi]
                  have c2 : P.bytesOf el = i.bytes := by simp [Program.bytesOf, hi]
                  rw [c1, c2] at hp h
                  simp only [evI] at h
                  obtain ⟨z, H', ρ', v, w', k1, k2, k3, k4⟩ := y_append (ty := ty) ht hi hp.1 hp.2.1 hzr (opd_rel e g1) (opd_rel e g2) hH h
                  have : (execOp a.eval ⟨dst, .call ⟨.builtin .append, #[x, y], #[t, t]⟩, ty, pos, after, guard⟩).run P w = .ok (.value v) w' := by
                    simp [execOp, resolve, invoke, builtin, k2]
                  simp only [Out, this]
                  exact ⟨z, H', ρ', k1, k3, k4, fun h => by cases h⟩
                · cases hc
              · cases hc
            · cases hc
          · cases hc
        · cases hc
      · exact absurd rfl hk0
    | value x0 =>
      -- a call of a function
      have go : ∀ (f : Nat) (first capt : List Value) (l : List AVal), a.eval x0 = .func (.func f) first.toArray capt.toArray → VRels ρ l (first ++ ((args.toList.map a.eval) ++ capt)) → A.holds (call f l H K) →
          Out P (execOp a.eval ⟨dst, .call ⟨.value x0, args, argTypes⟩, ty, pos, after, guard⟩) w fun v w' => ∃ x H' ρ', A.holds (K x H') ∧ VRel ρ' x v ∧ Step ρ H w ρ' H' w' ∧ (rawFresh (.call ⟨.value x0, args, argTypes⟩) = true → ∀ k, k < w.heap.size → w'.heap[k]? = w.heap[k]?) := by
        intro f first capt l hx hl hcl
        have h4 := hcall f l H K ρ w _ hl hH hcl
        have hargs : first.toArray ++ args.map a.eval ++ capt.toArray = (first ++ ((args.toList.map a.eval) ++ capt)).toArray := by
          apply Array.ext'
          simp
        have : (execOp a.eval ⟨dst, .call ⟨.value x0, args, argTypes⟩, ty, pos, after, guard⟩).run P w = (callFunc f (first ++ ((args.toList.map a.eval) ++ capt)).toArray).run P w := by
          simp [execOp, resolve, hx, Deferred.ofValue, invoke, hargs]
        unfold Out
        rw [this]
        refine Out.mono ?_ h4
        intro v w' hv
        obtain ⟨x, H', ρ', h6, h7, h8⟩ := hv
        exact ⟨x, H', ρ', h6, h7, h8, fun h => by cases h⟩
      have other : ∀ (y : Opd) (l : List Opd), cOpd vm names x0 = some y → cOpds vm names args.toList = some l → di = .callv y l → 
          Out P (execOp a.eval ⟨dst, .call ⟨.value x0, args, argTypes⟩, ty, pos, after, guard⟩) w fun v w' => ∃ x H' ρ', A.holds (K x H') ∧ VRel ρ' x v ∧ Step ρ H w ρ' H' w' ∧ (rawFresh (.call ⟨.value x0, args, argTypes⟩) = true → ∀ k, k < w.heap.size → w'.heap[k]? = w.heap[k]?) := by
        intro y l h1 h2 hdi
        subst hdi
        have hr := opd_rel e h1
        have hl := opds_rel e h2
        simp only [evI, fL_eq] at h
        generalize y.get vs ts = Y at hr h
        generalize hv : a.eval x0 = u at hr
        cases hr <;> try exact (A.fail_no h).elim
        rename_i f X Y u1 u2 r1 r2
        exact go f u1 u2 _ hv (r1.append (hl.append r2)) h
      cases x0 with
      | func f =>
        simp only [cOp] at hc
        split at hc
        · rename_i l h2
          simp at hc
          subst hc
          simp only [evI, fL_eq] at h
          have hl := opds_rel e h2
          exact go f [] [] _ (by simp [Act.eval]) (by simpa using hl) h
        · cases hc
      | tmp t =>
        simp only [cOp] at hc
        split at hc
        · rename_i y l h1 h2
          simp at hc
          exact other y l h1 h2 hc.symm
        · cases hc
      | const v =>
        simp only [cOp] at hc
        split at hc
        · rename_i y l h1 h2
          simp at hc
          exact other y l h1 h2 hc.symm
        · cases hc
      | global g =>
        simp only [cOp] at hc
        split at hc
        · rename_i y l h1 h2
          simp at hc
          exact other y l h1 h2 hc.symm
        · cases hc
end one
end Dt
