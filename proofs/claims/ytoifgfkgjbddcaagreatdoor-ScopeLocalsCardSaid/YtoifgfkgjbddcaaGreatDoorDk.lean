/- A part of the abstract machine and of the proof that the program does what it reckons; no conditions. -/
import Derived.Test.YtoifgfkgjbddcaaGreatDoorDh
set_option linter.all false
namespace Dt
open Go Go.RowKit
set_option linter.all false
variable [LoopTab]
/-! ### One operation -/

/-- The piece comes to an end as R says. -/
def Out (P : Program) (s : Sem Next) (w : World) (Q : Value → World → Prop) : Prop := match s.run P w with
  | .ok (.value v) w' => Q v w'
  | .ok .skip w' => Q undef w'
  | .ok (.enter f args) w' => Calls P f args w' fun e w'' => ∃ v, e = .returned v ∧ Q v w''
  | .ok (.round l f tmps assign body) w' => RoundIn Fence.wide 0 P l f tmps assign body w' fun e w'' => ∃ v, e = .returned v ∧ Q v w''
  | _ => False

theorem Out.mono {P : Program} {s : Sem Next} {w : World} {Q Q' : Value → World → Prop} (h : ∀ v w', Q v w' → Q' v w') (hh : Out P s w Q) : Out P s w Q' := by
  unfold Out at *
  split at hh
  · exact h _ _ hh
  · exact h _ _ hh
  · exact Calls.mono hh fun e w'' he => he.imp fun v hv => ⟨hv.1, h _ _ hv.2⟩
  · exact RoundIn.mono hh fun e w'' he => he.imp fun v hv => ⟨hv.1, h _ _ hv.2⟩
  · exact hh.elim

/-- Calls come back as the abstract machine says. -/
def CallOk {R : Type} (P : Program) (A : Alg R) (call : Nat → List AVal → Heap → (AVal → Heap → R) → R) : Prop :=
  ∀ (f : Nat) (args : List AVal) (H : Heap) (K : AVal → Heap → R) (ρ : Env) (w : World) (us : List Value), VRels ρ args us → HRel ρ H w → A.holds (call f args H K) →
    Out P (callFunc f us.toArray) w fun v w' => ∃ x H' ρ', A.holds (K x H') ∧ VRel ρ' x v ∧ Step ρ H w ρ' H' w'

/-- A call of a loop's yield is a round of it. -/
def YieldOk {R : Type} (P : Program) (A : Alg R) (call : Nat → List AVal → Heap → (AVal → Heap → R) → R) : Prop :=
  ∀ (b : Nat) (S : RB) (f : Nat) (vs' args : List AVal) (H : Heap) (K : AVal → Heap → R) (ρ : Env) (w : World) (us : List Value), VRels ρ args us → HRel ρ H w → ρ b = some S → H.get b = .obj (.loop f vs') →
    A.holds (hPut H b (.obj .busy) fun H => call f (mark (llen args) :: (args ++ vs')) H fun _ H => hPut H b (.obj (.loop f vs')) fun H => K (.bool true) H) →
    Out P (Instr.yield S.blk us.toArray) w fun v w' => ∃ x H' ρ', A.holds (K x H') ∧ VRel ρ' x v ∧ Step ρ H w ρ' H' w'

theorem run_callFunc_body {P : Program} {f : Nat} {fn : Func} {c : Code} (h1 : P.funcs[f]? = some fn) (h2 : fn.body = some c) (h3 : fn.name ≠ "runtime.NumGoroutine") (args : Array Value) (w : World) :
    (callFunc f args).run P w = .ok (.enter f args) w := by simp [callFunc, h1, h2, h3]

/-- A function that has a body. -/
theorem Out.ofBody {P : Program} {f : Nat} {args : Array Value} {w : World} {Q : Value → World → Prop} (h : ∃ fn c, P.funcs[f]? = some fn ∧ fn.body = some c ∧ fn.name ≠ "runtime.NumGoroutine")
    (hc : Calls P f args w fun e w' => ∃ v, e = .returned v ∧ Q v w') : Out P (callFunc f args) w Q := by
  obtain ⟨fn, c, h1, h2, h3⟩ := h
  unfold Out
  rw [run_callFunc_body h1 h2 h3]
  exact hc

section one
variable {R : Type} {A : Alg R} {P : Program} {call : Nat → List AVal → Heap → (AVal → Heap → R) → R} {f : Operand → Option Opd} {vs ts : List AVal} {ρ : Env} {H : Heap} {w : World} {K : AVal → Heap → R} {a : Act}

theorem orel (e : HOp ρ f vs ts a) {x : Option Operand} {y : Option Opd} (h : cOpt f x = some y) : ORel ρ vs ts y (x.map a.eval) := by
  cases x with
  | none => simp [cOpt] at h; subst h; exact .none
  | some x =>
    simp only [cOpt, Option.map_eq_some_iff] at h
    obtain ⟨z, hz, rfl⟩ := h
    exact .some (opd_rel e hz)

/-- A comparison with nil. -/
theorem nil_pure {k : Nat} {bb : Bool} {op : BinOp} {t : TypeId} {x y : Operand} {x' : Opd} {di : DI} (hc : nilCmp k bb op x' = some di) (hb : bb = true → ∃ v, y = .const v ∧ NilK P t k v) (hx : VRel ρ (x'.get vs ts) (a.eval x)) (h : A.holds (evI A call di vs ts H K)) :
    Pure P (do eqGuard op t x y (a.eval x) (a.eval y); binOp op t (a.eval x) (a.eval y)) ρ H (fun x H => A.holds (K x H)) := by
  unfold nilCmp at hc
  split at hc
  · obtain ⟨v, rfl, hk⟩ := hb rfl
    split at hc
    · simp at hc; subst hc
      exact y_binN (.inl ⟨rfl, rfl⟩) hk hx h
    · simp at hc; subst hc
      exact y_binN (.inr ⟨rfl, rfl⟩) hk hx h
    · cases hc
  · cases hc

/-- A pure operation. -/
theorem op_pure (e : HOp ρ f vs ts a) {o : Oper} {di : DI} (htame : tame P o = true) (hk : rawKind o.op = 0) (hc : cOp P f o.op = some di) (h : A.holds (evI A call di vs ts H K)) :
    ∃ x v, A.holds (K x H) ∧ (∀ w, (execOp a.eval o).run P w = .ok (.value v) w) ∧ VRel ρ x v := by
  have lift : ∀ {s : Sem Value}, execOp a.eval o = (do pure (.value (← s))) → Pure P s ρ H (fun x H => A.holds (K x H)) → ∃ x v, A.holds (K x H) ∧ (∀ w, (execOp a.eval o).run P w = .ok (.value v) w) ∧ VRel ρ x v := by
    intro s hs ⟨x, v, h1, h2, h3⟩
    exact ⟨x, v, h1, fun w => by rw [hs]; simp [h2 w], h3⟩
  obtain ⟨dst, op, ty, pos, after, guard⟩ := o
  simp only at hk hc
  cases op <;> first
    | (simp [rawKind] at hk; done)
    | skip
  case move x =>
    simp only [cOp, Option.map_eq_some_iff] at hc
    obtain ⟨y, hy, rfl⟩ := hc
    exact ⟨_, _, h, fun w => by simp [execOp], opd_rel e hy⟩
  case assign x =>
    simp only [cOp, Option.map_eq_some_iff] at hc
    obtain ⟨y, hy, rfl⟩ := hc
    exact ⟨_, _, h, fun w => by simp [execOp], opd_rel e hy⟩
  case pick c x y =>
    simp only [cOp] at hc
    split at hc
    · rename_i c' x' y' h1 h2 h3
      simp at hc
      subst hc
      obtain ⟨z, v, g1, g2, g3⟩ := y_pick (P := P) (opd_rel e h1) (opd_rel e h2) (opd_rel e h3) h
      refine ⟨z, v, g1, fun w => ?_, g3⟩
      have := g2 w
      simp only [execOp]
      simp only [Sem.run_bind, Sem.run_pure] at this ⊢
      revert this
      cases (asBool (a.eval c)).run P w with
      | ok b w' => simp
      | halt x w' => simp [Result.andThen]
    · cases hc
  case build t ps =>
    exact lift rfl (y_build e hc h)
  case nilCheck x =>
    simp only [cOp, Option.map_eq_some_iff] at hc
    obtain ⟨y, hy, rfl⟩ := hc
    have hr := opd_rel e hy
    simp only [evI] at h
    generalize y.get vs ts = Y at hr h
    simp only [execOp]
    generalize a.eval x = u at hr
    cases hr <;> try exact (A.fail_no h).elim
    · refine ⟨_, _, h, fun w => ?_, .ptr (by assumption) _ _⟩
      simp
    · refine ⟨_, _, h, fun w => ?_, .fn _ (by assumption) (by assumption)⟩
      simp
    · refine ⟨_, _, h, fun w => ?_, .gp _ _⟩
      simp
  case binOp op t x y yt =>
    simp only [cOp] at hc
    split at hc
    · rename_i x' y' h1 h2
      split at hc
      · simp at hc; subst hc; exact lift rfl (y_bin (opd_rel e h1) (opd_rel e h2) h)
      · simp at hc; subst hc; exact lift rfl (y_bin (opd_rel e h1) (opd_rel e h2) h)
      · rename_i ht; simp at hc; subst hc; exact lift rfl (y_binB ht (opd_rel e h1) (opd_rel e h2) h)
      · rename_i el ht
        split at hc
        · rename_i hn1 hn2
          simp [tame, ht, hn1, hn2] at htame
        · simp at hc; subst hc; exact lift rfl (y_binP ht (opd_rel e h1) (opd_rel e h2) h)
      · rename_i ms ht
        exact lift rfl (nil_pure hc (fun hb => by
          split at hb
          · exact ⟨_, rfl, .iface ht⟩
          · cases hb) (opd_rel e h1) h)
      · rename_i el ht
        exact lift rfl (nil_pure hc (fun hb => by
          split at hb
          · exact ⟨_, rfl, .slice ht⟩
          · cases hb) (opd_rel e h1) h)
      · rename_i kt el ht
        exact lift rfl (nil_pure hc (fun hb => by
          split at hb
          · exact ⟨_, rfl, .map ht⟩
          · cases hb) (opd_rel e h1) h)
      · rename_i p q r ht
        exact lift rfl (nil_pure hc (fun hb => by
          split at hb
          · exact ⟨_, rfl, .func ht⟩
          · cases hb) (opd_rel e h1) h)
      · rename_i fs ht
        split at hc
        · rename_i ks hks
          split at hc <;> simp at hc
          · subst hc; exact lift rfl (y_eqAgg (neg := false) ht hks (opd_rel e h1) (opd_rel e h2) h)
          · subst hc; exact lift rfl (y_eqAgg (neg := true) ht hks (opd_rel e h1) (opd_rel e h2) h)
        · cases hc
      · cases hc
    · cases hc
  case unOp op t x =>
    cases op <;> simp [cOp] at hc
    · obtain ⟨y, hy, rfl⟩ := hc
      exact lift rfl (y_un1 (neg := true) (opd_rel e hy) h)
    · obtain ⟨y, hy, rfl⟩ := hc
      exact lift rfl (y_un1 (neg := false) (opd_rel e hy) h)
    · obtain ⟨y, hy, rfl⟩ := hc
      exact lift rfl (y_not (t := t) (opd_rel e hy) h)
  case makeFunc fn first capt =>
    cases fn <;> simp only [cOp] at hc <;> try (cases hc; done)
    split at hc
    · rename_i x y h1 h2
      simp at hc
      subst hc
      simp only [evI, fL_eq] at h
      have r1 := opds_rel e h1
      have r2 := opds_rel e h2
      refine ⟨_, _, h, fun w => ?_, VRel.fn _ r1 r2⟩
      simp only [execOp, Instr.makeFunc, Sem.run_bind, Sem.run_pure, Result.andThen_ok]
      congr 3 <;> (apply Array.ext'; simp)
    · cases hc
  case slice t x lo hi mx =>
    simp only [cOp] at hc
    split at hc
    · rename_i x' lo' hi' mx' h1 h2 h3 h4
      have r2 := orel e h2
      have r3 := orel e h3
      have r4 := orel e h4
      split at hc
      · rename_i ht
        split at hc
        · simp at hc
          subst hc
          cases mx with
          | some _ => cases r4
          | none => exact lift (s := Instr.sliceAt t (a.eval x) (lo.map a.eval) (hi.map a.eval) none) rfl (y_slcStr ht (opd_rel e h1) r2 r3 h)
        · cases hc
      · rename_i el ht
        split at hc
        · cases hc
        · rename_i hmh
          split at hc
          · rename_i hz
            simp at hc
            subst hc
            obtain ⟨i, hi0⟩ : ∃ i, P.info? el = some i := by
              cases hh : P.info? el with
              | none => simp [Program.cellsOf, hh] at hz
              | some i => exact ⟨i, rfl⟩
            refine lift rfl (y_slcS ht hi0 hz (opd_rel e h1) r2 r3 r4 ?_ h)
            revert hmh
            cases mx' <;> cases hi' <;> simp
          · cases hc
      · cases hc
    · cases hc
  case fieldAddr t x f =>
    simp only [cOp] at hc
    split at hc
    · rename_i fs ht
      split at hc
      · rename_i fd hf
        split at hc
        · cases hc
        · rename_i hz
          simp only [Option.map_eq_some_iff] at hc
          obtain ⟨y, hy, rfl⟩ := hc
          exact lift rfl (y_fadr ht hf hz (opd_rel e hy) h)
      · cases hc
    · cases hc
  case field t x f =>
    simp only [cOp] at hc
    split at hc
    · rename_i fs ht
      split at hc
      · rename_i fd hf
        split at hc
        · rename_i hm
          simp only [Option.map_eq_some_iff] at hc
          obtain ⟨y, hy, rfl⟩ := hc
          exact lift rfl (y_fldN ht hf hm (opd_rel e hy) h)
        · split at hc
          · rename_i hm
            simp only [Option.map_eq_some_iff] at hc
            obtain ⟨y, hy, rfl⟩ := hc
            exact lift rfl (y_fld1 ht hf hm (opd_rel e hy) h)
          · cases hc
      · cases hc
    · cases hc
  case indexAddr t x i =>
    simp only [cOp] at hc
    split at hc
    · rename_i x' i' h1 h2
      split at hc
      · rename_i el ht
        split at hc
        · cases hc
        · rename_i hz
          simp at hc; subst hc
          exact lift rfl (y_idxS ht hz (opd_rel e h1) (opd_rel e h2) h)
      · rename_i n el ht
        split at hc
        · cases hc
        · rename_i hz
          simp at hc; subst hc
          exact lift rfl (y_idxA ht hz (opd_rel e h1) (opd_rel e h2) h)
      · cases hc
    · cases hc
  case index t x i =>
    simp only [cOp] at hc
    split at hc
    · rename_i x' i' h1 h2
      split at hc
      · rename_i ht
        simp at hc; subst hc
        exact lift rfl (y_idxStr ht (opd_rel e h1) (opd_rel e h2) h)
      · rename_i n el ht
        split at hc
        · rename_i hm
          simp at hc; subst hc
          exact lift rfl (y_idxAg ht hm (opd_rel e h1) (opd_rel e h2) h)
        · cases hc
      · cases hc
    · cases hc
  case extract x i =>
    simp only [cOp, Option.map_eq_some_iff] at hc
    obtain ⟨y, hy, rfl⟩ := hc
    exact lift rfl (y_ext (opd_rel e hy) h)
  case call c =>
    obtain ⟨callee, args, argTypes⟩ := c
    cases callee <;> try (simp [rawKind] at hk; done)
    rename_i b
    cases b <;> try (simp [rawKind] at hk; done)
    simp only [cOp] at hc
    split at hc
    · rename_i x t h1 h2
      have e1 : args = #[x] := by rw [← Array.toArray_toList (xs := args), h1]
      have e2 : argTypes = #[t] := by rw [← Array.toArray_toList (xs := argTypes), h2]
      subst e1; subst e2
      have go : ∀ {str : Bool} {y : Opd}, f x = some y → di = .len str y → (match str with | true => P.underlying t = some .string | false => ∃ e, P.underlying t = some (.slice e)) →
          ∃ x0 v, A.holds (K x0 H) ∧ (∀ w, (execOp a.eval ⟨dst, .call ⟨.builtin .len, #[x], #[t]⟩, ty, pos, after, guard⟩).run P w = .ok (.value v) w) ∧ VRel ρ x0 v := by
        intro str y hy hdi ht
        subst hdi
        obtain ⟨z, v, g1, g2, g3⟩ := y_len (P := P) (ty := ty) ht (opd_rel e hy) h
        exact ⟨z, v, g1, fun w => by simp [execOp, resolve, invoke, builtin, g2 w], g3⟩
      split at hc
      · rename_i ht
        simp only [Option.map_eq_some_iff] at hc
        obtain ⟨y, hy, rfl⟩ := hc
        exact go hy rfl ht
      · rename_i el ht
        simp only [Option.map_eq_some_iff] at hc
        obtain ⟨y, hy, rfl⟩ := hc
        exact go hy rfl ⟨el, ht⟩
      · cases hc
    · cases hc

/-- A load, a look into a map. -/
theorem op_read (e : HOp ρ f vs ts a) (hH : HRel ρ H w) {o : Oper} {di : DI} (hk : rawKind o.op = 1) (hc : cOp P f o.op = some di) (h : A.holds (evI A call di vs ts H K)) :
    ∃ x v, A.holds (K x H) ∧ VRel ρ x v ∧ (execOp a.eval o).run P w = .ok (.value v) w := by
  obtain ⟨dst, op, ty, pos, after, guard⟩ := o
  simp only at hk hc
  have lift : ∀ {t : TypeId} {x : Operand}, op = .load t x → Reads P (Instr.loadAt t (a.eval x)) ρ H w (fun x H => A.holds (K x H)) → ∃ x v, A.holds (K x H) ∧ VRel ρ x v ∧ (execOp a.eval ⟨dst, op, ty, pos, after, guard⟩).run P w = .ok (.value v) w := by
    intro t x hs ⟨y, v, blk, h1, h2, h3, h4⟩
    subst hs
    exact ⟨y, v, h1, h2, by simp [execOp, h4 w rfl]⟩
  cases op <;> first
    | (simp [rawKind] at hk; done)
    | skip
  case call c =>
    obtain ⟨callee, args, argTypes⟩ := c
    cases callee <;> try (simp [rawKind] at hk; done)
    rename_i b
    cases b <;> simp [rawKind] at hk
  case load t x =>
    simp only [cOp] at hc
    split at hc
    · rename_i hm
      simp only [Option.map_eq_some_iff] at hc
      obtain ⟨y, hy, rfl⟩ := hc
      exact lift rfl (y_loadN hm (opd_rel e hy) hH h)
    · split at hc
      · rename_i hm
        simp only [Option.map_eq_some_iff] at hc
        obtain ⟨y, hy, rfl⟩ := hc
        exact lift rfl (y_load1 hm (opd_rel e hy) hH h)
      · cases hc
  case lookup t x k ok =>
    simp only [cOp] at hc
    split at hc
    · rename_i kt et ht
      split at hc
      · rename_i kk z x' k' g1 g2 g3 g4
        simp at hc
        subst hc
        obtain ⟨y, v, q1, q2, q3⟩ := y_lkp ht g1 g2 (opd_rel e g3) (opd_rel e g4) hH h
        exact ⟨y, v, q1, q3, by simp [execOp, q2]⟩
      · cases hc
    · cases hc

/-- Any operation. -/
theorem op_any (hcall : CallOk P A call) (hyield : YieldOk P A call) (e : HOp ρ f vs ts a) (hH : HRel ρ H w) {o : Oper} {di : DI} (hc : cOp P f o.op = some di) (h : A.holds (evI A call di vs ts H K)) :
    Out P (execOp a.eval o) w fun v w' => ∃ x H' ρ', A.holds (K x H') ∧ VRel ρ' x v ∧ Step ρ H w ρ' H' w' := by
  by_cases hk0 : rawKind o.op = 0 ∧ tame P o = true
  · obtain ⟨x, v, h1, h2, h3⟩ := op_pure e hk0.2 hk0.1 hc h
    simp only [Out, h2 w]
    exact ⟨x, H, ρ, h1, h3, Step.refl hH⟩
  by_cases hk1 : rawKind o.op = 1
  · obtain ⟨x, v, h1, h2, h4⟩ := op_read e hH hk1 hc h
    simp only [Out, h4]
    exact ⟨x, H, ρ, h1, h2, Step.refl hH⟩
  have lift : ∀ {s : Sem Value}, execOp a.eval o = (do pure (.value (← s))) → Yields P s ρ H w (fun x H => A.holds (K x H)) → Out P (execOp a.eval o) w fun v w' => ∃ x H' ρ', A.holds (K x H') ∧ VRel ρ' x v ∧ Step ρ H w ρ' H' w' := by
    intro s hs ⟨x, H', ρ', v, w', h1, h2, h3, h4⟩
    have : (execOp a.eval o).run P w = .ok (.value v) w' := by rw [hs]; simp [h2]
    simp only [Out, this]
    exact ⟨x, H', ρ', h1, h3, h4⟩
  have liftK : ∀ {s : Sem Value}, execOp a.eval o = (do pure (.value (← s))) → YieldsK P s ρ H w (fun x H => A.holds (K x H)) → Out P (execOp a.eval o) w fun v w' => ∃ x H' ρ', A.holds (K x H') ∧ VRel ρ' x v ∧ Step ρ H w ρ' H' w' := by
    intro s hs ⟨x, H', ρ', v, w', h1, h2, h3, h4, h5⟩
    have : (execOp a.eval o).run P w = .ok (.value v) w' := by rw [hs]; simp [h2]
    simp only [Out, this]
    exact ⟨x, H', ρ', h1, h3, h4⟩
  obtain ⟨dst, op, ty, pos, after, guard⟩ := o
  simp only at hk0 hk1 hc
  cases op <;> first
    | (simp [rawKind, tame] at hk0; done)
    | (simp [rawKind] at hk1; done)
    | (simp [cOp] at hc; done)
    | (simp only [cOp, Option.some.injEq] at hc; subst hc; simp only [evI] at h; exact (A.fail_no h).elim)
    | skip
  case typeAssert x xt t ok =>
    cases ok with
    | false => simp only [cOp, Option.some.injEq] at hc; subst hc; simp only [evI] at h; exact (A.fail_no h).elim
    | true =>
      simp only [cOp] at hc
      split at hc
      · cases hc
      · cases hc
      · rename_i d ht hd
        split at hc
        · rename_i z hz
          simp only [Option.map_eq_some_iff] at hc
          obtain ⟨y, hy, rfl⟩ := hc
          exact lift rfl (y_tas hd (fun ms he => ht ms he) hz (opd_rel e hy) hH h)
        · cases hc
  case binOp op t x y yt =>
    simp only [rawKind, tame, true_and] at hk0
    split at hk0
    · rename_i el ht
      simp only [cOp, ht] at hc
      have hn1 : isNilC x = false := by cases hh : isNilC x <;> simp_all
      have hn2 : isNilC y = false := by cases hh : isNilC y <;> simp_all
      rw [hn1, hn2] at hc
      split at hc
      · rename_i x' y' h1 h2
        by_cases hz : P.cellsOf el = 0
        · simp [hz] at hc
        · simp only [hz, if_false] at hc
          split at hc
          · simp at hc; subst hc
            exact lift rfl (y_binPP (.inl ⟨rfl, rfl⟩) ht hz (opd_rel e h1) (opd_rel e h2) hH h)
          · simp at hc; subst hc
            exact lift rfl (y_binPP (.inr ⟨rfl, rfl⟩) ht hz (opd_rel e h1) (opd_rel e h2) hH h)
          · cases hc
      · cases hc
    · exact absurd rfl hk0
  case alloc t =>
    simp only [cOp, Option.map_eq_some_iff] at hc
    obtain ⟨y, hy, rfl⟩ := hc
    exact liftK rfl (y_alloc hy hH h _)
  case box t x =>
    simp only [cOp, Option.map_eq_some_iff] at hc
    obtain ⟨y, hy, rfl⟩ := hc
    exact liftK rfl (y_box (opd_rel e hy) hH h)
  case buildSlice t n ps => exact liftK rfl (y_buildS e hc hH h)
  case store t x v =>
    simp only [cOp] at hc
    split at hc
    · rename_i i x' v' hi h1 h2
      simp at hc
      subst hc
      obtain ⟨H', w', g1, g2, g3⟩ := y_store hi (opd_rel e h1) (opd_rel e h2) hH h
      have : (execOp a.eval ⟨dst, .store t x v, ty, pos, after, guard⟩).run P w = .ok .skip w' := by simp [execOp, g2]
      simp only [Out, this]
      exact ⟨_, H', ρ, g1, .tup .nil, g3⟩
    · cases hc
  case convert s d x =>
    simp only [cOp] at hc
    split at hc
    · rename_i h1 h2
      simp only [Option.map_eq_some_iff] at hc
      obtain ⟨y, hy, rfl⟩ := hc
      obtain ⟨z, v, g1, g2, g3⟩ := y_conv h1 h2 (opd_rel e hy) h
      exact lift rfl (Yields.here hH g1 (g2 w) g3)
    · rename_i h1 h2
      simp only [Option.map_eq_some_iff] at hc
      obtain ⟨y, hy, rfl⟩ := hc
      exact lift rfl (y_convIS h1 h2 (opd_rel e hy) hH h)
    · rename_i h1 h2
      split at hc
      · rename_i h3
        simp only [Option.map_eq_some_iff] at hc
        obtain ⟨y, hy, rfl⟩ := hc
        exact lift rfl (y_convBS h1 h3 h2 (opd_rel e hy) hH h)
      · cases hc
    · cases hc
  case range t x =>
    simp only [cOp] at hc
    split at hc
    · rename_i ht
      simp only [Option.map_eq_some_iff] at hc
      obtain ⟨y, hy, rfl⟩ := hc
      exact lift rfl (y_rngS ht (opd_rel e hy) hH h)
    · rename_i ht
      simp only [Option.map_eq_some_iff] at hc
      obtain ⟨y, hy, rfl⟩ := hc
      exact lift rfl (y_rngM ht (opd_rel e hy) hH h)
    · cases hc
  case next x str =>
    cases str <;> simp only [cOp, Option.map_eq_some_iff] at hc
    · obtain ⟨y, hy, rfl⟩ := hc
      exact lift rfl (y_nxtM (opd_rel e hy) hH h)
    · obtain ⟨y, hy, rfl⟩ := hc
      exact lift rfl (y_nxtS (opd_rel e hy) hH h)
  case entry x =>
    simp only [cOp, Option.map_eq_some_iff] at hc
    obtain ⟨y, hy, rfl⟩ := hc
    exact lift rfl (y_ent (opd_rel e hy) hH h)
  case mapEntry t m k =>
    simp only [cOp] at hc
    split at hc
    · rename_i kt et ht
      split at hc
      · rename_i kk z m' k' g1 g2 g3 g4
        simp at hc
        subst hc
        exact lift rfl (y_ment ht g1 g2 (opd_rel e g3) (opd_rel e g4) hH h)
      · cases hc
    · cases hc
  case entryStore t m s x =>
    simp only [cOp] at hc
    split at hc
    · rename_i m' s' v' g1 g2 g3
      simp at hc
      subst hc
      obtain ⟨H', w', q1, q2, q3⟩ := y_esto (P := P) (t := t) (opd_rel e g1) (opd_rel e g2) (opd_rel e g3) hH h
      have : (execOp a.eval ⟨dst, .entryStore t m s x, ty, pos, after, guard⟩).run P w = .ok .skip w' := by simp [execOp, q2]
      simp only [Out, this]
      exact ⟨_, H', ρ, q1, .tup .nil, q3⟩
    · cases hc
  case makeInterface t x =>
    simp only [cOp] at hc
    split at hc
    · cases hc
    · cases hc
    · rename_i d ht hd
      simp only [Option.map_eq_some_iff] at hc
      obtain ⟨y, hy, rfl⟩ := hc
      exact lift rfl (y_mkif hd (fun ms he => ht ms he) (opd_rel e hy) hH h)
  case makeMap t r =>
    cases r <;> simp only [cOp] at hc <;> try (cases hc; done)
    simp only [Option.some.injEq] at hc
    subst hc
    exact lift (s := Instr.makeMap t none) rfl (y_mkmap hH h)
  case mapUpdate t m k x =>
    simp only [cOp] at hc
    split at hc
    · rename_i kt et ht
      split at hc
      · rename_i kk m' k' v' g1 g2 g3 g4
        simp at hc
        subst hc
        obtain ⟨H', w', q1, q2, q3⟩ := y_mupd ht g1 (opd_rel e g2) (opd_rel e g3) (opd_rel e g4) hH h
        have : (execOp a.eval ⟨dst, .mapUpdate t m k x, ty, pos, after, guard⟩).run P w = .ok .skip w' := by simp [execOp, q2]
        simp only [Out, this]
        exact ⟨_, H', ρ, q1, .tup .nil, q3⟩
      · cases hc
    · cases hc
  case insert t m k x =>
    simp only [cOp] at hc
    split at hc
    · rename_i kt et ht
      split at hc
      · rename_i kk m' k' v' g1 g2 g3 g4
        simp at hc
        subst hc
        obtain ⟨H', w', q1, q2, q3⟩ := y_mupd ht g1 (opd_rel e g2) (opd_rel e g3) (opd_rel e g4) hH h
        have : (execOp a.eval ⟨dst, .insert t m k x, ty, pos, after, guard⟩).run P w = .ok .skip w' := by simp [execOp, q2]
        simp only [Out, this]
        exact ⟨_, H', ρ, q1, .tup .nil, q3⟩
      · cases hc
    · cases hc
  case makeSlice t l c =>
    simp only [cOp] at hc
    split at hc
    · rename_i el ht
      split at hc
      · rename_i z l' c' hz h1 h2
        split at hc
        · rename_i hp
          simp at hc
          subst hc
          exact lift rfl (y_mkS ht hz hp.1 hp.2 (opd_rel e h1) (opd_rel e h2) hH h)
        · cases hc
      · cases hc
    · cases hc
  case call c =>
    obtain ⟨callee, args, argTypes⟩ := c
    cases callee with
    | invoke r m => simp [cOp] at hc; subst hc; simp only [evI] at h; exact (A.fail_no h).elim
    | builtin b =>
      cases b <;> simp only [cOp] at hc <;> try (cases hc; done)
      · -- append
        split at hc
        · rename_i x y t u h1 h2
          have e1 : args = #[x, y] := by rw [← Array.toArray_toList (xs := args), h1]
          have e2 : argTypes = #[t, u] := by rw [← Array.toArray_toList (xs := argTypes), h2]
          subst e1; subst e2
          split at hc
          · rename_i htu
            subst htu
            split at hc
            · rename_i el ht
              split at hc
              · rename_i x' y' g1 g2
                split at hc
                · rename_i hp
                  simp at hc
                  subst hc
                  obtain ⟨zr, hzr⟩ := Option.isSome_iff_exists.1 hp.2.2
                  obtain ⟨i, hi⟩ : ∃ i, P.info? el = some i := by
                    cases hh : P.info? el with
                    | none => simp [Program.cellsOf, hh] at hp
                    | some i => exact ⟨i, rfl⟩
                  have c1 : P.cellsOf el = i.size := by simp [Program.cellsOf, hi]
                  have c2 : P.bytesOf el = i.bytes := by simp [Program.bytesOf, hi]
                  rw [c1, c2] at hp h
                  simp only [evI] at h
                  obtain ⟨z, H', ρ', v, w', k1, k2, k3, k4⟩ := y_append (ty := ty) ht hi hp.1 hp.2.1 hzr (opd_rel e g1) (opd_rel e g2) hH h
                  have : (execOp a.eval ⟨dst, .call ⟨.builtin .append, #[x, y], #[t, t]⟩, ty, pos, after, guard⟩).run P w = .ok (.value v) w' := by
                    simp [execOp, resolve, invoke, builtin, k2]
                  simp only [Out, this]
                  exact ⟨z, H', ρ', k1, k3, k4⟩
                · cases hc
              · cases hc
            · cases hc
          · cases hc
        · cases hc
      · simp at hc; subst hc; simp only [evI] at h; exact (A.fail_no h).elim
      · exact absurd ⟨rfl, rfl⟩ hk0
      · -- min
        split at hc
        · rename_i x y h1
          have e1 : args = #[x, y] := by rw [← Array.toArray_toList (xs := args), h1]
          subst e1
          split at hc
          · rename_i x' y' g1 g2
            simp at hc
            subst hc
            obtain ⟨z, v, k1, k2, k3⟩ := y_minI (P := P) (ty := ty) (tys := argTypes) (opd_rel e g1) (opd_rel e g2) h
            have : (execOp a.eval ⟨dst, .call ⟨.builtin .min, #[x, y], argTypes⟩, ty, pos, after, guard⟩).run P w = .ok (.value v) w := by
              simp [execOp, resolve, invoke, builtin, k2 w]
            simp only [Out, this]
            exact ⟨z, H, ρ, k1, k3, Step.refl hH⟩
          · cases hc
        · cases hc
      · simp at hc; subst hc; simp only [evI] at h; exact (A.fail_no h).elim
    | value x0 =>
      -- a call of a function
      have go : ∀ (f : Nat) (first capt : List Value) (l : List AVal), a.eval x0 = .func (.func f) first.toArray capt.toArray → VRels ρ l (first ++ ((args.toList.map a.eval) ++ capt)) → A.holds (call f l H K) →
          Out P (execOp a.eval ⟨dst, .call ⟨.value x0, args, argTypes⟩, ty, pos, after, guard⟩) w fun v w' => ∃ x H' ρ', A.holds (K x H') ∧ VRel ρ' x v ∧ Step ρ H w ρ' H' w' := by
        intro f first capt l hx hl hcl
        have h4 := hcall f l H K ρ w _ hl hH hcl
        have hargs : first.toArray ++ args.map a.eval ++ capt.toArray = (first ++ ((args.toList.map a.eval) ++ capt)).toArray := by
          apply Array.ext'
          simp
        have : (execOp a.eval ⟨dst, .call ⟨.value x0, args, argTypes⟩, ty, pos, after, guard⟩).run P w = (callFunc f (first ++ ((args.toList.map a.eval) ++ capt)).toArray).run P w := by
          simp [execOp, resolve, hx, Deferred.ofValue, invoke, hargs]
        unfold Out
        rw [this]
        refine Out.mono ?_ h4
        intro v w' hv
        obtain ⟨x, H', ρ', h6, h7, h8⟩ := hv
        exact ⟨x, H', ρ', h6, h7, h8⟩
      have other : ∀ (y : Opd) (l : List Opd), f x0 = some y → cOpds f args.toList = some l → di = .callv y l → 
          Out P (execOp a.eval ⟨dst, .call ⟨.value x0, args, argTypes⟩, ty, pos, after, guard⟩) w fun v w' => ∃ x H' ρ', A.holds (K x H') ∧ VRel ρ' x v ∧ Step ρ H w ρ' H' w' := by
        intro y l h1 h2 hdi
        subst hdi
        have hr := opd_rel e h1
        have hl := opds_rel e h2
        simp only [evI, fL_eq] at h
        generalize y.get vs ts = Y at hr h
        generalize hv : a.eval x0 = u at hr
        cases hr <;> try exact (A.fail_no h).elim
        case fn f X Y u1 u2 r1 r2 => exact go f u1 u2 _ hv (r1.append (hl.append r2)) h
        case yl b S es =>
          simp only at h
          split at h
          · rename_i g vs' hb
            have hrun : (execOp a.eval ⟨dst, .call ⟨.value x0, args, argTypes⟩, ty, pos, after, guard⟩).run P w = (Instr.yield S.blk (args.toList.map a.eval).toArray).run P w := by
              have : (args.toList.map a.eval).toArray = args.map a.eval := by apply Array.ext'; simp
              rw [this]
              simp [execOp, resolve, hv, Deferred.ofValue, invoke]
            unfold Out
            rw [hrun]
            exact hyield b S g vs' _ H K ρ w _ hl hH es hb h
          · exact (A.fail_no h).elim
      cases x0 with
      | func f =>
        simp only [cOp] at hc
        split at hc
        · rename_i l h2
          simp at hc
          subst hc
          simp only [evI, fL_eq] at h
          have hl := opds_rel e h2
          exact go f [] [] _ (by simp [Act.eval]) (by simpa using hl) h
        · cases hc
      | tmp t =>
        simp only [cOp] at hc
        split at hc
        · rename_i y l h1 h2
          simp at hc
          exact other y l h1 h2 hc.symm
        · cases hc
      | const v =>
        simp only [cOp] at hc
        split at hc
        · rename_i y l h1 h2
          simp at hc
          exact other y l h1 h2 hc.symm
        · cases hc
      | global g =>
        simp only [cOp] at hc
        split at hc
        · rename_i y l h1 h2
          simp at hc
          exact other y l h1 h2 hc.symm
        · cases hc
end one
end Dt

namespace Dt
open Go Go.RowKit
set_option linter.all false
variable [LoopTab]
/-! ### Operations that lay a new block; quiet ones -/

/-- What they lay, and what they hand back (by the new block's number). -/
def freshB (di : DI) (vs ts : List AVal) : Option (Blk × (Nat → AVal)) := match di with
  | .alloc row => some (.rows (llen row) [row], fun b => .ptr b 0 0)
  | .box n x => match (x.get vs ts).cells with
    | none => none
    | some cs => match Nat.beq (llen cs) n with
      | true => some (.rows n [cs], fun b => .ptr b 0 0)
      | false => none
  | .buildS esz rows parts => match fillR vs ts esz rows parts with
    | some l => some (.rows esz l, fun b => .slc b 0 (rlen l) (some (rlen l)) esz)
    | none => none
  | _ => none
def isFresh (di : DI) : Bool := match di with
  | .alloc _ | .box _ _ | .buildS _ _ _ => true
  | _ => false

section lays
variable {R : Type} {A : Alg R} {P : Program} {call : Nat → List AVal → Heap → (AVal → Heap → R) → R} {f : Operand → Option Opd} {vs ts : List AVal} {ρ : Env} {H : Heap} {w : World} {K : AVal → Heap → R} {a : Act}

theorem evI_fresh {di : DI} (hd : isFresh di = true) : evI A call di vs ts H K = match freshB di vs ts with
    | some (B, g) => K (g H.next) (H.add B)
    | none => A.fail := by
  cases di <;> simp [isFresh] at hd
  case alloc row => simp [evI, freshB, hAdd_eq]
  case box n x =>
    simp only [evI, freshB]
    cases (x.get vs ts).cells with
    | none => rfl
    | some cs =>
      simp only
      cases Nat.beq (llen cs) n <;> simp [hAdd_eq]
  case buildS esz rows parts =>
    simp only [evI, freshB]
    cases fillR vs ts esz rows parts with
    | none => rfl
    | some l => simp [hAdd_eq, fL_eq, fN_eq]

/-- The piece lays one new block, the same whenever it is done. -/
def Lays (P : Program) (s : Sem Value) (ρ : Env) (B : Blk) (g : Nat → AVal) : Prop :=
  ∀ w : World, ∃ (S : RB) (o : Obj) (v : Value), S.blk = w.heap.size ∧ s.run P w = .ok v (w.alloc o) ∧
    ∀ ρ' : Env, (∀ b T, ρ b = some T → ρ' b = some T) → ∀ n, ρ' n = some S → VRel ρ' (g n) v ∧ BRel ρ' (w.alloc o) S B

theorem newVar_lays {t : TypeId} {x : List AVal} {us : List Value} (hs : VRels ρ x us) (ho : ∀ u ∈ us, u.oneCell' = true) {v : Value} (hv : v.cells.toList = us) :
    Lays P (do pure (.pointer (some (← newVar t v)))) ρ (.rows x.length [x]) (fun b => .ptr b 0 0) := by
  have hl := hs.length
  have hsz : v.cells.size = x.length := by rw [← hl, ← hv]; simp
  intro w
  refine ⟨⟨w.heap.size, 0, x.length, 1, x.length⟩, .cells v.cells t, .pointer (some ⟨w.heap.size, 0, none⟩), rfl, by simp [newVar, newRow], fun ρ' hm n hn => ⟨?_, rfl, rfl, by simp, by simp, v.cells, t, heap_push_new _ _, hsz, fun r row hr j y hy => ?_⟩⟩
  · have := VRel.ptr hn 0 0
    simpa using this
  · match r, hr with
    | 0, hr =>
      simp at hr
      subst hr
      obtain ⟨u, hu, hrel⟩ := hs.get j y hy
      refine ⟨u, ?_, ho u (List.mem_of_getElem? hu), hrel.mono hm⟩
      simp only [Nat.zero_mul, Nat.zero_add]
      rw [← Array.getElem?_toList, hv]
      exact hu

theorem newRow_lays {t : TypeId} {l : List (List AVal)} {z : Nat} (hz : ∀ row ∈ l, row.length = z) {cells : Array Value} (hs : VRels ρ l.flatten cells.toList) (ho : ∀ u ∈ cells.toList, u.oneCell' = true) :
    Lays P (do pure (.slice (some (← newRow t cells)) l.length l.length)) ρ (.rows z l) (fun b => .slc b 0 l.length (some l.length) z) := by
  have hl := hs.length
  rw [flat_length hz] at hl
  simp only [Array.length_toList] at hl
  intro w
  refine ⟨⟨w.heap.size, 0, l.length * z, l.length, z⟩, .cells cells t, .slice (some ⟨w.heap.size, 0, none⟩) l.length l.length, rfl, by simp [newRow], fun ρ' hm n hn => ⟨?_, rfl, rfl, by simp, hz, cells, t, heap_push_new _ _, hl, fun r row hr j y hy => ?_⟩⟩
  · exact VRel.slc (R := ⟨w.heap.size, 0, l.length * z, l.length, z⟩) hn 0 l.length l.length (some l.length) _ (Nat.le_refl _) (fun c hc => by simpa using hc) (fun h => by cases h) (.inr ⟨by simp, by simp⟩)
  · obtain ⟨u, hu, hrel⟩ := hs.get _ _ (flat_get hz hr hy)
    exact ⟨u, by simpa using hu, ho u (List.mem_of_getElem? hu), hrel.mono hm⟩

theorem Lays.of_run {s s' : Sem Value} {B : Blk} {g : Nat → AVal} (h : Lays P s ρ B g) (he : ∀ w, s'.run P w = s.run P w) : Lays P s' ρ B g := fun w => by
  obtain ⟨S, o, v, h1, h2, h3⟩ := h w
  exact ⟨S, o, v, h1, (he w).trans h2, h3⟩

/-- An operation that lays a block. -/
theorem op_lays (e : HOp ρ f vs ts a) {o : Oper} {di : DI} (hk : rawKind o.op = 3) (hc : cOp P f o.op = some di) : isFresh di = true ∧ ∀ B g, freshB di vs ts = some (B, g) → ∃ s : Sem Value, execOp a.eval o = (do pure (.value (← s))) ∧ Lays P s ρ B g := by
  obtain ⟨dst, op, ty, pos, after, guard⟩ := o
  simp only at hk hc
  cases op <;> first
    | (simp [rawKind] at hk; done)
    | skip
  case call c =>
    obtain ⟨callee, args, argTypes⟩ := c
    cases callee <;> try (simp [rawKind] at hk; done)
    rename_i b
    cases b <;> simp [rawKind] at hk
  case alloc t =>
    simp only [cOp, Option.map_eq_some_iff] at hc
    obtain ⟨row, hrow, rfl⟩ := hc
    refine ⟨rfl, fun B g hf => ⟨_, rfl, ?_⟩⟩
    simp only [freshB, Option.some.injEq, Prod.mk.injEq] at hf
    obtain ⟨rfl, rfl⟩ := hf
    obtain ⟨i, z, hi, hz, _, hs, ho, hl⟩ := zeroRow_some (ρ := ρ) hrow
    rw [llen_eq]
    exact (newVar_lays (P := P) (t := t) hs ho rfl).of_run fun w => by simp [Instr.alloc, run_zero hi hz]
  case box t x =>
    simp only [cOp, Option.map_eq_some_iff] at hc
    obtain ⟨y, hy, rfl⟩ := hc
    refine ⟨rfl, fun B g hf => ⟨_, rfl, ?_⟩⟩
    simp only [freshB] at hf
    cases hcs : (y.get vs ts).cells with
    | none => rw [hcs] at hf; cases hf
    | some cs =>
      rw [hcs] at hf
      simp only at hf
      split at hf
      · rename_i hb
        have hn : cs.length = P.cellsOf t := by rw [llen_eq] at hb; simpa using hb
        simp only [Option.some.injEq, Prod.mk.injEq] at hf
        obtain ⟨rfl, rfl⟩ := hf
        obtain ⟨hs, ho⟩ := (opd_rel e hy).cells hcs
        rw [← hn]
        exact newVar_lays hs ho rfl
      · cases hf
  case buildSlice t n ps =>
    simp only [cOp] at hc
    cases hu : P.underlying t with
    | none => rw [hu] at hc; cases hc
    | some d =>
      rw [hu] at hc
      cases d <;> try (simp at hc; done)
      rename_i el
      simp only at hc
      cases hz : zeroRow P el with
      | none => rw [hz] at hc; cases hc
      | some z =>
        rw [hz] at hc
        simp only at hc
        split at hc
        · rename_i hpos
          simp only [Option.map_eq_some_iff] at hc
          obtain ⟨qs, hqs, rfl⟩ := hc
          refine ⟨rfl, fun B g hf => ⟨_, rfl, ?_⟩⟩
          simp only [freshB] at hf
          cases hff : fillR vs ts (P.cellsOf el) (List.replicate n z) qs with
          | none => rw [hff] at hf; cases hf
          | some l =>
            rw [hff] at hf
            simp only [rlen_eq, Option.some.injEq, Prod.mk.injEq] at hf
            obtain ⟨rfl, rfl⟩ := hf
            obtain ⟨i, zv, hi, hzv, hsz, hzr, hzo, hzl⟩ := zeroRow_some (ρ := ρ) hz
            have hcell : P.cellsOf el = i.size := by simp [Program.cellsOf, hi]
            rw [hcell] at hpos hff ⊢
            obtain ⟨qs', g1, g2, g3, g4⟩ := fillR_rel ps.toList qs _ l hqs (fun row hrow => by rw [(List.mem_replicate.1 hrow).2, hzl]) hff
            obtain ⟨z1, z2⟩ := zeros_rel hzr hzo (by omega) n
            obtain ⟨cells, f1, f2, f3, _⟩ := fill_rel e _ ps.toList qs' _ _ l.flatten g1 z1 z2 g2
            have hln : l.length = n := by rw [g4, List.length_replicate]
            refine (newRow_lays (P := P) (t := el) g3 f2 f3).of_run fun w => ?_
            rw [hsz] at f1
            have e1 : (fun (p : Nat × Operand) => match p with | (i, x) => (i, a.eval x)) = fun x => (x.fst, a.eval x.snd) := by funext ⟨i, x⟩; rfl
            rw [e1] at f1
            have hrs := run_sizeOf (P := P) hi
            simp only [Program.cellsOf, hi, Option.map_some, Option.getD_some] at hrs
            by_cases h0 : n = 0
            · subst h0
              have hl0 : l = [] := List.length_eq_zero_iff.1 hln
              subst hl0
              have hr0 : Array.range (0 * i.size) = #[] := by simp
              rw [hr0] at f1
              simp only [Array.map_empty] at f1
              simp only [Instr.buildSlice, Sem.run_bind, run_underlying hu, Result.andThen_ok, hrs]
              have hr1 : Array.range 0 = #[] := by simp
              simp [f1, hr1]
            · have hnz : ¬ (n * i.size = 0) := Nat.mul_ne_zero h0 (by omega)
              simp only [Instr.buildSlice, Sem.run_bind, run_underlying hu, Result.andThen_ok, hrs]
              rw [if_neg (show ¬ (n * i.size > 2 ^ 24) by omega), if_neg hnz]
              simp [run_zero hi hzv, hsz, f1, hln]
        · cases hc
end lays
end Dt

namespace Dt
open Go Go.RowKit
set_option linter.all false
variable [LoopTab]
/-! ### Quiet operations: what they yield as a plain value -/

/-- They look at no memory. -/
def cold (di : DI) : Bool := match di with
  | .move _ | .pick _ _ _ | .build _ _ | .nilck _ | .bin _ _ _ | .binB _ _ _ | .binP _ _ _ | .eqAgg _ _ _ _ | .not _ | .fadr _ _ | .fld1 _ _ | .fldN _ _ _ | .idxS _ _ _ | .idxA _ _ _ _ | .idxStr _ _ | .len _ _ | .slcStr _ _ _ | .slcS _ _ _ _ _ | .ext _ _ | .mkfn _ _ _ | .un1 _ _ | .binN _ _ _ | .idxAg _ _ _ _ => true
  | _ => false
/-- They read. -/
def warm (di : DI) : Bool := match di with
  | .load1 _ | .loadN _ _ | .lkp _ _ _ _ _ => true
  | _ => false


section quiet
variable {R : Type} {A : Alg R} {P : Program} {call : Nat → List AVal → Heap → (AVal → Heap → R) → R} {f : Operand → Option Opd} {vs ts : List AVal} {ρ : Env} {H : Heap} {w : World} {K : AVal → Heap → R} {a : Act}

theorem evI_quiet {di : DI} (hd : cold di = true ∨ warm di = true) : evI A call di vs ts H K = match evQ di vs ts H with
    | some x => K x H
    | none => A.fail := by
  cases di <;> first
    | (simp [cold, warm] at hd; done)
    | (simp only [evQ, evI, fV_eq, fL_eq, fN_eq, fI_eq, fB_eq]; done)
    | (simp only [evQ, evI, fV_eq, fL_eq, fN_eq, fI_eq, fB_eq, AO]; (repeat' split) <;> first | rfl | (simp_all; done))
    | skip

theorem evQ_cold {di : DI} (hd : cold di = true) (H H' : Heap) : evQ di vs ts H = evQ di vs ts H' := by
  cases di <;> first
    | (simp [cold] at hd; done)
    | (simp only [evQ, evI, fV_eq, fL_eq, fN_eq, fI_eq, fB_eq]; done)
    | rfl

theorem nilCmp_cold {k : Nat} {b : Bool} {op : BinOp} {x : Opd} {di : DI} (h : nilCmp k b op x = some di) : cold di = true := by
  unfold nilCmp at h
  split at h
  · split at h <;> simp at h <;> subst h <;> rfl
  · cases h
theorem cOp_cold {o : Oper} {di : DI} (hk : rawKind o.op = 0) (ht : tame P o = true) (hc : cOp P f o.op = some di) : cold di = true := by
  obtain ⟨dst, op, ty, pos, after, guard⟩ := o
  simp only at hk hc
  have map1 : ∀ {x : Option Opd} {g : Opd → DI}, x.map g = some di → (∀ y, cold (g y) = true) → cold di = true := by
    intro x g h1 h2
    cases x with
    | none => cases h1
    | some y => simp at h1; subst h1; exact h2 y
  cases op <;> first
    | (simp [rawKind] at hk; done)
    | skip
  case move x => simp only [cOp] at hc; exact map1 hc fun _ => rfl
  case assign x => simp only [cOp] at hc; exact map1 hc fun _ => rfl
  case pick c x y =>
    simp only [cOp] at hc
    split at hc <;> simp at hc
    subst hc; rfl
  case build t ps =>
    simp only [cOp] at hc
    split at hc
    · cases hc
    · split at hc
      · split at hc
        · simp only [Option.map_eq_some_iff] at hc
          obtain ⟨q, _, rfl⟩ := hc; rfl
        · cases hc
      · split at hc
        · simp only [Option.map_eq_some_iff] at hc
          obtain ⟨q, _, rfl⟩ := hc; rfl
        · cases hc
      · cases hc
  case nilCheck x => simp only [cOp] at hc; exact map1 hc fun _ => rfl
  case binOp op t x y yt =>
    simp only [cOp] at hc
    split at hc
    · split at hc
      · simp at hc; subst hc; rfl
      · simp at hc; subst hc; rfl
      · simp at hc; subst hc; rfl
      · rename_i el hu
        split at hc
        · rename_i hn1 hn2
          simp [tame, hu, hn1, hn2] at ht
        · simp at hc; subst hc; rfl
      · exact nilCmp_cold hc
      · exact nilCmp_cold hc
      · exact nilCmp_cold hc
      · exact nilCmp_cold hc
      · split at hc
        · split at hc <;> simp at hc <;> subst hc <;> rfl
        · cases hc
      · cases hc
    · cases hc
  case unOp op t x => cases op <;> simp only [cOp] at hc <;> first | (exact map1 hc fun _ => rfl) | (cases hc; done)
  case makeFunc fn x y =>
    cases fn <;> simp only [cOp] at hc <;> try (cases hc; done)
    split at hc <;> simp at hc
    subst hc; rfl
  case slice t x lo hi mx =>
    simp only [cOp] at hc
    split at hc
    · split at hc
      · split at hc <;> simp at hc
        subst hc; rfl
      · split at hc
        · cases hc
        · split at hc <;> simp at hc
          subst hc; rfl
      · cases hc
    · cases hc
  case fieldAddr t x n =>
    simp only [cOp] at hc
    split at hc
    · split at hc
      · split at hc
        · cases hc
        · exact map1 hc fun _ => rfl
      · cases hc
    · cases hc
  case field t x n =>
    simp only [cOp] at hc
    split at hc
    · split at hc
      · split at hc
        · exact map1 hc fun _ => rfl
        · split at hc
          · exact map1 hc fun _ => rfl
          · cases hc
      · cases hc
    · cases hc
  case indexAddr t x i =>
    simp only [cOp] at hc
    split at hc
    · split at hc
      · split at hc <;> simp at hc
        subst hc; rfl
      · split at hc <;> simp at hc
        subst hc; rfl
      · cases hc
    · cases hc
  case index t x i =>
    simp only [cOp] at hc
    split at hc
    · split at hc
      · simp at hc; subst hc; rfl
      · split at hc <;> simp at hc
        subst hc; rfl
      · cases hc
    · cases hc
  case extract x i => simp only [cOp] at hc; exact map1 hc fun _ => rfl
  case call c =>
    obtain ⟨callee, args, argTypes⟩ := c
    cases callee <;> try (simp [rawKind] at hk; done)
    rename_i b
    cases b <;> try (simp [rawKind] at hk; done)
    simp only [cOp] at hc
    split at hc
    · split at hc
      · exact map1 hc fun _ => rfl
      · exact map1 hc fun _ => rfl
      · cases hc
    · cases hc
theorem cOp_warm {o : Oper} {di : DI} (hk : rawKind o.op = 1) (hc : cOp P f o.op = some di) : warm di = true := by
  obtain ⟨dst, op, ty, pos, after, guard⟩ := o
  simp only at hk hc
  cases op <;> first
    | (simp [rawKind] at hk; done)
    | skip
  case call c =>
    obtain ⟨callee, args, argTypes⟩ := c
    cases callee <;> try (simp [rawKind] at hk; done)
    rename_i b
    cases b <;> simp [rawKind] at hk
  case load t x =>
    simp only [cOp] at hc
    split at hc
    · simp only [Option.map_eq_some_iff] at hc
      obtain ⟨q, _, rfl⟩ := hc; rfl
    · split at hc
      · simp only [Option.map_eq_some_iff] at hc
        obtain ⟨q, _, rfl⟩ := hc; rfl
      · cases hc
  case lookup t x k ok =>
    simp only [cOp] at hc
    split at hc
    · split at hc <;> simp at hc
      subst hc; rfl
    · cases hc

/-- A block more leaves what is read be. -/
theorem evQ_add {di : DI} (hd : warm di = true) (htop : ∀ b, H.next ≤ b → H.get b = .dead) (B : Blk) {x : AVal} (h : evQ di vs ts H = some x) : evQ di vs ts (H.add B) = some x := by
  have hg : ∀ b, H.get b ≠ .dead → (H.add B).get b = H.get b := fun b hb => by
    rw [Heap.get_add _ _ _ trivial, if_neg]
    intro he
    exact hb (htop b (by omega))
  cases di <;> first
    | (simp [warm] at hd; done)
    | skip
  case load1 y =>
    simp only [evQ, evI, AO, Heap.gl_add] at h ⊢
    generalize y.get vs ts = Y at h ⊢
    cases Y <;> try (cases h; done)
    · rename_i b r c
      simp only at h ⊢
      rw [hg b (by intro he; rw [he] at h; cases h)]
      exact h
    · exact h
  case loadN n y =>
    simp only [evQ, evI, AO, Heap.gl_add] at h ⊢
    generalize y.get vs ts = Y at h ⊢
    cases Y <;> try (cases h; done)
    · rename_i b r c
      simp only at h ⊢
      rw [hg b (by intro he; rw [he] at h; cases h)]
      exact h
    · exact h
  case lkp z kk ok y k =>
    simp only [evQ, evI, AO] at h ⊢
    have : mapOf H (y.get vs ts) ≠ none → mapOf (H.add B) (y.get vs ts) = mapOf H (y.get vs ts) := by
      intro hne
      generalize y.get vs ts = Y at hne ⊢
      cases Y <;> try rfl
      rename_i b
      simp only [mapOf] at hne ⊢
      rw [hg b (by intro he; rw [he] at hne; exact hne rfl)]
    rw [this (by intro he; rw [he] at h; cases h)]
    exact h
end quiet
end Dt

namespace Dt
open Go Go.RowKit
set_option linter.all false
variable [LoopTab]
/-! ### What an operation is made of hangs on its operands alone -/
section congr
variable {P : Program} {f g : Operand → Option Opd}

theorem cOpds_congr : ∀ {l : List Operand}, (∀ x ∈ l, f x = g x) → cOpds f l = cOpds g l
  | [], _ => rfl
  | x :: l, h => by
    simp only [cOpds, h x (by simp), cOpds_congr (l := l) fun y hy => h y (by simp [hy])]
theorem cParts_congr {place : Nat → Option (Nat × Nat)} : ∀ {l : List (Nat × Operand)}, (∀ x ∈ l, f x.2 = g x.2) → cParts f place l = cParts g place l
  | [], _ => rfl
  | (i, x) :: l, h => by
    have h1 := h (i, x) (by simp)
    simp only at h1
    simp only [cParts, h1, cParts_congr (l := l) fun y hy => h y (by simp [hy])]
theorem cPartsR_congr : ∀ {l : List (Nat × Operand)}, (∀ x ∈ l, f x.2 = g x.2) → cPartsR f l = cPartsR g l
  | [], _ => rfl
  | (i, x) :: l, h => by
    have h1 := h (i, x) (by simp)
    simp only at h1
    simp only [cPartsR, h1, cPartsR_congr (l := l) fun y hy => h y (by simp [hy])]

theorem cOp_congr {op : Op} (h : ∀ x ∈ op.operands.toList, f x = g x) : cOp P f op = cOp P g op := by
  cases op with
  | build t ps =>
    have h' : ∀ x ∈ ps.toList, f x.2 = g x.2 := fun x hx => h x.2 (by simp only [Op.operands]; simp; exact ⟨x.1, by simpa using hx⟩)
    simp only [cOp, fun place => cParts_congr (place := place) h']
  | buildSlice t n ps =>
    have h' : ∀ x ∈ ps.toList, f x.2 = g x.2 := fun x hx => h x.2 (by simp only [Op.operands]; simp; exact ⟨x.1, by simpa using hx⟩)
    simp only [cOp, cPartsR_congr h']
  | makeFunc fn a b =>
    have h1 : ∀ x ∈ a.toList, f x = g x := fun x hx => h x (by simp only [Op.operands]; simp; exact .inl (by simpa using hx))
    have h2 : ∀ x ∈ b.toList, f x = g x := fun x hx => h x (by simp only [Op.operands]; simp; exact .inr (by simpa using hx))
    cases fn <;> simp only [cOp, cOpds_congr h1, cOpds_congr h2]
  | slice t x lo hi mx =>
    cases lo <;> cases hi <;> cases mx <;> simp [Op.operands] at h <;> simp only [cOp, cOpt, h]
  | call c =>
    obtain ⟨callee, args, argTypes⟩ := c
    cases callee with
    | builtin b =>
      have ha : ∀ x ∈ args.toList, f x = g x := fun x hx => h x (by simp only [Op.operands, Call.operands]; simpa using hx)
      cases b <;> simp only [cOp]
      all_goals (generalize hal : args.toList = al at *)
      all_goals (rcases al with _ | ⟨x, _ | ⟨y, _ | ⟨z, l⟩⟩⟩)
      all_goals (generalize argTypes.toList = tys)
      all_goals (rcases tys with _ | ⟨t, _ | ⟨u, _ | ⟨v, m⟩⟩⟩)
      all_goals (simp at ha)
      all_goals first
        | rfl
        | (simp only [ha]; done)
    | invoke r m => simp only [cOp]
    | value v =>
      have hv := h v (by simp [Op.operands, Call.operands])
      have ha : ∀ x ∈ args.toList, f x = g x := fun x hx => h x (by simp only [Op.operands, Call.operands]; simp; exact .inr (by simpa using hx))
      cases v <;> simp only [cOp, cOpds_congr ha, hv]
  | unOp op t x => simp [Op.operands] at h; cases op <;> simp only [cOp, h]
  | next x b => simp [Op.operands] at h; cases b <;> simp only [cOp, h]
  | makeMap t r => cases r <;> rfl
  | typeAssert x t u b => simp [Op.operands] at h; cases b <;> simp only [cOp, h]
  | alloc _ => rfl
  | _ => first | (simp [Op.operands] at h; simp only [cOp, h]; done) | rfl
end congr
end Dt

namespace Dt
open Go Go.RowKit
set_option linter.all false
variable [LoopTab]
/-! ### Operands given as values -/
def Opd.cl (vs ts : List AVal) (x : Opd) : Opd := .c (x.get vs ts)
def DI.cl (vs ts : List AVal) : DI → DI
  | .move x => .move (x.cl vs ts)
  | .pick c a b => .pick (c.cl vs ts) (a.cl vs ts) (b.cl vs ts)
  | .box n x => .box n (x.cl vs ts)
  | .build z ps => .build z (ps.map fun p => (p.1, p.2.1, p.2.2.cl vs ts))
  | .buildS e r ps => .buildS e r (ps.map fun p => (p.1, p.2.cl vs ts))
  | .load1 x => .load1 (x.cl vs ts)
  | .loadN n x => .loadN n (x.cl vs ts)
  | .nilck x => .nilck (x.cl vs ts)
  | .bin o x y => .bin o (x.cl vs ts) (y.cl vs ts)
  | .binB o x y => .binB o (x.cl vs ts) (y.cl vs ts)
  | .binP o x y => .binP o (x.cl vs ts) (y.cl vs ts)
  | .binPP n x y => .binPP n (x.cl vs ts) (y.cl vs ts)
  | .eqAgg n ks x y => .eqAgg n ks (x.cl vs ts) (y.cl vs ts)
  | .not x => .not (x.cl vs ts)
  | .fadr o x => .fadr o (x.cl vs ts)
  | .fld1 o x => .fld1 o (x.cl vs ts)
  | .fldN o n x => .fldN o n (x.cl vs ts)
  | .idxS e x i => .idxS e (x.cl vs ts) (i.cl vs ts)
  | .idxA n e x i => .idxA n e (x.cl vs ts) (i.cl vs ts)
  | .idxStr x i => .idxStr (x.cl vs ts) (i.cl vs ts)
  | .len b x => .len b (x.cl vs ts)
  | .slcStr x l h => .slcStr (x.cl vs ts) (l.map (·.cl vs ts)) (h.map (·.cl vs ts))
  | .slcS e x l h m => .slcS e (x.cl vs ts) (l.map (·.cl vs ts)) (h.map (·.cl vs ts)) (m.map (·.cl vs ts))
  | .ext x i => .ext (x.cl vs ts) i
  | .mkfn f a b => .mkfn f (a.map (·.cl vs ts)) (b.map (·.cl vs ts))
  | .un1 n x => .un1 n (x.cl vs ts)
  | .lkp z kk ok x k => .lkp z kk ok (x.cl vs ts) (k.cl vs ts)
  | .binN n k x => .binN n k (x.cl vs ts)
  | .idxAg n e x i => .idxAg n e (x.cl vs ts) (i.cl vs ts)
  | d => d

section close
variable {P : Program} {f : Operand → Option Opd} {vs ts vs' ts' : List AVal} {H : Heap}

theorem get_cl (x : Opd) : (x.cl vs ts).get vs' ts' = x.get vs ts := rfl
theorem opds_cl : ∀ l : List Opd, opds vs' ts' (l.map (·.cl vs ts)) = opds vs ts l
  | [] => rfl
  | x :: l => by simp only [List.map_cons, opds, opds_cl l, get_cl]
theorem fillP_cl : ∀ (ps : List (Nat × Nat × Opd)) (row : List AVal), fillP vs' ts' row (ps.map fun p => (p.1, p.2.1, p.2.2.cl vs ts)) = fillP vs ts row ps
  | [], _ => rfl
  | (o, n, x) :: ps, row => by
    simp only [List.map_cons, fillP, get_cl]
    split
    · rfl
    · split
      · exact fillP_cl ps _
      · rfl
theorem fillR_cl {z : Nat} : ∀ (ps : List (Nat × Opd)) (rows : List (List AVal)), fillR vs' ts' z rows (ps.map fun p => (p.1, p.2.cl vs ts)) = fillR vs ts z rows ps
  | [], _ => rfl
  | (i, x) :: ps, rows => by
    simp only [List.map_cons, fillR, get_cl]
    split
    · rfl
    · split
      · exact fillR_cl ps _
      · rfl
theorem bounds_cl (a b : Nat) (l h : Option Opd) : bounds vs' ts' a b (l.map (·.cl vs ts)) (h.map (·.cl vs ts)) = bounds vs ts a b l h := by
  cases l <;> cases h <;> rfl

theorem evQ_cl {di : DI} (hd : cold di = true ∨ warm di = true) : evQ (di.cl vs ts) vs' ts' H = evQ di vs ts H := by
  cases di <;> first
    | (simp [cold, warm] at hd; done)
    | rfl
    | (simp only [DI.cl, evQ, evI, get_cl, opds_cl, fillP_cl, bounds_cl]; done)
    | skip
  case slcS e x l h m =>
    cases m <;> simp only [DI.cl, evQ, evI, get_cl, bounds_cl, Option.map_none, Option.map_some]
    · cases x.get vs ts <;> try rfl
      cases bounds vs ts 0 0 l h <;> rfl
    · cases x.get vs ts <;> try rfl
      cases bounds vs ts 0 0 l h <;> rfl
theorem cold_cl {di : DI} (hd : cold di = true) : cold (di.cl vs ts) = true := by cases di <;> first | (simp [cold] at hd; done) | rfl
theorem warm_cl {di : DI} (hd : warm di = true) : warm (di.cl vs ts) = true := by cases di <;> first | (simp [warm] at hd; done) | rfl
theorem freshB_cl {di : DI} (hd : isFresh di = true) : freshB (di.cl vs ts) vs' ts' = freshB di vs ts := by
  cases di <;> first
    | (simp [isFresh] at hd; done)
    | rfl
    | (simp only [DI.cl, freshB, get_cl, fillR_cl]; done)
theorem isFresh_cl {di : DI} (hd : isFresh di = true) : isFresh (di.cl vs ts) = true := by cases di <;> first | (simp [isFresh] at hd; done) | rfl

/-- The operands' values for the operands. -/
def fcl (f : Operand → Option Opd) (vs ts : List AVal) : Operand → Option Opd := fun x => (f x).map (·.cl vs ts)

theorem cOpds_cl : ∀ (l : List Operand), cOpds (fcl f vs ts) l = (cOpds f l).map (·.map (·.cl vs ts))
  | [] => rfl
  | x :: l => by
    simp only [cOpds, cOpds_cl l, fcl]
    cases f x <;> cases cOpds f l <;> rfl
theorem cParts_cl {place : Nat → Option (Nat × Nat)} : ∀ (l : List (Nat × Operand)), cParts (fcl f vs ts) place l = (cParts f place l).map (·.map fun p => (p.1, p.2.1, p.2.2.cl vs ts))
  | [] => rfl
  | (i, x) :: l => by
    simp only [cParts, cParts_cl l, fcl]
    cases place i <;> cases f x <;> cases cParts f place l <;> rfl
theorem cPartsR_cl : ∀ (l : List (Nat × Operand)), cPartsR (fcl f vs ts) l = (cPartsR f l).map (·.map fun p => (p.1, p.2.cl vs ts))
  | [] => rfl
  | (i, x) :: l => by
    simp only [cPartsR, cPartsR_cl l, fcl]
    cases f x <;> cases cPartsR f l <;> rfl

theorem nilCmp_cl {k : Nat} {b : Bool} {op : BinOp} {x : Opd} {di : DI} (h : nilCmp k b op x = some di) : nilCmp k b op (x.cl vs ts) = some (di.cl vs ts) := by
  unfold nilCmp at *
  split at h
  · split at h <;> simp at h <;> subst h <;> rfl
  · cases h

theorem cOp_cl {op : Op} {di : DI} (hk : rawKind op ≠ 2) (hc : cOp P f op = some di) : cOp P (fcl f vs ts) op = some (di.cl vs ts) := by
  have map1 : ∀ {x : Operand} {g : Opd → DI}, (f x).map g = some di → (∀ y, (g y).cl vs ts = g (y.cl vs ts)) → (fcl f vs ts x).map g = some (di.cl vs ts) := by
    intro x g h1 h2
    unfold fcl
    cases hx : f x with
    | none => rw [hx] at h1; cases h1
    | some y => rw [hx] at h1; simp at h1; subst h1; simp [h2]
  have f1 : ∀ {x : Operand} {y : Opd}, f x = some y → fcl f vs ts x = some (y.cl vs ts) := fun h => by unfold fcl; rw [h]; rfl
  cases op <;> first
    | (simp [rawKind] at hk; done)
    | skip
  case move x => exact map1 hc fun _ => rfl
  case assign x => exact map1 hc fun _ => rfl
  case alloc e =>
    simp only [cOp, Option.map_eq_some_iff] at hc ⊢
    obtain ⟨row, h1, rfl⟩ := hc
    exact ⟨row, h1, rfl⟩
  case box e x => exact map1 hc fun _ => rfl
  case nilCheck x => exact map1 hc fun _ => rfl
  case extract x i => exact map1 hc fun _ => rfl
  case pick c x y =>
    simp only [cOp] at hc ⊢
    split at hc
    · rename_i h1 h2 h3
      rw [f1 h1, f1 h2, f1 h3]
      simp at hc; subst hc; rfl
    · cases hc
  case build t ps =>
    simp only [cOp] at hc ⊢
    split at hc
    · cases hc
    · rename_i z hz
      split at hc
      · split at hc
        · simp only [Option.map_eq_some_iff] at hc
          obtain ⟨q, h1, rfl⟩ := hc
          simp only [cParts_cl, h1]; rfl
        · cases hc
      · split at hc
        · simp only [Option.map_eq_some_iff] at hc
          obtain ⟨q, h1, rfl⟩ := hc
          simp only [cParts_cl, h1]; rfl
        · cases hc
      · cases hc
  case buildSlice t n ps =>
    simp only [cOp] at hc ⊢
    split at hc
    · split at hc
      · cases hc
      · split at hc
        · rename_i hp
          simp only [Option.map_eq_some_iff] at hc
          obtain ⟨q, h1, rfl⟩ := hc
          simp only [hp, and_self, if_true, cPartsR_cl, h1]; rfl
        · cases hc
    · cases hc
  case load t x =>
    simp only [cOp] at hc ⊢
    split at hc
    · rename_i h1
      rw [if_pos h1]
      exact map1 hc fun _ => rfl
    · rename_i h1
      rw [if_neg h1]
      split at hc
      · rename_i h2
        rw [if_pos h2]
        exact map1 hc fun _ => rfl
      · cases hc
  case lookup t x k ok =>
    simp only [cOp] at hc ⊢
    split at hc
    · split at hc
      · rename_i h1 h2 h3 h4
        rw [h1, h2, f1 h3, f1 h4]
        simp at hc; subst hc; rfl
      · cases hc
    · cases hc
  case binOp op t x y yt =>
    simp only [cOp] at hc ⊢
    split at hc
    · rename_i h1 h2
      rw [f1 h1, f1 h2]
      simp only
      split at hc
      · simp at hc; subst hc; rfl
      · simp at hc; subst hc; rfl
      · simp at hc; subst hc; rfl
      · split at hc
        · rename_i el _ _ _ _ _
          by_cases hz : P.cellsOf el = 0
          · simp [hz] at hc
          · simp only [hz, if_false] at hc ⊢
            split at hc <;> simp at hc <;> subst hc <;> rfl
        · simp at hc; subst hc; rfl
      · exact nilCmp_cl hc
      · exact nilCmp_cl hc
      · exact nilCmp_cl hc
      · exact nilCmp_cl hc
      · split at hc
        · split at hc <;> simp at hc <;> subst hc <;> rfl
        · cases hc
      · cases hc
    · cases hc
  case unOp op t x => cases op <;> simp only [cOp] at hc ⊢ <;> first | (exact map1 hc fun _ => rfl) | (cases hc; done)
  case makeFunc fn x y =>
    cases fn <;> simp only [cOp] at hc ⊢ <;> try (cases hc; done)
    split at hc
    · rename_i h1 h2
      rw [cOpds_cl, cOpds_cl, h1, h2]
      simp at hc; subst hc; rfl
    · cases hc
  case slice t x lo hi mx =>
    have o1 : ∀ {z : Option Operand} {y : Option Opd}, cOpt f z = some y → cOpt (fcl f vs ts) z = some (y.map (·.cl vs ts)) := fun {z y} hz => by
      cases z with
      | none => simp [cOpt] at hz; subst hz; rfl
      | some z =>
        simp only [cOpt, Option.map_eq_some_iff] at hz
        obtain ⟨u, h1, rfl⟩ := hz
        simp [cOpt, f1 h1]
    simp only [cOp] at hc ⊢
    split at hc
    · rename_i x' lo' hi' mx' h1 h2 h3 h4
      rw [f1 h1, o1 h2, o1 h3, o1 h4]
      simp only
      split at hc
      · cases mx' with
        | none => simp at hc; subst hc; rfl
        | some m => simp at hc
      · rename_i e _
        have e1 : ((mx'.map (·.cl vs ts)).isSome && (hi'.map (·.cl vs ts)).isNone) = (mx'.isSome && hi'.isNone) := by cases mx' <;> cases hi' <;> rfl
        rw [e1]
        by_cases hm : (mx'.isSome && hi'.isNone) = true
        · rw [if_pos hm] at hc; cases hc
        · rw [if_neg hm] at hc ⊢
          by_cases hz : 0 < P.cellsOf e
          · rw [if_pos hz] at hc ⊢
            simp at hc; subst hc; rfl
          · rw [if_neg hz] at hc; cases hc
      · cases hc
    · cases hc
  case fieldAddr t x n =>
    simp only [cOp] at hc ⊢
    split at hc
    · split at hc
      · rename_i fd _
        by_cases hz : P.cellsOf fd.type = 0
        · simp [hz] at hc
        · rw [if_neg hz] at hc ⊢
          exact map1 hc fun _ => rfl
      · cases hc
    · cases hc
  case field t x n =>
    simp only [cOp] at hc ⊢
    split at hc
    · split at hc
      · rename_i fd _
        by_cases h1 : isMany P fd.type = true
        · rw [if_pos h1] at hc ⊢
          exact map1 hc fun _ => rfl
        · rw [if_neg h1] at hc ⊢
          by_cases h2 : isOne P fd.type = true
          · rw [if_pos h2] at hc ⊢
            exact map1 hc fun _ => rfl
          · rw [if_neg h2] at hc; cases hc
      · cases hc
    · cases hc
  case indexAddr t x i =>
    simp only [cOp] at hc ⊢
    split at hc
    · rename_i h1 h2
      rw [f1 h1, f1 h2]
      simp only
      split at hc
      · rename_i e _
        by_cases hz : P.cellsOf e = 0
        · simp [hz] at hc
        · rw [if_neg hz] at hc ⊢
          simp at hc; subst hc; rfl
      · rename_i n e _
        by_cases hz : P.cellsOf e = 0
        · simp [hz] at hc
        · rw [if_neg hz] at hc ⊢
          simp at hc; subst hc; rfl
      · cases hc
    · cases hc
  case index t x i =>
    simp only [cOp] at hc ⊢
    split at hc
    · rename_i h1 h2
      rw [f1 h1, f1 h2]
      simp only
      split at hc
      · simp at hc; subst hc; rfl
      · rename_i n e _
        by_cases hz : isMany P e = true
        · rw [if_pos hz] at hc ⊢
          simp at hc; subst hc; rfl
        · rw [if_neg hz] at hc; cases hc
      · cases hc
    · cases hc
  case call c =>
    obtain ⟨callee, args, argTypes⟩ := c
    cases callee <;> try (simp [rawKind] at hk; done)
    rename_i b
    cases b <;> try (simp [rawKind] at hk; done)
    simp only [cOp] at hc ⊢
    split at hc
    · split at hc
      · exact map1 hc fun _ => rfl
      · exact map1 hc fun _ => rfl
      · cases hc
    · cases hc
end close
end Dt
