/- A part of the abstract machine and of the proof that the program does what it reckons; no conditions. -/
import Derived.Test.YtoifgfkgjbddcaaGreatDoorDk
set_option linter.all false
namespace Dt
open Go Go.RowKit
set_option linter.all false
variable [LoopTab]
/-! ### An operation under its guard, and where its value goes -/
section step
variable {R : Type} {A : Alg R} {P : Program} {call : Nat → List AVal → Heap → (AVal → Heap → R) → R} {f : Operand → Option Opd} {vm names : List Nat} {N : Nat} {vs ts : List AVal} {ρ : Env} {H : Heap} {w : World} {a : Act} {ops : Array Oper}

theorem put_get {a : Act} {t : Nat} {v : Value} (h : t < a.tmps.size) (u : Nat) : (a.put (some t) v).tmps.getD u undef = if u = t then v else a.tmps.getD u undef := by
  simp only [Act.put]
  by_cases hu : u = t
  · subst hu
    rw [if_pos rfl]
    simp [h]
  · rw [if_neg hu]
    simp [Array.getElem?_setIfInBounds_ne (Ne.symm hu)]
theorem put_size {a : Act} {d : Option Nat} {v : Value} : (a.put d v).tmps.size = a.tmps.size := by
  cases d <;> simp [Act.put]
theorem put_other {a : Act} {d : Option Nat} {v : Value} {u : Nat} (h : d ≠ some u) : (a.put d v).tmps.getD u undef = a.tmps.getD u undef := by
  cases d with
  | none => rfl
  | some t =>
    have : t ≠ u := fun he => h (by rw [he])
    simp [Act.put, Array.getElem?_setIfInBounds_ne this]
theorem put_defers {a : Act} {d : Option Nat} {v : Value} : (a.put d v).defers = a.defers := by cases d <;> rfl

def gsays (vs ts : List AVal) : Option (Opd × Bool) → Bool
  | none => true
  | some (x, want) => match x.get vs ts with | .bool b => b == want | _ => false

/-- What a guard says. -/
theorem guard_rel (e : HOp ρ f vs ts a) {o : Oper} {g : Option (Opd × Bool)} (h : cGuard f ops o = some g) :
    Region.wanted o (yielded ops a.tmps) = gsays vs ts g := by
  unfold cGuard at h
  unfold Region.wanted
  cases hg : o.guard with
  | none => rw [hg] at h; simp at h; subst h; rfl
  | some p =>
    obtain ⟨j, want⟩ := p
    rw [hg] at h
    simp only at h
    cases ht : (ops[j]?).bind (·.dst) with
    | none => rw [ht] at h; cases h
    | some t =>
      rw [ht] at h
      simp only [Option.map_eq_some_iff] at h
      obtain ⟨x, hx, rfl⟩ := h
      show (yielded ops a.tmps j == some want) = _
      have hr := opd_rel e hx
      simp only [Act.eval] at hr
      have hy : yielded ops a.tmps j = (match a.tmps.getD t undef with | .bool b => some b | _ => none) := by
        unfold yielded
        rw [ht]
        simp only [Option.bind_some, Array.getD_eq_getD_getElem?]
        cases a.tmps[t]? with
        | none => rfl
        | some v => cases v <;> rfl
      rw [hy]
      simp only [gsays]
      generalize x.get vs ts = X at hr
      generalize a.tmps.getD t undef = u at hr
      cases hr <;> simp_all

theorem cGuard_cl {o : Oper} {g : Option (Opd × Bool)} (h : cGuard f ops o = some g) : ∃ g', cGuard (fcl f vs ts) ops o = some g' ∧ gsays [] [] g' = gsays vs ts g := by
  unfold cGuard at *
  split at h
  · simp at h; subst h; exact ⟨none, rfl, rfl⟩
  · split at h
    · simp only [Option.map_eq_some_iff] at h
      obtain ⟨x, hx, rfl⟩ := h
      refine ⟨_, by simp only [fcl, hx]; rfl, rfl⟩
    · cases h
theorem cGuard_congr {g : Operand → Option Opd} {o : Oper} (h : ∀ t ∈ o.looksAt ops, f (.tmp t) = g (.tmp t)) : cGuard f ops o = cGuard g ops o := by
  unfold cGuard
  cases hg : o.guard with
  | none => rfl
  | some p =>
    obtain ⟨j, want⟩ := p
    simp only
    cases ht : (ops[j]?).bind (·.dst) with
    | none => rfl
    | some t => simp only [h t (by simp [Oper.looksAt, hg, ht])]

/-- The places of the temporaries hold what they must. -/
structure Slots (C : Nat → AVal → Prop) (vm names : List Nat) (vs ts : List AVal) : Prop where
  vars : ∀ i t, vm[i]? = some t → C t (lget vs i)
  tmps : ∀ i t, names[i]? = some t → C t (lget ts i)
  len : vm.length ≤ vs.length
theorem Slots.mono {C C' : Nat → AVal → Prop} (h : ∀ t X, C t X → C' t X) (s : Slots C vm names vs ts) : Slots C' vm names vs ts :=
  ⟨fun i t ht => h _ _ (s.vars i t ht), fun i t ht => h _ _ (s.tmps i t ht), s.len⟩
theorem Slots.get {C : Nat → AVal → Prop} (s : Slots C vm names vs ts) {t : Nat} {y : Opd} (h : cOpd vm names (.tmp t) = some y) : C t (y.get vs ts) := by
  simp only [cOpd] at h
  split at h
  · rename_i i hi
    simp at h; subst h
    obtain ⟨k, hk, hl⟩ := findT_some hi
    have : i = k := by omega
    subst this
    exact s.tmps i t hl
  · split at h
    · rename_i i hi
      simp at h; subst h
      obtain ⟨k, hk, hl⟩ := findT_some hi
      have : i = k := by omega
      subst this
      exact s.vars i t hl
    · cases h

theorem findT_shift (t : Nat) : ∀ (l : List Nat) (i : Nat), findT t l (i + 1) = (findT t l i).map (· + 1)
  | [], _ => rfl
  | u :: l, i => by
    simp only [findT]
    split
    · rfl
    · exact findT_shift t l (i + 1)

theorem cOper_parts {o : Oper} {d : DO} {names' : List Nat} (h : cOper P vm N ops names o = some (d, names')) : cOp P (cOpd vm names) o.op = some d.op ∧ cGuard (cOpd vm names) ops o = some d.guard := by
  unfold cOper at h
  split at h
  · rename_i di g h1 h2
    split at h
    · simp at h
      obtain ⟨rfl, rfl⟩ := h
      exact ⟨h1, h2⟩
    · split at h
      · split at h <;> split at h <;> simp at h <;> obtain ⟨rfl, rfl⟩ := h <;> exact ⟨h1, h2⟩
      · cases h
  · cases h

/-- The value is laid where it belongs. -/
theorem sink_slots {C C' : Nat → AVal → Prop} (hvm : vm.Nodup) (s : Slots C vm names vs ts) {o : Oper} {d : DO} {names' : List Nat} (h : cOper P vm N ops names o = some (d, names')) {x : AVal} {K : List AVal → List AVal → R} (hs : A.holds (sink d.dst vs ts x K))
    (h1 : ∀ t, o.dst = some t → t < N → C' t x) (h2 : ∀ t X, o.dst ≠ some t → C t X → C' t X) :
    ∃ vs' ts', A.holds (K vs' ts') ∧ Slots C' vm names' vs' ts' ∧ lget vs' vm.length = lget vs vm.length ∧ (∀ t, o.dst ≠ some t → fcl (cOpd vm names') vs' ts' (.tmp t) = fcl (cOpd vm names) vs ts (.tmp t)) ∧ (∀ t, o.dst = some t → t < N) := by
  unfold cOper at h
  split at h
  · rename_i di g g1 g2
    split at h
    · rename_i hd
      simp at h
      obtain ⟨rfl, rfl⟩ := h
      simp only [sink] at hs
      exact ⟨vs, ts, hs, s.mono fun t X => h2 t X (by rw [hd]; simp), rfl, fun _ _ => rfl, fun t ht => by rw [hd] at ht; cases ht⟩
    · rename_i t hd
      split at h
      · rename_i ht
        have hlt : ∀ u, o.dst = some u → u < N := fun u hu => by rw [hd] at hu; cases hu; exact ht
        split at h
        · rename_i i hi
          split at h
          · cases h
          · rename_i hc
            simp at h
            obtain ⟨rfl, rfl⟩ := h
            simp only [sink, fL_eq] at hs
            obtain ⟨k, hk, hvk⟩ := findT_some hi
            simp at hk
            subst hk
            have hil : i < vm.length := (List.getElem?_eq_some_iff.1 hvk).1
            have hlen := s.len
            refine ⟨_, _, hs, ⟨fun j u hj => ?_, fun j u hj => ?_, by rw [lset_eq, List.length_set]; exact hlen⟩, ?_, fun u hu => ?_, hlt⟩
            · rw [lget_eq, lset_eq, List.getElem?_set]
              by_cases hij : i = j
              · subst hij
                rw [hvk] at hj
                simp at hj
                subst hj
                rw [if_pos rfl, if_pos (by omega)]
                exact h1 t hd ht
              · have hne : u ≠ t := fun he => by
                  subst he
                  have q1 := List.getElem?_eq_some_iff.1 hvk
                  have q2 := List.getElem?_eq_some_iff.1 hj
                  exact hij (List.getElem_inj hvm |>.1 (q1.2.trans q2.2.symm))
                rw [if_neg hij, ← lget_eq]
                exact h2 u _ (by rw [hd]; simpa using Ne.symm hne) (s.vars j u hj)
            · have hne : u ≠ t := fun he => by
                subst he
                exact hc (by simpa using List.mem_of_getElem? hj)
              exact h2 u _ (by rw [hd]; simpa using Ne.symm hne) (s.tmps j u hj)
            · rw [lget_eq, lset_eq, List.getElem?_set, if_neg (by omega), ← lget_eq]
            · have hne : t ≠ u := fun he => hu (by rw [hd, he])
              simp only [fcl, cOpd]
              cases hf : findT u names 0 with
              | some j => rfl
              | none =>
                simp only
                cases hf2 : findT u vm 0 with
                | none => rfl
                | some j =>
                  simp only [Option.map_some, Opd.cl, Opd.get]
                  obtain ⟨k, hk, hl⟩ := findT_some hf2
                  simp at hk
                  subst hk
                  have hij : i ≠ j := fun he => by
                    subst he
                    rw [hvk] at hl
                    simp at hl
                    exact hne hl
                  rw [lget_eq, lset_eq, List.getElem?_set, if_neg hij, ← lget_eq]
        · rename_i hi
          split at h
          · cases h
          · rename_i hc
            simp at h
            obtain ⟨rfl, rfl⟩ := h
            simp only [sink] at hs
            have hv := findT_none hi
            refine ⟨_, _, hs, ⟨fun j u hj => ?_, fun j u hj => ?_, s.len⟩, rfl, fun u hu => ?_, hlt⟩
            · have hne : u ≠ t := fun he => by
                subst he
                exact hv (List.mem_of_getElem? hj)
              exact h2 u _ (by rw [hd]; simpa using Ne.symm hne) (s.vars j u hj)
            · cases j with
              | zero =>
                simp at hj
                subst hj
                exact h1 t hd ht
              | succ j =>
                have hj' : names[j]? = some u := by simpa using hj
                have hne : u ≠ t := fun he => by
                  subst he
                  exact hc (by simpa using List.mem_of_getElem? hj')
                exact h2 u _ (by rw [hd]; simpa using Ne.symm hne) (s.tmps j u hj')
            · have hne : t ≠ u := fun he => hu (by rw [hd, he])
              have hb : (t == u) = false := by simpa using hne
              simp only [fcl, cOpd, findT, hb, Bool.false_eq_true, if_false, Nat.zero_add]
              rw [show (1 : Nat) = 0 + 1 from rfl, findT_shift]
              cases hf : findT u names 0 with
              | some j => simp [Opd.cl, Opd.get, lget]
              | none =>
                simp only [Option.map_none]
                cases hf2 : findT u vm 0 with
                | none => rfl
                | some j => rfl
      · cases h
  · cases h

theorem evOps_yes {d : DO} {ds : List DO} {K : List AVal → List AVal → Heap → R} (hw : gsays vs ts d.guard = true) :
    evOps A call (d :: ds) vs ts H K = evI A call d.op vs ts H fun v H => sink d.dst vs ts v fun vs ts => evOps A call ds vs ts H K := by
  obtain ⟨dst, op, guard⟩ := d
  cases guard with
  | none => rfl
  | some p =>
    obtain ⟨x, want⟩ := p
    simp only [gsays] at hw
    simp only [evOps]
    split
    · rfl
    · rename_i h
      exact absurd (h.symm.trans hw) (by simp)
theorem evOps_no {d : DO} {ds : List DO} {K : List AVal → List AVal → Heap → R} (hw : gsays vs ts d.guard = false) :
    evOps A call (d :: ds) vs ts H K = sink d.dst vs ts (.tup []) fun vs ts => evOps A call ds vs ts H K := by
  obtain ⟨dst, op, guard⟩ := d
  cases guard with
  | none => simp [gsays] at hw
  | some p =>
    obtain ⟨x, want⟩ := p
    simp only [gsays] at hw
    simp only [evOps]
    split
    · rename_i h
      exact absurd (h.symm.trans hw) (by simp)
    · rfl

/-- The widest fence, for frames of functions and of rounds. -/
def fw (r : Option Nat) : Fence := { Fence.wide with round := r }

/-- How an operation is done, or passed over. -/
def Does (P : Program) (ops : Array Oper) (o : Oper) (a : Act) (w : World) (Q : Value → World → Prop) : Prop :=
  (Region.wanted o (yielded ops a.tmps) = true ∧ Out P (execOp a.eval o) w Q) ∨ (Region.wanted o (yielded ops a.tmps) = false ∧ Q undef w)

theorem callsIn_fw {r : Option Nat} {n : Nat} {f : FuncId} {args : Array Value} {Q : Ending → World → Prop} : CallsIn (fw r) n P f args w Q ↔ Calls P f args w Q := callsIn_wide (n := n)
theorem roundIn_fw {r : Option Nat} {n m l : Nat} {f : FuncId} {tmps : Array Value} {x y : Code} {Q : Ending → World → Prop} (h : RoundIn Fence.wide m P l f tmps x y w Q) : RoundIn (fw r) n P l f tmps x y w Q :=
  ⟨trivial, fun c cs _ => h.2 c cs (room_wide _)⟩

theorem Does.wpOpIn {r : Option Nat} {n i : Nat} {o : Oper} (ho : ops[i]? = some o) (hnd : ∀ c, o.op ≠ .defer c) {Q : Exit → Act → World → Prop} {K : Act → World → Prop} {QQ : Value → World → Prop} (h : Does P ops o a w QQ) (hk : ∀ v w', QQ v w' → K (a.put o.dst v) w') : wpOpIn (fw r) n P ops Q i K a w := by
  unfold Go.wpOpIn
  simp only [ho]
  rcases h with ⟨h1, h2⟩ | ⟨h1, h2⟩
  · rw [if_pos h1]
    refine ⟨fun _ _ => trivial, ?_⟩
    rw [Oper.semAt_eq _ _ _ hnd]
    unfold Out at h2
    split at h2 <;> rename_i hrun
    · rw [hrun]; exact hk _ _ h2
    · rw [hrun]; exact hk _ _ h2
    · rw [hrun]
      refine ⟨fun hd => by simp [fw, Fence.wide] at hd, callsIn_fw.2 (Calls.mono h2 fun e w'' he => ?_)⟩
      obtain ⟨v, rfl, hv⟩ := he
      exact hk _ _ hv
    · rw [hrun]
      refine ⟨fun hd => by simp [fw, Fence.wide] at hd, roundIn_fw (RoundIn.mono h2 fun e w'' he => ?_)⟩
      obtain ⟨v, rfl, hv⟩ := he
      exact hk _ _ hv
    · exact h2.elim
  · rw [if_neg (by rw [h1]; simp)]
    exact ⟨fun _ _ => trivial, hk _ _ h2⟩
end step
end Dt

namespace Dt
open Go Go.RowKit
set_option linter.all false
variable [LoopTab]
/-! ### A region that draws an order -/
section orders
variable {ops : Array Oper}

def Edge (ops : Array Oper) (x i : Nat) : Prop := ∃ o e, ops[i]? = some o ∧ e ∈ o.after ∧ Region.binds .any e = true ∧ e.on = x
inductive Anc (ops : Array Oper) (x : Nat) : Nat → Prop
  | one {i : Nat} (h : Edge ops x i) : Anc ops x i
  | more {y i : Nat} (h : Edge ops y i) (h2 : Anc ops x y) : Anc ops x i
def KnownOk (ops : Array Oper) (known : List (Nat × Nat)) : Prop := ∀ p ∈ known, ∀ x, p.2.testBit x = true → Anc ops x p.1

theorem maskOf_sound : ∀ {known : List (Nat × Nat)}, KnownOk ops known → ∀ {j x : Nat}, (maskOf known j).testBit x = true → Anc ops x j
  | [], _, j, x, h => by simp [maskOf] at h
  | (i, m) :: l, hk, j, x, h => by
    simp only [maskOf] at h
    split at h
    · rename_i hij
      have : i = j := by simpa using hij
      subst this
      exact hk (i, m) (by simp) x h
    · exact maskOf_sound (fun p hp => hk p (by simp [hp])) h

theorem ancMask_sound {known : List (Nat × Nat)} (hk : KnownOk ops known) {i x : Nat} (h : (ancMask ops known i).testBit x = true) : Anc ops x i := by
  unfold ancMask at h
  cases ho : ops[i]? with
  | none => rw [ho] at h; simp at h
  | some o =>
    rw [ho] at h
    simp only at h
    have key : ∀ (l : List Go.Edge) (m : Nat), (∀ e ∈ l, e ∈ o.after) → (m.testBit x = true → Anc ops x i) →
        (l.foldl (fun m e => if Region.binds .any e then (m ||| 2 ^ e.on) ||| maskOf known e.on else m) m).testBit x = true → Anc ops x i := by
      intro l
      induction l with
      | nil => intro m _ hm h; exact hm h
      | cons e l ih =>
        intro m hl hm h
        simp only [List.foldl_cons] at h
        refine ih _ (fun e' he' => hl e' (by simp [he'])) ?_ h
        intro hb
        split at hb
        · rename_i hbind
          have hedge : Edge ops e.on i := ⟨o, e, ho, hl e (by simp), hbind, rfl⟩
          rw [Nat.testBit_or, Nat.testBit_or] at hb
          simp only [Bool.or_eq_true] at hb
          rcases hb with (hb | hb) | hb
          · exact hm hb
          · have : e.on = x := by
              rw [Nat.testBit_two_pow] at hb
              simpa using hb
            exact this ▸ .one hedge
          · exact .more hedge (maskOf_sound hk hb)
        · exact hm hb
    exact key _ 0 (fun e he => by simpa using he) (by simp) h

/-- Each temporary is written once; who looks at it waits for its writer, or its writer for him. -/
def Ssa (ops : Array Oper) : Prop := ∀ (i x : Nat) (oi ox : Oper) (d : Nat), ops[i]? = some oi → ops[x]? = some ox → oi.dst = some d →
  (i ≠ x → ox.dst ≠ some d) ∧ (d ∈ ox.looksAt ops → Anc ops i x ∨ (kindAt ops i = 2 ∧ Anc ops x i))

def OpGood (ops : Array Oper) (seen ag : List Nat) (i : Nat) : Prop :=
  (∃ o, ops[i]? = some o) ∧ i ∉ seen ∧ (∀ x, Edge ops x i → x ∈ seen) ∧ (kindAt ops i = 2 → ∀ x ∈ seen, kindAt ops x = 1 → Anc ops x i ∨ x ∈ ag)
/-- What a list of a region's operations must be. -/
def Good (ops : Array Oper) : List Nat → List It → Prop
  | seen, [] => ∀ i, i < ops.size → i ∈ seen
  | seen, .op i :: l => OpGood ops seen (againsOf l) i ∧ (kindAt ops i = 2 → ∀ j ∈ opsOf l, Anc ops i j) ∧ Good ops (i :: seen) l
  | seen, .again i :: l => (i ∈ seen ∧ kindAt ops i = 1) ∧ Good ops seen l
  | seen, .kill i :: l => i ∈ seen ∧ allKills l = true ∧ Good ops seen l
  | seen, .two i j :: l => OpGood ops seen [] i ∧ OpGood ops seen [] j ∧ i ≠ j ∧ kindAt ops i = 2 ∧ kindAt ops j = 2 ∧ allKills l = true ∧ Good ops (i :: j :: seen) l

theorem allKills_ops : ∀ {l : List It}, allKills l = true → opsOf l = [] ∧ againsOf l = []
  | [], _ => ⟨rfl, rfl⟩
  | .kill i :: l, h => ⟨(allKills_ops (l := l) h).1, rfl⟩
  | .op _ :: _, h => by simp [allKills] at h
  | .again _ :: _, h => by simp [allKills] at h
  | .two _ _ :: _, h => by simp [allKills] at h
theorem Good.congr {l : List It} : ∀ {s t : List Nat}, allKills l = true → (∀ x, x ∈ s ↔ x ∈ t) → Good ops s l → Good ops t l := by
  induction l with
  | nil => intro s t _ h hg i hi; exact (h i).1 (hg i hi)
  | cons x l ih =>
    intro s t hk h hg
    cases x with
    | kill i => exact ⟨(h i).1 hg.1, hg.2.1, ih hg.2.1 h hg.2.2⟩
    | op i => simp [allKills] at hk
    | again i => simp [allKills] at hk
    | two i j => simp [allKills] at hk

theorem opOk_good {known : List (Nat × Nat)} (hk : KnownOk ops known) {ag : List Nat} {i : Nat} (h : opOk ops known ag i = true) :
    OpGood ops (known.map (·.1)) ag i ∧ (∀ p ∈ known, kindAt ops p.1 = 2 → Anc ops p.1 i) ∧ (∀ x, (ancMask ops known i).testBit x = true → Anc ops x i) := by
  unfold opOk at h
  cases ho : ops[i]? with
  | none => rw [ho] at h; cases h
  | some o =>
    rw [ho] at h
    simp only [Bool.and_eq_true] at h
    obtain ⟨⟨⟨h1, h2⟩, h4⟩, h5⟩ := h
    have hm : ∀ x, (ancMask ops known i).testBit x = true → Anc ops x i := fun x hx => ancMask_sound hk hx
    refine ⟨⟨⟨o, ho⟩, ?_, ?_, ?_⟩, ?_, hm⟩
    · intro hmem
      obtain ⟨p, hp, rfl⟩ := List.mem_map.1 hmem
      have : (known.any fun q => q.1 == p.1) = true := List.any_eq_true.2 ⟨p, hp, by simp⟩
      rw [this] at h1
      cases h1
    · rintro x ⟨o', e, ho', he, hb, rfl⟩
      rw [ho] at ho'
      simp at ho'
      subst ho'
      have := List.all_eq_true.1 h2 e (by simpa using he)
      rw [hb] at this
      simp only [Bool.not_true, Bool.false_or, List.any_eq_true, beq_iff_eq] at this
      obtain ⟨p, hp, hpe⟩ := this
      exact hpe ▸ List.mem_map_of_mem hp
    · intro hki x hx hkx
      obtain ⟨p, hp, rfl⟩ := List.mem_map.1 hx
      rw [hki] at h5
      simp only [bne_self_eq_false, Bool.false_or] at h5
      have := List.all_eq_true.1 h5 p hp
      rw [hkx] at this
      simp only [bne_self_eq_false, Bool.false_or, Bool.or_eq_true] at this
      exact this.imp (hm _) (fun h => by simpa using h)
    · intro p hp hkp
      have := List.all_eq_true.1 h4 p hp
      rw [hkp] at this
      simp only [bne_self_eq_false, Bool.false_or] at this
      exact hm _ this

theorem ssaOk_ssa {known : List (Nat × Nat)} (hk : KnownOk ops known) (hall : ∀ i, i < ops.size → ∃ p ∈ known, p.1 = i) (h : ssaOk ops known = true) : Ssa ops := by
  intro i x oi ox d hi hx hd
  obtain ⟨p, hp, rfl⟩ := hall i (Array.getElem?_eq_some_iff.1 hi).1
  obtain ⟨q, hq, rfl⟩ := hall x (Array.getElem?_eq_some_iff.1 hx).1
  have := List.all_eq_true.1 (List.all_eq_true.1 h p hp) q hq
  rw [hi, hx] at this
  simp only [hd, Bool.and_eq_true, Bool.or_eq_true] at this
  obtain ⟨h1, h2⟩ := this
  refine ⟨fun hne he => ?_, fun hl => ?_⟩
  · rcases h1 with h1 | h1
    · exact hne (by simpa using h1)
    · simp [he] at h1
  · rcases h2 with (h2 | h2) | h2
    · simp [hl] at h2
    · exact .inl (hk q hq _ h2)
    · exact .inr ⟨by simpa using h2.1, hk p hp _ h2.2⟩

theorem chk_good : ∀ {l : List It} {known : List (Nat × Nat)}, KnownOk ops known → chk ops known l = true → Good ops (known.map (·.1)) l ∧ Ssa ops ∧ ∀ j ∈ opsOf l, ∀ p ∈ known, kindAt ops p.1 = 2 → Anc ops p.1 j
  | [], known, hk, h => by
    simp only [chk, Bool.and_eq_true] at h
    obtain ⟨h1, h2⟩ := h
    have hall : ∀ i, i < ops.size → ∃ p ∈ known, p.1 = i := by
      intro i hi
      simp only [List.all_eq_true, List.mem_range, List.any_eq_true, beq_iff_eq] at h1
      exact h1 i hi
    refine ⟨fun i hi => ?_, ssaOk_ssa hk hall h2, by simp [opsOf]⟩
    obtain ⟨p, hp, rfl⟩ := hall i hi
    exact List.mem_map_of_mem hp
  | .op i :: l, known, hk, h => by
    simp only [chk, Bool.and_eq_true] at h
    obtain ⟨h1, h2⟩ := h
    obtain ⟨g1, g2, hm⟩ := opOk_good hk h1
    obtain ⟨q1, q2, q3⟩ := chk_good (known := (i, ancMask ops known i) :: known) (fun p hp x hx => by
      rcases List.mem_cons.1 hp with rfl | hp
      · exact hm _ hx
      · exact hk p hp x hx) h2
    refine ⟨⟨g1, fun hki j hj => q3 j hj (i, ancMask ops known i) (by simp) hki, q1⟩, q2, fun j hj p hp hkp => ?_⟩
    simp only [opsOf, List.mem_cons] at hj
    rcases hj with rfl | hj
    · exact g2 p hp hkp
    · exact q3 j hj p (by simp [hp]) hkp
  | .again i :: l, known, hk, h => by
    simp only [chk, Bool.and_eq_true] at h
    obtain ⟨h1, h2⟩ := h
    obtain ⟨q1, q2, q3⟩ := chk_good hk h2
    simp only [List.any_eq_true, Bool.and_eq_true, beq_iff_eq] at h1
    obtain ⟨p, hp, he, hki⟩ := h1
    exact ⟨⟨⟨he ▸ List.mem_map_of_mem hp, hki⟩, q1⟩, q2, q3⟩
  | .kill i :: l, known, hk, h => by
    simp only [chk, Bool.and_eq_true] at h
    obtain ⟨h1, h2, h3⟩ := h
    obtain ⟨q1, q2, q3⟩ := chk_good hk h3
    simp only [List.any_eq_true, beq_iff_eq] at h1
    obtain ⟨p, hp, he⟩ := h1
    exact ⟨⟨he ▸ List.mem_map_of_mem hp, h2, q1⟩, q2, q3⟩
  | .two i j :: l, known, hk, h => by
    simp only [chk, Bool.and_eq_true, beq_iff_eq, bne_iff_ne, ne_eq] at h
    obtain ⟨⟨⟨⟨⟨h1, h2⟩, h3⟩, h4, h5⟩, h6⟩, h7⟩ := h
    obtain ⟨g1, g2, hm⟩ := opOk_good hk h1
    obtain ⟨g1', g2', hm'⟩ := opOk_good hk h2
    obtain ⟨q1, q2, q3⟩ := chk_good (known := (i, ancMask ops known i) :: (j, ancMask ops known j) :: known) (fun p hp x hx => by
      rcases List.mem_cons.1 hp with rfl | hp
      · exact hm _ hx
      · rcases List.mem_cons.1 hp with rfl | hp
        · exact hm' _ hx
        · exact hk p hp x hx) h7
    refine ⟨⟨g1, g1', h3, h4, h5, h6, q1⟩, q2, fun y hy p hp hkp => ?_⟩
    simp only [opsOf, List.mem_cons] at hy
    rcases hy with rfl | rfl | hy
    · exact g2 p hp hkp
    · exact g2' p hp hkp
    · rw [(allKills_ops h6).1] at hy; cases hy
end orders
end Dt

namespace Dt
open Go Go.RowKit
set_option linter.all false
variable [LoopTab]
/-! ### What has been reckoned and is yet to be done -/
section pending
variable {R : Type} {A : Alg R} {P : Program} {call : Nat → List AVal → Heap → (AVal → Heap → R) → R} {ops : Array Oper} {vm names names' : List Nat} {N : Nat} {vs ts vs' ts' : List AVal} {ρ ρ' : Env} {H H' : Heap} {w : World} {a : Act}

/-- A value that is reckoned; its operation is yet to be done. -/
inductive PendOk (P : Program) (ops : Array Oper) (fc : Operand → Option Opd) (H : Heap) (ρ : Env) (lo : Nat) (own : Nat → Option Nat) (i : Nat) (o : Oper) (x : AVal) : Prop
  | off {g : Option (Opd × Bool)} (hg : cGuard fc ops o = some g) (hs : gsays [] [] g = false) (hx : x = .tup [])
  | quiet {g : Option (Opd × Bool)} {di : DI} (hg : cGuard fc ops o = some g) (hs : gsays [] [] g = true) (hk : (rawKind o.op = 0 ∧ tame P o = true ∧ cold di = true) ∨ (rawKind o.op = 1 ∧ warm di = true)) (hc : cOp P fc o.op = some di) (hq : evQ di [] [] H = some x)
  | fresh {g : Option (Opd × Bool)} {di : DI} {B : Blk} {gg : Nat → AVal} {n : Nat} (hg : cGuard fc ops o = some g) (hs : gsays [] [] g = true) (hk : rawKind o.op = 3) (hc : cOp P fc o.op = some di) (hf : freshB di [] [] = some (B, gg)) (hx : x = gg n) (hb : H.get n = B) (hn : ρ n = none) (h1 : lo ≤ n) (h2 : n < H.next) (ho : own n = some i)

theorem PendOk.congr {fc fc' : Operand → Option Opd} {lo : Nat} {own : Nat → Option Nat} {i : Nat} {o : Oper} {x : AVal} (h : PendOk P ops fc H ρ lo own i o x) (h1 : ∀ y ∈ o.op.operands.toList, fc y = fc' y) (h2 : ∀ t ∈ o.looksAt ops, fc (.tmp t) = fc' (.tmp t)) : PendOk P ops fc' H ρ lo own i o x := by
  have e1 := cOp_congr (P := P) h1
  have e2 := cGuard_congr h2
  cases h with
  | off hg hs hx => exact .off (e2 ▸ hg) hs hx
  | quiet hg hs hk hc hq => exact .quiet (e2 ▸ hg) hs hk (e1 ▸ hc) hq
  | fresh hg hs hk hc hf hx hb hn h1 h2 ho => exact .fresh (e2 ▸ hg) hs hk (e1 ▸ hc) hf hx hb hn h1 h2 ho

theorem PendOk.heap {fc : Operand → Option Opd} {lo : Nat} {own own' : Nat → Option Nat} {i : Nat} {o : Oper} {x : AVal} (h : PendOk P ops fc H ρ lo own i o x)
    (hw : ∀ g di, rawKind o.op = 1 → cGuard fc ops o = some g → gsays [] [] g = true → cOp P fc o.op = some di → warm di = true → evQ di [] [] H = some x → evQ di [] [] H' = some x)
    (hn : H.next ≤ H'.next) (hfr : ∀ n, n < H.next → ρ n = none → own n = some i → H'.get n = H.get n ∧ ρ' n = none ∧ own' n = own n) : PendOk P ops fc H' ρ' lo own' i o x := by
  cases h with
  | off hg hs hx => exact .off hg hs hx
  | quiet hg hs hk hc hq =>
    rcases hk with ⟨k1, k2, k3⟩ | ⟨k1, k2⟩
    · exact .quiet hg hs (.inl ⟨k1, k2, k3⟩) hc (by rw [evQ_cold k3 H' H]; exact hq)
    · exact .quiet hg hs (.inr ⟨k1, k2⟩) hc (hw _ _ k1 hg hs hc k2 hq)
  | fresh hg hs hk hc hf hx hb hn' h1 h2 ho =>
    obtain ⟨q1, q2, q3⟩ := hfr _ h2 hn' ho
    exact .fresh hg hs hk hc hf hx (q1.trans hb) q2 h1 (Nat.lt_of_lt_of_le h2 hn) (q3.trans ho)

/-- Operands that agree on the temporaries that are looked at agree on all. -/
theorem fcl_agree {o : Oper} (h : ∀ t ∈ o.looksAt ops, fcl (cOpd vm names) vs ts (.tmp t) = fcl (cOpd vm names') vs' ts' (.tmp t)) : ∀ y ∈ o.op.operands.toList, fcl (cOpd vm names) vs ts y = fcl (cOpd vm names') vs' ts' y := by
  intro y hy
  cases y with
  | tmp t => exact h t (by unfold Oper.looksAt; exact List.mem_append_left _ (List.mem_filterMap.2 ⟨.tmp t, hy, rfl⟩))
  | const v =>
    simp only [fcl, cOpd]
    cases cVal v <;> rfl
  | func f => rfl
  | global g => rfl

/-- Operands that an operation does not look at are left out. -/
def fr (f : Operand → Option Opd) (L : List Nat) : Operand → Option Opd
  | .tmp t => if t ∈ L then f (.tmp t) else none
  | x => f x
theorem fr_op {f : Operand → Option Opd} {o : Oper} : cOp P (fr f (o.looksAt ops)) o.op = cOp P f o.op := cOp_congr fun y hy => by
  cases y with
  | tmp t =>
    have : t ∈ o.looksAt ops := by unfold Oper.looksAt; exact List.mem_append_left _ (List.mem_filterMap.2 ⟨.tmp t, hy, rfl⟩)
    simp only [fr, this, if_true]
  | _ => rfl
theorem fr_guard {f : Operand → Option Opd} {o : Oper} : cGuard (fr f (o.looksAt ops)) ops o = cGuard f ops o := cGuard_congr fun t ht => by simp only [fr, ht, if_true]

/-- What a temporary's place holds: the reckoned value, or what the real one is. -/
def SlotOk (pv : Nat → Option AVal) (ρ : Env) (a : Act) (t : Nat) (X : AVal) : Prop := match pv t with
  | some x => X = x
  | none => VRel ρ X (a.tmps.getD t undef)
theorem SlotOk.real {pv : Nat → Option AVal} {t : Nat} {X : AVal} (h : pv t = none) : SlotOk pv ρ a t X ↔ VRel ρ X (a.tmps.getD t undef) := by unfold SlotOk; rw [h]
theorem SlotOk.pend {pv : Nat → Option AVal} {t : Nat} {X x : AVal} (h : pv t = some x) : SlotOk pv ρ a t X ↔ X = x := by unfold SlotOk; rw [h]

theorem hop_slots {pv : Nat → Option AVal} (s : Slots (SlotOk pv ρ a) vm names vs ts) {L : List Nat} (hL : ∀ t ∈ L, pv t = none) : HOp ρ (fr (cOpd vm names) L) vs ts a := by
  intro x y h
  cases x with
  | tmp t =>
    simp only [fr] at h
    split at h
    · rename_i ht
      exact (SlotOk.real (hL t ht)).1 (s.get h)
    · cases h
  | const v =>
    simp only [fr, cOpd, Option.map_eq_some_iff] at h
    obtain ⟨x, hx, rfl⟩ := h
    exact cVal_rel hx
  | func f =>
    simp only [fr, cOpd, Option.some.injEq] at h
    subst h
    exact .fn f .nil .nil
  | global g =>
    simp only [fr, cOpd, Option.some.injEq] at h
    subst h
    exact .gp g 0
theorem hop_cl {f : Operand → Option Opd} {L : List Nat} (h : HOp ρ (fr f L) vs ts a) : HOp ρ (fr (fcl f vs ts) L) [] [] a := by
  intro x y hy

  cases x with
  | tmp t =>
    simp only [fr] at hy
    split at hy
    · rename_i ht
      simp only [fcl, Option.map_eq_some_iff] at hy
      obtain ⟨u, hu, rfl⟩ := hy
      exact h (.tmp t) u (by simp only [fr, ht, if_true]; exact hu)
    · cases hy
  | const v =>
    simp only [fr, fcl, Option.map_eq_some_iff] at hy
    obtain ⟨u, hu, rfl⟩ := hy
    exact h (.const v) u hu
  | func g =>
    simp only [fr, fcl, Option.map_eq_some_iff] at hy
    obtain ⟨u, hu, rfl⟩ := hy
    exact h (.func g) u hu
  | global g =>
    simp only [fr, fcl, Option.map_eq_some_iff] at hy
    obtain ⟨u, hu, rfl⟩ := hy
    exact h (.global g) u hu

/-- A block that was reckoned is really laid. -/
theorem Step.lay {ρ0 : Env} {H0 : Heap} {w0 : World} (s : Step ρ0 H0 w0 ρ H w) {n : Nat} {S : RB} {o : Obj} (h1 : H0.next ≤ n) (h2 : n < H.next) (hn : ρ n = none) (hS : S.blk = w.heap.size) (hB : BRel (ρ.add n S) (w.alloc o) S (H.get n)) :
    Step ρ0 H0 w0 (ρ.add n S) H (w.alloc o) := by
  have hx := Env.add_ext (R := S) hn
  have h := s.rel
  have old : ∀ b T, ρ.add n S b = some T → b ≠ n → ρ b = some T := fun b T e hb => by simpa [Env.add, hb] using e
  have new : ∀ T, ρ.add n S n = some T → T = S := fun T e => by simpa [Env.add] using e.symm
  refine ⟨⟨fun b T e => ?_, fun b b' T T' e e' hd hd' hT => ?_, fun b T e => ?_, h.glob.same fun g hgl => heap_push_old _ _ _ (Nat.lt_of_lt_of_le hgl h.glob.size), fun b T e hwr => ?_, h.top⟩, fun b T e => hx _ _ (s.ext b T e), Nat.le_trans s.size (by simp), s.os, s.tape, s.output, fun r hr hne => ?_, fun b T e hwr => ?_, s.next, s.frameA, fun b T e => ?_, s.keep, s.gl⟩
  · by_cases hb : b = n
    · subst hb
      obtain rfl := new T e
      exact hB
    · have e' := old b T e hb
      exact ((h.blk b T e').same (heap_push_old _ _ _ (h.dom _ _ e').2)).mono hx
  · by_cases hb : b = n <;> by_cases hb' : b' = n
    · rw [hb, hb']
    · subst hb
      obtain rfl := new T e
      have := (h.dom _ _ (old b' T' e' hb')).2
      omega
    · subst hb'
      obtain rfl := new T' e'
      have := (h.dom _ _ (old b T e hb)).2
      omega
    · exact h.inj b b' T T' (old _ _ e hb) (old _ _ e' hb') hd hd' hT
  · by_cases hb : b = n
    · subst hb
      obtain rfl := new T e
      exact ⟨h2, by rw [hS]; simp⟩
    · have := h.dom _ _ (old b T e hb)
      exact ⟨this.1, by simp; omega⟩
  · by_cases hb : b = n
    · subst hb
      obtain rfl := new T e
      rw [hS]
      exact h.glob.size
    · exact h.high _ _ (old b T e hb) hwr
  · rw [heap_push_old _ _ _ (Nat.lt_of_lt_of_le hr s.size)]
    exact s.frame r hr hne
  · by_cases hb : b = n
    · subst hb
      obtain rfl := new T e
      left
      rw [hS]
      exact s.size
    · exact s.range b T (old b T e hb) hwr
  · by_cases hb : b = n
    · subst hb; exact .inr h1
    · exact s.newdom b T (old b T e hb)

/-- A block is reckoned ahead. -/
theorem Step.addA {ρ0 : Env} {H0 : Heap} {w0 : World} (s : Step ρ0 H0 w0 ρ H w) (B : Blk) : Step ρ0 H0 w0 ρ (H.add B) w := by
  have h := s.rel
  have hg : ∀ b, b ≠ H.next → (H.add B).get b = H.get b := fun b hb => by rw [Heap.get_add _ _ _ trivial, if_neg hb]
  have hd : ∀ b T, ρ b = some T → b ≠ H.next := fun b T e => by have := (h.dom _ _ e).1; omega
  refine ⟨⟨fun b T e => ?_, fun b b' T T' e e' x y => ?_, fun b T e => ?_, h.glob, fun b T e hwr => ?_, fun b hb => ?_⟩, s.ext, s.size, s.os, s.tape, s.output, s.frame, fun b T e hwr => ?_, ?_, fun b hb e => ?_, s.newdom, fun b hb => ?_, (Heap.gl_add _ _).trans s.gl⟩
  · rw [hg b (hd b T e)]; exact h.blk b T e
  · rw [hg b (hd b T e)] at x; rw [hg b' (hd b' T' e')] at y; exact h.inj b b' T T' e e' x y
  · have := h.dom _ _ e; exact ⟨by rw [Heap.next_add]; omega, this.2⟩
  · rw [hg b (hd b T e)] at hwr; exact h.high b T e hwr
  · rw [Heap.next_add] at hb; rw [hg b (by omega)]; exact h.top b (by omega)
  · rw [hg b (hd b T e)] at hwr; exact s.range b T e hwr
  · rw [Heap.next_add]; have := s.next; omega
  · have := s.next
    rw [hg b (by omega)]
    exact s.frameA b hb e
  · have hb2 := s.keep b hb
    rw [hg b (fun he => by rw [he, h.top _ (Nat.le_refl _)] at hb2; cases hb2)]
    exact hb2
end pending
end Dt

namespace Dt
open Go Go.RowKit
set_option linter.all false
variable [LoopTab]
/-! ### A read looked at once more -/
section again
variable {R : Type} {A : Alg R} {P : Program} {call : Nat → List AVal → Heap → (AVal → Heap → R) → R} {ops : Array Oper} {vm names names' : List Nat} {N : Nat} {vs ts : List AVal} {H : Heap}

theorem same1_eq {x y : AVal} (h : same1 x y = true) : x = y := by
  unfold same1 at h
  split at h
  · simp only [Bool.and_eq_true, decide_eq_true_eq, ieq_eq] at h
    obtain ⟨rfl, h2⟩ := h
    simp at h2
    rw [h2]
  · simp at h; rw [h]
  · simp only [Bool.and_eq_true, Nat.beq_eq] at h
    rw [h.1, h.2]
  · simp only [Bool.and_eq_true, Nat.beq_eq] at h
    rw [h.1, h.2.1, h.2.2]
  · rfl
  · rfl
  · rfl
  · rfl
  · rfl
  · simp only [Nat.beq_eq] at h
    rw [h]
  · rename_i b r l c z b' r' l' c' z'
    simp only [Bool.and_eq_true, Nat.beq_eq] at h
    obtain ⟨h1, h2, h3, h4, h5⟩ := h
    cases c <;> cases c' <;> simp at h5
    · rw [h1, h2, h3, h4]
    · rw [h1, h2, h3, h4, h5]
  · cases h
theorem sameL_eq : ∀ {x y : List AVal}, sameL x y = true → x = y
  | [], [], _ => rfl
  | x :: l, y :: m, h => by
    simp only [sameL, Bool.and_eq_true] at h
    rw [same1_eq h.1, sameL_eq h.2]
  | [], _ :: _, h => by simp [sameL] at h
  | _ :: _, [], h => by simp [sameL] at h
theorem same_eq {x y : AVal} (h : same x y = true) : x = y := by
  unfold same at h
  split at h
  · rw [sameL_eq h]
  · rw [sameL_eq h]
  · exact same1_eq h

/-- What a read that is looked at once more tells. -/
def Told (P : Program) (ops : Array Oper) (vm names : List Nat) (vs ts : List AVal) (H : Heap) (r : Nat) : Prop :=
  ∃ o t y g, ops[r]? = some o ∧ o.dst = some t ∧ cOpd vm names (.tmp t) = some y ∧ cGuard (cOpd vm names) ops o = some g ∧
    (gsays vs ts g = true → ∃ di, cOp P (cOpd vm names) o.op = some di ∧ evQ di vs ts H = some (y.get vs ts))

theorem step_again {o : Oper} {d : DO} {ds : List DO} (hc : cAgain P vm N ops names o = some d) {K : List AVal → List AVal → Heap → R} (h : A.holds (evOps A call (d :: ds) vs ts H K)) :
    A.holds (evOps A call ds vs ts H K) ∧ ∃ t y g, o.dst = some t ∧ cOpd vm names (.tmp t) = some y ∧ cGuard (cOpd vm names) ops o = some g ∧
    (gsays vs ts g = true → ∃ di, cOp P (cOpd vm names) o.op = some di ∧ evQ di vs ts H = some (y.get vs ts)) := by
  unfold cAgain at hc
  split at hc
  · cases hc
  · rename_i t ht
    split at hc
    · rename_i z g di h1 h2 h3
      have fin : ∀ {dj : DI}, d = ⟨.no, dj, g⟩ → (A.holds (evI A call dj vs ts H fun v H => evOps A call ds vs ts H K) → A.holds (evOps A call ds vs ts H K) ∧ evQ di vs ts H = some (z.get vs ts)) →
          A.holds (evOps A call ds vs ts H K) ∧ ∃ t y g, o.dst = some t ∧ cOpd vm names (.tmp t) = some y ∧ cGuard (cOpd vm names) ops o = some g ∧
            (gsays vs ts g = true → ∃ di, cOp P (cOpd vm names) o.op = some di ∧ evQ di vs ts H = some (y.get vs ts)) := by
        intro dj hd hk
        subst hd
        cases hw : gsays vs ts g with
        | false =>
          rw [evOps_no hw] at h
          simp only [sink] at h
          exact ⟨h, t, z, g, ht, h1, h2, fun hh => by rw [hw] at hh; cases hh⟩
        | true =>
          rw [evOps_yes hw] at h
          simp only [sink] at h
          obtain ⟨k1, k2⟩ := hk h
          exact ⟨k1, t, z, g, ht, h1, h2, fun _ => ⟨di, h3, k2⟩⟩
      split at hc
      · rename_i y
        simp at hc
        refine fin hc.symm fun hh => ?_
        simp only [evI, evQ, AO] at hh ⊢
        generalize y.get vs ts = Y at hh ⊢
        cases Y <;> try exact (A.fail_no hh).elim
        · rename_i b r c
          simp only at hh ⊢
          cases hb : H.get b with
          | rows zz l =>
            rw [hb] at hh
            simp only at hh ⊢
            cases hr : rget l r with
            | none => rw [hr] at hh; exact (A.fail_no hh).elim
            | some row =>
              rw [hr] at hh
              simp only at hh ⊢
              split at hh
              · rename_i v q hq
                split at hh
                · rename_i hs
                  exact ⟨hh, by simp only [same_eq hs]⟩
                · exact (A.fail_no hh).elim
              · exact (A.fail_no hh).elim
          | _ => rw [hb] at hh; exact (A.fail_no hh).elim
        · simp only at hh ⊢
          split at hh
          · rename_i v q hq
            split at hh
            · rename_i hs
              exact ⟨hh, by simp only [same_eq hs]⟩
            · exact (A.fail_no hh).elim
          · exact (A.fail_no hh).elim
      · rename_i n y
        simp at hc
        refine fin hc.symm fun hh => ?_
        simp only [evI, evQ, AO, fL_eq] at hh ⊢
        generalize y.get vs ts = Y at hh ⊢
        cases Y <;> try exact (A.fail_no hh).elim
        · rename_i b r c
          simp only at hh ⊢
          cases hb : H.get b with
          | rows zz l =>
            rw [hb] at hh
            simp only at hh ⊢
            cases hr : rget l r with
            | none => rw [hr] at hh; exact (A.fail_no hh).elim
            | some row =>
              rw [hr] at hh
              simp only at hh ⊢
              cases hq : cut row c n with
              | none => rw [hq] at hh; exact (A.fail_no hh).elim
              | some cs =>
                rw [hq] at hh
                simp only at hh ⊢
                split at hh
                · rename_i hs
                  exact ⟨hh, by rw [same_eq hs]⟩
                · exact (A.fail_no hh).elim
          | _ => rw [hb] at hh; exact (A.fail_no hh).elim
        · rename_i g' c
          simp only at hh ⊢
          cases hq : gcut H.gl g' c n with
          | none => rw [hq] at hh; exact (A.fail_no hh).elim
          | some cs =>
            rw [hq] at hh
            simp only at hh ⊢
            split at hh
            · rename_i hs
              exact ⟨hh, by rw [same_eq hs]⟩
            · exact (A.fail_no hh).elim
      · rename_i zero kk ok x k
        simp at hc
        refine fin hc.symm fun hh => ?_
        simp only [evI, evQ, AO] at hh ⊢
        cases hm : mapOf H (x.get vs ts) with
        | none => rw [hm] at hh; exact (A.fail_no hh).elim
        | some l =>
          rw [hm] at hh
          simp only at hh ⊢
          cases hf : mfind kk (k.get vs ts) l 0 with
          | none => rw [hf] at hh; exact (A.fail_no hh).elim
          | some r =>
            rw [hf] at hh
            simp only at hh
            split at hh
            · rename_i hs
              have := same_eq hs
              refine ⟨hh, ?_⟩
              rw [← this]
              cases r <;> cases ok <;> rfl
            · exact (A.fail_no hh).elim
      · cases hc
    · cases hc

theorem told_all : ∀ {items : List It} {ds : List DO} {K : List AVal → List AVal → Heap → R}, cOrd P vm N ops names items = some (ds, names') → A.holds (evOps A call ds vs ts H K) → ∀ r ∈ againsOf items, Told P ops vm names vs ts H r
  | [], _, _, _, _, r, hr => by simp [againsOf] at hr
  | .op i :: _, _, _, _, _, r, hr => by simp [againsOf] at hr
  | .two _ _ :: _, _, _, _, _, r, hr => by simp [againsOf] at hr
  | .kill _ :: _, _, _, _, _, r, hr => by simp [againsOf] at hr
  | .again i :: items, ds, K, hc, hh, r, hr => by
    simp only [cOrd] at hc
    cases ho : ops[i]? with
    | none => rw [ho] at hc; cases hc
    | some o =>
      rw [ho] at hc
      simp only at hc
      cases hca : cAgain P vm N ops names o with
      | none => rw [hca] at hc; cases hc
      | some d =>
        rw [hca] at hc
        cases hcl : cOrd P vm N ops names items with
        | none => rw [hcl] at hc; cases hc
        | some q =>
          obtain ⟨ds1, names2⟩ := q
          rw [hcl] at hc
          simp at hc
          obtain ⟨hc1, hc2⟩ := hc
          subst hc1
          rw [hc2] at hcl
          obtain ⟨h1, t, y, g, h2, h3, h4, h5⟩ := step_again hca hh
          simp only [againsOf, List.mem_cons] at hr
          rcases hr with rfl | hr
          · exact ⟨o, t, y, g, ho, h2, h3, h4, h5⟩
          · exact told_all hcl h1 r hr
end again
end Dt

namespace Dt
open Go Go.RowKit
set_option linter.all false
variable [LoopTab]
/-! ### Any order -/
section any
variable {R : Type} {A : Alg R} {P : Program} {call : Nat → List AVal → Heap → (AVal → Heap → R) → R} {vm : List Nat} {N : Nat} {ops : Array Oper} {K : List AVal → List AVal → Heap → R} {names' : List Nat} {ρ0 : Env} {H0 : Heap} {w0 : World}

def opsCount : List It → Nat
  | [] => 0
  | .op _ :: l => opsCount l + 1
  | .two _ _ :: l => opsCount l + 2
  | _ :: l => opsCount l

/-- Where a region stands: 'listed' has been done; 'Pd' has been reckoned and is yet to be done; 'items' are yet to be reckoned. -/
structure State (P : Program) (A : Alg R) (call : Nat → List AVal → Heap → (AVal → Heap → R) → R) (vm : List Nat) (N : Nat) (ops : Array Oper) (K : List AVal → List AVal → Heap → R) (names' : List Nat) (ρ0 : Env) (H0 : Heap) (w0 : World)
    (listed : Array Bool) (a : Act) (w : World) (Pd seen : List Nat) (items : List It) (names : List Nat) (vs ts : List AVal) (ds : List DO) (H : Heap) (ρ : Env) (pv : Nat → Option AVal) (own : Nat → Option Nat) : Prop where
  size : listed.size = ops.size
  closed : ∀ i x, Edge ops x i → listed.getD i false = true → listed.getD x false = true
  done : ∀ i, i < ops.size → (listed.getD i false = true ↔ i ∈ seen ∧ i ∉ Pd)
  inside : ∀ i ∈ seen, i < ops.size
  sub : ∀ i ∈ Pd, i ∈ seen
  nodup : Pd.Nodup
  order : Pd.Pairwise fun x y => ¬ Edge ops x y
  irr : ∀ x ∈ Pd, ¬ Edge ops x x
  seenClosed : ∀ i ∈ seen, ∀ x, Edge ops x i → x ∈ seen
  pend : ∀ i ∈ Pd, ∃ o x, ops[i]? = some o ∧ kindAt ops i ≠ 2 ∧ PendOk P ops (fcl (cOpd vm names) vs ts) H ρ H0.next own i o x ∧ ∀ t, o.dst = some t → pv t = some x ∧ t < N
  pvw : ∀ t x, pv t = some x → ∃ i ∈ Pd, ∃ o, ops[i]? = some o ∧ o.dst = some t
  slots : Slots (SlotOk pv ρ a) vm names vs ts
  asize : N ≤ a.tmps.size
  dfr : DVal ρ (lget vs vm.length) a.defers
  comp : cOrd P vm N ops names items = some (ds, names')
  holds : A.holds (evOps A call ds vs ts H K)
  step : Step ρ0 H0 w0 ρ H w

theorem anc_listed {listed : Array Bool} (hc : ∀ i x, Edge ops x i → listed.getD i false = true → listed.getD x false = true) {x i : Nat} (h : Anc ops x i) (hi : ∀ y, Edge ops y i → listed.getD y false = true) : listed.getD x false = true := by
  induction h with
  | one h => exact hi _ h
  | more h _ ih => exact ih fun y hy => hc _ _ hy (hi _ h)
theorem anc_seen {seen : List Nat} (hc : ∀ i ∈ seen, ∀ x, Edge ops x i → x ∈ seen) {x i : Nat} (h : Anc ops x i) (hi : ∀ y, Edge ops y i → y ∈ seen) : x ∈ seen := by
  induction h with
  | one h => exact hi _ h
  | more h _ ih => exact ih fun y hy => hc _ (hi _ h) y hy
theorem kind_raw {i : Nat} {o : Oper} (ho : ops[i]? = some o) (h : kindAt ops i ≠ 2) : rawKind o.op = kindAt ops i := by
  unfold kindAt at *
  rw [ho] at *
  simp only at *
  split
  · rename_i hh
    rw [if_pos hh] at h
    exact absurd rfl h
  · rfl
theorem raw_kinds (op : Op) : rawKind op = 0 ∨ rawKind op = 1 ∨ rawKind op = 2 ∨ rawKind op = 3 := by
  unfold rawKind
  split <;> simp
theorem cDefer_none {f : Operand → Option Opd} {n : Nat} {o : Oper} (h : ∀ c, o.op ≠ .defer c) : cDefer f n o = none := by
  unfold cDefer
  split
  · rename_i c hc
    exact absurd hc (h c)
  · rfl

variable {listed : Array Bool} {a : Act} {w : World} {Pd seen : List Nat} {items : List It} {names : List Nat} {vs ts : List AVal} {ds : List DO} {H : Heap} {ρ : Env} {pv : Nat → Option AVal} {own : Nat → Option Nat}

/-- One that turns nothing is reckoned ahead. -/
theorem State.ahead (hvm : vm.Nodup) (hssa : Ssa ops) (hok : ∀ (i : Nat) (o : Oper), ops[i]? = some o → (∀ c, o.op ≠ .defer c) ∧ tame P o = true) {i : Nat} {ag : List Nat} (hk : kindAt ops i ≠ 2) (hgo : OpGood ops seen ag i)
    (s : State P A call vm N ops K names' ρ0 H0 w0 listed a w Pd seen (.op i :: items) names vs ts ds H ρ pv own) :
    ∃ names1 vs1 ts1 ds1 H1 pv1 own1, State P A call vm N ops K names' ρ0 H0 w0 listed a w (i :: Pd) (i :: seen) items names1 vs1 ts1 ds1 H1 ρ pv1 own1 := by
  obtain ⟨⟨o, ho⟩, hns, hedge, _⟩ := hgo
  have hc := s.comp
  simp only [cOrd, ho, cDefer_none (hok i o ho).1] at hc
  cases hco : cOper P vm N ops names o with
  | none => rw [hco] at hc; cases hc
  | some p =>
    obtain ⟨d, names1⟩ := p
    rw [hco] at hc
    simp only at hc
    cases hcl : cOrd P vm N ops names1 items with
    | none => rw [hcl] at hc; cases hc
    | some q =>
      obtain ⟨ds1, names2⟩ := q
      rw [hcl] at hc
      simp at hc
      obtain ⟨rfl, rfl⟩ := hc
      have hraw := kind_raw ho hk
      have hlt : i < ops.size := (Array.getElem?_eq_some_iff.1 ho).1
      have notanc : ∀ j ∈ seen, ¬ Anc ops i j := fun j hj h => hns (anc_seen s.seenClosed h (s.seenClosed j hj))
      have notself : ¬ Anc ops i i := fun h => hns (anc_seen s.seenClosed h hedge)
      obtain ⟨hc1, hc2⟩ := cOper_parts hco
      obtain ⟨g', hg1, hg2⟩ := cGuard_cl (vs := vs) (ts := ts) hc2
      have hr2 : rawKind o.op ≠ 2 := by rw [hraw]; exact hk
      have hcc := cOp_cl (vs := vs) (ts := ts) hr2 hc1
      have core : ∃ x H1 own1, A.holds (sink d.dst vs ts x fun vs ts => evOps A call ds1 vs ts H1 K) ∧ PendOk P ops (fcl (cOpd vm names) vs ts) H1 ρ H0.next own1 i o x ∧ Step ρ0 H0 w0 ρ H1 w ∧ (∀ n, n < H.next → H1.get n = H.get n ∧ own1 n = own n) ∧ H.next ≤ H1.next ∧
          (∀ di y, warm di = true → evQ di [] [] H = some y → evQ di [] [] H1 = some y) := by
        have hh := s.holds
        cases hw : gsays vs ts d.guard with
        | false =>
          rw [evOps_no hw] at hh
          exact ⟨_, H, own, hh, .off hg1 (hg2.trans hw) rfl, s.step, fun _ _ => ⟨rfl, rfl⟩, Nat.le_refl _, fun _ _ _ h => h⟩
        | true =>
          rw [evOps_yes hw] at hh
          have quiet : ((rawKind o.op = 0 ∧ tame P o = true ∧ cold d.op = true) ∨ (rawKind o.op = 1 ∧ warm d.op = true)) → _ := fun hq => by
            have hcw : cold d.op = true ∨ warm d.op = true := hq.imp (fun h => h.2.2) (fun h => h.2)
            rw [evI_quiet hcw] at hh
            cases hev : evQ d.op vs ts H with
            | none => rw [hev] at hh; exact (A.fail_no hh).elim
            | some x =>
              rw [hev] at hh
              exact (⟨x, H, own, hh, .quiet hg1 (hg2.trans hw) (hq.imp (fun h => ⟨h.1, h.2.1, cold_cl h.2.2⟩) (fun h => ⟨h.1, warm_cl h.2⟩)) hcc (by rw [evQ_cl hcw]; exact hev), s.step, fun _ _ => ⟨rfl, rfl⟩, Nat.le_refl _, fun _ _ _ h => h⟩ :
                ∃ x H1 own1, A.holds (sink d.dst vs ts x fun vs ts => evOps A call ds1 vs ts H1 K) ∧ PendOk P ops (fcl (cOpd vm names) vs ts) H1 ρ H0.next own1 i o x ∧ Step ρ0 H0 w0 ρ H1 w ∧ (∀ n, n < H.next → H1.get n = H.get n ∧ own1 n = own n) ∧ H.next ≤ H1.next ∧
                (∀ di y, warm di = true → evQ di [] [] H = some y → evQ di [] [] H1 = some y))
          rcases raw_kinds o.op with h0 | h1 | h2 | h3
          · exact quiet (.inl ⟨h0, (hok i o ho).2, cOp_cold h0 (hok i o ho).2 hc1⟩)
          · exact quiet (.inr ⟨h1, cOp_warm h1 hc1⟩)
          · exact absurd h2 hr2
          · have hfr : isFresh d.op = true := by
              have hop := hop_slots (ρ := ρ) (L := []) s.slots (by simp)
              clear quiet hraw
              revert hc1
              generalize o.op = op at h3
              intro hc1
              cases op <;> first
                | (simp [rawKind] at h3; done)
                | skip
              case call c =>
                obtain ⟨callee, args, argTypes⟩ := c
                cases callee <;> try (simp [rawKind] at h3; done)
                rename_i b
                cases b <;> simp [rawKind] at h3
              case alloc t => simp only [cOp, Option.map_eq_some_iff] at hc1; obtain ⟨q, _, hq⟩ := hc1; rw [← hq]; rfl
              case box t x => simp only [cOp, Option.map_eq_some_iff] at hc1; obtain ⟨q, _, hq⟩ := hc1; rw [← hq]; rfl
              case buildSlice t n ps =>
                simp only [cOp] at hc1
                split at hc1
                · split at hc1
                  · cases hc1
                  · split at hc1
                    · simp only [Option.map_eq_some_iff] at hc1; obtain ⟨q, _, hq⟩ := hc1; rw [← hq]; rfl
                    · cases hc1
                · cases hc1
            rw [evI_fresh hfr] at hh
            cases hev : freshB d.op vs ts with
            | none => rw [hev] at hh; exact (A.fail_no hh).elim
            | some q =>
              obtain ⟨B, gg⟩ := q
              rw [hev] at hh
              simp only at hh
              have hrel := s.step.rel
              refine ⟨gg H.next, H.add B, fun n => if n = H.next then some i else own n, hh, .fresh hg1 (hg2.trans hw) h3 hcc (by rw [freshB_cl hfr]; exact hev) rfl (by rw [Heap.get_add _ _ _ trivial, if_pos rfl]) hrel.fresh s.step.next (by rw [Heap.next_add]; omega) (by simp), s.step.addA B, fun n hn => ⟨by rw [Heap.get_add _ _ _ trivial, if_neg (by omega)], by have : n ≠ H.next := (by omega); simp [this]⟩, by rw [Heap.next_add]; omega, fun di y hwm hq => evQ_add hwm hrel.top B hq⟩
      obtain ⟨x, H1, own1, k1, k2, k3, k4, k5, k6⟩ := core
      obtain ⟨vs1, ts1, m1, m2, m3, m4, m5⟩ := sink_slots (C' := SlotOk (fun t => if o.dst = some t then some x else pv t) ρ a) hvm s.slots hco k1
        (fun t ht _ => (SlotOk.pend (by simp [ht])).2 rfl) (fun t X ht hX => by unfold SlotOk at *; simp only [ht, if_false]; exact hX)
      have look : ∀ j oj, ops[j]? = some oj → ¬ Anc ops i j → ∀ t ∈ oj.looksAt ops, o.dst ≠ some t := fun j oj hoj hna t ht hd => by
        rcases (hssa i j o oj t ho hoj hd).2 ht with h | h
        · exact hna h
        · exact hk h.1
      refine ⟨names1, vs1, ts1, ds1, H1, _, own1, ⟨s.size, s.closed, fun j hj => ?_, fun j hj => ?_, fun j hj => ?_, ?_, ?_, fun y hy => ?_, fun j hj y hy => ?_, fun j hj => ?_, fun t y hy => ?_, m2, s.asize, by rw [m3]; exact s.dfr, hcl, m1, k3⟩⟩
      · rw [s.done j hj]
        by_cases hji : j = i
        · subst hji; simp [hns]
        · simp [hji]
      · rcases List.mem_cons.1 hj with rfl | hj
        · exact hlt
        · exact s.inside j hj
      · rcases List.mem_cons.1 hj with rfl | hj
        · simp
        · exact List.mem_cons_of_mem _ (s.sub j hj)
      · exact List.nodup_cons.2 ⟨fun h => hns (s.sub i h), s.nodup⟩
      · exact List.pairwise_cons.2 ⟨fun y hy he => hns (s.seenClosed y (s.sub y hy) i he), s.order⟩
      · rcases List.mem_cons.1 hy with rfl | hy
        · exact fun he => hns (hedge _ he)
        · exact s.irr y hy
      · rcases List.mem_cons.1 hj with rfl | hj
        · exact List.mem_cons_of_mem _ (hedge y hy)
        · exact List.mem_cons_of_mem _ (s.seenClosed j hj y hy)
      · rcases List.mem_cons.1 hj with rfl | hj
        · refine ⟨o, x, ho, hk, ?_, fun t ht => ⟨by simp [ht], m5 t ht⟩⟩
          have hagree : ∀ t ∈ o.looksAt ops, fcl (cOpd vm names) vs ts (.tmp t) = fcl (cOpd vm names1) vs1 ts1 (.tmp t) := fun t ht => (m4 t (look _ o ho notself t ht)).symm
          exact k2.congr (fcl_agree hagree) hagree
        · obtain ⟨oj, y, q1, q2, q3, q4⟩ := s.pend j hj
          have hjs := s.sub j hj
          have hij : i ≠ j := fun he => hns (he ▸ hjs)
          have hagree : ∀ t ∈ oj.looksAt ops, fcl (cOpd vm names) vs ts (.tmp t) = fcl (cOpd vm names1) vs1 ts1 (.tmp t) := fun t ht => (m4 t (look j oj q1 (notanc j hjs) t ht)).symm
          refine ⟨oj, y, q1, q2, (q3.congr (fcl_agree hagree) hagree).heap (fun g di _ _ _ _ hwm hq => k6 di y hwm hq) k5 (fun n hn hρ _ => ⟨(k4 n hn).1, hρ, (k4 n hn).2⟩), fun t ht => ?_⟩
          have hne : o.dst ≠ some t := fun hd => (hssa i j o oj t ho q1 hd).1 hij ht
          exact ⟨by simp only [hne, if_false]; exact (q4 t ht).1, (q4 t ht).2⟩
      · by_cases hd : o.dst = some t
        · exact ⟨i, by simp, o, ho, hd⟩
        · simp only [hd, if_false] at hy
          obtain ⟨j, hj, oj, q1, q2⟩ := s.pvw t y hy
          exact ⟨j, by simp [hj], oj, q1, q2⟩

/-- A second look is dropped. -/
theorem State.drop {i : Nat} (s : State P A call vm N ops K names' ρ0 H0 w0 listed a w Pd seen (.again i :: items) names vs ts ds H ρ pv own) :
    ∃ ds1, State P A call vm N ops K names' ρ0 H0 w0 listed a w Pd seen items names vs ts ds1 H ρ pv own := by
  have hc := s.comp
  simp only [cOrd] at hc
  cases ho : ops[i]? with
  | none => rw [ho] at hc; cases hc
  | some o =>
    rw [ho] at hc
    simp only at hc
    cases hca : cAgain P vm N ops names o with
    | none => rw [hca] at hc; cases hc
    | some d =>
      rw [hca] at hc
      cases hcl : cOrd P vm N ops names items with
      | none => rw [hcl] at hc; cases hc
      | some q =>
        obtain ⟨ds1, names2⟩ := q
        rw [hcl] at hc
        simp at hc
        obtain ⟨rfl, rfl⟩ := hc
        exact ⟨ds1, ⟨s.size, s.closed, s.done, s.inside, s.sub, s.nodup, s.order, s.irr, s.seenClosed, s.pend, s.pvw, s.slots, s.asize, s.dfr, hcl, (step_again hca s.holds).1, s.step⟩⟩
end any
end Dt

namespace Dt
open Go Go.RowKit
set_option linter.all false
variable [LoopTab]
/-! ### Any order: what the run does -/
section any2
variable {R : Type} {A : Alg R} {P : Program} {call : Nat → List AVal → Heap → (AVal → Heap → R) → R} {vm : List Nat} {N : Nat} {ops : Array Oper} {K : List AVal → List AVal → Heap → R} {names' : List Nat} {ρ0 : Env} {H0 : Heap} {w0 : World}
variable {listed : Array Bool} {a : Act} {w : World} {Pd seen : List Nat} {items : List It} {names : List Nat} {vs ts : List AVal} {ds : List DO} {H : Heap} {ρ : Env} {pv : Nat → Option AVal} {own : Nat → Option Nat}

theorem listed_set {i : Nat} (hlt : i < listed.size) (j : Nat) : (listed.setIfInBounds i true).getD j false = if j = i then true else listed.getD j false := by
  by_cases hji : j = i
  · subst hji
    simp [hlt]
  · rw [if_neg hji, getD_set_ne false (Ne.symm hji)]

/-- One that was reckoned is really done. -/
theorem State.real (hssa : Ssa ops) {i : Nat} (hi : i ∈ Pd) (hed : ∀ x, Edge ops x i → listed.getD x false = true)
    (s : State P A call vm N ops K names' ρ0 H0 w0 listed a w Pd seen items names vs ts ds H ρ pv own) :
    ∃ o, ops[i]? = some o ∧ Does P ops o a w fun v w' => ∃ ρ' pv', State P A call vm N ops K names' ρ0 H0 w0 (listed.setIfInBounds i true) (a.put o.dst v) w' (Pd.erase i) seen items names vs ts ds H ρ' pv' own := by
  obtain ⟨o, x, ho, hk, hp, hx⟩ := s.pend i hi
  refine ⟨o, ho, ?_⟩
  have hlt : i < ops.size := (Array.getElem?_eq_some_iff.1 ho).1
  have hpv : ∀ t ∈ o.looksAt ops, pv t = none := fun t ht => by
    cases hh : pv t with
    | none => rfl
    | some y =>
      obtain ⟨j, hj, oj, q1, q2⟩ := s.pvw t y hh
      obtain ⟨oj', _, q3, q4, _, _⟩ := s.pend j hj
      rcases (hssa j i oj o t q1 ho q2).2 ht with h | h
      · exact absurd hj ((s.done j (s.inside j (s.sub j hj))).1 (anc_listed s.closed h hed)).2
      · exact absurd h.1 q4
  have hop := hop_cl (hop_slots s.slots hpv)
  have fin : ∀ (v : Value) (w' : World) (ρ' : Env), VRel ρ' x v → (∀ b T, ρ b = some T → ρ' b = some T) → Step ρ0 H0 w0 ρ' H w' → (∀ n, ρ' n ≠ ρ n → own n = some i) →
      ∃ ρ' pv', State P A call vm N ops K names' ρ0 H0 w0 (listed.setIfInBounds i true) (a.put o.dst v) w' (Pd.erase i) seen items names vs ts ds H ρ' pv' own := by
    intro v w' ρ' hv hext hst hown
    have hsz : i < listed.size := by rw [s.size]; exact hlt
    refine ⟨ρ', fun t => if o.dst = some t then none else pv t, ⟨by simp [s.size], fun j y hy hj => ?_, fun j hj => ?_, s.inside, fun j hj => s.sub j (List.mem_of_mem_erase hj), s.nodup.erase i, s.order.sublist (List.erase_sublist), fun y hy => s.irr y (List.mem_of_mem_erase hy), s.seenClosed, fun j hj => ?_, fun t y hy => ?_, ?_, by rw [put_size]; exact s.asize, by rw [put_defers]; exact s.dfr.mono hext, s.comp, s.holds, hst⟩⟩
    · rw [listed_set hsz] at hj ⊢
      by_cases hyi : y = i
      · rw [if_pos hyi]
      · rw [if_neg hyi]
        by_cases hji : j = i
        · subst hji; exact hed y hy
        · rw [if_neg hji] at hj; exact s.closed j y hy hj
    · rw [listed_set hsz]
      by_cases hji : j = i
      · subst hji
        simp [s.sub j hi, s.nodup.not_mem_erase]
      · rw [if_neg hji, s.done j hj, List.mem_erase_of_ne hji]
    · have hj' := List.mem_of_mem_erase hj
      have hij : j ≠ i := fun he => by subst he; exact s.nodup.not_mem_erase hj
      obtain ⟨oj, y, q1, q2, q3, q4⟩ := s.pend j hj'
      refine ⟨oj, y, q1, q2, q3.heap (fun _ _ _ _ _ _ _ h => h) (Nat.le_refl _) (fun n _ hρ hon => ⟨rfl, ?_, rfl⟩), fun t ht => ?_⟩
      · cases hh : ρ' n with
        | none => rfl
        | some T =>
          have := hown n (by rw [hh, hρ]; simp)
          rw [hon] at this
          simp at this
          exact absurd this hij
      · have hne : o.dst ≠ some t := fun hd => (hssa i j o oj t ho q1 hd).1 (Ne.symm hij) ht
        exact ⟨by simp only [hne, if_false]; exact (q4 t ht).1, (q4 t ht).2⟩
    · by_cases hd : o.dst = some t
      · simp [hd] at hy
      · simp only [hd, if_false] at hy
        obtain ⟨j, hj, oj, q1, q2⟩ := s.pvw t y hy
        have hji : j ≠ i := fun he => by
          subst he
          rw [ho] at q1
          simp at q1
          subst q1
          exact hd q2
        exact ⟨j, (List.mem_erase_of_ne hji).2 hj, oj, q1, q2⟩
    · refine s.slots.mono fun t X hX => ?_
      by_cases hd : o.dst = some t
      · obtain ⟨e1, e2⟩ := hx t hd
        have hXx := (SlotOk.pend e1).1 hX
        subst hXx
        refine (SlotOk.real (by simp [hd])).2 ?_
        rw [hd, put_get (Nat.lt_of_lt_of_le e2 s.asize), if_pos rfl]
        exact hv
      · cases hpt : pv t with
        | some y => exact (SlotOk.pend (by simp only [hd, if_false]; exact hpt)).2 ((SlotOk.pend hpt).1 hX)
        | none =>
          refine (SlotOk.real (by simp only [hd, if_false]; exact hpt)).2 ?_
          rw [put_other hd]
          exact ((SlotOk.real hpt).1 hX).mono hext
  cases hp with
  | off hg hs hxx =>
    subst hxx
    have hw := guard_rel hop (fr_guard.trans hg)
    rw [hs] at hw
    exact .inr ⟨hw, fin undef w ρ (.tup .nil) (fun _ _ h => h) s.step (fun n hn => absurd rfl hn)⟩
  | @quiet g di hg hs hk' hc hq =>
    have hw := guard_rel hop (fr_guard.trans hg)
    rw [hs] at hw
    refine .inl ⟨hw, ?_⟩
    have hcw : cold di = true ∨ warm di = true := hk'.imp (fun h => h.2.2) (fun h => h.2)
    have hh : AP.holds (evI AP (fun _ _ _ _ => False) di [] [] H fun y _ => y = x) := by
      rw [evI_quiet hcw, hq]
      exact rfl
    have hc' : cOp P (fr (fcl (cOpd vm names) vs ts) (o.looksAt ops)) o.op = some di := fr_op.trans hc
    rcases hk' with ⟨k1, k2, _⟩ | ⟨k1, _⟩
    · obtain ⟨y, v, g1, g2, g3⟩ := op_pure hop k2 k1 hc' hh
      have g1' : y = x := g1
      subst g1'
      simp only [Out, g2 w]
      exact fin v w ρ g3 (fun _ _ h => h) s.step (fun n hn => absurd rfl hn)
    · obtain ⟨y, v, g1, g2, g3⟩ := op_read hop s.step.rel k1 hc' hh
      have g1' : y = x := g1
      subst g1'
      simp only [Out, g3]
      exact fin v w ρ g2 (fun _ _ h => h) s.step (fun n hn => absurd rfl hn)
  | @fresh g di B gg n hg hs hk' hc hf hxx hb hn h1 h2 hon =>
    have hw := guard_rel hop (fr_guard.trans hg)
    rw [hs] at hw
    refine .inl ⟨hw, ?_⟩
    have hc' : cOp P (fr (fcl (cOpd vm names) vs ts) (o.looksAt ops)) o.op = some di := fr_op.trans hc
    obtain ⟨_, hl⟩ := op_lays hop hk' hc'
    obtain ⟨s', e1, e2⟩ := hl B gg hf
    obtain ⟨S, ob, v, e3, e4, e5⟩ := e2 w
    obtain ⟨e6, e7⟩ := e5 (ρ.add n S) (Env.add_ext hn) n Env.add_same
    have hrun : (execOp a.eval o).run P w = .ok (.value v) (w.alloc ob) := by rw [e1]; simp [e4]
    simp only [Out, hrun]
    refine fin v _ (ρ.add n S) (by rw [hxx]; exact e6) (Env.add_ext hn) (s.step.lay h1 h2 hn e3 (by rw [hb]; exact e7)) fun m hm => ?_
    by_cases hmn : m = n
    · rw [hmn]; exact hon
    · exact absurd (by simp [Env.add, hmn]) hm

/-- The next that may turn memory is really done. -/
theorem State.sync (hcall : CallOk P A call) (hyield : YieldOk P A call) (hvm : vm.Nodup) (hssa : Ssa ops) (hok : ∀ (i : Nat) (o : Oper), ops[i]? = some o → (∀ c, o.op ≠ .defer c) ∧ tame P o = true) {i : Nat} (hk : kindAt ops i = 2) (hgo : OpGood ops seen (againsOf items) i) (hed : ∀ x, Edge ops x i → listed.getD x false = true)
    (s : State P A call vm N ops K names' ρ0 H0 w0 listed a w Pd seen (.op i :: items) names vs ts ds H ρ pv own) :
    ∃ o, ops[i]? = some o ∧ Does P ops o a w fun v w' => ∃ names1 vs1 ts1 ds1 H1 ρ1, State P A call vm N ops K names' ρ0 H0 w0 (listed.setIfInBounds i true) (a.put o.dst v) w' Pd (i :: seen) items names1 vs1 ts1 ds1 H1 ρ1 pv own := by
  obtain ⟨⟨o, ho⟩, hns, hedge, hreads⟩ := hgo
  refine ⟨o, ho, ?_⟩
  have hc := s.comp
  simp only [cOrd, ho, cDefer_none (hok i o ho).1] at hc
  cases hco : cOper P vm N ops names o with
  | none => rw [hco] at hc; cases hc
  | some p =>
    obtain ⟨d, names1⟩ := p
    rw [hco] at hc
    simp only at hc
    cases hcl : cOrd P vm N ops names1 items with
    | none => rw [hcl] at hc; cases hc
    | some q =>
      obtain ⟨ds1, names2⟩ := q
      rw [hcl] at hc
      simp at hc
      obtain ⟨rfl, rfl⟩ := hc
      have hlt : i < ops.size := (Array.getElem?_eq_some_iff.1 ho).1
      have hsz : i < listed.size := by rw [s.size]; exact hlt
      have hiP : i ∉ Pd := fun h => hns (s.sub i h)
      have notanc : ∀ j ∈ seen, ¬ Anc ops i j := fun j hj h => hns (anc_seen s.seenClosed h (s.seenClosed j hj))
      have notpend : ∀ j ∈ Pd, ¬ Anc ops j i := fun j hj h => absurd hj ((s.done j (s.inside j (s.sub j hj))).1 (anc_listed s.closed h hed)).2
      have hpv : ∀ t ∈ o.looksAt ops, pv t = none := fun t ht => by
        cases hh : pv t with
        | none => rfl
        | some y =>
          obtain ⟨j, hj, oj, q1, q2⟩ := s.pvw t y hh
          obtain ⟨oj', _, q3, q4, _, _⟩ := s.pend j hj
          rcases (hssa j i oj o t q1 ho q2).2 ht with h | h
          · exact absurd h (notpend j hj)
          · exact absurd h.1 q4
      have hpd : ∀ t, o.dst = some t → pv t = none := fun t ht => by
        cases hh : pv t with
        | none => rfl
        | some y =>
          obtain ⟨j, hj, oj, q1, q2⟩ := s.pvw t y hh
          exact absurd q2 ((hssa i j o oj t ho q1 ht).1 (fun he => hiP (he ▸ hj)))
      have look : ∀ j ∈ Pd, ∀ oj, ops[j]? = some oj → ∀ t ∈ oj.looksAt ops, o.dst ≠ some t := fun j hj oj hoj t ht hd => by
        rcases (hssa i j o oj t ho hoj hd).2 ht with h | h
        · exact notanc j (s.sub j hj) h
        · exact notpend j hj h.2
      have hop := hop_slots s.slots hpv
      obtain ⟨hc1, hc2⟩ := cOper_parts hco
      have hgr := guard_rel hop (fr_guard.trans hc2)
      have fin : ∀ (v : Value) (w' : World) (x : AVal) (H1 : Heap) (ρ1 : Env), A.holds (sink d.dst vs ts x fun vs ts => evOps A call ds1 vs ts H1 K) → VRel ρ1 x v → Step ρ H w ρ1 H1 w' →
          ∃ names1 vs1 ts1 ds1 H1 ρ1, State P A call vm N ops K names2 ρ0 H0 w0 (listed.setIfInBounds i true) (a.put o.dst v) w' Pd (i :: seen) items names1 vs1 ts1 ds1 H1 ρ1 pv own := by
        intro v w' x H1 ρ1 hh hv hst
        have hsl : Slots (SlotOk pv ρ1 a) vm names vs ts := s.slots.mono fun t X hX => by
          cases hpt : pv t with
          | some y => exact (SlotOk.pend hpt).2 ((SlotOk.pend hpt).1 hX)
          | none => exact (SlotOk.real hpt).2 (((SlotOk.real hpt).1 hX).mono hst.ext)
        obtain ⟨vs1, ts1, m1, m2, m3, m4, m5⟩ := sink_slots (C' := SlotOk pv ρ1 (a.put o.dst v)) hvm hsl hco hh
          (fun t ht htN => (SlotOk.real (hpd t ht)).2 (by rw [ht, put_get (Nat.lt_of_lt_of_le htN s.asize), if_pos rfl]; exact hv))
          (fun t X ht hX => by unfold SlotOk at *; rw [put_other ht]; exact hX)
        have htold := told_all hcl m1
        refine ⟨names1, vs1, ts1, ds1, H1, ρ1, ⟨by simp [s.size], fun j y hy hj => ?_, fun j hj => ?_, fun j hj => ?_, fun j hj => List.mem_cons_of_mem _ (s.sub j hj), s.nodup, s.order, s.irr, fun j hj y hy => ?_, fun j hj => ?_, s.pvw, m2, by rw [put_size]; exact s.asize, by rw [put_defers, m3]; exact s.dfr.mono hst.ext, hcl, m1, s.step.trans hst⟩⟩
        · rw [listed_set hsz] at hj ⊢
          by_cases hyi : y = i
          · rw [if_pos hyi]
          · rw [if_neg hyi]
            by_cases hji : j = i
            · subst hji; exact hed y hy
            · rw [if_neg hji] at hj; exact s.closed j y hy hj
        · rw [listed_set hsz]
          by_cases hji : j = i
          · subst hji; simp [hiP]
          · rw [if_neg hji, s.done j hj]; simp [hji]
        · rcases List.mem_cons.1 hj with rfl | hj
          · exact hlt
          · exact s.inside j hj
        · rcases List.mem_cons.1 hj with rfl | hj
          · exact List.mem_cons_of_mem _ (hedge y hy)
          · exact List.mem_cons_of_mem _ (s.seenClosed j hj y hy)
        · obtain ⟨oj, y, q1, q2, q3, q4⟩ := s.pend j hj
          have hagree : ∀ t ∈ oj.looksAt ops, fcl (cOpd vm names) vs ts (.tmp t) = fcl (cOpd vm names1) vs1 ts1 (.tmp t) := fun t ht => (m4 t (look j hj oj q1 t ht)).symm
          refine ⟨oj, y, q1, q2, (q3.congr (fcl_agree hagree) hagree).heap (fun g di hr1 hg hs hcc hwm _ => ?_) hst.next (fun n hn hρ _ => ⟨hst.frameA n hn hρ, ?_, rfl⟩), q4⟩
          · have hj1 : kindAt ops j = 1 := (kind_raw q1 q2).symm.trans hr1
            rcases hreads hk j (s.sub j hj) hj1 with h | h
            · exact absurd h (notpend j hj)
            · obtain ⟨o', t, z, g2, e1, e2, e3, e4, e5⟩ := htold j h
              rw [q1] at e1
              simp at e1
              subst e1
              obtain ⟨g3, e6, e7⟩ := cGuard_cl (vs := vs1) (ts := ts1) e4
              rw [hg] at e6
              simp at e6
              subst e6
              obtain ⟨di2, e8, e9⟩ := e5 (by rw [← e7]; exact hs)
              have e10 := cOp_cl (vs := vs1) (ts := ts1) (by rw [hr1]; decide) e8
              rw [hcc] at e10
              simp at e10
              subst e10
              rw [evQ_cl (.inr (cOp_warm hr1 e8)), e9]
              exact congrArg some ((SlotOk.pend (q4 t e2).1).1 (m2.get e3))
          · cases hh2 : ρ1 n with
            | none => rfl
            | some T =>
              rcases hst.newdom n T hh2 with h | h
              · rw [hρ] at h; cases h
              · omega
      have hh := s.holds
      cases hw : Region.wanted o (yielded ops a.tmps) with
      | false =>
        rw [evOps_no (hgr.symm.trans hw)] at hh
        exact .inr ⟨hw, fin undef w _ H ρ hh (.tup .nil) (Step.refl s.step.rel)⟩
      | true =>
        rw [evOps_yes (hgr.symm.trans hw)] at hh
        refine .inl ⟨hw, Out.mono (fun v w' hq => ?_) (op_any hcall hyield hop s.step.rel (fr_op.trans hc1) hh)⟩
        obtain ⟨x, H1, ρ1, h1, h2, h3⟩ := hq
        exact fin v w' x H1 ρ1 h1 h2 h3
end any2
end Dt

namespace Dt
open Go Go.RowKit
set_option linter.all false
variable [LoopTab]
/-! ### Any order: the region -/
section any3
variable {R : Type} {A : Alg R} {P : Program} {call : Nat → List AVal → Heap → (AVal → Heap → R) → R} {vm : List Nat} {N : Nat} {ops : Array Oper} {K : List AVal → List AVal → Heap → R} {names' : List Nat} {ρ0 : Env} {H0 : Heap} {w0 : World}
variable {listed : Array Bool} {a : Act} {w : World} {Pd seen : List Nat} {items : List It} {names : List Nat} {vs ts : List AVal} {ds : List DO} {H : Heap} {ρ : Env} {pv : Nat → Option AVal} {own : Nat → Option Nat}

/-! Two stores into two blocks may change places. -/
theorem Tr.set_comm {x y : Blk} : ∀ (f g : Nat) (t : Tr) (b c : Nat), b + 1 < 2 ^ f → c + 1 < 2 ^ g → b ≠ c → Tr.set f (Tr.set g t c y) b x = Tr.set g (Tr.set f t b x) c y := by
  intro f
  induction f with
  | zero => intro g t b c h1; simp at h1
  | succ f ih =>
    intro g t b c h1 h2 hne
    cases g with
    | zero => simp at h2
    | succ g =>
      have hp : 2 ^ (f + 1) = 2 * 2 ^ f := by rw [Nat.pow_succ]; omega
      have hq : 2 ^ (g + 1) = 2 * 2 ^ g := by rw [Nat.pow_succ]; omega
      have key : ∀ (l : Tr) (v : Blk) (r : Tr), Tr.set (f + 1) (Tr.set (g + 1) (.node l v r) c y) b x = Tr.set (g + 1) (Tr.set (f + 1) (.node l v r) b x) c y := by
        intro l v r
        cases b with
        | zero => cases c with
          | zero => exact absurd rfl hne
          | succ c => simp only [Tr.set]; split <;> rfl
        | succ b => cases c with
          | zero => simp only [Tr.set]; split <;> rfl
          | succ c =>
            rcases Nat.mod_two_eq_zero_or_one b with e | e <;> rcases Nat.mod_two_eq_zero_or_one c with e' | e' <;> simp only [Tr.set, e, e']
            · rw [ih g l (b / 2) (c / 2) (by omega) (by omega) (by omega)]
            · rw [ih g r (b / 2) (c / 2) (by omega) (by omega) (by omega)]
      cases t with
      | node l v r => exact key l v r
      | nil =>
        have nil_node : ∀ (k h : Nat) (z : Blk), Tr.set (h + 1) .nil k z = Tr.set (h + 1) (.node .nil .dead .nil) k z := fun k h z => by
          cases k with
          | zero => rfl
          | succ k => simp only [Tr.set]
        have e1 := key .nil .dead .nil
        cases b with
        | zero => cases c with
          | zero => exact absurd rfl hne
          | succ c =>
            rw [nil_node (c + 1), nil_node 0]
            exact e1
        | succ b =>
          rw [nil_node c, nil_node (b + 1)]
          exact e1
theorem Heap.put_comm (H : Heap) {b c : Nat} (x y : Blk) (h : b ≠ c) : (H.put c y).put b x = (H.put b x).put c y := by
  unfold Heap.put
  simp only [Tr.set_comm (b + 1) (c + 1) H.tr b c (lt_pow2 b) (lt_pow2 c) h]

theorem doStore_some {n : Nat} {X V : AVal} {k : Heap → R} (h : A.holds (doStore A n X V H k)) : ∃ b r c cs z l row, X = .ptr b r c ∧ V.cells = some cs ∧ H.get b = .rows z l ∧ l[r]? = some row ∧ (Nat.beq (llen cs) n && Nat.ble (c + n) (llen row)) = true ∧ A.holds (k (H.put b (.rows z (rset l r (splice row c cs))))) := by
  unfold doStore at h
  split at h
  · rename_i b r c
    split at h
    · exact (A.fail_no h).elim
    · rename_i cs hcs
      split at h
      · rename_i z l hb
        rw [rget_eq] at h
        split at h
        · rename_i row hr
          split at h
          · rename_i hc
            simp only [fL_eq] at h
            rw [hPut_eq] at h
            exact ⟨b, r, c, cs, z, l, row, rfl, hcs, hb, hr, hc, h⟩
          · exact (A.fail_no h).elim
        · exact (A.fail_no h).elim
      · exact (A.fail_no h).elim
  · exact (A.fail_no h).elim
theorem doStore_go {n : Nat} {b r c : Nat} {V : AVal} {cs : List AVal} {z : Nat} {l : List (List AVal)} {row : List AVal} {k : Heap → R} (h1 : V.cells = some cs) (h2 : H.get b = .rows z l) (h3 : l[r]? = some row) (h4 : (Nat.beq (llen cs) n && Nat.ble (c + n) (llen row)) = true) :
    doStore A n (.ptr b r c) V H k = k (H.put b (.rows z (rset l r (splice row c cs)))) := by
  unfold doStore
  simp only [h1, h2, rget_eq, h3, h4, fL_eq, hPut_eq]
theorem doStore_swap {n m : Nat} {b r c b' r' c' : Nat} {V U : AVal} {k : Heap → R} (hne : b ≠ b') (h : A.holds (doStore A n (.ptr b r c) V H fun H => doStore A m (.ptr b' r' c') U H k)) :
    A.holds (doStore A m (.ptr b' r' c') U H fun H => doStore A n (.ptr b r c) V H k) := by
  obtain ⟨b1, r1, c1, cs, z, l, row, e, h1, h2, h3, h4, h5⟩ := doStore_some h
  cases e
  obtain ⟨b2, r2, c2, cs', z', l', row', e', g1, g2, g3, g4, g5⟩ := doStore_some h5
  cases e'
  rw [Heap.get_put _ _ _ _ trivial, if_neg (Ne.symm hne)] at g2
  rw [doStore_go g1 g2 g3 g4]
  rw [doStore_go h1 (by rw [Heap.get_put _ _ _ _ trivial, if_neg hne]; exact h2) h3 h4, Heap.put_comm _ _ _ hne]
  exact g5

theorem cOper_no {o : Oper} {n : Nat} {x v : Opd} {n1 : List Nat} (h : cOper P vm N ops names o = some (⟨.no, .store n x v, none⟩, n1)) : n1 = names := by
  unfold cOper at h
  split at h
  · split at h
    · simp at h; exact h.2.symm
    · split at h
      · split at h <;> split at h <;> simp at h
      · cases h
  · cases h

/-- Two stores at the end: either may be the first. -/
theorem State.two (hok : ∀ (i : Nat) (o : Oper), ops[i]? = some o → (∀ c, o.op ≠ .defer c) ∧ tame P o = true) {i j : Nat}
    (s : State P A call vm N ops K names' ρ0 H0 w0 listed a w Pd seen (.two i j :: items) names vs ts ds H ρ pv own) :
    (∃ ds1, State P A call vm N ops K names' ρ0 H0 w0 listed a w Pd seen (.op i :: .op j :: items) names vs ts ds1 H ρ pv own) ∧
    (∃ ds1, State P A call vm N ops K names' ρ0 H0 w0 listed a w Pd seen (.op j :: .op i :: items) names vs ts ds1 H ρ pv own) := by
  have hc := s.comp
  simp only [cOrd] at hc
  split at hc
  · rename_i o q ho hq
    split at hc
    · rename_i d n1 e n2 h1 h2
      split at hc
      · rename_i dd ds1 nm ht hcl
        simp only [Option.some.injEq, Prod.mk.injEq] at hc
        obtain ⟨rfl, rfl⟩ := hc
        unfold cTwo at ht
        split at ht
        · rename_i n x v m y u
          simp at ht
          subst ht
          have en1 := cOper_no h1
          have en2 := cOper_no h2
          subst en1
          have hh := s.holds
          rw [evOps_yes (by rfl)] at hh
          simp only [evI, sink] at hh
          have mk : ∀ ds', cOrd P vm N ops n1 (.op i :: .op j :: items) = some (ds', nm) → A.holds (evOps A call ds' vs ts H K) → ∃ ds1, State P A call vm N ops K nm ρ0 H0 w0 listed a w Pd seen (.op i :: .op j :: items) n1 vs ts ds1 H ρ pv own :=
            fun ds' hc' hh' => ⟨ds', ⟨s.size, s.closed, s.done, s.inside, s.sub, s.nodup, s.order, s.irr, s.seenClosed, s.pend, s.pvw, s.slots, s.asize, s.dfr, hc', hh', s.step⟩⟩
          have mk' : ∀ ds', cOrd P vm N ops n1 (.op j :: .op i :: items) = some (ds', nm) → A.holds (evOps A call ds' vs ts H K) → ∃ ds1, State P A call vm N ops K nm ρ0 H0 w0 listed a w Pd seen (.op j :: .op i :: items) n1 vs ts ds1 H ρ pv own :=
            fun ds' hc' hh' => ⟨ds', ⟨s.size, s.closed, s.done, s.inside, s.sub, s.nodup, s.order, s.irr, s.seenClosed, s.pend, s.pvw, s.slots, s.asize, s.dfr, hc', hh', s.step⟩⟩
          subst en2
          have hstores : ∃ b r c b' r' c', x.get vs ts = .ptr b r c ∧ y.get vs ts = .ptr b' r' c' ∧ b ≠ b' ∧ A.holds (doStore A n (.ptr b r c) (v.get vs ts) H fun H => doStore A m (.ptr b' r' c') (u.get vs ts) H fun H => evOps A call ds1 vs ts H K) := by
            generalize x.get vs ts = X at hh
            generalize y.get vs ts = Y at hh
            split at hh
            · rename_i b r c b' r' c'
              split at hh
              · exact (A.fail_no hh).elim
              · rename_i hne
                exact ⟨b, r, c, b', r', c', rfl, rfl, fun he => by rw [he] at hne; simp at hne, hh⟩
            · exact (A.fail_no hh).elim
          obtain ⟨b, r, c, b', r', c', ex, ey, hne, hst⟩ := hstores
          constructor
          · refine mk (⟨.no, .store n x v, none⟩ :: ⟨.no, .store m y u, none⟩ :: ds1) ?_ ?_
            · simp only [cOrd, ho, hq, cDefer_none (hok i o ho).1, cDefer_none (hok j q hq).1, h1, h2, hcl]
            · rw [evOps_yes (by rfl)]
              simp only [evI, sink, ex]
              have : ∀ H', evOps A call (⟨.no, .store m y u, none⟩ :: ds1) vs ts H' K = doStore A m (.ptr b' r' c') (u.get vs ts) H' fun H => evOps A call ds1 vs ts H K := fun H' => by
                rw [evOps_yes (by rfl)]
                simp only [evI, sink, ey]
              simp only [this]
              exact hst
          · refine mk' (⟨.no, .store m y u, none⟩ :: ⟨.no, .store n x v, none⟩ :: ds1) ?_ ?_
            · simp only [cOrd, ho, hq, cDefer_none (hok i o ho).1, cDefer_none (hok j q hq).1, h1, h2, hcl]
            · rw [evOps_yes (by rfl)]
              simp only [evI, sink, ey]
              have : ∀ H', evOps A call (⟨.no, .store n x v, none⟩ :: ds1) vs ts H' K = doStore A n (.ptr b r c) (v.get vs ts) H' fun H => evOps A call ds1 vs ts H K := fun H' => by
                rw [evOps_yes (by rfl)]
                simp only [evI, sink, ex]
              simp only [this]
              exact doStore_swap hne hst
        · cases ht
      · cases hc
    · cases hc
  · cases hc
end any3
end Dt

namespace Dt
open Go Go.RowKit
set_option linter.all false
variable [LoopTab]
/-! ### Any order: all of it -/
section any4
variable {R : Type} {A : Alg R} {P : Program} {call : Nat → List AVal → Heap → (AVal → Heap → R) → R} {vm : List Nat} {N : Nat} {ops : Array Oper} {K : List AVal → List AVal → Heap → R} {names' : List Nat} {ρ0 : Env} {H0 : Heap} {w0 : World}

/-- The list begins with what may turn memory, or is at its end. -/
def Ready2 (ops : Array Oper) : List It → Prop
  | [] => True
  | .op i :: _ => kindAt ops i = 2
  | .again _ :: _ => False
  | .two _ _ :: _ => True
  | .kill _ :: _ => True

theorem State.norm (hvm : vm.Nodup) (hssa : Ssa ops) (hok : ∀ (i : Nat) (o : Oper), ops[i]? = some o → (∀ c, o.op ≠ .defer c) ∧ tame P o = true) {listed : Array Bool} {a : Act} {w : World} {ρ : Env} :
    ∀ (items : List It) (Pd seen names : List Nat) (vs ts : List AVal) (ds : List DO) (H : Heap) (pv : Nat → Option AVal) (own : Nat → Option Nat), State P A call vm N ops K names' ρ0 H0 w0 listed a w Pd seen items names vs ts ds H ρ pv own → Good ops seen items →
    ∃ Pd1 seen1 items1 names1 vs1 ts1 ds1 H1 pv1 own1, State P A call vm N ops K names' ρ0 H0 w0 listed a w Pd1 seen1 items1 names1 vs1 ts1 ds1 H1 ρ pv1 own1 ∧ Good ops seen1 items1 ∧ Ready2 ops items1 ∧ Pd1.length + opsCount items1 = Pd.length + opsCount items
  | [], Pd, seen, names, vs, ts, ds, H, pv, own, s, g => ⟨Pd, seen, [], names, vs, ts, ds, H, pv, own, s, g, trivial, rfl⟩
  | .again i :: items, Pd, seen, names, vs, ts, ds, H, pv, own, s, g => by
    obtain ⟨ds1, s1⟩ := s.drop
    exact State.norm hvm hssa hok items Pd seen names vs ts ds1 H pv own s1 g.2
  | .two i j :: items, Pd, seen, names, vs, ts, ds, H, pv, own, s, g => ⟨Pd, seen, _, names, vs, ts, ds, H, pv, own, s, g, trivial, rfl⟩
  | .kill i :: items, Pd, seen, names, vs, ts, ds, H, pv, own, s, g => ⟨Pd, seen, _, names, vs, ts, ds, H, pv, own, s, g, trivial, rfl⟩
  | .op i :: items, Pd, seen, names, vs, ts, ds, H, pv, own, s, g => by
    by_cases hk : kindAt ops i = 2
    · exact ⟨Pd, seen, .op i :: items, names, vs, ts, ds, H, pv, own, s, g, hk, rfl⟩
    · obtain ⟨names1, vs1, ts1, ds1, H1, pv1, own1, s1⟩ := s.ahead hvm hssa hok hk g.1
      obtain ⟨Pd2, seen2, items2, names2, vs2, ts2, ds2, H2, pv2, own2, s2, g2, h1, h2⟩ := State.norm hvm hssa hok items _ _ _ _ _ _ _ _ _ s1 g.2.2
      refine ⟨Pd2, seen2, items2, names2, vs2, ts2, ds2, H2, pv2, own2, s2, g2, h1, ?_⟩
      rw [h2]
      simp only [opsCount, List.length_cons]
      omega

theorem kills_end {names : List Nat} {vs ts : List AVal} {ρ : Env} {w : World} {a : Act} (hs : Slots (fun t X => VRel ρ X (a.tmps.getD t undef)) vm names vs ts) : ∀ (items : List It) (ds : List DO) (H : Heap), allKills items = true → cOrd P vm N ops names items = some (ds, names') → HRel ρ H w → A.holds (evOps A call ds vs ts H K) →
    names = names' ∧ ∃ H', A.holds (K vs ts H') ∧ Step ρ H w ρ H' w
  | [], ds, H, _, hc, hH, hh => by
    simp only [cOrd, Option.some.injEq, Prod.mk.injEq] at hc
    obtain ⟨rfl, e⟩ := hc
    exact ⟨e, H, hh, Step.refl hH⟩
  | .op _ :: _, _, _, h, _, _, _ => by simp [allKills] at h
  | .again _ :: _, _, _, h, _, _, _ => by simp [allKills] at h
  | .two _ _ :: _, _, _, h, _, _, _ => by simp [allKills] at h
  | .kill i :: items, ds, H, h, hc, hH, hh => by
    simp only [allKills] at h
    simp only [cOrd] at hc
    cases ho : ops[i]? with
    | none => rw [ho] at hc; cases hc
    | some o =>
      rw [ho] at hc
      simp only at hc
      cases hca : cKill vm names o with
      | none => rw [hca] at hc; cases hc
      | some d =>
        rw [hca] at hc
        cases hcl : cOrd P vm N ops names items with
        | none => rw [hcl] at hc; cases hc
        | some q =>
          obtain ⟨ds1, names2⟩ := q
          rw [hcl] at hc
          simp at hc
          obtain ⟨e1, e2⟩ := hc
          subst e1
          rw [e2] at hcl
          unfold cKill at hca
          split at hca
          · cases hca
          · rename_i t ht
            split at hca
            · rename_i z hz
              simp at hca
              subst hca
              have hv := hs.get hz
              rw [evOps_yes (by rfl)] at hh
              simp only [evI, sink] at hh
              generalize z.get vs ts = Z at hh hv
              generalize a.tmps.getD t undef = u at hv
              split at hh
              · rename_i b r l c e
                split at hh
                · rename_i hb
                  rw [hPut_eq] at hh
                  have : ∃ S, ρ b = some S := by cases hv; exact ⟨_, by assumption⟩
                  obtain ⟨S, hS⟩ := this
                  have hst : Step ρ H w ρ (H.put b .dead) w := Step.kill hS hH (by rw [hb]; simp)
                  obtain ⟨k1, H', k2, k3⟩ := kills_end hs items ds1 _ h hcl hst.rel hh
                  exact ⟨k1, H', k2, hst.trans k3⟩
                · exact (A.fail_no hh).elim
              · exact (A.fail_no hh).elim
            · cases hca

theorem good_all {i : Nat} : ∀ {items : List It} {seen : List Nat}, Good ops seen items → i < ops.size → i ∈ seen ∨ i ∈ opsOf items
  | [], _, hg, hi => .inl (hg i hi)
  | .op j :: items, seen, hg, hi => by
    rcases good_all hg.2.2 hi with h | h
    · rcases List.mem_cons.1 h with rfl | h
      · exact .inr (by simp [opsOf])
      · exact .inl h
    · exact .inr (by simp [opsOf, h])
  | .again j :: items, seen, hg, hi => by
    rcases good_all hg.2 hi with h | h
    · exact .inl h
    · exact .inr (by simpa [opsOf] using h)
  | .kill j :: items, seen, hg, hi => by
    rcases good_all hg.2.2 hi with h | h
    · exact .inl h
    · exact .inr (by simpa [opsOf] using h)
  | .two j k :: items, seen, hg, hi => by
    rcases good_all hg.2.2.2.2.2.2 hi with h | h
    · simp only [List.mem_cons] at h
      rcases h with rfl | rfl | h
      · exact .inr (by simp [opsOf])
      · exact .inr (by simp [opsOf])
      · exact .inl h
    · exact .inr (by simp [opsOf, h])
theorem good_count : ∀ {items : List It} {seen : List Nat}, Good ops seen items → seen.Nodup → (∀ i ∈ seen, i < ops.size) → seen.length + opsCount items = ops.size
  | [], seen, hg, hn, hl => by
    have h1 : seen.length ≤ (List.range ops.size).length := hn.length_le_of_subset fun i hi => List.mem_range.2 (hl i hi)
    have h2 : (List.range ops.size).length ≤ seen.length := List.nodup_range.length_le_of_subset fun i hi => hg i (List.mem_range.1 hi)
    simp only [List.length_range] at h1 h2
    simp only [opsCount]
    omega
  | .op j :: items, seen, hg, hn, hl => by
    obtain ⟨⟨⟨o, ho⟩, hns, _, _⟩, _, hgood⟩ := hg
    have := good_count hgood (List.nodup_cons.2 ⟨hns, hn⟩) fun i hi => by
      rcases List.mem_cons.1 hi with rfl | hi
      · exact (Array.getElem?_eq_some_iff.1 ho).1
      · exact hl i hi
    simp only [List.length_cons] at this
    simp only [opsCount]
    omega
  | .again j :: items, seen, hg, hn, hl => by
    have := good_count hg.2 hn hl
    simpa only [opsCount] using this
  | .kill j :: items, seen, hg, hn, hl => by
    have := good_count hg.2.2 hn hl
    simpa only [opsCount] using this
  | .two j k :: items, seen, hg, hn, hl => by
    obtain ⟨⟨⟨o, ho⟩, hns, _, _⟩, ⟨⟨o', ho'⟩, hns', _, _⟩, hne, _, _, _, hgood⟩ := hg
    have := good_count hgood (List.nodup_cons.2 ⟨by simp [hne, hns], List.nodup_cons.2 ⟨hns', hn⟩⟩) fun i hi => by
      rcases List.mem_cons.1 hi with rfl | hi
      · exact (Array.getElem?_eq_some_iff.1 ho).1
      · rcases List.mem_cons.1 hi with rfl | hi
        · exact (Array.getElem?_eq_some_iff.1 ho').1
        · exact hl i hi
    simp only [List.length_cons] at this
    simp only [opsCount]
    omega

theorem getD_tf {l : Array Bool} {i : Nat} (h : i < l.size) (d e : Bool) : l.getD i d = l.getD i e := by
  simp [h]
theorem ready_of {listed : Array Bool} {i : Nat} (hsz : listed.size = ops.size) (hi : i < ops.size) (hn : ¬ listed.getD i false = true) (he : ∀ x, Edge ops x i → listed.getD x false = true) : i ∈ Region.ready .any ops listed := by
  rw [mem_ready]
  refine ⟨?_, ops[i], Array.getElem?_eq_getElem hi, fun e hem hb => he _ ⟨ops[i], e, Array.getElem?_eq_getElem hi, hem, hb, rfl⟩⟩
  rw [getD_tf (by omega) true false]
  simpa using hn

theorem orders_sound (hcall : CallOk P A call) (hyield : YieldOk P A call) (hvm : vm.Nodup) (hssa : Ssa ops) (hok : ∀ (i : Nat) (o : Oper), ops[i]? = some o → (∀ c, o.op ≠ .defer c) ∧ tame P o = true) {r : Option Nat} {n : Nat} {Q : Exit → Act → World → Prop}
    (hQ : ∀ vs ts H ρ a w, A.holds (K vs ts H) → ERel ρ vm names' N vs ts a → Step ρ0 H0 w0 ρ H w → Q .normal a w) :
    ∀ (fuel : Nat) (listed : Array Bool) (a : Act) (w : World) (Pd seen : List Nat) (items : List It) (names : List Nat) (vs ts : List AVal) (ds : List DO) (H : Heap) (ρ : Env) (pv : Nat → Option AVal) (own : Nat → Option Nat),
      State P A call vm N ops K names' ρ0 H0 w0 listed a w Pd seen items names vs ts ds H ρ pv own → Good ops seen items → Ready2 ops items → fuel = Pd.length + opsCount items → wpAnyIn (fw r) n P .any ops Q fuel listed a w := by
  intro fuel
  induction fuel with
  | zero =>
    intro listed a w Pd seen items names vs ts ds H ρ pv own s g hr hf
    have hPd : Pd = [] := List.length_eq_zero_iff.1 (by omega)
    subst hPd
    have hkl : allKills items = true := by
      cases items with
      | nil => rfl
      | cons x l => cases x with
        | op i => simp only [opsCount] at hf; omega
        | again i => exact hr.elim
        | two i j => simp only [opsCount] at hf; omega
        | kill i => exact g.2.1
    have hpv : ∀ t, pv t = none := fun t => by
      cases hh : pv t with
      | none => rfl
      | some y =>
        obtain ⟨j, hj, _⟩ := s.pvw t y hh
        cases hj
    have hsl : Slots (fun t X => VRel ρ X (a.tmps.getD t undef)) vm names vs ts := s.slots.mono fun t X hX => (SlotOk.real (hpv t)).1 hX
    obtain ⟨e1, H', k1, k2⟩ := kills_end hsl items ds H hkl s.comp s.step.rel s.holds
    subst e1
    refine ⟨?_, hQ _ _ _ _ _ _ k1 ⟨s.asize, hsl.vars, hsl.tmps, hsl.len, s.dfr⟩ (s.step.trans k2)⟩
    rw [List.eq_nil_iff_forall_not_mem]
    intro i hi
    rw [mem_ready] at hi
    obtain ⟨h1, o, ho, _⟩ := hi
    have hlt : i < ops.size := (Array.getElem?_eq_some_iff.1 ho).1
    have hin : i ∈ seen := by
      rcases good_all g hlt with h | h
      · exact h
      · rw [(allKills_ops hkl).1] at h; cases h
    have := (s.done i hlt).2 ⟨hin, by simp⟩
    rw [getD_tf (by rw [s.size]; exact hlt) false true, h1] at this
    cases this
  | succ fuel ih =>
    intro listed a w Pd seen items names vs ts ds H ρ pv own s g hr hf
    refine ⟨fun hno => ?_, fun i hi => ?_⟩
    · exfalso
      have none : ∀ i, i ∉ Region.ready .any ops listed := fun i => by rw [hno]; simp
      by_cases hPd : Pd = []
      · subst hPd
        have first : ∀ i ag, OpGood ops seen ag i → False := fun i ag ⟨⟨o, ho⟩, hns, hedge, _⟩ => by
          have hlt : i < ops.size := (Array.getElem?_eq_some_iff.1 ho).1
          refine none i (ready_of s.size hlt (fun h => hns ((s.done i hlt).1 h).1) fun y hy => ?_)
          have hys := hedge y hy
          exact (s.done y (s.inside y hys)).2 ⟨hys, by simp⟩
        cases items with
        | nil => simp [opsCount] at hf
        | cons x l => cases x with
          | again i => exact hr.elim
          | op i => exact first i _ g.1
          | two i j => exact first i _ g.1
          | kill i =>
            have : opsCount l = 0 := by
              have hk := g.2.1
              clear hf g hr s
              induction l with
              | nil => rfl
              | cons y l ihl => cases y with
                | kill _ => exact ihl hk
                | op _ => simp [allKills] at hk
                | again _ => simp [allKills] at hk
                | two _ _ => simp [allKills] at hk
            simp [opsCount, this] at hf
      · -- the one that was reckoned first
        have hx : Pd.getLast hPd ∈ Pd := List.getLast_mem hPd
        have hlt := s.inside _ (s.sub _ hx)
        refine none _ (ready_of s.size hlt (fun h => ((s.done _ hlt).1 h).2 hx) fun y hy => ?_)
        have hys := s.seenClosed _ (s.sub _ hx) y hy
        refine (s.done y (s.inside y hys)).2 ⟨hys, fun hyp => ?_⟩
        have hord := s.order
        rw [← List.dropLast_concat_getLast hPd] at hord hyp
        rcases List.mem_append.1 hyp with h | h
        · exact (List.pairwise_append.1 hord).2.2 y h _ (by simp) hy
        · have : y = Pd.getLast hPd := by simpa using h
          rw [this] at hy
          exact s.irr _ hx hy
    · obtain ⟨h1, o, ho, h2⟩ := mem_ready.1 hi
      have hlt : i < ops.size := (Array.getElem?_eq_some_iff.1 ho).1
      have hnl : ¬ listed.getD i false = true := by
        rw [getD_tf (by rw [s.size]; exact hlt) false true, h1]
        simp
      have hed : ∀ x, Edge ops x i → listed.getD x false = true := by
        rintro x ⟨o', e, ho', he, hb, rfl⟩
        rw [ho] at ho'
        simp at ho'
        subst ho'
        exact h2 e he hb
      by_cases hp : i ∈ Pd
      · obtain ⟨o', ho', hd⟩ := s.real hssa hp hed
        refine Does.wpOpIn ho' (hok i o' ho').1 hd ?_
        rintro v w' ⟨ρ', pv', s'⟩
        refine ih _ _ _ _ _ _ _ _ _ _ _ _ _ _ s' g hr ?_
        rw [List.length_erase_of_mem hp]
        have := List.length_pos_of_mem hp
        omega
      · have hns : i ∉ seen := fun h => hnl ((s.done i hlt).2 ⟨h, hp⟩)
        have go : ∀ (l : List It) (ds' : List DO), State P A call vm N ops K names' ρ0 H0 w0 listed a w Pd seen (.op i :: l) names vs ts ds' H ρ pv own → kindAt ops i = 2 → OpGood ops seen (againsOf l) i → Good ops (i :: seen) l → fuel + 1 = Pd.length + (opsCount l + 1) → wpOpIn (fw r) n P ops Q i (wpAnyIn (fw r) n P .any ops Q fuel (listed.setIfInBounds i true)) a w := by
          intro l ds' s' hk2 hgo hgl hcnt
          obtain ⟨o', ho', hd⟩ := s'.sync hcall hyield hvm hssa hok hk2 hgo hed
          refine Does.wpOpIn ho' (hok i o' ho').1 hd ?_
          rintro v w' ⟨names1, vs1, ts1, ds1, H1, ρ1, s1⟩
          obtain ⟨Pd2, seen2, items2, names3, vs2, ts2, ds2, H2, pv2, own2, s2, g2, m1, m2⟩ := State.norm hvm hssa hok l _ _ _ _ _ _ _ _ _ s1 hgl
          refine ih _ _ _ _ _ _ _ _ _ _ _ _ _ _ s2 g2 m1 ?_
          rw [m2]
          omega
        have hin : i ∈ opsOf items := (good_all g hlt).resolve_left hns
        cases items with
        | nil => cases hin
        | cons x l => cases x with
          | again j => exact hr.elim
          | kill j =>
            have := (allKills_ops g.2.1).1
            simp only [opsOf] at hin
            rw [this] at hin
            cases hin
          | op j =>
            by_cases hij : i = j
            · subst hij
              exact go l ds s hr g.1 g.2.2 hf
            · exfalso
              have hin' : i ∈ opsOf l := by
                simp only [opsOf, List.mem_cons] at hin
                exact hin.resolve_left hij
              have hj := anc_listed s.closed (g.2.1 hr i hin') hed
              obtain ⟨⟨oj, hoj⟩, hnsj, _⟩ := g.1
              exact hnsj ((s.done j (Array.getElem?_eq_some_iff.1 hoj).1).1 hj).1
          | two j k =>
            obtain ⟨g1, g2, g3, g4, g5, g6, g7⟩ := g
            obtain ⟨⟨ds1, s1⟩, ⟨ds2, s2⟩⟩ := s.two hok
            have hko := allKills_ops g6
            simp only [opsOf, List.mem_cons, hko.1, List.not_mem_nil, or_false] at hin
            have hset : ∀ {x y : Nat}, x ≠ y → kindAt ops x = 2 → OpGood ops seen [] y → OpGood ops (x :: seen) (againsOf l) y := fun {x y} hxy hx2 ⟨q1, q2, q3, q4⟩ => ⟨q1, by simp [Ne.symm hxy, q2], fun z hz => List.mem_cons_of_mem _ (q3 z hz), fun h z hz h1 => by
              rcases List.mem_cons.1 hz with rfl | hz
              · rw [hx2] at h1; cases h1
              · rcases q4 h z hz h1 with h' | h'
                · exact .inl h'
                · cases h'⟩
            have hcnt : fuel + 1 = Pd.length + (opsCount l + 1 + 1) := by
              simp only [opsCount] at hf
              omega
            rcases hin with rfl | rfl
            · exact go (.op k :: l) ds1 s1 g4 g1 ⟨hset g3 g4 g2, (fun _ y hy => by rw [hko.1] at hy; cases hy), g7.congr g6 fun y => by simp only [List.mem_cons]; exact ⟨fun h => h.elim (fun h => .inr (.inl h)) (fun h => h.elim .inl fun h => .inr (.inr h)), fun h => h.elim (fun h => .inr (.inl h)) (fun h => h.elim .inl fun h => .inr (.inr h))⟩⟩ hcnt
            · exact go (.op j :: l) ds2 s2 g5 g2 ⟨hset (Ne.symm g3) g5 g1, (fun _ y hy => by rw [hko.1] at hy; cases hy), g7⟩ hcnt
end any4
end Dt

namespace Dt
open Go Go.RowKit
set_option linter.all false
variable [LoopTab]
/-! ### A region, whichever way it goes through its operations -/
section any5
variable {R : Type} {A : Alg R} {P : Program} {call : Nat → List AVal → Heap → (AVal → Heap → R) → R} {vm : List Nat} {N : Nat} {ops : Array Oper} {K : List AVal → List AVal → Heap → R} {names' : List Nat}

/-- A deferred call is put down. -/
theorem step_defer {names : List Nat} {vs ts : List AVal} {H : Heap} {ρ : Env} {a : Act} {w : World} (hvm : vm.Nodup) (e : ERel ρ vm names N vs ts a) {o : Oper} {d : DO} {ds : List DO} (hc : cDefer (cOpd vm names) vm.length o = some d) (h : A.holds (evOps A call (d :: ds) vs ts H K)) :
    o.dst = none ∧ o.guard = none ∧ ∃ df vs', (execOp a.eval o).run P w = .ok (.defer df) w ∧ A.holds (evOps A call ds vs' ts H K) ∧ ERel ρ vm names N vs' ts { a with defers := df :: a.defers } := by
  obtain ⟨dst, op, ty, pos, after, guard⟩ := o
  unfold cDefer at hc
  split at hc
  · rename_i c hop
    simp only at hop
    subst hop
    obtain ⟨callee, args, argTypes⟩ := c
    split at hc
    · rename_i x hd hg hcal
      simp only at hd hg hcal
      subst hd; subst hg; subst hcal
      split at hc
      · rename_i x' l h1 h2
        simp at hc
        subst hc
        refine ⟨rfl, rfl, ?_⟩
        rw [evOps_yes (by rfl)] at h
        simp only [evI, sink, fL_eq] at h
        split at h
        · rename_i hlt
          have hlt : vm.length < vs.length := by
            unfold Nat.blt at hlt
            have := Nat.le_of_ble_eq_true hlt
            rw [llen_eq] at this
            omega
          have hr := e.hop _ _ h1
          have hl := opds_rel e.hop h2
          generalize x'.get vs ts = X at hr h
          generalize hv : a.eval x = u at hr
          cases hr <;> try exact (A.fail_no h).elim
          rename_i f X1 Y1 u1 u2 r1 r2
          simp only at h
          obtain ⟨dl, hdl, hdr⟩ := e.dfr
          rw [hdl] at h
          simp only [pushD] at h
          refine ⟨{ target := .fn (.func f) u2.toArray, args := (u1 ++ args.toList.map a.eval).toArray }, _, ?_, h, ⟨e.size, fun i t ht => ?_, e.tmps, by rw [lset_eq, List.length_set]; exact e.len, ?_⟩⟩
          · have : u1.toArray ++ args.map a.eval = (u1 ++ args.toList.map a.eval).toArray := by apply Array.ext'; simp
            simp [execOp, resolve, hv, Deferred.ofValue, this]
          · have hi : i < vm.length := (List.getElem?_eq_some_iff.1 ht).1
            rw [lget_eq, lset_eq, List.getElem?_set, if_neg (by omega), ← lget_eq]
            exact e.vars i t ht
          · refine ⟨.fn f (X1 ++ opds vs ts l) Y1 :: dl, ?_, ⟨_, _, r1.append hl, r2, rfl⟩, hdr⟩
            rw [lget_eq, lset_eq, List.getElem?_set, if_pos rfl, if_pos hlt]
            rfl
        · exact (A.fail_no h).elim
      · cases hc
    · cases hc
  · cases hc

/-- An operation, one after the other. -/
theorem step_do (hcall : CallOk P A call) (hyield : YieldOk P A call) (hvm : vm.Nodup) {names : List Nat} {vs ts : List AVal} {H : Heap} {ρ : Env} {a : Act} {w : World} (e : ERel ρ vm names N vs ts a) (hH : HRel ρ H w) {o : Oper} {d : DO} {ds : List DO} {names1 : List Nat} (hc : cOper P vm N ops names o = some (d, names1))
    (h : A.holds (evOps A call (d :: ds) vs ts H K)) :
    Does P ops o a w fun v w' => ∃ vs' ts' H' ρ', A.holds (evOps A call ds vs' ts' H' K) ∧ ERel ρ' vm names1 N vs' ts' (a.put o.dst v) ∧ Step ρ H w ρ' H' w' := by
  obtain ⟨hc1, hc2⟩ := cOper_parts hc
  have hgr := guard_rel e.hop hc2
  have fin : ∀ (v : Value) (w' : World) (x : AVal) (H1 : Heap) (ρ1 : Env), A.holds (sink d.dst vs ts x fun vs ts => evOps A call ds vs ts H1 K) → VRel ρ1 x v → Step ρ H w ρ1 H1 w' →
      ∃ vs' ts' H' ρ', A.holds (evOps A call ds vs' ts' H' K) ∧ ERel ρ' vm names1 N vs' ts' (a.put o.dst v) ∧ Step ρ H w ρ' H' w' := by
    intro v w' x H1 ρ1 hh hv hst
    have hsl : Slots (fun t X => VRel ρ1 X (a.tmps.getD t undef)) vm names vs ts := ⟨fun i t ht => (e.vars i t ht).mono hst.ext, fun i t ht => (e.tmps i t ht).mono hst.ext, e.len⟩
    obtain ⟨vs1, ts1, m1, m2, m3, _, _⟩ := sink_slots (C' := fun t X => VRel ρ1 X ((a.put o.dst v).tmps.getD t undef)) hvm hsl hc hh
      (fun t ht htN => by rw [ht, put_get (Nat.lt_of_lt_of_le htN e.size), if_pos rfl]; exact hv)
      (fun t X ht hX => by rw [put_other ht]; exact hX)
    exact ⟨vs1, ts1, H1, ρ1, m1, ⟨by rw [put_size]; exact e.size, m2.vars, m2.tmps, m2.len, by rw [put_defers, m3]; exact e.dfr.mono hst.ext⟩, hst⟩
  cases hw : Region.wanted o (yielded ops a.tmps) with
  | false =>
    rw [evOps_no (hgr.symm.trans hw)] at h
    exact .inr ⟨hw, fin undef w _ H ρ h (.tup .nil) (Step.refl hH)⟩
  | true =>
    rw [evOps_yes (hgr.symm.trans hw)] at h
    refine .inl ⟨hw, Out.mono (fun v w' hq => ?_) (op_any hcall hyield e.hop hH hc1 h)⟩
    obtain ⟨x, H1, ρ1, h1, h2, h3⟩ := hq
    exact fin v w' x H1 ρ1 h1 h2 h3

theorem region_sound (hm : P.follows .mixedOrders = true) (hcall : CallOk P A call) (hyield : YieldOk P A call) (hvm : vm.Nodup) {id : Nat} {draw kl : Bool} {items : List It} (hit : itemsOf P ops draw kl = some items) {ds : List DO} (hc : cOrd P vm N ops [] items = some (ds, names')) {r : Option Nat} {n : Nat}
    (hr : ∀ (i : Nat) (o : Oper) (c : Call), ops[i]? = some o → o.op = .defer c → r = none)
    {vs ts : List AVal} {H : Heap} {ρ : Env} {a : Act} {w : World} (e : ERel ρ vm [] N vs ts a) (hH : HRel ρ H w) (h : A.holds (evOps A call ds vs ts H K)) {Q : Exit → Act → World → Prop}
    (hQ : ∀ vs ts H' ρ' a' w', A.holds (K vs ts H') → ERel ρ' vm names' N vs ts a' → Step ρ H w ρ' H' w' → Q .normal a' w') : (Code.region id ops draw).wpIn (fw r) n P Q a w := by
  unfold itemsOf at hit
  cases draw with
  | true =>
    simp only at hit
    split at hit
    · rename_i hchk
      simp only [Bool.and_eq_true] at hchk
      obtain ⟨ht, _, hck⟩ := hchk
      simp only [Option.some.injEq] at hit
      rw [hit] at hck
      obtain ⟨hgood, hssa, _⟩ := chk_good (known := []) (fun p hp => by cases hp) hck
      have hok : ∀ (i : Nat) (o : Oper), ops[i]? = some o → (∀ c, o.op ≠ .defer c) ∧ tame P o = true := fun i o ho => by
        have := List.all_eq_true.1 ht o (by simpa using Array.mem_of_getElem? ho)
        refine ⟨fun c hcc => ?_, this⟩
        simp [tame, hcc] at this
      refine wpIn_region_any hm ?_
      have hd := Step.drew hH (w.drawn + 1)
      have s0 : State P A call vm N ops K names' ρ H { w with drawn := w.drawn + 1 } (Array.replicate ops.size false) a { w with drawn := w.drawn + 1 } [] [] items [] vs ts ds H ρ (fun _ => none) (fun _ => none) := by
        refine ⟨by simp, fun i x _ hi => ?_, fun i hi => ?_, by simp, by simp, by simp, by simp, by simp, by simp, by simp, fun t x hx => by simp at hx, ⟨fun i t ht => (SlotOk.real rfl).2 (e.vars i t ht), fun i t ht => by simp at ht, e.len⟩, e.size, e.dfr, hc, h, Step.refl (hH.drew _)⟩
        · simp only [Array.getD_eq_getD_getElem?, Array.getElem?_replicate] at hi
          split at hi <;> simp at hi
        · simp [hi]
      obtain ⟨Pd2, seen2, items2, names3, vs2, ts2, ds2, H2, pv2, own2, s2, g2, m1, m2⟩ := State.norm hvm hssa hok items _ _ _ _ _ _ _ _ _ s0 hgood
      have hcount : ops.size = opsCount items := by
        have := good_count hgood (by simp) (by simp)
        simpa using this.symm
      refine orders_sound hcall hyield hvm hssa hok (fun vs ts H' ρ' a' w' g1 g2 g4 => hQ vs ts H' ρ' a' w' g1 g2 (hd.trans g4)) _ _ _ _ Pd2 seen2 items2 names3 vs2 ts2 ds2 H2 ρ pv2 own2 s2 g2 m1 ?_
      rw [m2]
      simp [hcount]
    · cases hit
  | false =>
    simp only [Option.some.injEq] at hit
    subst hit
    refine wpIn_region ?_
    have key : ∀ (l : List Nat) (names : List Nat) (ds : List DO) (vs ts : List AVal) (H1 : Heap) (ρ1 : Env) (a : Act) (w1 : World), cOrd P vm N ops names (l.map .op) = some (ds, names') → ERel ρ1 vm names N vs ts a → Step ρ H w ρ1 H1 w1 → A.holds (evOps A call ds vs ts H1 K) →
        wpOpsIn (fw r) n P ops Q l a w1 := by
      intro l
      induction l with
      | nil =>
        intro names ds vs ts H1 ρ1 a w1 hc e st h
        simp only [List.map_nil, cOrd, Option.some.injEq, Prod.mk.injEq] at hc
        obtain ⟨rfl, rfl⟩ := hc
        simp only [wpOpsIn]
        exact hQ _ _ _ _ _ _ h e st
      | cons i l ih =>
        intro names ds vs ts H1 ρ1 a w1 hc e st h
        simp only [List.map_cons, cOrd] at hc
        cases ho : ops[i]? with
        | none => rw [ho] at hc; cases hc
        | some o =>
          rw [ho] at hc
          simp only at hc
          rw [wpOpsIn_cons]
          cases hcd : cDefer (cOpd vm names) vm.length o with
          | some d =>
            rw [hcd] at hc
            simp only at hc
            cases hcl : cOrd P vm N ops names (l.map .op) with
            | none => rw [hcl] at hc; cases hc
            | some q =>
              obtain ⟨ds1, names2⟩ := q
              rw [hcl] at hc
              simp at hc
              obtain ⟨rfl, rfl⟩ := hc
              obtain ⟨q1, q2, df, vs', q3, q4, q5⟩ := step_defer (P := P) (w := w1) hvm e hcd h
              have hrn : r = none := by
                unfold cDefer at hcd
                split at hcd
                · rename_i c hop
                  exact hr i o c ho hop
                · cases hcd
              subst hrn
              unfold wpOpIn
              simp only [ho]
              have hw : Region.wanted o (yielded ops a.tmps) = true := by unfold Region.wanted; rw [q2]
              rw [if_pos hw]
              refine ⟨fun _ _ => trivial, ?_⟩
              show o.uponIn (fw none) n P a _ Q ((execOp a.eval o).run P w1)
              rw [q3, Oper.uponIn_defer, q1]
              exact ih names ds1 vs' ts H1 ρ1 _ w1 hcl q5 st q4
          | none =>
            rw [hcd] at hc
            simp only at hc
            cases hco : cOper P vm N ops names o with
            | none => rw [hco] at hc; cases hc
            | some p =>
              obtain ⟨d, names1⟩ := p
              rw [hco] at hc
              simp only at hc
              cases hcl : cOrd P vm N ops names1 (l.map .op) with
              | none => rw [hcl] at hc; cases hc
              | some q =>
                obtain ⟨ds1, names2⟩ := q
                rw [hcl] at hc
                simp at hc
                obtain ⟨rfl, rfl⟩ := hc
                have hnd : ∀ c, o.op ≠ .defer c := fun c hop => by
                  have := (cOper_parts hco).1
                  rw [hop] at this
                  simp [cOp] at this
                refine Does.wpOpIn ho hnd (step_do hcall hyield hvm e st.rel hco h) ?_
                rintro v w' ⟨vs', ts', H', ρ', q1, q2, q3⟩
                exact ih _ _ _ _ _ _ _ _ hcl q2 (st.trans q3) q1
    exact key _ _ _ _ _ _ _ _ _ hc e (Step.refl hH) h
end any5
end Dt

namespace Dt
open Go Go.RowKit
set_option linter.all false
variable [LoopTab]
/-! ### A truth value that hangs on the order -/
section flags
variable {P : Program} {ops : Array Oper}

def unlisted (l : List Bool) : Nat := (l.filter fun b => !b).length
theorem unlisted_set : ∀ (l : List Bool) (i : Nat), l[i]? = some false → unlisted (l.set i true) + 1 = unlisted l
  | [], i, h => by simp at h
  | x :: l, 0, h => by simp at h; subst h; simp [unlisted]
  | x :: l, i + 1, h => by
    have := unlisted_set l i (by simpa using h)
    cases x <;> simp [unlisted] at this ⊢ <;> omega

/-- What holds whatever the order: it holds at the start, each operation keeps it. -/
theorem any_inv {r : Option Nat} {n : Nat} {Q : Exit → Act → World → Prop} (I : Array Bool → Act → World → Prop)
    (hnd : ∀ (i : Nat) (o : Oper), ops[i]? = some o → ∀ c, o.op ≠ .defer c)
    (hstep : ∀ (listed : Array Bool) (a : Act) (w : World) (i : Nat) (o : Oper), I listed a w → listed.size = ops.size → ops[i]? = some o → listed.getD i false = false → (∀ x, Edge ops x i → listed.getD x false = true) → Does P ops o a w fun v w' => I (listed.setIfInBounds i true) (a.put o.dst v) w')
    (hend : ∀ (listed : Array Bool) (a : Act) (w : World), I listed a w → listed.size = ops.size → Region.ready .any ops listed = [] → Q .normal a w) :
    ∀ (fuel : Nat) (listed : Array Bool) (a : Act) (w : World), I listed a w → listed.size = ops.size → unlisted listed.toList ≤ fuel → wpAnyIn (fw r) n P .any ops Q fuel listed a w := by
  have pick : ∀ {listed : Array Bool} {i : Nat}, listed.size = ops.size → i ∈ Region.ready .any ops listed → ∃ o, ops[i]? = some o ∧ listed.getD i false = false ∧ ∀ x, Edge ops x i → listed.getD x false = true := by
    intro listed i hsz hi
    obtain ⟨h1, o, ho, h2⟩ := mem_ready.1 hi
    have hlt : i < ops.size := (Array.getElem?_eq_some_iff.1 ho).1
    refine ⟨o, ho, by rw [getD_tf (by rw [hsz]; exact hlt) false true, h1], ?_⟩
    rintro x ⟨o', e, ho', he, hb, rfl⟩
    rw [ho] at ho'
    simp at ho'
    subst ho'
    exact h2 e he hb
  intro fuel
  induction fuel with
  | zero =>
    intro listed a w hI hsz hu
    have hno : Region.ready .any ops listed = [] := by
      rw [List.eq_nil_iff_forall_not_mem]
      intro i hi
      obtain ⟨o, ho, hf, _⟩ := pick hsz hi
      have hlt : i < listed.size := by rw [hsz]; exact (Array.getElem?_eq_some_iff.1 ho).1
      have : listed.toList[i]? = some false := by
        simp [hlt] at hf ⊢
        exact hf
      have := unlisted_set _ _ this
      omega
    exact ⟨hno, hend _ _ _ hI hsz hno⟩
  | succ fuel ih =>
    intro listed a w hI hsz hu
    refine ⟨fun hno => hend _ _ _ hI hsz hno, fun i hi => ?_⟩
    obtain ⟨o, ho, hf, he⟩ := pick hsz hi
    have hlt : i < listed.size := by rw [hsz]; exact (Array.getElem?_eq_some_iff.1 ho).1
    refine Does.wpOpIn ho (hnd i o ho) (hstep listed a w i o hI hsz ho hf he) fun v w' hI' => ih _ _ _ hI' (by simpa using hsz) ?_
    have : listed.toList[i]? = some false := by
      simp [hlt] at hf ⊢
      exact hf
    have := unlisted_set _ _ this
    rw [Array.toList_setIfInBounds]
    omega

/-- The memory of nobody: what a call of plain arguments needs. -/
def Env.none : Env := fun _ => Option.none
theorem HRel.nobody (w : World) {gl : List (List AVal)} (h : GRel w gl) : HRel Env.none ⟨0, .nil, gl⟩ w := ⟨fun b R e => (by cases e), fun b b' R R' e => (by cases e), fun b R e => (by cases e), h, fun b R e => (by cases e), fun b _ => rfl⟩

/-- All that stood stands as it did. -/
structure Quiet (w w' : World) : Prop where
  size : w.heap.size ≤ w'.heap.size
  os : w'.os = w.os
  tape : w'.tape = w.tape
  output : w'.output = w.output
  same : ∀ k, k < w.heap.size → w'.heap[k]? = w.heap[k]?
theorem Quiet.refl (w : World) : Quiet w w := ⟨Nat.le_refl _, rfl, rfl, rfl, fun _ _ => rfl⟩
theorem Quiet.drew (w : World) (d : Nat) : Quiet w { w with drawn := d } := ⟨Nat.le_refl _, rfl, rfl, rfl, fun _ _ => rfl⟩
theorem Quiet.trans {w w1 w2 : World} (a : Quiet w w1) (b : Quiet w1 w2) : Quiet w w2 :=
  ⟨Nat.le_trans a.size b.size, b.os.trans a.os, b.tape.trans a.tape, b.output.trans a.output, fun k hk => (b.same k (Nat.lt_of_lt_of_le hk a.size)).trans (a.same k hk)⟩
theorem Step.quiet {w w' : World} {ρ' : Env} {H' : Heap} {gl : List (List AVal)} (s : Step Env.none ⟨0, .nil, gl⟩ w ρ' H' w') : Quiet w w' :=
  ⟨s.size, s.os, s.tape, s.output, fun k hk => s.frame k hk fun b R e => by cases e⟩

theorem Quiet.hrel {w w' : World} (q : Quiet w w') {ρ : Env} {H : Heap} (hH : HRel ρ H w) : HRel ρ H w' :=
  ⟨fun b R e => (hH.blk b R e).same (q.same _ (hH.dom b R e).2), hH.inj, fun b R e => ⟨(hH.dom b R e).1, Nat.lt_of_lt_of_le (hH.dom b R e).2 q.size⟩, hH.glob.same fun g hg => q.same _ (Nat.lt_of_lt_of_le hg hH.glob.size), hH.high, hH.top⟩
/-- What a piece did that touched nothing that stood: so it is for anybody. -/
theorem Quiet.step {w w' : World} (q : Quiet w w') {ρ : Env} {H : Heap} (hH : HRel ρ H w) : Step ρ H w ρ H w' :=
  ⟨q.hrel hH, fun _ _ e => e, q.size, q.os, q.tape, q.output, fun r hr _ => q.same r hr, fun b R e hd => .inr ⟨b, R, e, hd, rfl⟩, Nat.le_refl _, fun _ _ _ => rfl, fun _ _ e => .inl e, fun _ e => e, rfl⟩

/-- One cell with a truth value. -/
def cellH (b : Bool) : Heap := ⟨1, .node .nil (.rows 1 [[.bool b]]) .nil, []⟩
def noCall : Nat → List AVal → Heap → (AVal → Heap → Prop) → Prop := fun _ _ _ _ => False
theorem noCall_ok : CallOk P AP noCall := fun _ _ _ _ _ _ _ _ _ h => h.elim
theorem noYield_ok : YieldOk P AP noCall := fun _ _ _ _ _ _ _ _ _ _ _ _ _ _ h => by
  obtain ⟨_, h⟩ := hPut_holds h
  exact h.elim

theorem hop1 {ρ : Env} {X : AVal} {a : Act} {t : Nat} (h : VRel ρ X (a.tmps.getD t undef)) : HOp ρ (cOpd [t] []) [X] [] a := by
  have e : ERel ρ [t] [] 0 [X] [] { a with defers := [] } := by
    refine ⟨Nat.zero_le _, fun i u hu => ?_, fun i u hu => by simp at hu, Nat.le_refl _, ⟨[], rfl, trivial⟩⟩
    cases i with
    | zero => simp at hu; subst hu; exact h
    | succ i => simp at hu
  exact e.hop

/-- The region, in any order. -/
theorem flag_sound (hm : P.follows .mixedOrders = true) {ta td : Nat} {tt : TypeId} (hf : flagOps P ops = some (ta, td, tt)) {id : Nat} {r : Option Nat} {n : Nat} {a : Act} {w : World} (hta : ta < a.tmps.size) (htd : td < a.tmps.size) {Q : Exit → Act → World → Prop}
    (hQ : ∀ a' w', Quiet w w' → a'.defers = a.defers → a'.tmps.size = a.tmps.size → (∀ t, t ≠ ta → t ≠ td → a'.tmps.getD t undef = a.tmps.getD t undef) → (∃ b, a'.tmps.getD td undef = .bool b) → Q .normal a' w') :
    (Code.region id ops true).wpIn (fw r) n P Q a w := by
  unfold flagOps at hf
  split at hf
  rotate_left
  · cases hf
  rename_i o0 o1 o2 o3 hops
  split at hf
  rotate_left
  · cases hf
  rename_i t t1 a1 b1 t2 a2 b2 t3 a3 a' d q0 q1 q2 q3 d0 d3
  split at hf
  rotate_left
  · cases hf
  rename_i hc
  simp only [Option.some.injEq, Prod.mk.injEq] at hf
  obtain ⟨rfl, rfl, rfl⟩ := hf
  simp only [Bool.and_eq_true, beq_iff_eq, bne_iff_ne, Option.isNone_iff_eq_none] at hc
  obtain ⟨⟨⟨⟨⟨⟨⟨⟨⟨rfl, rfl⟩, rfl⟩, ⟨⟨rfl, rfl⟩, rfl⟩⟩, hne⟩, hone⟩, hcells⟩, hz⟩, ⟨⟨⟨⟨⟨g0, g1⟩, g2⟩, g3⟩, e1⟩, e2⟩⟩, ⟨⟨⟨⟨⟨⟨k0, k1⟩, k2⟩, k3⟩, l1⟩, l2⟩, l3⟩⟩ := hc
  have hget : ∀ i, ops[i]? = [o0, o1, o2, o3][i]? := fun i => by rw [← hops, Array.getElem?_toList]
  have hsz4 : ops.size = 4 := by rw [← Array.length_toList, hops]; rfl
  obtain ⟨i, hi⟩ := info_of_one hone
  have hi1 : i.size = 1 := by simpa [Program.cellsOf, hi] using hcells
  have hmany : isMany P t3 = false := by
    unfold isOne at hone
    unfold isMany
    cases hu : P.underlying t3 with
    | none => rfl
    | some y => rw [hu] at hone; cases y <;> first | rfl | (cases hone; done)
  split at hz
  rotate_left
  · cases hz
  rename_i bz hzr
  have edge : ∀ {x j : Nat} {o : Oper}, ops[j]? = some o → edgeTo o x = true → Edge ops x j := by
    intro x j o ho he
    unfold edgeTo at he
    obtain ⟨e, h1, h2⟩ := List.any_eq_true.1 he
    simp only [Bool.and_eq_true, beq_iff_eq] at h2
    exact ⟨o, e, ho, by simpa using h1, h2.1, h2.2⟩
  have o0h : ops[0]? = some o0 := hget 0
  have o1h : ops[1]? = some o1 := hget 1
  have o2h : ops[2]? = some o2 := hget 2
  have o3h : ops[3]? = some o3 := hget 3
  refine wpIn_region_any hm ?_
  let w1 : World := { w with drawn := w.drawn + 1 }
  let I : Array Bool → Act → World → Prop := fun listed a' w' =>
    a'.defers = a.defers ∧ a'.tmps.size = a.tmps.size ∧ (∀ t, t ≠ a3 → t ≠ d → a'.tmps.getD t undef = a.tmps.getD t undef) ∧
    (listed.getD 0 false = false → w' = w1) ∧
    (listed.getD 0 false = true → ∃ b ρ, Step Env.none ⟨0, .nil, []⟩ w1 ρ (cellH b) w' ∧ VRel ρ (.ptr 0 0 0) (a'.tmps.getD a3 undef)) ∧
    (listed.getD 3 false = true → ∃ b, a'.tmps.getD d undef = .bool b)
  have put_other : ∀ (a' : Act) (t x : Nat) (v : Value), x ≠ t → (a'.put (some t) v).tmps.getD x undef = a'.tmps.getD x undef := fun a' t x v hx => by
    simp only [Act.put, Array.getD_eq_getD_getElem?]
    rw [Array.getElem?_setIfInBounds, if_neg (Ne.symm hx)]
  have put_here : ∀ (a' : Act) (t : Nat) (v : Value), t < a'.tmps.size → (a'.put (some t) v).tmps.getD t undef = v := fun a' t v hx => by
    simp only [Act.put, Array.getD_eq_getD_getElem?]
    rw [Array.getElem?_setIfInBounds, if_pos rfl, if_pos hx]
    rfl
  have put_size : ∀ (a' : Act) (t : Nat) (v : Value), (a'.put (some t) v).tmps.size = a'.tmps.size := fun a' t v => by simp [Act.put]
  have set_same : ∀ {listed : Array Bool} {j : Nat}, j < listed.size → (listed.setIfInBounds j true).getD j false = true := fun {listed j} hj => by
    simp only [Array.getD_eq_getD_getElem?]
    rw [Array.getElem?_setIfInBounds, if_pos rfl, if_pos hj]
    rfl
  have set_other : ∀ {listed : Array Bool} {j k : Nat}, k ≠ j → (listed.setIfInBounds j true).getD k false = listed.getD k false := fun {listed j k} hk => by
    simp only [Array.getD_eq_getD_getElem?]
    rw [Array.getElem?_setIfInBounds, if_neg (Ne.symm hk)]
  refine any_inv I ?_ ?_ ?_ _ _ _ _ ⟨rfl, rfl, fun _ _ _ => rfl, fun _ => rfl, fun h => ?_, fun h => ?_⟩ (by simp) (by simp [unlisted])
  · intro j o ho c hcc
    rw [hget] at ho
    match j, ho with
    | 0, ho => simp at ho; subst ho; rw [q0] at hcc; cases hcc
    | 1, ho => simp at ho; subst ho; rw [q1] at hcc; cases hcc
    | 2, ho => simp at ho; subst ho; rw [q2] at hcc; cases hcc
    | 3, ho => simp at ho; subst ho; rw [q3] at hcc; cases hcc
    | j + 4, ho => simp at ho
  · rintro listed a' w' j o ⟨h1, h2, h3, h4, h5, h6⟩ hsz ho hnl hed
    have wanted : o.guard = none → Region.wanted o (yielded ops a'.tmps) = true := fun h => by simp [Region.wanted, h]
    rw [hget] at ho
    -- a store
    have sto : ∀ {o : Oper} {b : Bool} {j : Nat}, o.op = .store t3 (.tmp a3) (.const (.bool b)) → o.dst = none → o.guard = none → j ≠ 0 → j ≠ 3 → Edge ops 0 j → (∀ x, Edge ops x j → listed.getD x false = true) →
        Does P ops o a' w' fun v w' => I (listed.setIfInBounds j true) (a'.put o.dst v) w' := by
      intro o b j hop hdst hg hj0 hj3 he0 hed
      refine .inl ⟨by simp [Region.wanted, hg], ?_⟩
      have hl0 := hed 0 he0
      obtain ⟨b0, ρ, hst, hv⟩ := h5 hl0
      have hcop : cOp P (cOpd [a3] []) o.op = some (.store i.size (.v 0) (.c (.bool b))) := by
        rw [hop]
        simp [cOp, hi, cOpd, findT, cVal, cVal1]
      have hev : AP.holds (evI AP noCall (.store i.size (.v 0) (.c (.bool b))) [.ptr 0 0 0] [] (cellH b0) fun _ H' => H' = cellH b) := by
        rw [hi1]
        simp only [evI, Opd.get, lget, doStore, AVal.cells, cellH, Heap.get, Tr.get, rget, llen]
        simp only [Nat.reduceAdd, fL_eq, hPut_eq, splice, rset]
        rfl
      refine Out.mono ?_ (op_any noCall_ok noYield_ok (hop1 hv) hst.rel hcop hev)
      rintro v w2 ⟨x, H', ρ', rfl, _, hst'⟩
      rw [hdst]
      refine ⟨h1, h2, h3, fun h => ?_, fun _ => ⟨b, ρ', hst.trans hst', hv.mono hst'.ext⟩, fun h => h6 ?_⟩
      · rw [set_other (Ne.symm hj0), hl0] at h; cases h
      · rwa [set_other (Ne.symm hj3)] at h
    match j, ho with
    | 0, ho =>
      simp at ho
      subst ho
      have hw := h4 hnl
      subst hw
      refine .inl ⟨wanted g0, ?_⟩
      have hcop : cOp P (fun _ => none) o0.op = some (.alloc [.bool bz]) := by
        rw [q0]
        simp [cOp, hzr]
      have hopU : HOp Env.none (fun _ => none) [] [] a' := fun x y h => by cases h
      have hev : AP.holds (evI AP noCall (.alloc [.bool bz]) [] [] ⟨0, .nil, []⟩ fun x H' => x = .ptr 0 0 0 ∧ H' = cellH bz) := by
        simp only [evI, hAdd_eq]
        exact ⟨trivial, rfl⟩
      refine Out.mono ?_ (op_any noCall_ok noYield_ok hopU (HRel.nobody w1 (gl := []) (fun g row h => by simp at h)) hcop hev)
      rintro v w2 ⟨x, H', ρ', ⟨rfl, rfl⟩, hv, hst⟩
      rw [d0]
      refine ⟨h1, (put_size ..).trans h2, fun t ht ht' => (put_other _ _ _ _ ht).trans (h3 t ht ht'), fun h => ?_, fun _ => ⟨bz, ρ', hst, ?_⟩, fun h => ?_⟩
      · rw [set_same (by omega)] at h; cases h
      · rw [put_here _ _ _ (by omega)]; exact hv
      · rw [set_other (by decide)] at h
        obtain ⟨b, hb⟩ := h6 h
        exact ⟨b, by rw [put_other _ _ _ _ (Ne.symm hne)]; exact hb⟩
    | 1, ho =>
      simp at ho
      subst ho
      exact sto q1 e1 g1 (by decide) (by decide) (edge o1h l1) hed
    | 2, ho =>
      simp at ho
      subst ho
      exact sto q2 e2 g2 (by decide) (by decide) (edge o2h l2) hed
    | 3, ho =>
      simp at ho
      subst ho
      refine .inl ⟨wanted g3, ?_⟩
      have hl0 := hed 0 (edge o3h l3)
      obtain ⟨b0, ρ, hst, hv⟩ := h5 hl0
      have hcop : cOp P (cOpd [a3] []) o3.op = some (.load1 (.v 0)) := by
        rw [q3]
        simp [cOp, cOpd, findT, hmany, hone]
      have hev : AP.holds (evI AP noCall (.load1 (.v 0)) [.ptr 0 0 0] [] (cellH b0) fun x H' => x = .bool b0 ∧ H' = cellH b0) := by
        simp only [evI, Opd.get, lget, cellH, Heap.get, Tr.get, rget, cut]
        exact ⟨trivial, trivial⟩
      refine Out.mono ?_ (op_any noCall_ok noYield_ok (hop1 hv) hst.rel hcop hev)
      rintro v w2 ⟨x, H', ρ', ⟨rfl, rfl⟩, hv', hst'⟩
      rw [d3]
      refine ⟨h1, (put_size ..).trans h2, fun t ht ht' => (put_other _ _ _ _ ht').trans (h3 t ht ht'), fun h => ?_, fun _ => ⟨b0, ρ', hst.trans hst', ?_⟩, fun _ => ⟨b0, ?_⟩⟩
      · rw [set_other (by decide), hl0] at h; cases h
      · rw [put_other _ _ _ _ hne]; exact hv.mono hst'.ext
      · rw [put_here _ _ _ (by omega)]; cases hv'; rfl
    | j + 4, ho => simp at ho
  · rintro listed a' w' ⟨h1, h2, h3, h4, h5, h6⟩ hsz hno
    have all : ∀ (j : Nat), j < 4 → (∀ x, Edge ops x j → listed.getD x false = true) → listed.getD j false = true := by
      intro j hj he
      cases hl : listed.getD j false with
      | true => rfl
      | false =>
        have := ready_of hsz (by rw [hsz4]; exact hj) (by rw [hl]; simp) he
        rw [hno] at this
        cases this
    have within : ∀ {x j : Nat} {o : Oper} {l : List Nat}, ops[j]? = some o → edgesIn o l = true → Edge ops x j → x ∈ l := by
      rintro x j o l ho hin ⟨o', e, ho', he, hb, rfl⟩
      rw [ho] at ho'
      simp at ho'
      subst ho'
      have := List.all_eq_true.1 hin e (by simpa using he)
      simpa [hb] using this
    have L0 := all 0 (by decide) fun x hx => by have := within o0h k0 hx; cases this
    have L1 := all 1 (by decide) fun x hx => by have := within o1h k1 hx; simp at this; subst this; exact L0
    have L2 := all 2 (by decide) fun x hx => by have := within o2h k2 hx; simp at this; subst this; exact L0
    have L3 := all 3 (by decide) fun x hx => by
      have := within o3h k3 hx
      simp at this
      rcases this with rfl | rfl | rfl <;> assumption
    obtain ⟨b, ρ, hst, _⟩ := h5 L0
    exact hQ a' w' ((Quiet.drew w _).trans hst.quiet) h1 h2 h3 (h6 L3)
  · simp [hsz4] at h
  · simp [hsz4] at h
end flags
end Dt
