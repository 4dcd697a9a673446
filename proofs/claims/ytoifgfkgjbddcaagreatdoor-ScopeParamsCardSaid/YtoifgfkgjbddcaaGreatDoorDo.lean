/- A part of the abstract machine and of the proof that the program does what it reckons; no conditions. -/
import Derived.Test.YtoifgfkgjbddcaaGreatDoorDl
set_option linter.all false
namespace Dt
open Go Go.RowKit
set_option linter.all false
variable [LoopTab]
/-! ### Code -/
section code
variable {R : Type} {A : Alg R} {P : Program} {call : Nat → List AVal → Heap → (AVal → Heap → R) → R} {vm : List Nat} {N : Nat}

def DX.exit' : DX → Exit
  | .normal => .normal
  | .exit id => .exit id
  | .ret => .ret

def namesAt (x : DX) (names : List Nat) : List Nat := match x with | .normal => names | _ => []

theorem ERel.at {ρ : Env} {names : List Nat} {vs ts : List AVal} {a : Act} (e : ERel ρ vm names N vs ts a) (x : DX) : ERel ρ vm (namesAt x names) N vs ts a := by
  cases x <;> first | exact e | exact e.forget ts

/-- What a range over a function must do (in a function's own frame). -/
def RangeOk (P : Program) (A : Alg R) (call : Nat → List AVal → Heap → (AVal → Heap → R) → R) (bf : Option (Nat × Nat)) (vm : List Nat) (N : Nat) (x : Operand) (ps : Array Tmp) (asg body : Code) : Prop :=
  ∀ (b g : Nat) (x' : Opd) (names : List Nat), bf = some (b, g) → cOpd vm names x = some x' → ∀ (n : Nat) (K : DX → List AVal → List AVal → Heap → R) (vs ts : List AVal) (H : Heap) (ρ : Env) (a : Act) (w : World), ERel ρ vm names N vs ts a → HRel ρ H w → A.holds (evC A call (.rngF x' b vm.length g) vs ts H K) →
    ∀ Q : Exit → Act → World → Prop, (∀ vs ts H' ρ' a' w', A.holds (K .normal vs ts H') → ERel ρ' vm [] N vs ts a' → Step ρ H w ρ' H' w' → Q .normal a' w') → (Code.rangeFunc x ps asg body).wpIn (fw none) n P Q a w
def RangesOk (P : Program) (A : Alg R) (call : Nat → List AVal → Heap → (AVal → Heap → R) → R) (bf : Option (Nat × Nat)) (vm : List Nat) (N : Nat) : Code → Prop
  | .seq a b => RangesOk P A call bf vm N a ∧ RangesOk P A call bf vm N b
  | .cond _ a b => RangesOk P A call bf vm N a ∧ RangesOk P A call bf vm N b
  | .block _ c => RangesOk P A call bf vm N c
  | .loop c => RangesOk P A call bf vm N c
  | .rangeFunc x ps asg body => RangeOk P A call bf vm N x ps asg body
  | _ => True

/-- Two codes for one thing: what the second comes to, the first comes to, but for some variables. -/
def PairOk (x y : DC) (us : List Nat) (p : Opd) (off : Nat) : Prop :=
  ∀ (R : Type) (A : Alg R) (call : Nat → List AVal → Heap → (AVal → Heap → R) → R) (vs : List AVal) (H : Heap) (K : DX → List AVal → List AVal → Heap → R), (∀ i ∈ us, i < vs.length) → apartF H (p.get vs []) off = true → A.holds (evC A call y vs [] H K) →
    evC AP noCall x vs [] H fun e vs2 _ H2 => e = .normal ∧ ∃ vs1 ts1, A.holds (K .normal vs1 ts1 H2) ∧ vs1.length = vs2.length ∧ (∀ i, i ∉ us → lget vs2 i = lget vs1 i) ∧ ∀ i ∈ us, ∀ b, lget vs2 i ≠ .bool b
/-- No such pair. -/
def noFlags : DC → Bool
  | .seq a b => noFlags a && noFlags b
  | .cond _ a b => noFlags a && noFlags b
  | .block _ c => noFlags c
  | .loop c => noFlags c
  | .condF _ _ _ _ _ => false
  | _ => true
def FlagsG (fl : Bool) : DC → Prop
  | .seq a b => FlagsG fl a ∧ FlagsG fl b
  | .cond _ a b => FlagsG fl a ∧ FlagsG fl b
  | .block _ c => FlagsG fl c
  | .loop c => FlagsG fl c
  | .condF x y us p off => fl = true ∧ noFlags x = true ∧ FlagsG fl y ∧ PairOk x y us p off
  | _ => True
abbrev FlagsOk (c : DC) : Prop := FlagsG true c
theorem flags_none {fl : Bool} : ∀ (c : DC), noFlags c = true → FlagsG fl c
  | .seq a b, h => by simp only [noFlags, Bool.and_eq_true] at h; exact ⟨flags_none a h.1, flags_none b h.2⟩
  | .cond _ a b, h => by simp only [noFlags, Bool.and_eq_true] at h; exact ⟨flags_none a h.1, flags_none b h.2⟩
  | .block _ c, h => flags_none c h
  | .loop c, h => flags_none c h
  | .condF _ _ _ _ _, h => by cases h
  | .skip, _ => trivial
  | .reg _, _ => trivial
  | .exit _, _ => trivial
  | .ret, _ => trivial
  | .die, _ => trivial
  | .rngF _ _ _ _, _ => trivial
theorem ranges_plain {R' : Type} {A' : Alg R'} {call' : Nat → List AVal → Heap → (AVal → Heap → R') → R'} {bf : Option (Nat × Nat)} : ∀ (c : Code), plainC c = true → RangesOk P A' call' bf vm N c
  | .seq a b, h => by simp only [plainC, Bool.and_eq_true] at h; exact ⟨ranges_plain a h.1, ranges_plain b h.2⟩
  | .cond _ a b, h => by simp only [plainC, Bool.and_eq_true] at h; exact ⟨ranges_plain a h.1, ranges_plain b h.2⟩
  | .block _ c, h => ranges_plain c h
  | .loop c, h => ranges_plain c h
  | .rangeFunc _ _ _ _, h => by cases h
  | .skip, _ => trivial
  | .region _ _ _, _ => trivial
  | .exit _, _ => trivial
  | .label _, _ => trivial
  | .ret, _ => trivial
  | .goto _, _ => trivial
  | .scope _, _ => trivial
  | .refuse _, _ => trivial
theorem clr_length : ∀ (us : List Nat) (vs : List AVal), (clr us vs).length = vs.length
  | [], _ => rfl
  | i :: us, vs => by simp only [clr]; rw [clr_length us, lset_eq, List.length_set]
theorem clr_out {i : Nat} : ∀ (us : List Nat) (vs : List AVal), i ∉ us → lget (clr us vs) i = lget vs i
  | [], _, _ => rfl
  | j :: us, vs, h => by
    simp only [List.mem_cons, not_or] at h
    simp only [clr]
    rw [clr_out us _ h.2, lget_eq, lset_eq, List.getElem?_set, if_neg (Ne.symm h.1), ← lget_eq]
theorem clr_in {i : Nat} : ∀ (us : List Nat) (vs : List AVal), i ∈ us → i < vs.length → lget (clr us vs) i = .un
  | [], _, h, _ => by cases h
  | j :: us, vs, h, hl => by
    simp only [clr]
    by_cases hi : i ∈ us
    · exact clr_in us _ hi (by rw [lset_eq, List.length_set]; exact hl)
    · have hij : i = j := by simpa [hi] using h
      subst hij
      rw [clr_out us _ hi, lget_eq, lset_eq, List.getElem?_set, if_pos rfl, if_pos hl]
      rfl
theorem noBool_at {i : Nat} : ∀ (us : List Nat) (vs : List AVal), noBool us vs = true → i ∈ us → ∀ b, lget vs i ≠ .bool b
  | [], _, _, h, _ => by cases h
  | j :: us, vs, hn, h, b => by
    simp only [noBool] at hn
    split at hn
    · cases hn
    · rename_i hne
      rcases List.mem_cons.1 h with rfl | h
      · exact fun he => hne _ he
      · exact noBool_at us vs hn h b
theorem VRel.nonbool {ρ : Env} {x : AVal} {v : Value} (h : VRel ρ x v) (hx : ∀ b, x ≠ .bool b) : ∀ b, v ≠ .bool b := by
  intro b hv
  subst hv
  cases h with
  | bool b => exact hx b rfl
  | un _ hu => exact hu b rfl
/-- Some variables are forgotten. -/
theorem ERel.clr {ρ : Env} {vs1 vs2 ts ts' : List AVal} {a : Act} {names : List Nat} {us : List Nat} (e : ERel ρ vm names N vs2 ts a) (hl : vs1.length = vs2.length) (ho : ∀ i, i ∉ us → lget vs2 i = lget vs1 i) (hn : ∀ i ∈ us, ∀ b, lget vs2 i ≠ .bool b) (hu : ∀ i ∈ us, i < vm.length) :
    ERel ρ vm [] N (clr us vs1) ts' a := by
  refine ⟨e.size, fun i t ht => ?_, fun i t ht => by simp at ht, by rw [clr_length, hl]; exact e.len, ?_⟩
  · by_cases hi : i ∈ us
    · rw [clr_in us vs1 hi (by have := hu i hi; have := e.len; omega)]
      exact .un _ ((e.vars i t ht).nonbool (hn i hi))
    · rw [clr_out us vs1 hi, ← ho i hi]
      exact e.vars i t ht
  · have hi : vm.length ∉ us := fun h => Nat.lt_irrefl _ (hu _ h)
    rw [clr_out us vs1 hi, ← ho _ hi]
    exact e.dfr

theorem flagOf_some {kl : Bool} {a b : Code} {p : Code × Code} (h : flagOf P kl vm N a b = some p) : ∃ id ops t a0 tt, a = .region id ops true ∧ b = .cond (.tmp t) p.1 p.2 ∧ flagOps P ops = some (a0, t, tt) ∧ a0 ∉ vm ∧ t ∉ vm ∧ a0 < N ∧ t < N ∧ plainC p.1 = true ∧ plainC p.2 = true := by
  unfold flagOf at h
  split at h
  · rename_i id ops t x y
    split at h
    · split at h
      · rename_i a0 d tt hf
        split at h
        · rename_i hc
          simp only [Option.some.injEq] at h
          subst h
          simp only [Bool.and_eq_true, beq_iff_eq, Bool.not_eq_true', List.contains_eq_mem, decide_eq_false_iff_not] at hc
          obtain ⟨⟨⟨rfl, h1, h2⟩, h3, h4⟩, h5, h6⟩ := hc
          exact ⟨id, ops, t, a0, tt, rfl, rfl, hf, h1, h2, Nat.le_of_ble_eq_true h3, Nat.le_of_ble_eq_true h4, h5, h6⟩
        · cases h
      · cases h
    · cases h
  · cases h

/-- What the codes that stand for others do. -/
def SubOk (P : Program) (vm : List Nat) (N : Nat) (bf : Option (Nat × Nat)) (kl : Bool) (r : Option Nat) (n : Nat) : Prop :=
  ∀ (c : Code) (names names' : List Nat) (dc : DC), cCode P bf kl vm N names c = some (dc, names') → plainC c = true → noFlags dc = true →
    ∀ (K : DX → List AVal → List AVal → Heap → Prop) (vs ts : List AVal) (H : Heap) (ρ : Env) (a : Act) (w : World), ERel ρ vm names N vs ts a → HRel ρ H w → evC AP noCall dc vs ts H K →
    ∀ Q : Exit → Act → World → Prop, (∀ x vs ts H' ρ' a' w', K x vs ts H' → ERel ρ' vm (namesAt x names') N vs ts a' → Step ρ H w ρ' H' w' → Q x.exit' a' w') → c.wpIn (fw r) n P Q a w

theorem code_sound' {fl : Bool} (hm : P.follows .mixedOrders = true) (hcall : CallOk P A call) (hyield : YieldOk P A call) (hvm : vm.Nodup) {bf : Option (Nat × Nat)} {kl : Bool} {r : Option Nat} {n : Nat} (hsub : fl = true → SubOk P vm N bf kl r n) : ∀ (c : Code) (names names' : List Nat) (dc : DC), cCode P bf kl vm N names c = some (dc, names') → (r = none ∨ plainC c = true) → RangesOk P A call bf vm N c → FlagsG fl dc →
    ∀ (K : DX → List AVal → List AVal → Heap → R) (vs ts : List AVal) (H : Heap) (ρ : Env) (a : Act) (w : World), ERel ρ vm names N vs ts a → HRel ρ H w → A.holds (evC A call dc vs ts H K) →
    ∀ Q : Exit → Act → World → Prop, (∀ x vs ts H' ρ' a' w', A.holds (K x vs ts H') → ERel ρ' vm (namesAt x names') N vs ts a' → Step ρ H w ρ' H' w' → Q x.exit' a' w') → c.wpIn (fw r) n P Q a w
  | .skip, names, names', dc, hc, hp, hro, hfl, K, vs, ts, H, ρ, a, w, e, hH, h, Q, hQ => by
    simp only [cCode, Option.some.injEq, Prod.mk.injEq] at hc
    obtain ⟨rfl, rfl⟩ := hc
    exact wpIn_skip (hQ .normal vs ts H ρ a w h e (Step.refl hH))
  | .region id ops draw, names, names', dc, hc, hp, hro, hfl, K, vs, ts, H, ρ, a, w, e, hH, h, Q, hQ => by
    simp only [cCode] at hc
    split at hc
    · cases hc
    · rename_i items hit
      split at hc
      · rename_i ds names1 hco
        simp only [Option.some.injEq, Prod.mk.injEq] at hc
        obtain ⟨rfl, rfl⟩ := hc
        simp only [evC] at h
        refine region_sound hm hcall hyield hvm hit hco (fun i o c ho hop => ?_) (e.forget []) hH h fun vs ts H' ρ' a' w' g1 g2 g3 => hQ .normal vs ts H' ρ' a' w' g1 g2 g3
        rcases hp with hp | hp
        · exact hp
        · have := List.all_eq_true.1 hp o (by simpa using Array.mem_of_getElem? ho)
          simp [hop] at this
      · cases hc
  | .seq x y, names, names', dc, hc, hp, hro, hfl, K, vs, ts, H, ρ, a, w, e, hH, h, Q, hQ => by
    rw [cCode.eq_def] at hc
    simp only at hc
    split at hc
    · rename_i pp hfo
      obtain ⟨id, ops, t, a0, tt, rfl, rfl, hf1, hf2, hf3, hf4, hf5, hf6, hf7⟩ := flagOf_some hfo
      simp only at hc
      split at hc
      · rename_i dx n1 dy n2 h1 h2
        simp only [Option.map_eq_some_iff, Prod.mk.injEq] at hc
        obtain ⟨d, hd, rfl, rfl⟩ := hc
        unfold cFlag at hd
        split at hd
        · rename_i p off hpo
          split at hd
          · rename_i hus
            simp only [Option.some.injEq] at hd
            subst hd
            have hus' : ∀ i ∈ writesC dx ++ writesC dy, i < vm.length := fun i hi => Nat.le_of_ble_eq_true (List.all_eq_true.1 hus i hi)
            obtain ⟨hflt, hfx, hfy, hpair⟩ := hfl
            simp only [evC] at h
            split at h
            · rename_i hap
              refine wpIn_seq (flag_sound hm hf1 (Nat.lt_of_lt_of_le hf4 e.size) (Nat.lt_of_lt_of_le hf5 e.size) fun a1 w1 q1 q2 q3 q4 q5 => ?_)
              obtain ⟨bb, hbb⟩ := q5
              have hne : ∀ (i u : Nat), vm[i]? = some u → u ≠ a0 ∧ u ≠ t := fun i u hu => ⟨fun he => hf2 (he ▸ List.mem_of_getElem? hu), fun he => hf3 (he ▸ List.mem_of_getElem? hu)⟩
              have e1 : ERel ρ vm [] N vs [] a1 := ⟨by rw [q3]; exact e.size, fun i u hu => by rw [q4 u (hne i u hu).1 (hne i u hu).2]; exact e.vars i u hu, fun i u hu => by simp at hu, e.len, by rw [q2]; exact e.dfr⟩
              have st1 := q1.step hH
              simp only [Exit.then]
              cases bb with
              | true =>
                refine wpIn_cond_true (by simpa [Act.eval] using hbb) (hsub hflt pp.1 _ _ _ h1 hf6 hfx _ _ _ _ _ _ _ e1 st1.rel (hpair R A call vs H _ (fun i hi => Nat.lt_of_lt_of_le (hus' i hi) e.len) hap h) Q fun z vs2 ts2 H2 ρ2 a2 w2 k1 k2 k3 => ?_)
                obtain ⟨rfl, vs1, ts1, m1, m2, m3, m4⟩ := k1
                simp only at m1
                split at m1
                · rw [fL_eq] at m1
                  exact hQ .normal _ _ _ _ _ _ m1 (k2.clr m2 m3 m4 hus') (st1.trans k3)
                · exact (A.fail_no m1).elim
              | false =>
                refine wpIn_cond_false (by simpa [Act.eval] using hbb) (code_sound' hm hcall hyield hvm hsub pp.2 _ _ _ h2 (.inr hf7) (ranges_plain _ hf7) hfy _ _ _ _ _ _ _ e1 st1.rel h Q fun z vs2 ts2 H2 ρ2 a2 w2 k1 k2 k3 => ?_)
                cases z with
                | normal =>
                  simp only at k1
                  split at k1
                  · rename_i hnb
                    rw [fL_eq] at k1
                    exact hQ .normal _ _ _ _ _ _ k1 (k2.clr rfl (fun _ _ => rfl) (fun i hi => noBool_at _ _ hnb hi) hus') (st1.trans k3)
                  · exact (A.fail_no k1).elim
                | exit id => exact (A.fail_no k1).elim
                | ret => exact (A.fail_no k1).elim
            · exact (A.fail_no h).elim
          · cases hd
        · cases hd
      · cases hc
    · rename_i hfo0
      split at hc
      · cases hc
      · rename_i dx n1 h1
        split at hc
        · cases hc
        · rename_i dy n2 h2
          simp only [Option.some.injEq, Prod.mk.injEq] at hc
          obtain ⟨rfl, rfl⟩ := hc
          simp only [evC] at h
          have hp1 : r = none ∨ plainC x = true := hp.imp id fun h => by simp only [plainC, Bool.and_eq_true] at h; exact h.1
          have hp2 : r = none ∨ plainC y = true := hp.imp id fun h => by simp only [plainC, Bool.and_eq_true] at h; exact h.2
          refine wpIn_seq (code_sound' hm hcall hyield hvm hsub x _ _ _ h1 hp1 hro.1 hfl.1 _ _ _ _ _ _ _ e hH h _ fun z vs1 ts1 H1 ρ1 a1 w1 g1 g2 g3 => ?_)
          cases z with
          | normal =>
            simp only [DX.exit', Exit.then]
            exact code_sound' hm hcall hyield hvm hsub y _ _ _ h2 hp2 hro.2 hfl.2 _ _ _ _ _ _ _ g2 g3.rel g1 Q fun z vs2 ts2 H2 ρ2 a2 w2 k1 k2 k3 => hQ z vs2 ts2 H2 ρ2 a2 w2 k1 k2 (g3.trans k3)
          | exit id => exact hQ (.exit id) vs1 ts1 H1 ρ1 a1 w1 g1 g2 g3
          | ret => exact hQ .ret vs1 ts1 H1 ρ1 a1 w1 g1 g2 g3
  | .cond c x y, names, names', dc, hc, hp, hro, hfl, K, vs, ts, H, ρ, a, w, e, hH, h, Q, hQ => by
    simp only [cCode] at hc
    split at hc
    · rename_i dc' dx n1 dy n2 h0 h1 h2
      simp only [Option.some.injEq, Prod.mk.injEq] at hc
      obtain ⟨rfl, rfl⟩ := hc
      simp only [evC] at h
      have hr := opd_rel e.hop h0
      generalize dc'.get vs ts = X at hr h
      generalize hv : a.eval c = u at hr
      cases hr <;> try exact (A.fail_no h).elim
      rename_i b
      have hp1 : r = none ∨ plainC x = true := hp.imp id fun h => by simp only [plainC, Bool.and_eq_true] at h; exact h.1
      have hp2 : r = none ∨ plainC y = true := hp.imp id fun h => by simp only [plainC, Bool.and_eq_true] at h; exact h.2
      cases b with
      | true =>
        refine wpIn_cond_true hv (code_sound' hm hcall hyield hvm hsub x _ _ _ h1 hp1 hro.1 hfl.1 _ _ _ _ _ _ _ e hH h Q fun z vs1 ts1 H1 ρ1 a1 w1 g1 g2 g3 => hQ z vs1 ts1 H1 ρ1 a1 w1 g1 ?_ g3)
        cases z <;> exact g2.forget ts1
      | false =>
        refine wpIn_cond_false hv (code_sound' hm hcall hyield hvm hsub y _ _ _ h2 hp2 hro.2 hfl.2 _ _ _ _ _ _ _ e hH h Q fun z vs1 ts1 H1 ρ1 a1 w1 g1 g2 g3 => hQ z vs1 ts1 H1 ρ1 a1 w1 g1 ?_ g3)
        cases z <;> exact g2.forget ts1
    · cases hc
  | .block id c, names, names', dc, hc, hp, hro, hfl, K, vs, ts, H, ρ, a, w, e, hH, h, Q, hQ => by
    simp only [cCode] at hc
    split at hc
    · rename_i dx n1 h1
      simp only [Option.some.injEq, Prod.mk.injEq] at hc
      obtain ⟨rfl, rfl⟩ := hc
      simp only [evC] at h
      refine wpIn_block (code_sound' hm hcall hyield hvm hsub c _ _ _ h1 hp hro hfl _ _ _ _ _ _ _ e hH h _ fun z vs1 ts1 H1 ρ1 a1 w1 g1 g2 g3 => ?_)
      have g2' : ∀ z, ERel ρ1 vm (namesAt z []) N vs1 ts1 a1 := fun z => by cases z <;> exact g2.forget ts1
      cases z with
      | normal => exact hQ .normal vs1 ts1 H1 ρ1 a1 w1 g1 (g2' .normal) g3
      | ret => exact hQ .ret vs1 ts1 H1 ρ1 a1 w1 g1 (g2' .ret) g3
      | exit j =>
        simp only at g1
        simp only [DX.exit', Exit.inBlock]
        by_cases hj : j = id
        · rw [if_pos hj]
          have : Nat.beq j id = true := by rw [Nat.beq_eq]; exact hj
          rw [this] at g1
          exact hQ .normal vs1 ts1 H1 ρ1 a1 w1 g1 (g2' .normal) g3
        · rw [if_neg hj]
          have : Nat.beq j id = false := by
            cases hb : Nat.beq j id with
            | false => rfl
            | true => exact absurd (Nat.eq_of_beq_eq_true hb) hj
          rw [this] at g1
          exact hQ (.exit j) vs1 ts1 H1 ρ1 a1 w1 g1 (g2' (.exit j)) g3
    · cases hc
  | .loop c, names, names', dc, hc, hp, hro, hfl, K, vs, ts, H, ρ, a, w, e, hH, h, Q, hQ => by
    simp only [cCode] at hc
    split at hc
    · rename_i dx n1 h1
      simp only [Option.some.injEq, Prod.mk.injEq] at hc
      obtain ⟨rfl, rfl⟩ := hc
      simp only [evC] at h
      have ih := code_sound' (r := r) (n := n) hm hcall hyield hvm hsub c _ _ _ h1 hp hro hfl
      have key : ∀ (m : Nat) (vs : List AVal) (H1 : Heap) (ρ1 : Env) (a1 : Act) (w1 : World), ERel ρ1 vm [] N vs [] a1 → Step ρ H w ρ1 H1 w1 → A.holds (rounds A (fun vs H K => evC A call dx vs [] H K) m vs H1 K) → Code.roundsIn (fw r) n P c Q m a1 w1 := by
        intro m
        induction m with
        | zero => intro vs H1 ρ1 a1 w1 _ _ h; exact (A.fail_no h).elim
        | succ m ihn =>
          intro vs H1 ρ1 a1 w1 e1 st h
          rw [roundsIn_succ]
          simp only [rounds] at h
          refine ih _ _ _ _ _ _ _ e1 st.rel h _ fun z vs2 ts2 H2 ρ2 a2 w2 g1 g2 g3 => ?_
          cases z with
          | normal => exact ihn vs2 H2 ρ2 a2 w2 (g2.forget []) (st.trans g3) g1
          | exit id => exact hQ (.exit id) vs2 ts2 H2 ρ2 a2 w2 g1 g2 (st.trans g3)
          | ret => exact hQ .ret vs2 ts2 H2 ρ2 a2 w2 g1 g2 (st.trans g3)
      exact wpIn_loop_rounds manyRounds (key manyRounds vs H ρ a w (e.forget []) (Step.refl hH) h)
    · cases hc
  | .exit id, names, names', dc, hc, hp, hro, hfl, K, vs, ts, H, ρ, a, w, e, hH, h, Q, hQ => by
    simp only [cCode, Option.some.injEq, Prod.mk.injEq] at hc
    obtain ⟨rfl, rfl⟩ := hc
    exact wpIn_exit (hQ (.exit id) vs ts H ρ a w h (e.forget ts) (Step.refl hH))
  | .label l, names, names', dc, hc, hp, hro, hfl, K, vs, ts, H, ρ, a, w, e, hH, h, Q, hQ => by
    simp only [cCode, Option.some.injEq, Prod.mk.injEq] at hc
    obtain ⟨rfl, rfl⟩ := hc
    exact wpIn_label (hQ .normal vs ts H ρ a w h e (Step.refl hH))
  | .ret, names, names', dc, hc, hp, hro, hfl, K, vs, ts, H, ρ, a, w, e, hH, h, Q, hQ => by
    simp only [cCode, Option.some.injEq, Prod.mk.injEq] at hc
    obtain ⟨rfl, rfl⟩ := hc
    exact wpIn_ret (hQ .ret vs ts H ρ a w h (e.forget ts) (Step.refl hH))
  | .goto l, names, names', dc, hc, hp, hro, hfl, K, vs, ts, H, ρ, a, w, e, hH, h, Q, hQ => by
    simp only [cCode, Option.some.injEq, Prod.mk.injEq] at hc
    obtain ⟨rfl, rfl⟩ := hc
    exact (A.fail_no h).elim
  | .scope _, _, _, _, hc, _, _, _, _, _, _, _, _, _, _, _, _, _, _, _ => by simp [cCode] at hc
  | .rangeFunc x ps asg body, names, names', dc, hc, hp, hro, hfl, K, vs, ts, H, ρ, a, w, e, hH, h, Q, hQ => by
    simp only [cCode] at hc
    split at hc
    · rename_i b g x' hx
      simp only [Option.some.injEq, Prod.mk.injEq] at hc
      obtain ⟨rfl, rfl⟩ := hc
      have hrn : r = none := hp.resolve_right (by simp [plainC])
      subst hrn
      exact hro b g x' names rfl hx n K vs ts H ρ a w e hH h Q fun vs ts H' ρ' a' w' g1 g2 g3 => hQ .normal vs ts H' ρ' a' w' g1 g2 g3
    · cases hc

theorem sub_ok (hm : P.follows .mixedOrders = true) (hvm : vm.Nodup) {bf : Option (Nat × Nat)} {kl : Bool} {r : Option Nat} {n : Nat} : SubOk P vm N bf kl r n :=
  fun c names names' dc hc hp hnf K vs ts H ρ a w e hH h Q hQ => code_sound' (fl := false) (A := AP) (call := noCall) hm noCall_ok noYield_ok hvm (fun h => by cases h) c names names' dc hc (.inr hp) (ranges_plain c hp) (flags_none dc hnf) K vs ts H ρ a w e hH h Q hQ
theorem code_sound (hm : P.follows .mixedOrders = true) (hcall : CallOk P A call) (hyield : YieldOk P A call) (hvm : vm.Nodup) {bf : Option (Nat × Nat)} {kl : Bool} {r : Option Nat} {n : Nat} (c : Code) (names names' : List Nat) (dc : DC) (hc : cCode P bf kl vm N names c = some (dc, names')) (hp : r = none ∨ plainC c = true) (hro : RangesOk P A call bf vm N c) (hfl : FlagsOk dc)
    (K : DX → List AVal → List AVal → Heap → R) (vs ts : List AVal) (H : Heap) (ρ : Env) (a : Act) (w : World) (e : ERel ρ vm names N vs ts a) (hH : HRel ρ H w) (h : A.holds (evC A call dc vs ts H K))
    (Q : Exit → Act → World → Prop) (hQ : ∀ x vs ts H' ρ' a' w', A.holds (K x vs ts H') → ERel ρ' vm (namesAt x names') N vs ts a' → Step ρ H w ρ' H' w' → Q x.exit' a' w') : c.wpIn (fw r) n P Q a w :=
  code_sound' hm hcall hyield hvm (fun _ => sub_ok hm hvm) c names names' dc hc hp hro hfl K vs ts H ρ a w e hH h Q hQ
end code
end Dt

namespace Dt
open Go Go.RowKit
set_option linter.all false
variable [LoopTab]
/-! ### A range over a function -/
section rangef
variable {R : Type} {A : Alg R} {P : Program} {call : Nat → List AVal → Heap → (AVal → Heap → R) → R} {vm : List Nat} {N : Nat}

theorem range_sound (hcall : CallOk P A call) {b g : Nat} {x : Operand} {ps : Array Tmp} {asg body : Code} (hT : LoopTab.tab b = some ⟨ps, asg, body, vm, N⟩) (hg : ∃ fn c, P.funcs[g]? = some fn ∧ fn.body = some c ∧ fn.name ≠ "runtime.NumGoroutine") :
    RangeOk P A call (some (b, g)) vm N x ps asg body := by
  intro b' g' x' names hbf hx n K vs ts H ρ a w e hH h Q hQ
  simp at hbf
  obtain ⟨rfl, rfl⟩ := hbf
  simp only [evC] at h
  have hr := e.hop _ _ hx
  generalize x'.get vs ts = X at hr h
  generalize hv : a.eval x = u at hr
  cases hr <;> try exact (A.fail_no h).elim
  rename_i f X1 Y1 u1 u2 r1 r2
  simp only at h
  split at h
  · rename_i hc
    simp only [Bool.and_eq_true] at hc
    obtain ⟨hc1, hc2⟩ := hc
    have hfg : f = g := by simpa using hc1
    subst hfg
    have hlt : vm.length < vs.length := by
      unfold Nat.blt at hc2
      have := Nat.le_of_ble_eq_true hc2
      rw [llen_eq] at this
      omega
    obtain ⟨_, h⟩ := hAdd_holds h
    obtain ⟨_, h⟩ := hAdd_holds h
    simp only [fL_eq] at h
    have st1 : Step ρ H w (ρ.add H.next ⟨w.heap.size, 0, 0, 0, 0⟩) (H.add (.obj .dfr)) (w.alloc (.deferred (some []))) :=
      Step.allocB hH (.obj .dfr) _ _ rfl ⟨rfl, _, heap_push_new _ _, rfl⟩
    refine wpIn_rangeFunc fun fn _ => ?_
    have hw1 : (w.alloc (.deferred (some []))).heap.size = w.heap.size + 1 := by simp
    have st2 := Step.allocB st1.rel (.obj (.loop b vs)) (.loop { state := .ready, pending := none, fn, tmps := a.tmps, params := ps, assign := asg, body, defers := w.heap.size }) ⟨w.heap.size + 1, 0, 0, 0, 0⟩ (by rw [hw1])
      ⟨rfl, _, by rw [← hw1]; exact heap_push_new _ _, _, _, rfl, hT, rfl, rfl, rfl, rfl, rfl, e.size, e.len, fun i t ht => ((e.vars i t ht).mono st1.ext).mono (Env.add_ext st1.rel.fresh)⟩
    generalize hρ2 : ((ρ.add H.next ⟨w.heap.size, 0, 0, 0, 0⟩).add (H.add (.obj .dfr)).next ⟨w.heap.size + 1, 0, 0, 0, 0⟩) = ρ2 at st2
    have hbL : ρ2 (H.add (.obj .dfr)).next = some ⟨w.heap.size + 1, 0, 0, 0, 0⟩ := by rw [← hρ2]; exact Env.add_same
    have hbD : ρ2 H.next = some ⟨w.heap.size, 0, 0, 0, 0⟩ := st2.ext _ _ Env.add_same
    generalize hw2 : (w.alloc (.deferred (some []))).alloc (.loop { state := .ready, pending := none, fn, tmps := a.tmps, params := ps, assign := asg, body, defers := w.heap.size }) = w2 at st2
    have hst := st1.trans st2
    have hrel : VRels ρ2 (X1 ++ (.yl (H.add (.obj .dfr)).next :: Y1)) (u1 ++ (.func (.yield (w.heap.size + 1)) #[] #[] :: u2)) :=
      (r1.mono hst.ext).append (.cons (.yl (R := ⟨w.heap.size + 1, 0, 0, 0, 0⟩) hbL) (r2.mono hst.ext))
    have hout := hcall f _ _ _ ρ2 w2 _ hrel st2.rel h
    obtain ⟨fn', c', q1, q2, q3⟩ := hg
    unfold Out at hout
    rw [run_callFunc_body q1 q2 q3] at hout
    refine ⟨w.heap.size + 1, [{ target := .collected w.heap.size, args := #[] }], w2, { target := .fn (.func f) u2.toArray, args := u1.toArray ++ #[.func (.yield (w.heap.size + 1)) #[] #[]] }, w2, f, (u1 ++ (.func (.yield (w.heap.size + 1)) #[] #[] :: u2)).toArray, w2, ?_, ?_, fun _ _ => trivial, ?_, fun hd => by simp [fw, Fence.wide] at hd, ?_⟩
    · rw [← hw2]
      exact run_enterLoop_outer fn a.tmps ps asg body
    · have hce : a.eval (.const (Value.func (.yield (w.heap.size + 1)) #[] #[])) = .func (.yield (w.heap.size + 1)) #[] #[] := rfl
      simp [rangeCall, resolve, hv, Deferred.ofValue, hce]
    · have : u1.toArray ++ #[Value.func (.yield (w.heap.size + 1)) #[] #[]] ++ u2.toArray = (u1 ++ (.func (.yield (w.heap.size + 1)) #[] #[] :: u2)).toArray := by apply Array.ext'; simp
      simp only [invoke, this]
      exact run_callFunc_body q1 q2 q3 _ _
    · refine callsIn_fw.2 (Calls.mono hout fun en w3 he => ?_)
      obtain ⟨v, rfl, y, H3, ρ3, k1, _, k3⟩ := he
      simp only [rangePost]
      split at k1
      · rename_i f' vs'' hb
        obtain ⟨_, k1⟩ := hPut_holds k1
        obtain ⟨dl, hdl, hdr⟩ := e.dfr
        rw [hdl] at k1
        simp only [pushD] at k1
        have hS := k3.ext _ _ hbL
        have hB := k3.rel.blk _ _ hS
        rw [hb] at hB
        obtain ⟨_, o, ho, rec, L, rfl, _, hst1, hpd, _⟩ := hB
        refine ⟨rec.pending, _, run_endLoop ho (by rw [hst1]; decide), ?_⟩
        rw [hpd]
        have hall : ∀ o, Step ρ H w ρ3 (H3.put (H.add (.obj .dfr)).next (.obj .busy)) (putO w3 (w.heap.size + 1) o) := fun o =>
          (hst.trans k3).trans (Step.putObj k3.rel _ _ hS _ hb .busy _ trivial)
        refine hQ (lset vs vm.length (.tup (.ptr H.next 0 0 :: dl))) [] _ ρ3 _ _ k1 ⟨e.size, fun i t ht => ?_, fun i t ht => by simp at ht, by rw [lset_eq, List.length_set]; exact e.len, ?_⟩ (hall _)
        · have hi : i < vm.length := (List.getElem?_eq_some_iff.1 ht).1
          rw [lget_eq, lset_eq, List.getElem?_set, if_neg (by omega), ← lget_eq]
          exact (e.vars i t ht).mono (hst.trans k3).ext
        · refine ⟨.ptr H.next 0 0 :: dl, ?_, ⟨⟨w.heap.size, 0, 0, 0, 0⟩, k3.ext _ _ hbD, rfl⟩, hdr.mono (hst.trans k3).ext⟩
          rw [lget_eq, lset_eq, List.getElem?_set, if_pos rfl, if_pos hlt]
          rfl
      · exact (A.fail_no k1).elim
  · exact (A.fail_no h).elim
end rangef
end Dt

namespace Dt
open Go Go.RowKit
set_option linter.all false
variable [LoopTab]
section results
variable {R : Type} {A : Alg R} {P : Program} {call : Nat → List AVal → Heap → (AVal → Heap → R) → R} {vm : List Nat} {N : Nat}

/-! ### Results, functions -/

def resOne (tmps : Array Value) (r : ResultVar) : Sem Value := match r with
  | .tmp t => pure (tmps.getD t undef)
  | .cell b t => do loadVar t (← asAddr (tmps.getD b undef))

theorem loadAt_loadVar {P : Program} {t : TypeId} {ad u : Value} {w w' : World} (h : (Instr.loadAt t ad).run P w = .ok u w') : (do loadVar t (← asAddr ad) : Sem Value).run P w = .ok u w' := by
  cases ad with
  | pointer p => cases p with
    | none => simp [Instr.loadAt, Instr.sureAddr] at h
    | some p => simpa [Instr.loadAt, Instr.sureAddr, asAddr] using h
  | _ => simp [Instr.loadAt, Instr.sureAddr] at h

theorem res_sound {names : List Nat} {vs ts : List AVal} {H : Heap} {ρ : Env} {a : Act} {w : World} (e : ERel ρ vm names N vs ts a) (hH : HRel ρ H w) : ∀ (rs : List ResultVar) (drs : List DR) (l : List AVal), cRes P vm rs = some drs → evR vs H drs = some l →
    ∃ us, VRels ρ l us ∧ (rs.mapM (resOne a.tmps)).run P w = .ok us w
  | [], drs, l, hc, hr => by
    simp [cRes] at hc
    subst hc
    simp [evR] at hr
    subst hr
    exact ⟨[], .nil, by simp⟩
  | r :: rs, drs, l, hc, hr => by
    simp only [cRes] at hc
    split at hc
    · rename_i x xs h1 h2
      simp at hc
      subst hc
      simp only [evR] at hr
      split at hr
      · cases hr
      · rename_i v hv
        split at hr
        · cases hr
        · rename_i vs' hvs
          simp at hr
          subst hr
          obtain ⟨us, g1, g2⟩ := res_sound e hH rs xs vs' h2 hvs
          have e0 := e.forget []
          have key : ∃ u, VRel ρ v u ∧ (resOne a.tmps r).run P w = .ok u w := by
            cases r with
            | tmp t =>
              simp only [Option.map_eq_some_iff] at h1
              obtain ⟨y, hy, rfl⟩ := h1
              simp only [Option.some.injEq] at hv
              subst hv
              exact ⟨_, opd_rel e0.hop hy, by simp [resOne, Act.eval]⟩
            | cell b t =>
              simp only at h1
              split at h1
              · rename_i hmany
                simp only [Option.map_eq_some_iff] at h1
                obtain ⟨y, hy, rfl⟩ := h1
                have hrel := opd_rel e0.hop hy
                have hh : AP.holds (evI (R := Prop) AP (fun _ _ _ _ => False) (.loadN (P.cellsOf t) y) vs [] H fun x _ => x = v) := by
                  simp only [evI]
                  simp only at hv
                  revert hv
                  cases y.get vs [] <;> simp
                  rename_i bb rr cc
                  cases H.get bb <;> simp
                  rename_i z ll
                  cases rget ll rr <;> simp
                  rename_i row
                  cases cut row cc (P.cellsOf t) <;> simp [fL_eq]
                  intro h; exact h
                obtain ⟨X, u, _, q1, q3, _, q4⟩ := y_loadN (P := P) hmany hrel hH hh
                have q1' : X = v := q1
                subst q1'
                exact ⟨u, q3, loadAt_loadVar (q4 w rfl)⟩
              · split at h1
                · rename_i hone
                  simp only [Option.map_eq_some_iff] at h1
                  obtain ⟨y, hy, rfl⟩ := h1
                  have hrel := opd_rel e0.hop hy
                  have hh : AP.holds (evI (R := Prop) AP (fun _ _ _ _ => False) (.load1 y) vs [] H fun x _ => x = v) := by
                    simp only [evI]
                    simp only at hv
                    revert hv
                    cases y.get vs [] <;> simp
                    rename_i bb rr cc
                    cases H.get bb <;> simp
                    rename_i z ll
                    cases rget ll rr <;> simp
                    rename_i row
                    rcases cut row cc 1 with _ | q
                    · simp
                    · rcases q with _ | ⟨q, q'⟩
                      · simp
                      · simp only [Option.some.injEq]
                        intro h; exact h
                  obtain ⟨X, u, _, q1, q3, _, q4⟩ := y_load1 (P := P) hone hrel hH hh
                  have q1' : X = v := q1
                  subst q1'
                  exact ⟨u, q3, loadAt_loadVar (q4 w rfl)⟩
                · cases h1
          obtain ⟨u, k1, k2⟩ := key
          refine ⟨u :: us, .cons k1 g1, ?_⟩
          rw [List.mapM_cons]
          simp only [Sem.run_bind, k2, Result.andThen_ok, g2, Sem.run_pure]
    · cases hc

theorem initV_get (args : List AVal) : ∀ (vm : List Nat) (i t : Nat), vm[i]? = some t → lget (initV args (vm.map some)) i = lget args t
  | [], i, t, h => by simp at h
  | u :: vm, 0, t, h => by simp at h; subst h; simp [initV, lget]
  | u :: vm, i + 1, t, h => by
    simp only [List.map_cons, initV, lget]
    exact initV_get args vm i t (by simpa using h)
theorem initV_length (args : List AVal) : ∀ (vm : List Nat), (initV args (vm.map some)).length = vm.length
  | [] => rfl
  | u :: vm => by simp [initV, initV_length args vm]


theorem initV_get' (args : List AVal) (tl : List (Option Nat)) : ∀ (vm : List Nat) (i t : Nat), vm[i]? = some t → lget (initV args (vm.map some ++ tl)) i = lget args t
  | [], i, t, h => by simp at h
  | u :: vm, 0, t, h => by simp at h; subst h; simp [initV, lget]
  | u :: vm, i + 1, t, h => by
    simp only [List.map_cons, List.cons_append, initV, lget]
    exact initV_get' args tl vm i t (by simpa using h)
theorem initV_len' (args : List AVal) : ∀ (l : List (Option Nat)), (initV args l).length = l.length
  | [] => rfl
  | some u :: l => by simp [initV, initV_len' args l]
  | none :: l => by simp [initV, initV_len' args l]
theorem initV_hid (args : List AVal) (h : Bool) : ∀ (vm : List Nat), lget (initV args (vm.map some ++ (if h then [none] else []))) vm.length = .tup []
  | [] => by cases h <;> simp [initV, lget]
  | u :: vm => by
    simp only [List.map_cons, List.cons_append, initV, List.length_cons, lget]
    exact initV_hid args h vm

/-- The frame as it begins. -/
theorem frame_rel {ρ : Env} {args : List AVal} {us : List Value} (hs : VRels ρ args us) (hid : Bool) (nt : Nat) : ERel ρ vm [] nt (initV args (vm.map some ++ (if hid then [none] else []))) [] { tmps := us.toArray ++ Array.replicate (nt - us.toArray.size) undef, defers := [] } := by
  refine ⟨?_, fun i t ht => ?_, fun i t ht => by simp at ht, ?_, ?_⟩
  · simp only [Array.size_append, Array.size_replicate, List.size_toArray]
    omega
  · rw [initV_get' _ _ _ _ _ ht]
    have hg := hs.of_get t
    have : (us.toArray ++ Array.replicate (nt - us.toArray.size) undef).getD t undef = us[t]?.getD undef := by
      simp only [Array.getD_eq_getD_getElem?, Array.getElem?_append, List.size_toArray, List.getElem?_toArray, Array.getElem?_replicate]
      split
      · rfl
      · rename_i hge
        rw [List.getElem?_eq_none (by omega)]
        split <;> rfl
    rw [this]
    exact hg
  · rw [initV_len']
    simp
  · exact ⟨[], initV_hid args hid vm, trivial⟩
end results
end Dt

namespace Dt
open Go Go.RowKit
set_option linter.all false
variable [LoopTab]
/-! ### Functions: the body -/
section funs
variable {R : Type} {A : Alg R} {P : Program} {call : Nat → List AVal → Heap → (AVal → Heap → R) → R}

/-- The ranges over functions that the code holds are those of the table. -/
def TabOk (P : Program) (bf : Option (Nat × Nat)) (vm : List Nat) (N : Nat) : Code → Prop
  | .seq a b => TabOk P bf vm N a ∧ TabOk P bf vm N b
  | .cond _ a b => TabOk P bf vm N a ∧ TabOk P bf vm N b
  | .block _ c => TabOk P bf vm N c
  | .loop c => TabOk P bf vm N c
  | .rangeFunc _ ps asg body => ∃ b g, bf = some (b, g) ∧ LoopTab.tab b = some ⟨ps, asg, body, vm, N⟩ ∧ ∃ fn c, P.funcs[g]? = some fn ∧ fn.body = some c ∧ fn.name ≠ "runtime.NumGoroutine"
  | _ => True
theorem TabOk.ranges (hcall : CallOk P A call) {bf : Option (Nat × Nat)} {vm : List Nat} {N : Nat} : ∀ (c : Code), TabOk P bf vm N c → RangesOk P A call bf vm N c
  | .seq a b, h => ⟨TabOk.ranges hcall a h.1, TabOk.ranges hcall b h.2⟩
  | .cond _ a b, h => ⟨TabOk.ranges hcall a h.1, TabOk.ranges hcall b h.2⟩
  | .block _ c, h => TabOk.ranges hcall c h
  | .loop c, h => TabOk.ranges hcall c h
  | .rangeFunc x ps asg body, h => by
    obtain ⟨b, g, rfl, h1, h2⟩ := h
    exact range_sound hcall h1 h2
  | .skip, _ => trivial
  | .region _ _ _, _ => trivial
  | .exit _, _ => trivial
  | .label _, _ => trivial
  | .ret, _ => trivial
  | .goto _, _ => trivial
  | .scope _, _ => trivial
  | .refuse _, _ => trivial

/-- What a body comes to. -/
def BodyEnds (A : Alg R) (vm : List Nat) (N : Nat) (D : List AVal → List AVal → Heap → R) (ρ : Env) (H : Heap) (w : World) : Exit → Act → World → Prop
  | .normal, a', w' => ∃ ds vs ts H' ρ', A.holds (D ds vs H') ∧ DRel ρ' ds a'.defers ∧ ERel ρ' vm [] N vs ts a' ∧ Step ρ H w ρ' H' w'
  | .ret, a', w' => ∃ ds vs ts H' ρ', A.holds (D ds vs H') ∧ DRel ρ' ds a'.defers ∧ ERel ρ' vm [] N vs ts a' ∧ Step ρ H w ρ' H' w'
  | _, _, _ => False

theorem body_sound (hm : P.follows .mixedOrders = true) (hcall : CallOk P A call) (hyield : YieldOk P A call) {vm : List Nat} (hvm : vm.Nodup) {bf : Option (Nat × Nat)} {hid kl : Bool} {fn : Func} {c : Code} {F : DF} (hb : fn.body = some c) (hF : cFunc P bf hid kl vm fn = some F) (ht : TabOk P bf vm fn.ntmps c) (hfl : FlagsOk F.code) {n : Nat}
    {args : List AVal} {us : List Value} {H : Heap} {ρ : Env} {w : World} (hs : VRels ρ args us) (hH : HRel ρ H w) {D : List AVal → List AVal → Heap → R} (h : A.holds (evB A call F args H D)) :
    c.wpIn (fw none) n P (BodyEnds A vm fn.ntmps D ρ H w) { tmps := us.toArray ++ Array.replicate (fn.ntmps - us.toArray.size) undef, defers := [] } w := by
  unfold cFunc at hF
  rw [hb] at hF
  simp only at hF
  split at hF
  · rename_i x names rs hc hr
    simp at hF
    subst hF
    simp only [evB, fL_eq] at h
    refine code_sound hm hcall hyield hvm c _ _ _ hc (.inl rfl) (TabOk.ranges hcall c ht) hfl _ _ _ _ ρ _ w (frame_rel hs hid fn.ntmps) hH h _ fun z vs ts H' ρ' a' w' g1 g2 g3 => ?_
    have fin : A.holds (match lget vs vm.length with | .tup ds => D ds vs H' | _ => A.fail) → ∃ ds vs ts H' ρ', A.holds (D ds vs H') ∧ DRel ρ' ds a'.defers ∧ ERel ρ' vm [] fn.ntmps vs ts a' ∧ Step ρ H w ρ' H' w' := by
      intro hh
      obtain ⟨dl, h1, h2⟩ := g2.dfr
      rw [h1] at hh
      exact ⟨dl, vs, ts, H', ρ', hh, h2, g2.forget ts, g3⟩
    cases z with
    | normal => exact fin g1
    | ret => exact fin g1
    | exit id => exact (A.fail_no g1).elim
  · cases hF
end funs
end Dt

namespace Dt
open Go Go.RowKit
set_option linter.all false
variable [LoopTab]
/-! ### Functions: results, deferred calls -/
section ends
variable {R : Type} {A : Alg R} {P : Program} {call : Nat → List AVal → Heap → (AVal → Heap → R) → R} {vm : List Nat} {N : Nat}

theorem evE_sound {names : List Nat} {vs ts : List AVal} {H : Heap} {ρ : Env} {a : Act} {w : World} (e : ERel ρ vm names N vs ts a) (hH : HRel ρ H w) {fn : Func} {F : DF} (hr : cRes P vm fn.results.toList = some F.res) {K : AVal → Heap → R} (h : A.holds (evE A F vs H K)) :
    ∃ v x, (results fn a.tmps).run P w = .ok v w ∧ A.holds (K x H) ∧ VRel ρ x v := by
  unfold evE at h
  cases hev : evR vs H F.res with
  | none => rw [hev] at h; exact (A.fail_no h).elim
  | some l =>
    rw [hev] at h
    simp only at h
    obtain ⟨us', k1, k2⟩ := res_sound e hH fn.results.toList F.res l hr hev
    have hres : (results fn a.tmps).run P w = .ok (if h : us'.toArray.size = 1 then us'.toArray[0] else .tuple us'.toArray) w := by
      have hfun : results fn a.tmps = (do
          let vs ← fn.results.mapM (resOne a.tmps)
          pure (if h : vs.size = 1 then vs[0] else .tuple vs)) := by
        unfold results
        congr 2
      rw [hfun, Array.mapM_eq_mapM_toList, Sem.run_bind, map_eq_pure_bind, Sem.run_bind, k2]
      simp only [Result.andThen_ok, Sem.run_pure]
    cases k1 with
    | nil => exact ⟨_, .tup [], hres, by simpa [fL_eq] using h, .tup .nil⟩
    | cons q1 q2 => cases q2 with
      | nil => exact ⟨_, _, hres, by simpa [fV_eq] using h, by simpa using q1⟩
      | cons q3 q4 => exact ⟨_, _, hres, by simpa [fL_eq] using h, by simpa using VRel.tup (.cons q1 (.cons q3 q4))⟩

/-- A function is what the abstract machine has for it. -/
def FunOk (P : Program) (f : Nat) (F : DF) : Prop := ∃ fn c vm bf hid kl, P.funcs[f]? = some fn ∧ fn.body = some c ∧ fn.name ≠ "runtime.NumGoroutine" ∧ List.Nodup vm ∧ cFunc P bf hid kl vm fn = some F ∧ TabOk P bf vm fn.ntmps c ∧ FlagsOk F.code
theorem cFunc_res {bf : Option (Nat × Nat)} {hid kl : Bool} {fn : Func} {F : DF} (h : cFunc P bf hid kl vm fn = some F) : cRes P vm fn.results.toList = some F.res := by
  unfold cFunc at h
  split at h
  · cases h
  · split at h
    · rename_i h1 h2
      simp at h
      subst h
      exact h2
    · cases h

theorem evD_sound (hm : P.follows .mixedOrders = true) (hcall : CallOk P A call) (hyield : YieldOk P A call) {funs : Nat → Option DF} (hfuns : ∀ f F, funs f = some F → F.rnd = none → FunOk P f F) {f : Nat} {args : List AVal} {us : List Value} {H : Heap} {ρ : Env} {w : World} (hs : VRels ρ args us) (hH : HRel ρ H w) {K : AVal → Heap → R}
    (h : A.holds (evD A funs call f args H K)) (n : Nat) (u : FrameMode) :
    (∃ fn c, P.funcs[f]? = some fn ∧ fn.body = some c ∧ fn.name ≠ "runtime.NumGoroutine") ∧
    CallsDIn (fw none) n P f us.toArray u w fun e u' w' => u' = u ∧ ∃ v, e = .returned v ∧ ∃ x H' ρ', A.holds (K x H') ∧ VRel ρ' x v ∧ Step ρ H w ρ' H' w' := by
  unfold evD at h
  cases hF : funs f with
  | none => rw [hF] at h; exact (A.fail_no h).elim
  | some F =>
    rw [hF] at h
    simp only at h
    split at h
    · exact (A.fail_no h).elim
    rename_i hrn
    obtain ⟨fn, c, vm, bf, hid, kl, h1, h2, h3, h4, h5, h6, h7⟩ := hfuns f F hF hrn
    refine ⟨⟨fn, c, h1, h2, h3⟩, callsDIn_of_wp h1 h2 trivial ?_⟩
    refine wpIn_mono (body_sound hm hcall hyield h4 h2 h5 h6 h7 hs hH h) fun ex a' w' hx => ?_
    have fin : (∃ ds vs ts H' ρ', A.holds (match ds with | [] => evE A F vs H' K | _ => A.fail) ∧ DRel ρ' ds a'.defers ∧ ERel ρ' vm [] fn.ntmps vs ts a' ∧ Step ρ H w ρ' H' w') →
        a'.defers = [] ∧ ∃ v, (results fn a'.tmps).run P w' = .ok v w' ∧ ∃ v', Ending.returned v = .returned v' ∧ ∃ x H' ρ', A.holds (K x H') ∧ VRel ρ' x v' ∧ Step ρ H w ρ' H' w' := by
      rintro ⟨ds, vs, ts, H', ρ', k1, k2, k3, k4⟩
      cases ds with
      | cons _ _ => exact (A.fail_no k1).elim
      | nil =>
        obtain ⟨v, x, q1, q2, q3⟩ := evE_sound k3 k4.rel (cFunc_res h5) k1
        have hd : a'.defers = [] := by
          cases hdd : a'.defers with
          | nil => rfl
          | cons _ _ => rw [hdd] at k2; exact k2.elim
        exact ⟨hd, v, q1, v, rfl, x, H', ρ', q2, q3, k4⟩
    cases ex with
    | normal => exact fin hx
    | ret => exact fin hx
    | _ => exact hx.elim

theorem leaves_sound (hm : P.follows .mixedOrders = true) (hcall : CallOk P A call) (hyield : YieldOk P A call) {funs : Nat → Option DF} (hfuns : ∀ f F, funs f = some F → F.rnd = none → FunOk P f F) {fn : Func} {tmps : Array Value} {n : Nat} {Kf : Heap → R} : ∀ (ds : List AVal) (dfs : List Deferred) (H : Heap) (ρ : Env) (w : World), DRel ρ ds dfs → HRel ρ H w → A.holds (runD A (evD A funs call) ds H Kf) →
    ∀ Q : Ending → World → Prop, (∀ H' ρ' w', A.holds (Kf H') → Step ρ H w ρ' H' w' → ∃ v, (results fn tmps).run P w' = .ok v w' ∧ Q (.returned v) w') → LeavesInM (fw none) n P fn tmps Q dfs .returning w
  | [], [], H, ρ, w, _, hH, h, Q, hQ => by
    simp only [runD] at h
    obtain ⟨v, h1, h2⟩ := hQ H ρ w h (Step.refl hH)
    exact ⟨v, h1, h2⟩
  | [], _ :: _, _, _, _, hd, _, _, _, _ => hd.elim
  | _ :: _, [], _, _, _, hd, _, _, _, _ => hd.elim
  | x :: l, d :: dl, H, ρ, w, hd, hH, h, Q, hQ => by
    obtain ⟨h1, h2⟩ := hd
    refine ⟨by simp, ?_⟩
    simp only [runD] at h
    unfold DOne at h1
    split at h1
    · rename_i f a c
      obtain ⟨u, v, r1, r2, rfl⟩ := h1
      simp only [fL_eq] at h
      obtain ⟨⟨fn', c', q1, q2, q3⟩, hc⟩ := evD_sound hm hcall hyield hfuns (r1.append r2) hH h (n - 1) .returning
      refine .inr ⟨fun hdp => by simp [fw, Fence.wide] at hdp, .func f, v.toArray, f, (u ++ v).toArray, rfl, ?_, fun _ _ => trivial, hc.mono fun e u' w' he => ?_⟩
      · have : u.toArray ++ v.toArray = (u ++ v).toArray := by apply Array.ext'; simp
        simp only [invoke, this]
        exact run_callFunc_body q1 q2 q3 _ _
      · obtain ⟨rfl, v', rfl, y, H', ρ', k1, _, k3⟩ := he
        exact leaves_sound hm hcall hyield hfuns l dl H' ρ' w' (h2.mono k3.ext) k3.rel k1 Q fun H2 ρ2 w2 g1 g2 => hQ H2 ρ2 w2 g1 (k3.trans g2)
    · rename_i b
      obtain ⟨S, r1, rfl⟩ := h1
      simp only at h
      split at h
      · rename_i hb
        obtain ⟨_, h⟩ := hPut_holds h
        have hB := hH.blk _ _ r1
        rw [hb] at hB
        obtain ⟨_, o, ho, rfl⟩ := hB
        have hst := Step.putObj hH b S r1 _ hb .busy (.deferred none) trivial
        refine .inl ⟨S.blk, _, rfl, run_takeDeferred ho, leaves_sound hm hcall hyield hfuns l dl _ ρ _ h2 hst.rel h Q fun H2 ρ2 w2 g1 g2 => hQ H2 ρ2 w2 g1 (hst.trans g2)⟩
      · exact (A.fail_no h).elim
    · exact h1.elim

theorem fun_sound (hm : P.follows .mixedOrders = true) (hcall : CallOk P A call) (hyield : YieldOk P A call) {funs : Nat → Option DF} (hfuns : ∀ f F, funs f = some F → F.rnd = none → FunOk P f F) {f : Nat} {F : DF} (hF : FunOk P f F) {args : List AVal} {us : List Value} {H : Heap} {ρ : Env} {w : World} (hs : VRels ρ args us) (hH : HRel ρ H w) {K : AVal → Heap → R}
    (h : A.holds (evB A call F args H fun ds vs H => runD A (evD A funs call) ds H fun H => evE A F vs H K)) :
    (∃ fn c, P.funcs[f]? = some fn ∧ fn.body = some c ∧ fn.name ≠ "runtime.NumGoroutine") ∧
    Calls P f us.toArray w fun e w' => ∃ v, e = .returned v ∧ ∃ x H' ρ', A.holds (K x H') ∧ VRel ρ' x v ∧ Step ρ H w ρ' H' w' := by
  obtain ⟨fn, c, vm, bf, hid, kl, h1, h2, h3, h4, h5, h6, h7⟩ := hF
  refine ⟨⟨fn, c, h1, h2, h3⟩, (callsIn_fw (r := none) (n := 0)).1 (callsIn_of_wp_marks h1 h2 trivial ?_)⟩
  refine wpIn_mono (body_sound hm hcall hyield h4 h2 h5 h6 h7 hs hH h) fun ex a' w' hx => ?_
  have fin : (∃ ds vs ts H' ρ', A.holds (runD A (evD A funs call) ds H' fun H => evE A F vs H K) ∧ DRel ρ' ds a'.defers ∧ ERel ρ' vm [] fn.ntmps vs ts a' ∧ Step ρ H w ρ' H' w') →
      LeavesInM (fw none) 0 P fn a'.tmps (fun e w' => ∃ v, e = .returned v ∧ ∃ x H' ρ', A.holds (K x H') ∧ VRel ρ' x v ∧ Step ρ H w ρ' H' w') a'.defers .returning w' := by
    rintro ⟨ds, vs, ts, H', ρ', k1, k2, k3, k4⟩
    refine leaves_sound hm hcall hyield hfuns ds a'.defers H' ρ' w' k2 k4.rel k1 _ fun H2 ρ2 w2 g1 g2 => ?_
    obtain ⟨v, x, q1, q2, q3⟩ := evE_sound (k3.mono g2.ext) g2.rel (cFunc_res h5) g1
    exact ⟨v, q1, v, rfl, x, H2, ρ2, q2, q3, k4.trans g2⟩
  cases ex with
  | normal => exact fin hx
  | ret => exact fin hx
  | _ => exact hx.elim
end ends
end Dt

namespace Dt
open Go Go.RowKit
set_option linter.all false
variable [LoopTab]
/-! ### Rounds of a range over a function -/
section rounds
variable {R : Type} {A : Alg R} {P : Program} {call : Nat → List AVal → Heap → (AVal → Heap → R) → R}

theorem putO_same {w : World} {r : Nat} {o : Obj} (h : w.heap[r]? = some o) : putO w r o = w := by
  unfold putO
  have : w.heap.setIfInBounds r o = w.heap := by
    apply Array.ext_getElem?
    intro i
    rw [Array.getElem?_setIfInBounds]
    split
    · rename_i he
      subst he
      obtain ⟨hlt, _⟩ := Array.getElem?_eq_some_iff.1 h
      rw [if_pos hlt, h]
    · rfl
  rw [this]
theorem putO_putO {w : World} {r : Nat} {o o' : Obj} : putO (putO w r o) r o' = putO w r o' := by
  unfold putO
  simp
theorem putO_here {w : World} {r : Nat} {o : Obj} (h : r < w.heap.size) : (putO w r o).heap[r]? = some o := by
  unfold putO
  simp only
  rw [Array.getElem?_setIfInBounds, if_pos rfl, if_pos h]
theorem putO_other {w : World} {r k : Nat} {o : Obj} (h : k ≠ r) : (putO w r o).heap[k]? = w.heap[k]? := by
  unfold putO
  simp only
  rw [Array.getElem?_setIfInBounds, if_neg (fun he => h he.symm)]
theorem putO_size {w : World} {r : Nat} {o : Obj} : (putO w r o).heap.size = w.heap.size := by simp [putO]

variable {ρ ρ1 : Env} {H H1 : Heap} {w w1 : World} {b : Nat} {S : RB}

/-- The record of a loop that is within a round turns: nobody sees it. -/
theorem HRel.busyObj (h : HRel ρ H w) (e : ρ b = some S) (hb : H.get b = .obj .busy) (hg : H.gl.length ≤ S.blk) (o : Obj) : HRel ρ H (putO w S.blk o) := by
  refine ⟨fun x T ex => ?_, h.inj, fun x T ex => by rw [putO_size]; exact h.dom x T ex, h.glob.same fun g hgl => putO_other (by omega), h.high, h.top⟩
  by_cases hxb : x = b
  · subst hxb
    rw [e] at ex
    obtain rfl : S = T := by simpa using ex
    have hB := h.blk x S e
    rw [hb] at hB ⊢
    exact ⟨hB.1, o, putO_here (h.dom _ _ e).2, trivial⟩
  · by_cases hd : H.get x = .dead
    · rw [hd]; trivial
    · refine (h.blk x T ex).same (putO_other fun he => hxb ?_)
      exact h.inj x b T S ex e hd (by rw [hb]; simp) he

/-- .. and it stands as it did, whatever is done meanwhile. -/
theorem Step.busySame (s : Step ρ H w ρ1 H1 w1) (e : ρ b = some S) (hb : H.get b = .obj .busy) (h : HRel ρ H w) : w1.heap[S.blk]? = w.heap[S.blk]? := by
  refine s.frame _ (h.dom _ _ e).2 fun x T ex hw he => ?_
  have : x = b := h.inj x b T S ex e hw.live (by rw [hb]; simp) he
  subst this
  rw [hb] at hw
  exact hw

/-- A piece that is done while the record reads otherwise. -/
theorem Step.unput (h : HRel ρ H w) (e : ρ b = some S) (hb : H.get b = .obj .busy) (hg : H.gl.length ≤ S.blk) {o o' : Obj} (ho : w.heap[S.blk]? = some o') (s : Step ρ H (putO w S.blk o) ρ1 H1 w1) : Step ρ H w ρ1 H1 (putO w1 S.blk o') := by
  have hsz := s.size
  rw [putO_size] at hsz
  refine ⟨s.rel.busyObj (s.ext _ _ e) (s.keep _ hb) (by rw [s.gl]; exact hg) o', s.ext, by rw [putO_size]; exact hsz, s.os, s.tape, s.output, fun r hr hn => ?_, fun x T ex hw => ?_, s.next, s.frameA, s.newdom, s.keep, s.gl⟩
  · by_cases hrS : r = S.blk
    · subst hrS
      rw [putO_here (by omega), ho]
    · rw [putO_other hrS, s.frame r (by rw [putO_size]; exact hr) hn, putO_other hrS]
  · rcases s.range x T ex hw with h1 | h1
    · rw [putO_size] at h1; exact .inl h1
    · exact .inr h1

/-- A round: the loop is busy in the midst of it, and ready again behind it. -/
theorem Step.round (h : HRel ρ H w) (e : ρ b = some S) {y : OB} (hb : H.get b = .obj y) (hy : Wr (.obj y)) (s : Step ρ (H.put b (.obj .busy)) w ρ1 H1 w1) {o : Obj} (ho : ObRel ρ1 o y) :
    Step ρ H w ρ1 (H1.put b (.obj y)) (putO w1 S.blk o) := by
  have hgP : ∀ x, (H.put b (.obj .busy)).get x = if x = b then .obj .busy else H.get x := fun x => Heap.get_put _ _ _ _ trivial
  have hgQ : ∀ x, (H1.put b (.obj y)).get x = if x = b then .obj y else H1.get x := fun x => Heap.get_put _ _ _ _ trivial
  have hbP : (H.put b (.obj .busy)).get b = .obj .busy := by rw [hgP, if_pos rfl]
  have hb1 := s.keep b hbP
  have e1 := s.ext _ _ e
  have hS0 := (h.blk b S e)
  rw [hb] at hS0
  have hgl : H1.gl = H.gl := s.gl
  have hhigh : H.gl.length ≤ S.blk := h.high b S e (by rw [hb]; exact hy)
  have hWP : ∀ x, Wr ((H.put b (.obj .busy)).get x) → x ≠ b ∧ Wr (H.get x) := fun x hx => by
    rw [hgP] at hx
    by_cases hxb : x = b
    · rw [if_pos hxb] at hx; exact hx.elim
    · rw [if_neg hxb] at hx; exact ⟨hxb, hx⟩
  have liveQ : ∀ x, (H1.put b (.obj y)).get x ≠ .dead → H1.get x ≠ .dead := fun x hx => by
    rw [hgQ] at hx
    by_cases hxb : x = b
    · subst hxb; rw [hb1]; simp
    · rwa [if_neg hxb] at hx
  have WQ : ∀ x, x ≠ b → Wr ((H1.put b (.obj y)).get x) → Wr (H1.get x) := fun x hxb hx => by
    rwa [hgQ, if_neg hxb] at hx
  have r := s.rel
  refine ⟨⟨fun x T ex => ?_, fun x x' T T' ex ex' d d' ht => r.inj x x' T T' ex ex' (liveQ _ d) (liveQ _ d') ht, fun x T ex => by rw [putO_size]; exact r.dom x T ex, r.glob.same fun g hgg => putO_other (by rw [hgl] at hgg; omega), fun x T ex hw => ?_, fun x hx => ?_⟩, s.ext, by rw [putO_size]; exact s.size, s.os, s.tape, s.output, fun k hk hn => ?_, fun x T ex hw => ?_, s.next, fun x hx ex => ?_, s.newdom, fun x hx => ?_, s.gl⟩
  · rw [hgQ]
    by_cases hxb : x = b
    · subst hxb
      rw [e1] at ex
      obtain rfl : S = T := by simpa using ex
      rw [if_pos rfl]
      exact ⟨hS0.1, o, putO_here (r.dom _ _ e1).2, ho⟩
    · rw [if_neg hxb]
      by_cases hd : H1.get x = .dead
      · rw [hd]; trivial
      · refine (r.blk x T ex).same (putO_other fun he => hxb ?_)
        exact r.inj x b T S ex e1 hd (by rw [hb1]; simp) he
  · by_cases hxb : x = b
    · subst hxb
      rw [e1] at ex
      obtain rfl : S = T := by simpa using ex
      show H1.gl.length ≤ _
      rw [hgl]; exact hhigh
    · exact r.high x T ex (WQ x hxb hw)
  · have hx : H1.next ≤ x := hx
    rw [hgQ, if_neg (fun he => by have := (r.dom _ _ e1).1; omega)]
    exact r.top x hx
  · have hkS : k ≠ S.blk := fun he => hn b S e (by rw [hb]; exact hy) he.symm
    rw [putO_other hkS]
    exact s.frame k hk fun x T ex hw he => hn x T ex (hWP x hw).2 he
  · by_cases hxb : x = b
    · subst hxb
      rw [e1] at ex
      obtain rfl : S = T := by simpa using ex
      exact .inr ⟨x, S, e, by rw [hb]; exact hy, rfl⟩
    · rcases s.range x T ex (WQ x hxb hw) with h1 | ⟨b0, R0, h1, h2, h3⟩
      · exact .inl h1
      · exact .inr ⟨b0, R0, h1, (hWP _ h2).2, h3⟩
  · have hxb : x ≠ b := fun he => by rw [he, e] at ex; cases ex
    rw [hgQ, if_neg hxb, s.frameA x hx ex, hgP, if_neg hxb]
  · have hxb : x ≠ b := fun he => by
      rw [he, hb] at hx
      rw [hx] at hy
      exact hy
    rw [hgQ, if_neg hxb]
    exact s.keep x (by rw [hgP, if_neg hxb]; exact hx)

/-! The frame of a round. -/
theorem idxOf_some {t : Nat} : ∀ {l : List Nat} {i j : Nat}, idxOf t l i = some j → i ≤ j ∧ l[j - i]? = some t ∧ ∀ k, k < j - i → l[k]? ≠ some t
  | [], i, j, h => by simp [idxOf] at h
  | u :: l, i, j, h => by
    simp only [idxOf] at h
    split at h
    · rename_i he
      simp at h he
      subst h he
      exact ⟨Nat.le_refl _, by simp, fun k hk => by omega⟩
    · rename_i he
      obtain ⟨h1, h2, h3⟩ := idxOf_some h
      have hj : j - i = (j - (i + 1)) + 1 := by omega
      refine ⟨by omega, by rw [hj]; simpa using h2, fun k hk => ?_⟩
      cases k with
      | zero => simpa using he
      | succ k => simpa using h3 k (by omega)
theorem idxOf_none {t : Nat} : ∀ {l : List Nat} {i : Nat}, idxOf t l i = none → t ∉ l
  | [], _, _ => by simp
  | u :: l, i, h => by
    simp only [idxOf] at h
    split at h
    · cases h
    · rename_i he
      simp only [List.mem_cons, not_or]
      exact ⟨by simpa using Ne.symm (by simpa using he), idxOf_none h⟩

theorem initB_get {ps : List Nat} {k : Nat} {args : List AVal} : ∀ {vm : List Nat} {i0 i t : Nat}, vm[i]? = some t →
    lget (initV args (cBody.initB ps k vm i0)) i = match idxOf t ps 0 with | some j => lget args (j + 1) | none => lget args (1 + k + (i0 + i))
  | [], _, i, t, h => by simp at h
  | u :: vm, i0, 0, t, h => by
    simp at h
    subst h
    simp only [cBody.initB]
    cases idxOf u ps 0 with
    | some j => simp [initV, lget]
    | none => simp [initV, lget]
  | u :: vm, i0, i + 1, t, h => by
    simp only [cBody.initB]
    have ih := initB_get (ps := ps) (k := k) (args := args) (vm := vm) (i0 := i0 + 1) (i := i) (t := t) (by simpa using h)
    cases idxOf u ps 0 with
    | some j => simp only [initV, lget]; rw [ih, show i0 + 1 + i = i0 + (i + 1) by omega]
    | none => simp only [initV, lget]; rw [ih, show i0 + 1 + i = i0 + (i + 1) by omega]
theorem initB_len {ps : List Nat} {k : Nat} {args : List AVal} : ∀ {vm : List Nat} {i0 : Nat}, (initV args (cBody.initB ps k vm i0)).length = vm.length
  | [], _ => rfl
  | u :: vm, i0 => by
    simp only [cBody.initB]
    cases idxOf u ps 0 <;> simp [initV, initB_len]

def zipT (l : List (Tmp × Value)) (t : Array Value) : Array Value := l.foldl (fun tmps p => tmps.setIfInBounds p.1 p.2) t
theorem zipT_size : ∀ (l : List (Tmp × Value)) (t : Array Value), (zipT l t).size = t.size
  | [], _ => rfl
  | p :: l, t => by
    show (zipT l _).size = _
    rw [zipT_size l]
    simp
theorem zipT_out {u : Nat} : ∀ (l : List (Tmp × Value)) (t : Array Value), (∀ p ∈ l, p.1 ≠ u) → (zipT l t).getD u undef = t.getD u undef
  | [], _, _ => rfl
  | p :: l, t, h => by
    show (zipT l _).getD u undef = _
    rw [zipT_out l _ fun q hq => h q (List.mem_cons_of_mem _ hq)]
    simp only [Array.getD_eq_getD_getElem?]
    rw [Array.getElem?_setIfInBounds, if_neg (h p (List.mem_cons_self ..))]
theorem zipT_in {u : Nat} {v : Value} : ∀ (ps : List Nat) (us : List Value) (t : Array Value) (j : Nat), ps.Nodup → ps[j]? = some u → us[j]? = some v → u < t.size → (zipT (ps.zip us) t).getD u undef = v
  | [], _, _, j, _, h, _, _ => by simp at h
  | p :: ps, [], _, j, _, _, h, _ => by simp at h
  | p :: ps, x :: us, t, j, hn, h1, h2, hlt => by
    show (zipT (ps.zip us) (t.setIfInBounds p x)).getD u undef = v
    rw [List.nodup_cons] at hn
    cases j with
    | zero =>
      simp at h1 h2
      subst h1 h2
      rw [zipT_out _ _ fun q hq => ?_]
      · simp only [Array.getD_eq_getD_getElem?]
        rw [Array.getElem?_setIfInBounds, if_pos rfl, if_pos hlt]
        rfl
      · intro he
        have := (List.of_mem_zip (show (q.1, q.2) ∈ ps.zip us from hq)).1
        rw [he] at this
        exact hn.1 this
    | succ j => exact zipT_in ps us _ j hn.2 (by simpa using h1) (by simpa using h2) (by simpa using hlt)

theorem lget_app {x y : List AVal} {i : Nat} : lget (x ++ y) (x.length + i) = lget y i := by
  rw [lget_eq, lget_eq, List.getElem?_append_right (by omega)]
  congr 2
  omega

/-- A body without deferred calls and ranges asks nothing of ranges. -/
theorem ranges_none {vm : List Nat} {N : Nat} : ∀ c : Code, RangesOk P A call none vm N c
  | .seq a b => ⟨ranges_none a, ranges_none b⟩
  | .cond _ a b => ⟨ranges_none a, ranges_none b⟩
  | .block _ c => ranges_none c
  | .loop c => ranges_none c
  | .rangeFunc _ _ _ _ => fun _ _ _ _ hb => by cases hb
  | .skip => trivial
  | .region _ _ _ => trivial
  | .exit _ => trivial
  | .label _ => trivial
  | .ret => trivial
  | .goto _ => trivial
  | .scope _ => trivial
  | .refuse _ => trivial

theorem flagOf_false {vm : List Nat} {N : Nat} {a b : Code} : flagOf P false vm N a b = none := by
  unfold flagOf
  split <;> rfl
/-- A round is what the abstract machine has for it. -/
def RoundOk (P : Program) (f : Nat) (F : DF) (k : Nat) : Prop := ∃ L : LoopRec, LoopTab.tab f = some L ∧ L.vm.Nodup ∧ L.ps.toList.Nodup ∧ (∀ t ∈ L.ps.toList, t < L.N) ∧ L.ps.size = k ∧ cBody P L.vm L.N L.ps.toList L.asg L.body = some F ∧ plainC L.asg = true ∧ plainC L.body = true ∧ FlagsOk F.code

theorem round_sound (hm : P.follows .mixedOrders = true) (hcall : CallOk P A call) (hyield : YieldOk P A call) {f : Nat} {F : DF} {args : List AVal} (hk : RoundOk P f F args.length) {S : RB} {vs' : List AVal} {us : List Value} {K : AVal → Heap → R} (hs : VRels ρ args us) (hH : HRel ρ H w) (e : ρ b = some S) (hb : H.get b = .obj (.loop f vs'))
    (h : A.holds (hPut H b (.obj .busy) fun H => evRnd A call F (mark (llen args) :: (args ++ vs')) H fun _ H => hPut H b (.obj (.loop f vs')) fun H => K (.bool true) H)) :
    Out P (Instr.yield S.blk us.toArray) w fun v w' => ∃ x H' ρ', A.holds (K x H') ∧ VRel ρ' x v ∧ Step ρ H w ρ' H' w' := by
  obtain ⟨L, hL1, hL2, hL3, hL4, hL5, hL6, hL7, hL8, hL9⟩ := hk
  have hB := hH.blk b S e
  rw [hb] at hB
  obtain ⟨_, ob, hob, rec, L', rfl, hL', hst, hpd, hps, has, hbo, hN, hlen, hvars⟩ := hB
  rw [hL1] at hL'
  obtain rfl : L = L' := by simpa using hL'
  have hus := hs.length
  unfold Out
  rw [run_yield hob (by rw [hps]; simp; omega)]
  simp only
  obtain ⟨hput, h⟩ := hPut_holds h
  unfold cBody at hL6
  split at hL6
  rotate_left
  · cases hL6
  rename_i x names hc
  simp only [Option.some.injEq] at hL6
  subst hL6
  simp only [evRnd, fL_eq] at h
  have hzip : ((rec.params.zip us.toArray).foldl (fun tmps x => tmps.setIfInBounds x.1 x.2) rec.tmps) = zipT (L.ps.toList.zip us) rec.tmps := by
    rw [hps, ← Array.foldl_toList, Array.toList_zip]
    rfl
  have st0 : HRel ρ (H.put b (.obj .busy)) w := by
    have := (Step.putObj hH b S e _ hb .busy (.loop rec) trivial).rel
    rwa [putO_same hob] at this
  have hbB : (H.put b (.obj .busy)).get b = .obj .busy := by rw [Heap.get_put _ _ _ _ trivial, if_pos rfl]
  have hgl : (H.put b (.obj .busy)).gl.length ≤ S.blk := hH.high b S e (by rw [hb]; trivial)
  have e0 : ERel ρ L.vm [] L.N (initV (mark (llen args) :: (args ++ vs')) (cBody.initB L.ps.toList L.ps.toList.length L.vm 0)) [] { tmps := zipT (L.ps.toList.zip us) rec.tmps, defers := [] } := by
    refine ⟨by rw [zipT_size]; exact hN, fun i t ht => ?_, fun i t ht => by simp at ht, by rw [initB_len]; exact Nat.le_refl _, ⟨[], ?_, trivial⟩⟩
    · rw [initB_get ht]
      cases hi : idxOf t L.ps.toList 0 with
      | some j =>
        obtain ⟨_, h2, _⟩ := idxOf_some hi
        simp only [Nat.sub_zero] at h2
        have hj : j < L.ps.toList.length := (List.getElem?_eq_some_iff.1 h2).1
        have hj2 : j < us.length := by simp at hj; omega
        have hj3 : j < args.length := by omega
        simp only [lget]
        rw [zipT_in L.ps.toList us rec.tmps j hL3 h2 (List.getElem?_eq_getElem hj2) (Nat.lt_of_lt_of_le (hL4 t (List.mem_of_getElem? h2)) hN)]
        have := hs.of_get j
        rw [List.getElem?_eq_getElem hj2] at this
        rw [lget_eq, List.getElem?_append_left hj3, ← lget_eq]
        exact this
      | none =>
        have hnot := idxOf_none hi
        simp only
        rw [zipT_out _ _ fun q hq he => hnot ?_]
        rotate_left
        · have := (List.of_mem_zip (show (q.1, q.2) ∈ _ from hq)).1
          rw [he] at this
          exact this
        have : lget (mark (llen args) :: (args ++ vs')) (1 + L.ps.toList.length + (0 + i)) = lget vs' i := by
          rw [show 1 + L.ps.toList.length + (0 + i) = (args.length + i) + 1 by simp; omega]
          simp only [lget]
          exact lget_app
        rw [this]
        exact hvars i t ht
    · rw [lget_eq, List.getElem?_eq_none (by rw [initB_len]; exact Nat.le_refl _)]
      rfl
  rw [cCode.eq_def] at hc
  simp only at hc
  split at hc
  · rename_i pp hfo
    rw [flagOf_false] at hfo
    cases hfo
  split at hc
  · cases hc
  rename_i xa na hca
  split at hc
  · cases hc
  rename_i xb nb hcb
  simp only [Option.some.injEq, Prod.mk.injEq] at hc
  obtain ⟨rfl, rfl⟩ := hc
  simp only [evC] at h
  refine roundIn_of_wpIn trivial ?_
  rw [hzip, has, hbo]
  refine code_sound (r := some S.blk) hm hcall hyield hL2 L.asg _ _ _ hca (.inr hL7) (ranges_none _) hL9.1 _ _ _ _ _ _ _ e0 st0 h _ fun z vs1 ts1 Ha ρ1 a1 wa g1 g2 g3 => ?_
  cases z with
  | exit id => exact (A.fail_no g1).elim
  | ret => exact (A.fail_no g1).elim
  | normal =>
  simp only at g1
  have hrec1 : wa.heap[S.blk]? = some (.loop rec) := (g3.busySame e hbB st0).trans hob
  have e1 := g3.ext _ _ e
  have hb1 := g3.keep _ hbB
  have hgl1 : Ha.gl.length ≤ S.blk := by rw [g3.gl]; exact hgl
  refine ⟨_, run_beginRound hrec1 hst, ?_⟩
  have st1 : HRel ρ1 Ha (putO wa S.blk (.loop { rec with state := .busy })) := g3.rel.busyObj e1 hb1 hgl1 _
  refine code_sound (r := some S.blk) hm hcall hyield hL2 L.body _ _ _ hcb (.inr hL8) (ranges_none _) hL9.2 _ _ _ _ _ _ _ g2 st1 g1 _ fun z vs2 ts2 Hb ρ2 a2 wc k1 k2 k3 => ?_
  cases z with
  | exit id => exact (A.fail_no k1).elim
  | ret => exact (A.fail_no k1).elim
  | normal =>
  simp only at k1
  obtain ⟨_, k1⟩ := hPut_holds k1
  have hrec2 : wc.heap[S.blk]? = some (.loop { rec with state := .busy }) := (k3.busySame e1 hb1 st1).trans (putO_here (g3.rel.dom _ _ e1).2)
  refine ⟨_, _, run_endRound none hrec2, _, rfl, _, _, ρ2, k1, .bool true, ?_⟩
  have s2 := k3.unput g3.rel e1 hb1 hgl1 hrec1
  have s3 := (g3.trans s2).round hH e hb trivial (o := .loop { rec with state := .ready, pending := none }) ⟨_, L, rfl, hL1, rfl, rfl, hps, has, hbo, hN, hlen, fun i t ht => (hvars i t ht).mono (g3.trans s2).ext⟩
  rw [putO_putO] at s3
  exact s3
end rounds
end Dt

namespace Dt
open Go Go.RowKit
set_option linter.all false
variable [LoopTab]
section known
variable {R : Type} {A : Alg R} {P : Program}
/-! ### Calls whose answer is known -/

/-- .. and it laid an object. -/
theorem Quiet.stepObj {w w' : World} (q : Quiet w w') {ρ : Env} {H : Heap} (hH : HRel ρ H w) {r : Nat} {o : Obj} {x : OB} (h1 : w.heap.size ≤ r) (h2 : w'.heap[r]? = some o) (h3 : ObRel Env.none o x) :
    Step ρ H w (ρ.add H.next ⟨r, 0, 0, 0, 0⟩) (H.add (.obj x)) w' := by
  have hx := Env.add_ext (R := ⟨r, 0, 0, 0, 0⟩) hH.fresh
  have hr : r < w'.heap.size := (Array.getElem?_eq_some_iff.1 h2).1
  have hg : ∀ b, b ≠ H.next → (H.add (.obj x)).get b = H.get b := fun b hb => by rw [Heap.get_add _ _ _ trivial, if_neg hb]
  have hgn : (H.add (.obj x)).get H.next = .obj x := by rw [Heap.get_add _ _ _ trivial, if_pos rfl]
  have old : ∀ b S, ρ.add H.next ⟨r, 0, 0, 0, 0⟩ b = some S → b ≠ H.next → ρ b = some S := fun b S e hb => by simpa [Env.add, hb] using e
  have new : ∀ S, ρ.add H.next ⟨r, 0, 0, 0, 0⟩ H.next = some S → S = ⟨r, 0, 0, 0, 0⟩ := fun S e => by simpa [Env.add] using e.symm
  refine ⟨⟨fun b S e => ?_, fun b b' S S' e e' hd hd' hS => ?_, fun b S e => ?_, ?_, fun b S e hwr => ?_, fun b hb => by rw [Heap.next_add] at hb; rw [hg b (by omega)]; exact hH.top b (by omega)⟩, hx, q.size, q.os, q.tape, q.output, fun k hk _ => q.same k hk, fun b S e hd => ?_, by rw [Heap.next_add]; omega, fun b hb _ => hg b (by omega), fun b S e => ?_, fun b hb => by rw [hg b (fun he => by rw [he, hH.top _ (Nat.le_refl _)] at hb; cases hb)]; exact hb, Heap.gl_add _ _⟩
  · by_cases hb : b = H.next
    · subst hb
      obtain rfl := new S e
      rw [hgn]
      exact ⟨rfl, o, h2, h3.mono fun b R e => by cases e⟩
    · have e' := old b S e hb
      rw [hg b hb]
      exact ((hH.blk b S e').same (q.same _ (hH.dom _ _ e').2)).mono hx
  · by_cases hb : b = H.next <;> by_cases hb' : b' = H.next
    · rw [hb, hb']
    · subst hb
      obtain rfl := new S e
      have := (hH.dom _ _ (old b' S' e' hb')).2
      simp only at hS
      omega
    · subst hb'
      obtain rfl := new S' e'
      have := (hH.dom _ _ (old b S e hb)).2
      simp only at hS
      omega
    · rw [hg b hb] at hd
      rw [hg b' hb'] at hd'
      exact hH.inj b b' S S' (old _ _ e hb) (old _ _ e' hb') hd hd' hS
  · by_cases hb : b = H.next
    · subst hb
      obtain rfl := new S e
      exact ⟨by rw [Heap.next_add]; omega, hr⟩
    · have := hH.dom _ _ (old b S e hb)
      have := q.size
      exact ⟨by rw [Heap.next_add]; omega, by omega⟩
  · exact hH.glob.same fun g hgl => q.same _ (Nat.lt_of_lt_of_le hgl hH.glob.size)
  · rw [Heap.gl_add]
    by_cases hb : b = H.next
    · subst hb
      obtain rfl := new S e
      exact Nat.le_trans hH.glob.size h1
    · rw [hg b hb] at hwr
      exact hH.high _ _ (old b S e hb) hwr
  · by_cases hb : b = H.next
    · subst hb
      obtain rfl := new S e
      exact .inl h1
    · have e' := old b S e hb
      rw [hg b hb] at hd
      exact .inr ⟨b, S, e', hd, rfl⟩
  · by_cases hb : b = H.next
    · exact .inr (by omega)
    · exact .inl (old b S e hb)

/-- What the answer is, really. -/
def KRel (w : World) (v : Value) (w' : World) : KA → Prop
  | .val x => VRel Env.none x v ∧ Quiet w w'
  | .map l => Quiet w w' ∧ ∃ r es, v = .map (some r) ∧ w.heap.size ≤ r ∧ w'.heap[r]? = some (.map es es.size) ∧ MRel Env.none l es.toList 0
  | .put _ _ _ _ => False

/-- A call whose answer is known. -/
def Knows (P : Program) (gl : List (List AVal)) (f : Nat) (args : List AVal) : KA → Prop
  | .val x => ∀ (w : World) (ρ : Env) (us : List Value), GRel w gl → VRels ρ args us → Out P (callFunc f us.toArray) w fun v w' => KRel w v w' (.val x)
  | .map l => ∀ (w : World) (ρ : Env) (us : List Value), GRel w gl → VRels ρ args us → Out P (callFunc f us.toArray) w fun v w' => KRel w v w' (.map l)
  | .put p n v x => ∀ (R : Type) (A : Alg R) (w : World) (ρ : Env) (us : List Value) (H : Heap) (K : AVal → Heap → R), HRel ρ H w → H.gl = gl → VRels ρ args us → A.holds (doStore A n p v H fun H => K x H) →
    Out P (callFunc f us.toArray) w fun v' w' => ∃ x' H' ρ', A.holds (K x' H') ∧ VRel ρ' x' v' ∧ Step ρ H w ρ' H' w'

/-- All is as it should be. -/
structure ProgOk (P : Program) (T : Prog) : Prop where
  mixed : P.follows .mixedOrders = true
  funs : ∀ f F, T.funs f = some F → F.rnd = none → FunOk P f F
  rnds : ∀ f F k, T.funs f = some F → F.rnd = some k → RoundOk P f F k
  known : ∀ gl f args a, T.known gl f args = some a → Knows P gl f args a

theorem isMark_none {ρ : Env} : ∀ {args : List AVal} {us : List Value}, VRels ρ args us → isMark args = none
  | _, _, .nil => rfl
  | _, _, .cons (x := x) hx _ => by
    cases hx <;> try rfl
    rename_i l u h h1
    cases h with
    | nil => rfl
    | cons hy hys =>
      cases hy <;> try rfl
      have := h1 _ (List.mem_cons_self ..)
      simp [Value.oneCell'] at this

theorem evF_sound {T : Prog} (hT : ProgOk P T) : ∀ n, CallOk P A (evF A T n) ∧ YieldOk P A (evF A T n)
  | 0 => ⟨fun _ _ _ _ _ _ _ _ _ h => (A.fail_no h).elim, fun _ _ _ _ _ _ _ _ _ _ _ _ _ _ h => by
      obtain ⟨_, h⟩ := hPut_holds h
      exact (A.fail_no h).elim⟩
  | n + 1 => by
    obtain ⟨ihc, ihy⟩ := evF_sound hT n
    refine ⟨?_, ?_⟩
    · intro f args H K ρ w us hs hH h
      simp only [evF, isMark_none hs] at h
      cases hk : T.known H.gl f args with
      | some a =>
        simp only [hk] at h
        have hkn := hT.known _ _ _ _ hk
        cases a with
        | val x =>
          simp only at h
          refine Out.mono ?_ (hkn w ρ us hH.glob hs)
          intro v w' hv
          exact ⟨x, H, ρ, h, hv.1.mono (fun b R e => by cases e), hv.2.step hH⟩
        | map l =>
          simp only at h
          obtain ⟨_, h⟩ := hAdd_holds h
          refine Out.mono ?_ (hkn w ρ us hH.glob hs)
          intro v w' hv
          obtain ⟨q, r, es, rfl, h1, h2, h3⟩ := hv
          have st := q.stepObj hH (x := .map l) h1 h2 ⟨es, rfl, h3⟩
          have hm : VRel (ρ.add H.next ⟨r, 0, 0, 0, 0⟩) (.mp H.next) (.map (some r)) := .mp (R := ⟨r, 0, 0, 0, 0⟩) Env.add_same
          exact ⟨_, _, _, h, hm, st⟩
        | put p n v x =>
          simp only at h
          exact hkn R A w ρ us H K hH rfl hs h
      | none =>
        cases hF : T.funs f with
        | none =>
          simp only [hk, hF] at h
          exact (A.fail_no h).elim
        | some F =>
          simp only [hk, hF] at h
          split at h
          · exact (A.fail_no h).elim
          · rename_i hr
            obtain ⟨g1, g2⟩ := fun_sound hT.mixed ihc ihy hT.funs (hT.funs f F hF hr) hs hH h
            exact Out.ofBody g1 g2
    · intro b S f vs' args H K ρ w us hs hH e hb h
      have hmk : isMark (mark (llen args) :: (args ++ vs')) = some (llen args) := rfl
      simp only [evF, hmk] at h
      cases hF : T.funs f with
      | none =>
        simp only [hF] at h
        obtain ⟨_, h⟩ := hPut_holds h
        exact (A.fail_no h).elim
      | some F =>
        simp only [hF] at h
        cases hr : F.rnd with
        | none =>
          simp only [hr] at h
          obtain ⟨_, h⟩ := hPut_holds h
          exact (A.fail_no h).elim
        | some j =>
          simp only [hr] at h
          cases hj : Nat.beq j (llen args) with
          | false =>
            simp only [hj] at h
            obtain ⟨_, h⟩ := hPut_holds h
            exact (A.fail_no h).elim
          | true =>
            simp only [hj] at h
            have hjl : j = args.length := by rw [← llen_eq]; exact Nat.eq_of_beq_eq_true hj
            subst hjl
            exact round_sound hT.mixed ihc ihy (hT.rnds f F _ hF hr) hs hH e hb h

/-- A further function whose answers are known ahead. -/
def withKnown (T : Prog) (g : List (List AVal) → Nat → List AVal → Option KA) : Prog := ⟨T.funs, fun gl f args => (g gl f args).or (T.known gl f args)⟩
theorem withKnown_ok {T : Prog} (h : ProgOk P T) {g : List (List AVal) → Nat → List AVal → Option KA} (hg : ∀ gl f args a, g gl f args = some a → Knows P gl f args a) : ProgOk P (withKnown T g) :=
  ⟨h.mixed, h.funs, h.rnds, fun gl f args a e => by
    simp only [withKnown] at e
    cases hgg : g gl f args with
    | some a' => rw [hgg] at e; simp at e; subst e; exact hg _ _ _ _ hgg
    | none => rw [hgg] at e; simp at e; exact h.known _ _ _ _ e⟩
end known
end Dt
