/- A part of the abstract machine and of the proof that the program does what it reckons; no conditions. -/
import Derived.Test.YtpljolocgeicfaaDoorDi
namespace Dt
open Go Go.RowKit
/-! ### Slices of strings and of slices, new slices, structs compared -/
section sl
variable {R : Type} {A : Alg R} {P : Program} {call : Nat → List AVal → Heap → (AVal → Heap → R) → R} {vs ts : List AVal} {ρ : Env} {H : Heap} {w : World} {K : AVal → Heap → R}

/-- An operand that may be absent. -/
inductive ORel (ρ : Env) (vs ts : List AVal) : Option Opd → Option Value → Prop where
  | none : ORel ρ vs ts none none
  | some {x : Opd} {u : Value} (h : VRel ρ (x.get vs ts) u) : ORel ρ vs ts (some x) (some u)

theorem bound_run {X : AVal} {u : Value} {c n : Nat} (hb : bound X c = some n) (hx : VRel ρ X u) : n ≤ c ∧ ∀ (C : Nat) (code : BoundsCode), c ≤ C → (Instr.sliceBound u C code).run P w = .ok n w := by
  cases hx <;> try (simp [bound] at hb; done)
  rename_i k i
  cases i with
  | negSucc m => simp [bound] at hb
  | ofNat m =>
    simp only [bound] at hb
    split at hb
    · rename_i hle
      have hle' := Nat.le_of_ble_eq_true hle
      simp at hb
      subst hb
      refine ⟨hle', fun C code hC => ?_⟩
      rw [run_sliceBound w k _ C code (by simp) (by simp; omega)]
      simp
    · cases hb

theorem bounds_run {len c l h : Nat} {lo hi : Option Opd} {lo' hi' : Option Value} (hb : bounds vs ts len c lo hi = some (l, h)) (hlo : ORel ρ vs ts lo lo') (hhi : ORel ρ vs ts hi hi') (hlc : len ≤ c) :
    l ≤ h ∧ h ≤ c ∧ (∀ (b : Bool) (C : Nat), c ≤ C → (Instr.sliceBounds b len C lo' hi' none).run P w = .ok (l, h, C) w) ∧
    (∀ (b : Bool) (C : Nat) (m' : Value), hi.isSome → (∀ code, (Instr.sliceBound m' C code).run P w = .ok c w) → (Instr.sliceBounds b len C lo' hi' (some m')).run P w = .ok (l, h, c) w) := by
  unfold bounds at hb
  cases hhi with
  | none =>
    simp only at hb
    cases hlo with
    | none =>
      simp at hb
      obtain ⟨rfl, rfl⟩ := hb
      refine ⟨by omega, hlc, fun b C hC => ?_, fun b C m' hs => by simp at hs⟩
      simp [Instr.sliceBounds]
    | some hx =>
      rename_i x u
      cases hbx : bound (x.get vs ts) len with
      | none => simp [hbx] at hb
      | some n =>
        simp [hbx] at hb
        obtain ⟨rfl, rfl⟩ := hb
        obtain ⟨h1, h2⟩ := bound_run (P := P) (w := w) hbx hx
        refine ⟨h1, hlc, fun b C hC => ?_, fun b C m' hs => by simp at hs⟩
        simp [Instr.sliceBounds, h2 _ _ (Nat.le_refl _)]
  | some hy =>
    rename_i y v
    cases hby : bound (y.get vs ts) c with
    | none => simp [hby] at hb
    | some n =>
      obtain ⟨h1, h2⟩ := bound_run (P := P) (w := w) hby hy
      simp only [hby] at hb
      cases hlo with
      | none =>
        simp at hb
        obtain ⟨rfl, rfl⟩ := hb
        refine ⟨by omega, h1, fun b C hC => ?_, fun b C m' _ hm => ?_⟩
        · simp [Instr.sliceBounds, h2 _ _ hC]
        · simp [Instr.sliceBounds, hm, h2 _ _ (Nat.le_refl _)]
      | some hx =>
        rename_i x u
        cases hbx : bound (x.get vs ts) n with
        | none => simp [hbx] at hb
        | some k =>
          simp [hbx] at hb
          obtain ⟨rfl, rfl⟩ := hb
          obtain ⟨g1, g2⟩ := bound_run (P := P) (w := w) hbx hx
          refine ⟨g1, h1, fun b C hC => ?_, fun b C m' _ hm => ?_⟩
          · simp [Instr.sliceBounds, h2 _ _ hC, g2 _ _ (Nat.le_refl _)]
          · simp [Instr.sliceBounds, hm, h2 _ _ (Nat.le_refl _), g2 _ _ (Nat.le_refl _)]

theorem bounds_run2 {len c l h : Nat} {lo hi : Option Opd} {lo' hi' : Option Value} (hb : bounds vs ts len c lo hi = some (l, h)) (hlo : ORel ρ vs ts lo lo') (hhi : ORel ρ vs ts hi hi') (hs : hi.isSome) :
    l ≤ h ∧ h ≤ c ∧ True ∧ (∀ (b : Bool) (C : Nat) (m' : Value), (∀ code, (Instr.sliceBound m' C code).run P w = .ok c w) → (Instr.sliceBounds b len C lo' hi' (some m')).run P w = .ok (l, h, c) w) := by
  unfold bounds at hb
  cases hhi with
  | none => simp at hs
  | some hy =>
    rename_i y v
    cases hby : bound (y.get vs ts) c with
    | none => simp [hby] at hb
    | some n =>
      obtain ⟨h1, h2⟩ := bound_run (P := P) (w := w) hby hy
      simp only [hby] at hb
      cases hlo with
      | none =>
        simp at hb
        obtain ⟨rfl, rfl⟩ := hb
        refine ⟨by omega, h1, trivial, fun b C m' hm => ?_⟩
        simp [Instr.sliceBounds, hm, h2 _ _ (Nat.le_refl _)]
      | some hx =>
        rename_i x u
        cases hbx : bound (x.get vs ts) n with
        | none => simp [hbx] at hb
        | some k =>
          simp [hbx] at hb
          obtain ⟨rfl, rfl⟩ := hb
          obtain ⟨g1, g2⟩ := bound_run (P := P) (w := w) hbx hx
          refine ⟨g1, h1, trivial, fun b C m' hm => ?_⟩
          simp [Instr.sliceBounds, hm, h2 _ _ (Nat.le_refl _), g2 _ _ (Nat.le_refl _)]

theorem y_slcStr {t : TypeId} (ht : P.underlying t = some .string) {x : Opd} {u : Value} {lo hi : Option Opd} {lo' hi' : Option Value} (hx : VRel ρ (x.get vs ts) u) (hlo : ORel ρ vs ts lo lo') (hhi : ORel ρ vs ts hi hi') 
    (h : A.holds (evI A call (.slcStr x lo hi) vs ts H K)) : Pure P (Instr.sliceAt t u lo' hi' none) ρ H (fun x H => A.holds (K x H)) := by
  simp only [evI] at h
  generalize x.get vs ts = X at hx h
  cases hx <;> try exact (A.fail_no h).elim
  rename_i s
  simp only at h
  cases hb : bounds vs ts s.size s.size lo hi with
  | none => rw [hb] at h; exact (A.fail_no h).elim
  | some p =>
    obtain ⟨l, g⟩ := p
    rw [hb] at h
    simp only [fN_eq] at h
    obtain ⟨h1, h2, _, _⟩ := bounds_run (P := P) (w := default) hb hlo hhi (Nat.le_refl _)
    have h3 := fun (w : World) => (bounds_run (P := P) (w := w) hb hlo hhi (Nat.le_refl _)).2.2.1
    refine Pure.here (v := .string (s.extract l g)) h (fun w => ?_) ?_
    · rw [run_sliceAt_string w t _ _ _ _ ht]
      simp [Instr.slice, run_underlying ht, h3 w _ _ (Nat.le_refl _)]
    · have := VRel.str (ρ := ρ) (s.extract l g)
      have e1 : (s.extract l g).size = g - l := by rw [ByteArray.size_extract]; omega
      have e2 : (s.extract l g).data.toList = (s.data.toList.drop l).take (g - l) := by
        simp [ByteArray.data_extract, List.take_drop]
      rw [e1, e2, codeOf_take, codeOf_drop, ← scut_eq] at this
      exact this

theorem y_slcS {t e : TypeId} {i : TypeInfo} (ht : P.underlying t = some (.slice e)) (hi' : P.info? e = some i) (_hz : 0 < P.cellsOf e) {x : Opd} {u : Value} {lo hi mx : Option Opd} {lo' hi1 mx' : Option Value} (hx : VRel ρ (x.get vs ts) u) (hlo : ORel ρ vs ts lo lo') (hhi : ORel ρ vs ts hi hi1) (hmx : ORel ρ vs ts mx mx')
    (hmh : (mx.isSome && hi.isNone) = false) 
    (h : A.holds (evI A call (.slcS (P.cellsOf e) x lo hi mx) vs ts H K)) : Pure P (Instr.sliceAt t u lo' hi1 mx') ρ H (fun x H => A.holds (K x H)) := by
  have hsat : ∀ w, (Instr.sliceAt t u lo' hi1 mx').run P w = (Instr.slice t u lo' hi1 mx').run P w := by
    intro w
    simp [Instr.sliceAt, run_underlying ht]
  simp only [evI] at h
  generalize x.get vs ts = X at hx h
  cases hx <;> try exact (A.fail_no h).elim
  case nils =>
    simp only at h
    cases hb : bounds vs ts 0 0 lo hi with
    | none => rw [hb] at h; exact (A.fail_no h).elim
    | some p =>
      obtain ⟨l, g⟩ := p
      rw [hb] at h
      cases hmx with
      | some _ => exact (A.fail_no h).elim
      | none =>
        simp only at h
        obtain ⟨h1, h2, _, _⟩ := bounds_run (P := P) (w := default) hb hlo hhi (Nat.le_refl _)
        have h3 := fun (w : World) => (bounds_run (P := P) (w := w) hb hlo hhi (Nat.le_refl _)).2.2.1
        have hl : l = 0 := by omega
        have hg : g = 0 := by omega
        subst hl; subst hg
        refine Pure.here (v := .slice none 0 0) h (fun w => ?_) .nils
        rw [hsat]
        simp [Instr.slice, run_underlying ht, h3 w _ _ (Nat.le_refl _), run_sizeOf hi']
  case slc b S es r len cap' cap a' hl hc ho ha =>
    simp only at h
    split at h
    · exact (A.fail_no h).elim
    · rename_i hsz
      have hsz' : S.esz = P.cellsOf e := by simpa using hsz
      -- what all the cases come to
      have fin : ∀ (l g m : Nat) (capn : Option Nat), l ≤ g → g ≤ m → m ≤ cap' → (∀ c, capn = some c → c = m - l) → (capn = none → cap = none ∧ m = cap') → (∀ w, (Instr.sliceBounds true len cap' lo' hi1 mx').run P w = .ok (l, g, m) w) →
          A.holds (K (.slc b (r + l) (g - l) capn S.esz) H) → Pure P (Instr.sliceAt t (.slice (some a') len cap') lo' hi1 mx') ρ H (fun x H => A.holds (K x H)) := by
        intro l g m capn h1 h2 h3 h4 h5 h6 hK
        refine Pure.here (v := .slice (if m = l then some a' else some (a'.add (l * P.cellsOf e))) (g - l) (m - l)) hK (fun w => ?_) ?_
        · rw [hsat]
          simp [Instr.slice, run_underlying ht, h6, run_sizeOf hi']
        · have key : ∀ a2 : Addr, (if m = l then some a' else some (a'.add (l * P.cellsOf e))) = some a2 → ((g - l = 0 ∧ m - l = 0) ∨ (a2 = ⟨S.blk, S.off + (r + l) * S.esz, none⟩ ∧ S.off + (r + l + (m - l)) * S.esz ≤ S.size)) := by
            intro a2 e2
            by_cases hm : m = l
            · exact .inl (by omega)
            · rw [if_neg hm] at e2
              simp only [Option.some.injEq] at e2
              rcases ha with ⟨h0, h00⟩ | ⟨rfl, hb2⟩
              · omega
              · refine .inr ⟨?_, ?_⟩
                · rw [← e2, Addr.add_lit, ← hsz', Nat.add_mul]
                  congr 1
                  omega
                · have : (r + l + (m - l)) * S.esz ≤ (r + cap') * S.esz := Nat.mul_le_mul_right _ (by omega)
                  omega
          have hex : ∃ a2, (if m = l then some a' else some (a'.add (l * P.cellsOf e))) = some a2 := by split <;> exact ⟨_, rfl⟩
          obtain ⟨a2, e2⟩ := hex
          rw [e2]
          refine VRel.slc es (r + l) (g - l) (m - l) capn a2 (by omega) (fun c hcn => (h4 c hcn).symm) (fun hn => ?_) (key a2 e2)
          obtain ⟨q1, q2⟩ := h5 hn
          have := ho q1
          omega
      cases cap with
      | some cp =>
        have hcc : cap' = cp := hc cp rfl
        simp only at h
        cases hmx with
        | none =>
          simp only at h
          cases hb : bounds vs ts len cp lo hi with
          | none => rw [hb] at h; exact (A.fail_no h).elim
          | some p =>
            obtain ⟨l, g⟩ := p
            rw [hb] at h
            simp only [fN_eq] at h
            obtain ⟨h1, h2, _, _⟩ := bounds_run (P := P) (w := default) hb hlo hhi (by omega)
            have h3 := fun (w : World) => (bounds_run (P := P) (w := w) hb hlo hhi (by omega)).2.2.1
            exact fin l g cap' (some (cp - l)) h1 (by omega) (Nat.le_refl _) (fun c hh => by simp at hh; omega) (fun hh => by cases hh) (fun w => h3 w _ _ (by omega)) h
        | some hv =>
          rename_i mo mv
          simp only at h
          cases hbm : bound (mo.get vs ts) cp with
          | none => rw [hbm] at h; exact (A.fail_no h).elim
          | some m =>
            rw [hbm] at h
            simp only at h
            obtain ⟨m1, _⟩ := bound_run (P := P) (w := default) hbm hv
            have m2 := fun (w : World) => (bound_run (P := P) (w := w) hbm hv).2
            cases hb : bounds vs ts len m lo hi with
            | none => rw [hb] at h; exact (A.fail_no h).elim
            | some p =>
              obtain ⟨l, g⟩ := p
              rw [hb] at h
              simp only [fN_eq] at h
              have hhs : hi.isSome := by cases hi <;> simp at hmh ⊢
              obtain ⟨h1, h2, _, _⟩ := bounds_run2 (P := P) (w := default) hb hlo hhi hhs
              have h3 := fun (w : World) => (bounds_run2 (P := P) (w := w) hb hlo hhi hhs).2.2.2
              exact fin l g m (some (m - l)) h1 h2 (by omega) (fun c hh => by simp at hh; omega) (fun hh => by cases hh) (fun w => h3 w _ _ _ fun code => m2 w _ code (by omega)) h
      | none =>
        simp only at h
        cases hmx with
        | none =>
          simp only at h
          cases hb : bounds vs ts len len lo hi with
          | none => rw [hb] at h; exact (A.fail_no h).elim
          | some p =>
            obtain ⟨l, g⟩ := p
            rw [hb] at h
            simp only [fN_eq] at h
            obtain ⟨h1, h2, _, _⟩ := bounds_run (P := P) (w := default) hb hlo hhi (Nat.le_refl _)
            have h3 := fun (w : World) => (bounds_run (P := P) (w := w) hb hlo hhi (Nat.le_refl _)).2.2.1
            exact fin l g cap' none h1 (by omega) (Nat.le_refl _) (fun c hh => by cases hh) (fun _ => ⟨rfl, rfl⟩) (fun w => h3 w _ _ hl) h
        | some hv =>
          rename_i mo mv
          simp only at h
          cases hbm : bound (mo.get vs ts) len with
          | none => rw [hbm] at h; exact (A.fail_no h).elim
          | some m =>
            rw [hbm] at h
            simp only at h
            obtain ⟨m1, _⟩ := bound_run (P := P) (w := default) hbm hv
            have m2 := fun (w : World) => (bound_run (P := P) (w := w) hbm hv).2
            cases hb : bounds vs ts len m lo hi with
            | none => rw [hb] at h; exact (A.fail_no h).elim
            | some p =>
              obtain ⟨l, g⟩ := p
              rw [hb] at h
              simp only [fN_eq] at h
              have hhs : hi.isSome := by cases hi <;> simp at hmh ⊢
              obtain ⟨h1, h2, _, _⟩ := bounds_run2 (P := P) (w := default) hb hlo hhi hhs
              have h3 := fun (w : World) => (bounds_run2 (P := P) (w := w) hb hlo hhi hhs).2.2.2
              exact fin l g m (some (m - l)) h1 h2 (by omega) (fun c hh => by simp at hh; omega) (fun hh => by cases hh) (fun w => h3 w _ _ _ fun code => m2 w _ code (by omega)) h

theorem y_mkS {t e : TypeId} {zr : List AVal} (ht : P.underlying t = some (.slice e)) (hzr : zeroRow P e = some zr) (_hb : 0 < P.bytesOf e) (hz : 0 < P.cellsOf e) {x y : Opd} {u v : Value} (hx : VRel ρ (x.get vs ts) u) (hy : VRel ρ (y.get vs ts) v) (hH : HRel ρ H w)
    (h : A.holds (evI A call (.mkS zr (P.bytesOf e) x y) vs ts H K)) : Yields P (Instr.makeSlice t u v) ρ H w (fun x H => A.holds (K x H)) := by
  obtain ⟨i, z, hi, hzv, hsz, hrel, hone, hlen⟩ := zeroRow_some (ρ := ρ) hzr
  have hcell : P.cellsOf e = i.size := by simp [Program.cellsOf, hi]
  have hbytes : P.bytesOf e = i.bytes := by simp [Program.bytesOf, hi]
  rw [hcell] at hz
  rw [hbytes] at h
  simp only [evI] at h
  generalize x.get vs ts = X at hx h
  generalize y.get vs ts = Y at hy h
  cases hx <;> try exact (A.fail_no h).elim
  rename_i kl n
  cases n with
  | negSucc n => exact (A.fail_no h).elim
  | ofNat n =>
    cases hy <;> try exact (A.fail_no h).elim
    rename_i kc c
    cases c with
    | negSucc c => exact (A.fail_no h).elim
    | ofNat c =>
      simp only at h
      split at h
      · rename_i hbb
        simp only [Bool.and_eq_true] at hbb
        have b1 := Nat.le_of_ble_eq_true hbb.1.1
        have b2 : c * i.bytes ≤ 1000000000 := Nat.le_of_ble_eq_true hbb.1.2
        have b3 := Nat.le_of_ble_eq_true hbb.2
        simp only [fL_eq] at h
        obtain ⟨hm, h⟩ := hAdd_holds h
        simp only [llen_eq, hlen] at h
        have b4 : i.bytes * c ≤ 1000000000 := by rw [Nat.mul_comm]; exact b2
        have b5 : ((i.bytes : Int) * (c : Int)) ≤ 281474976710656 := by
          have : ((i.bytes * c : Nat) : Int) ≤ 281474976710656 := by omega
          rwa [Int.natCast_mul] at this
        have hrun := run_make (P := P) w t e i z ht hi hzv kl kc (Int.ofNat n) (Int.ofNat c) (by simp) (by simp; omega) b5 (by simp; omega)
        obtain ⟨z1, z2⟩ := zeros_rel hrel hone (by omega) c
        rw [hsz] at z1 z2
        have hh : Yields P (do pure (.slice (some (← newRow e ((Array.range (c * i.size)).map (z.cells[· % i.size]!)))) n (List.replicate c zr).length)) ρ H w (fun x H => A.holds (K x H)) :=
          YieldsK.weak <| newRow_yields (z := i.size) (fun row hrow => by rw [(List.mem_replicate.1 hrow).2, hlen]) z1 z2 hH hm n (by rw [List.length_replicate]; exact b1) (by rw [List.length_replicate]; exact h)
        obtain ⟨x, H', ρ', v, w', k1, k2, k3, k4⟩ := hh
        refine ⟨x, H', ρ', v, w', k1, ?_, k3, k4⟩
        rw [hrun, ← k2]
        simp [newRow, madeCells, hsz]
      · exact (A.fail_no h).elim

theorem eqCells_run {xs ys : Array Value} {X Y : List AVal} (hX : VRels ρ X xs.toList) (hY : VRels ρ Y ys.toList) (d : Nat) : ∀ (fs : List Field) (n : Nat) (ks : List Nat) (b : Bool), plainKinds P fs n = some ks → eqCells ks (X.drop n) (Y.drop n) = some b →
    (Op.eqFields (d + 1) xs ys fs).run P w = .ok b w := by
  intro fs
  induction fs with
  | nil =>
    intro n ks b hk hb
    simp [plainKinds] at hk
    subst hk
    cases h1 : X.drop n <;> cases h2 : Y.drop n <;> rw [h1, h2] at hb <;> simp [eqCells] at hb
    subst hb
    simp [Op.eqFields]
  | cons f fs ih =>
    intro n ks b hk hb
    simp only [plainKinds] at hk
    split at hk
    · rename_i hf
      simp only [Bool.and_eq_true, bne_iff_ne, ne_eq, beq_iff_eq] at hf
      obtain ⟨hname, hoff⟩ := hf
      have cell : ∀ {k : Nat} {r : List Nat}, ks = k :: r → ∃ (x y : AVal) (u v : Value), X.drop n = x :: X.drop (n + 1) ∧ Y.drop n = y :: Y.drop (n + 1) ∧ xs[n]? = some u ∧ ys[n]? = some v ∧ VRel ρ x u ∧ VRel ρ y v := by
        intro k r hks
        subst hks
        cases h1 : X.drop n with
        | nil => rw [h1] at hb; simp [eqCells] at hb
        | cons x X' =>
          cases h2 : Y.drop n with
          | nil => rw [h1, h2] at hb; simp [eqCells] at hb
          | cons y Y' =>
            have g1 : X[n]? = some x := by rw [← List.head?_drop, h1]; rfl
            have g2 : Y[n]? = some y := by rw [← List.head?_drop, h2]; rfl
            obtain ⟨u, hu, hxu⟩ := hX.get _ _ g1
            obtain ⟨v, hv, hyv⟩ := hY.get _ _ g2
            refine ⟨x, y, u, v, ?_, ?_, by simpa using hu, by simpa using hv, hxu, hyv⟩
            · have : X.drop (n + 1) = (X.drop n).drop 1 := by rw [List.drop_drop]
              rw [this, h1]; rfl
            · have : Y.drop (n + 1) = (Y.drop n).drop 1 := by rw [List.drop_drop]
              rw [this, h2]; rfl
      have step : ∀ {k : Nat} {r : List Nat}, ks = k :: r → plainKinds P fs (n + 1) = some r → isOne P f.type = true →
          (∀ (x y : AVal) (u v : Value) (c : Bool), VRel ρ x u → VRel ρ y v → eqCell k x y = some c → (Op.equalIn (d + 1) f.type u v).run P w = .ok c w) → (Op.eqFields (d + 1) xs ys (f :: fs)).run P w = .ok b w := by
        intro k r hks hr hone hcell
        obtain ⟨x, y, u, v, e1, e2, e3, e4, e5, e6⟩ := cell hks
        subst hks
        rw [e1, e2] at hb
        simp only [eqCells] at hb
        have p1 : (part f.type xs f.offset).run P w = .ok u w := by
          simp [part, run_isAgg_one hone, hoff, e3]
        have p2 : (part f.type ys f.offset).run P w = .ok v w := by
          simp [part, run_isAgg_one hone, hoff, e4]
        simp only [Op.eqFields, hname, ne_eq, not_false_eq_true, if_true, Sem.run_bind, p1, p2, Result.andThen_ok]
        split at hb
        · rename_i hc
          rw [hcell x y u v true e5 e6 hc]
          simp only [Result.andThen_ok]
          simpa using ih (n + 1) r b hr hb
        · rename_i hc
          rw [hcell x y u v false e5 e6 hc]
          simp at hb
          subst hb
          simp
        · cases hb
      have one : ∀ {dd : TypeDesc}, P.underlying f.type = some dd → (∀ fs, dd ≠ .struct fs) → (∀ n e, dd ≠ .array n e) → isOne P f.type = true := by
        intro dd h1 h2 h3
        unfold isOne
        rw [h1]
        cases dd <;> simp_all
      split at hk
      · rename_i r ht hr
        simp at hk
        refine step hk.symm hr (one ht (by simp) (by simp)) ?_
        intro x y u v c hx hy hc
        cases hx <;> cases hy <;> try (simp [eqCell] at hc; done)
        rename_i k a k' b
        simp only [eqCell] at hc
        by_cases hkk : k = k'
        · subst hkk
          rw [decide_eq_true rfl] at hc
          simp [ieq_eq] at hc
          subst hc
          exact run_equalIn_int w d f.type k _ a b ht
        · rw [decide_eq_false hkk] at hc; cases hc
      · rename_i r ht hr
        simp at hk
        refine step hk.symm hr (one ht (by simp) (by simp)) ?_
        intro x y u v c hx hy hc
        cases hx <;> cases hy <;> try (simp [eqCell] at hc; done)
        rename_i a b
        simp only [eqCell, str_beq] at hc
        simp at hc
        subst hc
        exact run_equalIn_string w d f.type a b ht
      · rename_i r ht hr
        simp at hk
        refine step hk.symm hr (one ht (by simp) (by simp)) ?_
        intro x y u v c hx hy hc
        cases hx <;> cases hy <;> try (simp [eqCell] at hc; done)
        rename_i a b
        simp only [eqCell] at hc
        simp at hc
        subst hc
        exact run_equalIn_bool' w d f.type a b ht
      · cases hk
    · cases hk

theorem y_eqAgg {t : TypeId} {fs : Array Field} {ks : List Nat} (ht : P.underlying t = some (.struct fs)) (hp : plainStruct P t fs.toList = some ks) {neg : Bool} {ox oy : Operand} {x y : Opd} {u v : Value} (hx : VRel ρ (x.get vs ts) u) (hy : VRel ρ (y.get vs ts) v) 
    (h : A.holds (evI A call (.eqAgg neg ks x y) vs ts H K)) : Pure P (do eqGuard (if neg then .neq else .eql) t ox oy u v; binOp (if neg then .neq else .eql) t u v) ρ H (fun x H => A.holds (K x H)) := by
  unfold plainStruct at hp
  split at hp
  · rename_i hg
    simp only [Bool.and_eq_true, Bool.not_eq_eq_eq_not, Bool.not_true] at hg
    simp only [evI] at h
    generalize x.get vs ts = X at hx h
    generalize y.get vs ts = Y at hy h
    cases hx <;> try exact (A.fail_no h).elim
    rename_i X us hX h1
    cases hy <;> try exact (A.fail_no h).elim
    rename_i Y ws hY h2
    simp only at h
    cases hb : eqCells ks X Y with
    | none => rw [hb] at h; exact (A.fail_no h).elim
    | some b =>
      rw [hb] at h
      simp only [fB_eq] at h
      have hfo : P.fieldsOf t = fs := by simp [Program.fieldsOf, ht]
      have hrun := fun w : World => eqCells_run (P := P) (w := w) (xs := us.toArray) (ys := ws.toArray) (by simpa using hX) (by simpa using hY) 9998 fs.toList 0 ks b hp (by simpa using hb)
      have heq : ∀ w, (Op.equalIn 10000 t (.agg us.toArray) (.agg ws.toArray)).run P w = .ok b w := by
        intro w
        rw [run_equalIn_agg w 9999 t us.toArray ws.toArray (by rw [hfo]; exact ht) hg.1, hfo]
        exact hrun w
      refine Pure.here (v := .bool (b != neg)) h (fun w => ?_) (.bool _)
      cases neg
      · simp [run_eqGuard_agg w _ t ox oy _ _ hg.2, run_eql_struct, heq]
      · simp [run_eqGuard_agg w _ t ox oy _ _ hg.2, run_neq_struct, heq]
  · cases hp
end sl
end Dt
