/- A part of the abstract machine and of the proof that the program does what it reckons; no conditions. -/
import Derived.Test.YtpljolocgeicfaaDoorDd
namespace Dt
open Go Go.RowKit
/-! ### Numbers and strings -/
theorem wrapI_eq (k : IntKind) (n : Int) : wrapI k n = k.wrap n := by
  unfold wrapI
  cases k <;> try rfl
  cases n with
  | ofNat m =>
    simp only
    cases h : Nat.ble m 9223372036854775807
    · rfl
    · have := Nat.le_of_ble_eq_true h
      simp only
      exact (IntWalk.i64_in _ (by constructor <;> simp <;> omega)).symm
  | negSucc m =>
    simp only
    cases h : Nat.ble m 9223372036854775807
    · rfl
    · have := Nat.le_of_ble_eq_true h
      simp only
      exact (IntWalk.i64_in _ (by omega)).symm
theorem ieq_eq (a b : Int) : ieq a b = (a == b) := by
  cases a <;> cases b <;> simp [ieq] <;> rw [Bool.eq_iff_iff] <;> simp <;> omega
theorem ile_eq (a b : Int) : ile a b = decide (a ≤ b) := by
  cases a <;> cases b <;> simp only [ile] <;> rw [Bool.eq_iff_iff] <;> simp <;> omega

theorem codeOf_lt (l : List UInt8) : codeOf l < 256 ^ l.length := by
  induction l with
  | nil => simp [codeOf]
  | cons b l ih =>
    have hb : b.toNat < 256 := b.toNat_lt
    simp only [codeOf, List.length_cons, Nat.pow_succ]
    omega
theorem shr8 (c i : Nat) : Nat.shiftRight c (Nat.mul 8 i) = c / 256 ^ i := by
  have : Nat.shiftRight c (Nat.mul 8 i) = c >>> (8 * i) := rfl
  rw [this, Nat.shiftRight_eq_div_pow, Nat.pow_mul]
theorem sget_eq (c i : Nat) : sget c i = c / 256 ^ i % 256 := by
  unfold sget
  rw [shr8]
  rfl
theorem scut_eq (c l h : Nat) : scut c l h = c / 256 ^ l % 256 ^ (h - l) := by
  unfold scut
  rw [shr8]
  have : Nat.pow 2 (Nat.mul 8 (Nat.sub h l)) = 256 ^ (h - l) := by
    show 2 ^ (8 * (h - l)) = 256 ^ (h - l)
    rw [Nat.pow_mul]
  rw [this]
  rfl
theorem scat_eq (n c d : Nat) : scat n c d = c + 256 ^ n * d := by
  unfold scat
  have : Nat.shiftLeft d (Nat.mul 8 n) = 256 ^ n * d := by
    show d <<< (8 * n) = _
    rw [Nat.shiftLeft_eq, Nat.pow_mul, Nat.mul_comm]
  rw [this]
  rfl
theorem codeOf_get : ∀ (l : List UInt8) (i : Nat) (h : i < l.length), codeOf l / 256 ^ i % 256 = (l[i]'h).toNat
  | b :: l, 0, _ => by
    have hb : b.toNat < 256 := b.toNat_lt
    simp only [codeOf, Nat.pow_zero, Nat.div_one, List.getElem_cons_zero]
    omega
  | b :: l, i + 1, h => by
    have hb : b.toNat < 256 := b.toNat_lt
    simp only [codeOf, List.getElem_cons_succ]
    rw [Nat.pow_succ, Nat.mul_comm (256 ^ i) 256, ← Nat.div_div_eq_div_mul]
    have : (b.toNat + 256 * codeOf l) / 256 = codeOf l := by omega
    rw [this]
    exact codeOf_get l i (by simpa using h)
theorem codeOf_drop : ∀ (l : List UInt8) (i : Nat), codeOf (l.drop i) = codeOf l / 256 ^ i
  | l, 0 => by simp
  | [], i + 1 => by simp [codeOf]
  | b :: l, i + 1 => by
    have hb : b.toNat < 256 := b.toNat_lt
    rw [List.drop_succ_cons, codeOf_drop l i]
    simp only [codeOf]
    rw [Nat.pow_succ, Nat.mul_comm (256 ^ i) 256, ← Nat.div_div_eq_div_mul]
    congr 1
    omega
theorem codeOf_take : ∀ (l : List UInt8) (i : Nat), codeOf (l.take i) = codeOf l % 256 ^ i
  | l, 0 => by simp [codeOf, Nat.mod_one]
  | [], i + 1 => by simp [codeOf]
  | b :: l, i + 1 => by
    have hb : b.toNat < 256 := b.toNat_lt
    rw [List.take_succ_cons]
    simp only [codeOf]
    rw [codeOf_take l i, Nat.pow_succ, Nat.mul_comm (256 ^ i) 256]
    have hp : 0 < 256 ^ i := Nat.pow_pos (by omega)
    rw [Nat.mod_mul]
    have h1 : (b.toNat + 256 * codeOf l) % 256 = b.toNat := by omega
    have h2 : (b.toNat + 256 * codeOf l) / 256 = codeOf l := by omega
    rw [h1, h2]
theorem codeOf_append (l m : List UInt8) : codeOf (l ++ m) = codeOf l + 256 ^ l.length * codeOf m := by
  induction l with
  | nil => simp [codeOf]
  | cons b l ih =>
    simp only [List.cons_append, codeOf, ih, List.length_cons, Nat.pow_succ]
    have : 256 ^ l.length * 256 * codeOf m = 256 * (256 ^ l.length * codeOf m) := by
      rw [Nat.mul_comm (256 ^ l.length) 256, Nat.mul_assoc]
    omega
theorem codeOf_inj : ∀ {l m : List UInt8}, l.length = m.length → codeOf l = codeOf m → l = m
  | [], [], _, _ => rfl
  | b :: l, d :: m, hl, h => by
    have hb : b.toNat < 256 := b.toNat_lt
    have hd : d.toNat < 256 := d.toNat_lt
    simp only [codeOf] at h
    have h1 : b.toNat = d.toNat := by omega
    have h2 : codeOf l = codeOf m := by omega
    rw [codeOf_inj (by simpa using hl) h2, UInt8.toNat_inj.1 h1]
  | [], _ :: _, hl, _ => by simp at hl
  | _ :: _, [], hl, _ => by simp at hl

theorem str_beq (a b : ByteArray) : (Nat.beq a.size b.size && Nat.beq (codeOf a.data.toList) (codeOf b.data.toList)) = (a.toList == b.toList) := by
  rw [ByteArray.toList_eq, ByteArray.toList_eq, Bool.eq_iff_iff]
  have ha : a.size = a.data.toList.length := by simp
  have hb : b.size = b.data.toList.length := by simp
  constructor
  · intro h
    simp only [Bool.and_eq_true, Nat.beq_eq] at h
    have : a.data.toList = b.data.toList := codeOf_inj (by rw [← ha, ← hb]; exact h.1) h.2
    simp [this]
  · intro h
    have h' : a.data.toList = b.data.toList := by simpa using h
    simp only [Bool.and_eq_true, Nat.beq_eq]
    exact ⟨by rw [ha, hb, h'], by rw [h']⟩

/-! ### What one operation does -/

/-- The run of a piece hands back a value, and memory has taken a step. -/
def Yields (P : Program) (s : Sem Value) (ρ : Env) (H : Heap) (w : World) (Q : AVal → Heap → Prop) : Prop :=
  ∃ x H' ρ' v w', Q x H' ∧ s.run P w = .ok v w' ∧ VRel ρ' x v ∧ Step ρ H w ρ' H' w'

theorem Yields.here {P : Program} {s : Sem Value} {ρ : Env} {H : Heap} {w : World} {Q : AVal → Heap → Prop} (h : HRel ρ H w) {x : AVal} {v : Value} (hq : Q x H) (hs : s.run P w = .ok v w) (hv : VRel ρ x v) : Yields P s ρ H w Q :=
  ⟨x, H, ρ, v, w, hq, hs, hv, Step.refl h⟩

/-- The piece hands back a value, whatever the world, and leaves the world be. -/
def Pure (P : Program) (s : Sem Value) (ρ : Env) (H : Heap) (Q : AVal → Heap → Prop) : Prop :=
  ∃ x v, Q x H ∧ (∀ w, s.run P w = .ok v w) ∧ VRel ρ x v
theorem Pure.here {P : Program} {s : Sem Value} {ρ : Env} {H : Heap} {Q : AVal → Heap → Prop} {x : AVal} {v : Value} (hq : Q x H) (hs : ∀ w, s.run P w = .ok v w) (hv : VRel ρ x v) : Pure P s ρ H Q :=
  ⟨x, v, hq, hs, hv⟩
/-- The piece hands back a value that one block of this world tells, and leaves the world be. -/
def Reads (P : Program) (s : Sem Value) (ρ : Env) (H : Heap) (w : World) (Q : AVal → Heap → Prop) : Prop :=
  ∃ x v blk, Q x H ∧ VRel ρ x v ∧ blk < w.heap.size ∧ ∀ w' : World, w'.heap[blk]? = w.heap[blk]? → s.run P w' = .ok v w'
/-- 'Yields', and all blocks that stood stand as they did. -/
def YieldsK (P : Program) (s : Sem Value) (ρ : Env) (H : Heap) (w : World) (Q : AVal → Heap → Prop) : Prop :=
  ∃ x H' ρ' v w', Q x H' ∧ s.run P w = .ok v w' ∧ VRel ρ' x v ∧ Step ρ H w ρ' H' w' ∧ ∀ k, k < w.heap.size → w'.heap[k]? = w.heap[k]?
theorem YieldsK.weak {P : Program} {s : Sem Value} {ρ : Env} {H : Heap} {w : World} {Q : AVal → Heap → Prop} (h : YieldsK P s ρ H w Q) : Yields P s ρ H w Q :=
  let ⟨x, H', ρ', v, w', h1, h2, h3, h4, _⟩ := h
  ⟨x, H', ρ', v, w', h1, h2, h3, h4⟩
theorem cell_same {w w' : World} {a : Addr} (h : w'.heap[a.block]? = w.heap[a.block]?) : w'.cell? a = w.cell? a := by
  unfold World.cell?
  rw [h]

section ops
variable {R : Type} {A : Alg R} {P : Program} {call : Nat → List AVal → Heap → (AVal → Heap → R) → R} {vs ts : List AVal} {ρ : Env} {H : Heap} {w : World} {K : AVal → Heap → R}

theorem run_isAgg_one {t : TypeId} (h : isOne P t = true) (w : World) : (Go.isAgg t).run P w = .ok false w := by
  unfold isOne at h
  cases hu : P.underlying t with
  | none => rw [hu] at h; cases h
  | some d =>
    rw [hu] at h
    simp only [Go.isAgg, Sem.run_bind, run_underlying hu, Result.andThen_ok]
    cases d <;> simp_all
theorem run_isAgg_many {t : TypeId} (h : isMany P t = true) (w : World) : (Go.isAgg t).run P w = .ok true w := by
  unfold isMany at h
  cases hu : P.underlying t with
  | none => rw [hu] at h; cases h
  | some d =>
    rw [hu] at h
    simp only [Go.isAgg, Sem.run_bind, run_underlying hu, Result.andThen_ok]
    cases d <;> simp_all
theorem info_of_one {t : TypeId} (h : isOne P t = true) : ∃ i, P.info? t = some i := by
  unfold isOne Program.underlying at h
  cases hi : P.info? t with
  | none => rw [hi] at h; cases h
  | some i => exact ⟨i, rfl⟩
theorem info_of_many {t : TypeId} (h : isMany P t = true) : ∃ i, P.info? t = some i := by
  unfold isMany Program.underlying at h
  cases hi : P.info? t with
  | none => rw [hi] at h; cases h
  | some i => exact ⟨i, rfl⟩
theorem run_sizeOf {t : TypeId} {i : TypeInfo} (h : P.info? t = some i) (w : World) : (Go.sizeOf t).run P w = .ok (P.cellsOf t) w := by
  simp [Go.sizeOf, typeInfo, h, Program.cellsOf]

theorem loadVar_one {t : TypeId} (ht : isOne P t = true) {a : Addr} {u : Value} (hc : w.cell? a = some u) : (loadVar t a).run P w = .ok u w := by
  simp [loadVar, run_isAgg_one ht, hc]
theorem loadVar_many {t : TypeId} (ht : isMany P t = true) {a : Addr} {us : List Value} (hl : us.length = P.cellsOf t) (hc : ∀ (j : Nat) (u : Value), us[j]? = some u → w.cell? (a.add j) = some u) :
    (loadVar t a).run P w = .ok (.agg us.toArray) w := by
  obtain ⟨i, hi⟩ := info_of_many ht
  have h := run_loadCells_list (P := P) w a us hc
  rw [hl] at h
  simp [loadVar, run_isAgg_many ht, run_sizeOf hi, h]

theorem y_load1 {t : TypeId} (ht : isOne P t = true) {x : Opd} {u : Value} (hx : VRel ρ (x.get vs ts) u) (hH : HRel ρ H w) (h : A.holds (evI A call (.load1 x) vs ts H K)) :
    Reads P (Instr.loadAt t u) ρ H w (fun x H => A.holds (K x H)) := by
  simp only [evI] at h
  generalize x.get vs ts = X at hx h
  cases hx <;> try exact (A.fail_no h).elim
  case gp g c =>
    simp only at h
    cases hc : gcut H.gl g c 1 with
    | none => rw [hc] at h; exact (A.fail_no h).elim
    | some cs =>
      rw [hc] at h
      obtain ⟨us, hl, hs, ho, hg, hcell⟩ := table_cells (ρ := ρ) hH.glob hc
      match us, hl, hs with
      | [v], _, .cons hv .nil =>
        simp only at h
        refine ⟨_, v, g, h, hv, hg, fun w' hw => ?_⟩
        have := hcell 0 v rfl
        rw [Addr.add_zero', ← cell_same (w := w) (w' := w') hw] at this
        simp [Instr.loadAt, Instr.sureAddr, loadVar_one ht this]
  rename_i b S e r c
  simp only at h
  have hB := hH.blk _ _ e
  generalize H.get b = B at hB h
  cases B with
  | dead => exact (A.fail_no h).elim
  | obj o => exact (A.fail_no h).elim
  | ro l => exact (A.fail_no h).elim
  | rows z l =>
    simp only [rget_eq] at h
    cases hr : l[r]? with
    | none => rw [hr] at h; exact (A.fail_no h).elim
    | some row =>
      rw [hr] at h
      simp only at h
      cases hc : cut row c 1 with
      | none => rw [hc] at h; exact (A.fail_no h).elim
      | some cs =>
        rw [hc] at h
        obtain ⟨us, hl, hs, ho, hcell⟩ := row_cells hB hr hc
        match us, hl, hs with
        | [v], _, .cons hv .nil =>
          simp only at h
          refine ⟨_, v, S.blk, h, hv, (hH.dom _ _ e).2, fun w' hw => ?_⟩
          have := hcell 0 v rfl
          rw [Addr.add_zero', ← cell_same (w := w) (w' := w') hw] at this
          simp [Instr.loadAt, Instr.sureAddr, loadVar_one ht this]

theorem y_loadN {t : TypeId} (ht : isMany P t = true) {x : Opd} {u : Value} (hx : VRel ρ (x.get vs ts) u) (hH : HRel ρ H w) (h : A.holds (evI A call (.loadN (P.cellsOf t) x) vs ts H K)) :
    Reads P (Instr.loadAt t u) ρ H w (fun x H => A.holds (K x H)) := by
  simp only [evI] at h
  generalize x.get vs ts = X at hx h
  cases hx <;> try exact (A.fail_no h).elim
  case gp g c =>
    simp only at h
    cases hc : gcut H.gl g c (P.cellsOf t) with
    | none => rw [hc] at h; exact (A.fail_no h).elim
    | some cs =>
      rw [hc] at h
      simp only [fL_eq] at h
      obtain ⟨us, hl, hs, ho, hg, hcell⟩ := table_cells (ρ := ρ) hH.glob hc
      refine ⟨_, _, g, h, .agg hs ho, hg, fun w' hw => ?_⟩
      have hcell' : ∀ (j : Nat) (u : Value), us[j]? = some u → w'.cell? ((⟨g, c, none⟩ : Addr).add j) = some u := fun j u hu => by
        rw [← hcell j u hu]
        exact cell_same (by rw [Addr.add_lit]; exact hw)
      simp [Instr.loadAt, Instr.sureAddr, loadVar_many ht hl hcell']
  rename_i b S e r c
  simp only at h
  have hB := hH.blk _ _ e
  generalize H.get b = B at hB h
  cases B with
  | dead => exact (A.fail_no h).elim
  | obj o => exact (A.fail_no h).elim
  | ro l => exact (A.fail_no h).elim
  | rows z l =>
    simp only [rget_eq] at h
    cases hr : l[r]? with
    | none => rw [hr] at h; exact (A.fail_no h).elim
    | some row =>
      rw [hr] at h
      simp only at h
      cases hc : cut row c (P.cellsOf t) with
      | none => rw [hc] at h; exact (A.fail_no h).elim
      | some cs =>
        rw [hc] at h
        simp only [fL_eq] at h
        obtain ⟨us, hl, hs, ho, hcell⟩ := row_cells hB hr hc
        refine ⟨_, _, S.blk, h, .agg hs ho, (hH.dom _ _ e).2, fun w' hw => ?_⟩
        have hcell' : ∀ (j : Nat) (u : Value), us[j]? = some u → w'.cell? ((⟨S.blk, S.off + r * S.esz + c, none⟩ : Addr).add j) = some u := fun j u hu => by
          rw [← hcell j u hu]
          exact cell_same (by rw [Addr.add_lit]; exact hw)
        simp [Instr.loadAt, Instr.sureAddr, loadVar_many ht hl hcell']

theorem hAdd_holds {x : Blk} {K : Nat → Heap → R} (h : A.holds (hAdd H x K)) : True ∧ A.holds (K H.next (H.add x)) := by
  rw [hAdd_eq] at h
  exact ⟨trivial, h⟩
theorem hPut_holds {b : Nat} {x : Blk} {K : Heap → R} (h : A.holds (hPut H b x K)) : True ∧ A.holds (K (H.put b x)) := by
  rw [hPut_eq] at h
  exact ⟨trivial, h⟩

/-- A new variable of one row. -/
theorem newVar_yields {t : TypeId} {x : List AVal} {us : List Value} (hs : VRels ρ x us) (ho : ∀ u ∈ us, u.oneCell' = true) (hH : HRel ρ H w) (hm : True) {v : Value} (hv : v.cells.toList = us) {Q : AVal → Heap → Prop}
    (hq : Q (.ptr H.next 0 0) (H.add (.rows x.length [x]))) : YieldsK P (do pure (.pointer (some (← newVar t v)))) ρ H w Q := by
  have hl := hs.length
  have hsz : v.cells.size = x.length := by rw [← hl, ← hv]; simp
  refine ⟨_, _, ρ.add H.next ⟨w.heap.size, 0, x.length, 1, x.length⟩, .pointer (some ⟨w.heap.size, 0, none⟩), w.alloc (.cells v.cells t), hq, ?_, ?_, ?_, fun k hk => heap_push_old _ _ _ hk⟩
  · simp [newVar, newRow]
  · have := VRel.ptr (ρ := ρ.add H.next ⟨w.heap.size, 0, x.length, 1, x.length⟩) Env.add_same 0 0
    simpa using this
  · refine Step.alloc hH hm _ _ _ _ _ rfl rfl (by simp) (by simp) (by simp) hsz fun r row hr j y hy => ?_
    match r, hr with
    | 0, hr =>
      simp at hr
      subst hr
      obtain ⟨u, hu, hrel⟩ := hs.get j y hy
      refine ⟨u, ?_, ho u (List.mem_of_getElem? hu), hrel⟩
      simp only [Nat.zero_mul, Nat.zero_add]
      rw [← Array.getElem?_toList, hv]
      exact hu

theorem y_box {t : TypeId} {n : Nat} {x : Opd} {u : Value} (hx : VRel ρ (x.get vs ts) u) (hH : HRel ρ H w) (h : A.holds (evI A call (.box n x) vs ts H K)) :
    YieldsK P (Instr.box t u) ρ H w (fun x H => A.holds (K x H)) := by
  simp only [evI] at h
  cases hc : (x.get vs ts).cells with
  | none => rw [hc] at h; exact (A.fail_no h).elim
  | some cs =>
    rw [hc] at h
    simp only at h
    split at h
    · rename_i hb
      have hn : cs.length = n := by rw [llen_eq] at hb; simpa using hb
      obtain ⟨hm, h⟩ := hAdd_holds h
      obtain ⟨hs, ho⟩ := hx.cells hc
      exact newVar_yields hs ho hH hm rfl (by rw [hn]; exact h)
    · exact (A.fail_no h).elim

theorem zeroRow_some {t : TypeId} {row : List AVal} (h : zeroRow P t = some row) : ∃ i z, P.info? t = some i ∧ i.zero = some z ∧ z.cells.size = i.size ∧ VRels ρ row z.cells.toList ∧ (∀ u ∈ z.cells.toList, u.oneCell' = true) ∧ row.length = i.size := by
  unfold zeroRow at h
  cases hi : P.info? t with
  | none => rw [hi] at h; cases h
  | some i =>
    rw [hi] at h
    simp only at h
    cases hz : i.zero with
    | none => rw [hz] at h; cases h
    | some z =>
      rw [hz] at h
      simp only at h
      cases hc : cVals z.cells.toList with
      | none => rw [hc] at h; cases h
      | some l =>
        rw [hc] at h
        simp only at h
        split at h
        · rename_i hsz
          simp at h
          subst h
          obtain ⟨a, b⟩ := cVals_rel (ρ := ρ) hc
          exact ⟨i, z, rfl, hz, hsz, a, b, by rw [← hsz, ← a.length]; simp⟩
        · cases h
theorem run_zero {t : TypeId} {i : TypeInfo} {z : Value} (hi : P.info? t = some i) (hz : i.zero = some z) (w : World) : (zeroValue t).run P w = .ok z w := by
  simp [zeroValue, typeInfo, hi, hz]

theorem y_alloc {t : TypeId} {row : List AVal} (ht : zeroRow P t = some row) (hH : HRel ρ H w) (h : A.holds (evI A call (.alloc row) vs ts H K)) (old : Value) :
    YieldsK P (Instr.alloc t true old) ρ H w (fun x H => A.holds (K x H)) := by
  simp only [evI] at h
  obtain ⟨hm, h⟩ := hAdd_holds h
  obtain ⟨i, z, hi, hz, _, hs, ho, hl⟩ := zeroRow_some (ρ := ρ) ht
  obtain ⟨x, H', ρ', v, w', hq, hr, hv, hst, hkp⟩ := newVar_yields (P := P) (t := t) (Q := fun x H => A.holds (K x H)) hs ho hH hm rfl (by rw [llen_eq] at h; exact h)
  refine ⟨x, H', ρ', v, w', hq, ?_, hv, hst, hkp⟩
  simpa [Instr.alloc, run_zero hi hz] using hr

theorem y_store {t : TypeId} {i : TypeInfo} (ht : P.info? t = some i) {x v : Opd} {u y : Value} (hx : VRel ρ (x.get vs ts) u) (hv : VRel ρ (v.get vs ts) y) (hH : HRel ρ H w) (h : A.holds (evI A call (.store i.size x v) vs ts H K)) :
    ∃ H' w', A.holds (K (.tup []) H') ∧ (Instr.storeAt t u y).run P w = .ok () w' ∧ Step ρ H w ρ H' w' := by
  simp only [evI] at h
  generalize x.get vs ts = X at hx h
  cases hx <;> try exact (A.fail_no h).elim
  rename_i b S e r c
  simp only at h
  cases hc : (v.get vs ts).cells with
  | none => rw [hc] at h; exact (A.fail_no h).elim
  | some cs =>
    rw [hc] at h
    simp only at h
    have hB := hH.blk _ _ e
    cases hb : H.get b with
    | dead => rw [hb] at h; exact (A.fail_no h).elim
    | obj o => rw [hb] at h; exact (A.fail_no h).elim
    | ro l => rw [hb] at h; exact (A.fail_no h).elim
    | rows z l =>
      rw [hb] at h hB
      simp only [rget_eq] at h
      cases hr : l[r]? with
      | none => rw [hr] at h; exact (A.fail_no h).elim
      | some row =>
        rw [hr] at h
        simp only at h
        split at h
        · rename_i hbb
          simp only [Bool.and_eq_true, llen_eq] at hbb
          have hn : cs.length = i.size := by simpa using hbb.1
          have hfit : c + i.size ≤ row.length := Nat.le_of_ble_eq_true hbb.2
          simp only [fL_eq] at h
          obtain ⟨hm, h⟩ := hPut_holds h
          obtain ⟨hs, ho⟩ := hv.cells hc
          obtain ⟨h1, h2, h3, h4, arr, et, h5, h6, h7⟩ := hB
          have hrl : row.length = z := h4 row (List.mem_of_getElem? hr)
          have hrn : r < l.length := (List.getElem?_eq_some_iff.1 hr).1
          have hus : y.cells.toList.length = i.size := by rw [hs.length, hn]
          have hus' : y.cells.size = i.size := by rw [← hus]; simp
          have hrz : S.off + r * S.esz + z ≤ S.size := by
            have : (r + 1) * S.esz ≤ S.n * S.esz := Nat.mul_le_mul_right _ (by omega)
            rw [Nat.succ_mul] at this
            omega
          have hst := run_storeCells_at P S.blk (S.off + r * S.esz + c) et y.cells.toList 0 arr w h5 (by omega) ho
          refine ⟨_, _, h, ?_, Step.put hH b S e hm z l _ hb arr (arr.toList.take (S.off + r * S.esz + c + 0) ++ y.cells.toList ++ arr.toList.drop (S.off + r * S.esz + c + 0 + y.cells.toList.length)).toArray et h5 ?_ (by rw [rset_eq, List.length_set]) ?_ ?_⟩
          · simp only [Instr.storeAt, Instr.sureAddr, Sem.run_bind, Sem.run_pure, Result.andThen_ok, storeVar, run_sizeOf ht]
            have : ¬ (y.cells.size ≠ P.cellsOf t) := by
              simp only [Program.cellsOf, ht, Option.map_some, Option.getD_some]
              have : y.cells.size = i.size := by rw [← hus]; simp
              omega
            simp only [this, if_false]
            exact hst
          · simp only [List.size_toArray, List.length_append, List.length_take, List.length_drop, Array.length_toList]
            simp only [Array.length_toList] at hus
            omega
          · intro row' hr'
            rw [rset_eq] at hr'
            rcases List.mem_or_eq_of_mem_set hr' with h' | h'
            · exact h4 row' h'
            · rw [h', splice_length]; exact hrl
          · intro r' row' hr' j x' hx'
            rw [rset_eq, List.getElem?_set] at hr'
            have look : ∀ k, (arr.toList.take (S.off + r * S.esz + c + 0) ++ y.cells.toList ++ arr.toList.drop (S.off + r * S.esz + c + 0 + y.cells.toList.length)).toArray[k]? =
                if S.off + r * S.esz + c ≤ k ∧ k < S.off + r * S.esz + c + i.size then y.cells.toList[k - (S.off + r * S.esz + c)]? else arr[k]? := fun k => by
              simp only [List.getElem?_toArray, List.append_assoc, Nat.add_zero, hus]
              rw [List.getElem?_append]
              have hlt : (arr.toList.take (S.off + r * S.esz + c)).length = S.off + r * S.esz + c := by rw [List.length_take, Array.length_toList]; omega
              rw [hlt]
              by_cases hk : k < S.off + r * S.esz + c
              · rw [if_pos hk, if_neg (by omega), List.getElem?_take, if_pos hk, Array.getElem?_toList]
              · rw [if_neg hk, List.getElem?_append, hus]
                by_cases hk2 : k - (S.off + r * S.esz + c) < i.size
                · rw [if_pos hk2, if_pos (by omega)]
                · rw [if_neg hk2, if_neg (by omega), List.getElem?_drop, Array.getElem?_toList]
                  congr 1
                  omega
            by_cases hrr : r = r'
            · subst hrr
              rw [if_pos rfl, if_pos hrn] at hr'
              simp only [Option.some.injEq] at hr'
              subst hr'
              rw [splice_get, hn] at hx'
              by_cases hin : c ≤ j ∧ j < c + i.size ∧ j < row.length
              · rw [if_pos hin] at hx'
                obtain ⟨q, hq, hqr⟩ := hs.get _ _ hx'
                refine ⟨q, ?_, ho q (List.mem_of_getElem? hq), hqr⟩
                rw [look, if_pos (by omega), ← hq]
                congr 1
                omega
              · rw [if_neg hin] at hx'
                obtain ⟨q, hq, hq1, hqr⟩ := h7 r row hr j x' hx'
                have hj : j < row.length := (List.getElem?_eq_some_iff.1 hx').1
                exact ⟨q, by rw [look, if_neg (by omega)]; exact hq, hq1, hqr⟩
            · rw [if_neg hrr] at hr'
              obtain ⟨q, hq, hq1, hqr⟩ := h7 r' row' hr' j x' hx'
              refine ⟨q, ?_, hq1, hqr⟩
              have hj : j < z := by rw [← h4 row' (List.mem_of_getElem? hr')]; exact (List.getElem?_eq_some_iff.1 hx').1
              rw [look, if_neg ?_]
              · exact hq
              · intro hh
                rcases Nat.lt_or_gt_of_ne hrr with hlt | hgt
                · have : (r + 1) * S.esz ≤ r' * S.esz := Nat.mul_le_mul_right _ hlt
                  rw [Nat.succ_mul] at this
                  omega
                · have : (r' + 1) * S.esz ≤ r * S.esz := Nat.mul_le_mul_right _ hgt
                  rw [Nat.succ_mul] at this
                  omega
        · exact (A.fail_no h).elim
end ops
end Dt
