/- A part of the abstract machine and of the proof that the program does what it reckons; no conditions. -/
import Derived.Test.YtoifgfkgjbddcaaGreatDoorDb
set_option linter.all false
namespace Dt
open Go Go.RowKit
set_option linter.all false
variable [LoopTab]
/-! ### Slices -/
section slice
variable {R : Type} {A : Alg R} {P : Program} {call : Nat → List AVal → Heap → (AVal → Heap → R) → R} {vs ts : List AVal} {ρ : Env} {H : Heap} {w : World} {K : AVal → Heap → R}

/-- A block is given up. -/
theorem Step.kill {b : Nat} {R : RB} (e : ρ b = some R) (h : HRel ρ H w) (hnb : H.get b ≠ .obj .busy) : Step ρ H w ρ (H.put b .dead) w := by
  have hg : ∀ x, (H.put b .dead).get x = if x = b then .dead else H.get x := fun x => Heap.get_put _ _ _ _ trivial
  have live : ∀ x, (H.put b .dead).get x ≠ .dead → H.get x ≠ .dead := fun x hx => by
    rw [hg] at hx
    by_cases hxb : x = b
    · rw [if_pos hxb] at hx; exact absurd rfl hx
    · rwa [if_neg hxb] at hx
  have liveW : ∀ x, Wr ((H.put b .dead).get x) → Wr (H.get x) := fun x hx => by
    rw [hg] at hx
    by_cases hxb : x = b
    · rw [if_pos hxb] at hx; exact hx.elim
    · rwa [if_neg hxb] at hx
  refine ⟨⟨fun x S ex => ?_, fun x y S S' ex ey dx dy hS => h.inj x y S S' ex ey (live _ dx) (live _ dy) hS, h.dom, h.glob, fun x S ex hw => h.high x S ex (liveW _ hw), fun x hx => by
    rw [hg]
    by_cases hxb : x = b
    · rw [if_pos hxb]
    · rw [if_neg hxb]; exact h.top x hx⟩, fun _ _ ex => ex, Nat.le_refl _, rfl, rfl, rfl, fun r _ _ => rfl, fun x S ex hd => .inr ⟨x, S, ex, liveW _ hd, rfl⟩, Nat.le_refl _, fun x _ ex => by rw [hg, if_neg (fun he => by rw [he, e] at ex; cases ex)], fun _ _ ex => .inl ex, fun x hx => by rw [hg, if_neg (fun he => by rw [he] at hx; exact hnb hx)]; exact hx, rfl⟩
  rw [hg]
  by_cases hxb : x = b
  · rw [if_pos hxb]; trivial
  · rw [if_neg hxb]; exact h.blk x S ex

/-- The rows that a slice shows, and the cells that they stand for. -/
theorem rowsOf_rel {z : Nat} {X : AVal} {u : Value} {rows : List (List AVal)} (hx : VRel ρ X u) (hH : HRel ρ H w) (hr : rowsOf H z X = some rows) :
    ∃ (a : Option Addr) (cap : Nat) (us : List Value), u = .slice a rows.length cap ∧ us.length = rows.length * z ∧ VRels ρ rows.flatten us ∧ (∀ u ∈ us, u.oneCell' = true) ∧ (∀ row ∈ rows, row.length = z) ∧
      (a = none → rows = [] ∧ cap = 0) ∧ ∀ ad, a = some ad → ∀ (j : Nat) (u : Value), us[j]? = some u → w.cell? (ad.add j) = some u := by
  cases hx <;> try (simp [rowsOf] at hr; done)
  case nils =>
    simp [rowsOf] at hr
    subst hr
    exact ⟨none, 0, [], rfl, by simp, .nil, by simp, by simp, fun _ => ⟨rfl, rfl⟩, by simp⟩
  case slc b S es r len cap' cap a' hl hc ho ha =>
    simp only [rowsOf] at hr
    split at hr
    · cases hr
    · rename_i hz
      have hz' : S.esz = z := by simpa using hz
      cases len with
      | zero =>
        simp at hr
        subst hr
        exact ⟨some a', cap', [], rfl, by simp, .nil, by simp, by simp, by simp, by simp⟩
      | succ n =>
        simp only at hr
        have hB := hH.blk _ _ es
        cases hb : H.get b with
        | dead => rw [hb] at hr; cases hr
        | obj o => rw [hb] at hr; cases hr
        | rows z' l =>
          rw [hb] at hr hB
          simp only at hr
          obtain ⟨h1, h2, h3, h4, arr, et, h5, h6, h7⟩ := hB
          obtain ⟨g1, g2⟩ := rtake_eq _ _ _ _ hr
          have hzz : z' = z := by rw [← h1, hz']
          subst hzz
          rcases ha with ⟨h0, _⟩ | ⟨rfl, hb2⟩
          · omega
          have hrow : ∀ row ∈ rows, row.length = z' := fun row hrow => h4 row (by rw [g1] at hrow; exact List.mem_of_mem_drop (List.mem_of_mem_take hrow))
          have hflat : ∀ (j : Nat) (x : AVal), rows.flatten[j]? = some x → ∃ v, arr[S.off + r * S.esz + j]? = some v ∧ v.oneCell' = true ∧ VRel ρ x v := by
            intro j x hj
            have hjl : j < rows.length * z' := by rw [← flat_length hrow]; exact (List.getElem?_eq_some_iff.1 hj).1
            have hpos : 0 < z' := by
              rcases Nat.eq_zero_or_pos z' with h | h
              · rw [h] at hjl; omega
              · exact h
            have hq : j / z' < rows.length := by rw [Nat.div_lt_iff_lt_mul hpos]; exact hjl
            obtain ⟨row, hrw⟩ : ∃ row, rows[j / z']? = some row := ⟨_, List.getElem?_eq_getElem hq⟩
            have hm : j % z' < row.length := by rw [hrow row (List.mem_of_getElem? hrw)]; exact Nat.mod_lt _ hpos
            have hx1 := flat_get hrow hrw (List.getElem?_eq_getElem hm)
            have hjd : j / z' * z' + j % z' = j := by rw [Nat.mul_comm]; exact Nat.div_add_mod j z'
            rw [hjd, hj] at hx1
            simp only [Option.some.injEq] at hx1
            have hlr : l[r + j / z']? = some row := by
              rw [g1, List.getElem?_take] at hrw
              split at hrw
              · rw [List.getElem?_drop] at hrw; exact hrw
              · cases hrw
            obtain ⟨v, hv, ho', hr'⟩ := h7 _ _ hlr (j % z') x (by rw [hx1]; exact List.getElem?_eq_getElem hm)
            refine ⟨v, ?_, ho', hr'⟩
            rw [← hv]
            congr 1
            rw [h1, Nat.add_mul]
            omega
          obtain ⟨us, k1, k2, k3, k4⟩ := cells_list arr rows.flatten (S.off + r * S.esz) hflat
          refine ⟨_, cap', us, by rw [g2], by rw [k1, flat_length hrow], k2, k3, hrow, by simp, fun ad had j u hu => ?_⟩
          simp only [Option.some.injEq] at had
          subst had
          rw [Addr.add_lit, cell_of_row w S.blk _ arr et _ h5]
          exact k4 j u hu
        | ro l =>
          rw [hb] at hr hB
          simp only at hr
          obtain ⟨h1, h4, arr, et, fz, h5, h7⟩ := hB
          obtain ⟨g1, g2⟩ := rtake_eq _ _ _ _ hr
          obtain ⟨z', hzz⟩ : ∃ z', z' = z := ⟨_, rfl⟩
          subst hzz
          have h4 : ∀ row ∈ l, row.length = z' := fun row hrow => by rw [h4 row hrow, ← hz', h1]
          have h1 : S.esz = z' := hz'
          rcases ha with ⟨h0, _⟩ | ⟨rfl, hb2⟩
          · omega
          have hrow : ∀ row ∈ rows, row.length = z' := fun row hrow => h4 row (by rw [g1] at hrow; exact List.mem_of_mem_drop (List.mem_of_mem_take hrow))
          have hflat : ∀ (j : Nat) (x : AVal), rows.flatten[j]? = some x → ∃ v, arr[S.off + r * S.esz + j]? = some v ∧ v.oneCell' = true ∧ VRel ρ x v := by
            intro j x hj
            have hjl : j < rows.length * z' := by rw [← flat_length hrow]; exact (List.getElem?_eq_some_iff.1 hj).1
            have hpos : 0 < z' := by
              rcases Nat.eq_zero_or_pos z' with h | h
              · rw [h] at hjl; omega
              · exact h
            have hq : j / z' < rows.length := by rw [Nat.div_lt_iff_lt_mul hpos]; exact hjl
            obtain ⟨row, hrw⟩ : ∃ row, rows[j / z']? = some row := ⟨_, List.getElem?_eq_getElem hq⟩
            have hm : j % z' < row.length := by rw [hrow row (List.mem_of_getElem? hrw)]; exact Nat.mod_lt _ hpos
            have hx1 := flat_get hrow hrw (List.getElem?_eq_getElem hm)
            have hjd : j / z' * z' + j % z' = j := by rw [Nat.mul_comm]; exact Nat.div_add_mod j z'
            rw [hjd, hj] at hx1
            simp only [Option.some.injEq] at hx1
            have hlr : l[r + j / z']? = some row := by
              rw [g1, List.getElem?_take] at hrw
              split at hrw
              · rw [List.getElem?_drop] at hrw; exact hrw
              · cases hrw
            obtain ⟨v, hv, ho', hr'⟩ := h7 _ _ hlr (j % z') x (by rw [hx1]; exact List.getElem?_eq_getElem hm)
            refine ⟨v, ?_, ho', hr'⟩
            rw [← hv]
            congr 1
            rw [h1, Nat.add_mul]
            omega
          obtain ⟨us, k1, k2, k3, k4⟩ := cells_list arr rows.flatten (S.off + r * S.esz) hflat
          refine ⟨_, cap', us, by rw [g2], by rw [k1, flat_length hrow], k2, k3, hrow, by simp, fun ad had j u hu => ?_⟩
          simp only [Option.some.injEq] at had
          subst had
          rw [Addr.add_lit, cell_of_row w S.blk _ arr et _ h5]
          exact k4 j u hu

/-- A grown array: the rows, and zeros behind them. -/
theorem grown_yields {t e : TypeId} {z : Nat} {l : List (List AVal)} (hz : ∀ row ∈ l, row.length = z) {us : List Value} (hs : VRels ρ l.flatten us) (ho : ∀ u ∈ us, u.oneCell' = true) (hH : HRel ρ H w) (hm : True)
    (cap : Nat) (hcap : l.length ≤ cap) (zs : Array Value) (hzs : zs.size = (cap - l.length) * z) :
    ∃ ρ', VRel ρ' (.slc H.next 0 l.length none z) (.slice (some ⟨w.heap.size, 0, none⟩) l.length cap) ∧ Step ρ H w ρ' (H.add (.rows z l)) (w.drew.alloc (.cells (us.toArray ++ zs) e)) := by
  have _ := t
  have hl := hs.length
  rw [flat_length hz] at hl
  have hsz : (us.toArray ++ zs).size = cap * z := by
    simp only [Array.size_append, List.size_toArray, hl, hzs]
    rw [← Nat.add_mul]
    congr 1
    omega
  have hd := Step.drew hH (w.drawn + 1)
  refine ⟨ρ.add H.next ⟨w.heap.size, 0, cap * z, l.length, z⟩, ?_, hd.trans (Step.alloc hd.rel hm z l _ e ⟨w.heap.size, 0, cap * z, l.length, z⟩ rfl rfl rfl ?_ hz hsz fun r row hr j y hy => ?_)⟩
  · exact VRel.slc (R := ⟨w.heap.size, 0, cap * z, l.length, z⟩) Env.add_same 0 l.length cap none _ hcap (fun c hc => by cases hc) (fun _ => by simpa using hcap) (.inr ⟨by simp, by simp⟩)
  · simp only [Nat.zero_add]
    exact Nat.mul_le_mul_right _ hcap
  · obtain ⟨u, hu, hrel⟩ := hs.get _ _ (flat_get hz hr hy)
    refine ⟨u, ?_, ho u (List.mem_of_getElem? hu), hrel⟩
    have hlt : r * z + j < us.length := (List.getElem?_eq_some_iff.1 hu).1
    simp only [Nat.zero_add]
    rw [Array.getElem?_append_left (by simpa using hlt)]
    simpa using hu

/-- Cells of an array are written: what it holds behind it. -/
theorem over_get (arr : Array Value) (us : List Value) (o : Nat) (h : o + us.length ≤ arr.size) (k : Nat) :
    (arr.toList.take (o + 0) ++ us ++ arr.toList.drop (o + 0 + us.length)).toArray[k]? = if o ≤ k ∧ k < o + us.length then us[k - o]? else arr[k]? := by
  simp only [List.getElem?_toArray, List.append_assoc, Nat.add_zero]
  rw [List.getElem?_append]
  have hlt : (arr.toList.take o).length = o := by rw [List.length_take, Array.length_toList]; omega
  rw [hlt]
  by_cases hk : k < o
  · rw [if_pos hk, if_neg (by omega), List.getElem?_take, if_pos hk, Array.getElem?_toList]
  · rw [if_neg hk, List.getElem?_append]
    by_cases hk2 : k - o < us.length
    · rw [if_pos hk2, if_pos (by omega)]
    · rw [if_neg hk2, if_neg (by omega), List.getElem?_drop, Array.getElem?_toList]
      congr 1
      omega
theorem over_size (arr : Array Value) (us : List Value) (o : Nat) (h : o + us.length ≤ arr.size) : (arr.toList.take (o + 0) ++ us ++ arr.toList.drop (o + 0 + us.length)).toArray.size = arr.size := by
  simp only [List.size_toArray, List.length_append, List.length_take, List.length_drop, Array.length_toList]
  omega

/-- append that fits: the cells are written behind the slice's own. -/
theorem run_append_fits_ {t ty e : TypeId} {i : TypeInfo} (ht : P.underlying t = some (.slice e)) (hi : P.info? e = some i) {g o len cap : Nat} {arr : Array Value} {et : TypeId} (hg : w.heap[g]? = some (.cells arr et (0, 0)))
    {x : Option Addr} {n c : Nat} {news : List Value} (hn : news.length = n * i.size) (ho : ∀ u ∈ news, u.oneCell' = true) (hxn : x = none → n = 0) (hx : ∀ ad, x = some ad → ∀ (j : Nat) (u : Value), news[j]? = some u → w.cell? (ad.add j) = some u)
    (hfit : len + n ≤ cap) (hroom : o + len * i.size + news.length ≤ arr.size) :
    (Builtin.append_ #[t, t] ty #[.slice (some ⟨g, o, none⟩) len cap, .slice x n c]).run P w =
      .ok (.slice (some ⟨g, o, none⟩) (len + n) cap) (w.setRow g (arr.toList.take (o + len * i.size + 0) ++ news ++ arr.toList.drop (o + len * i.size + 0 + news.length)).toArray) := by
  have hf : (Builtin.firstCells i.size n (.slice x n c)).run P w = .ok news.toArray w := by
    cases x with
    | none =>
      have := hxn rfl
      subst this
      have : news = [] := List.length_eq_zero_iff.1 (by simpa using hn)
      subst this
      exact run_firstCells_none w _ _ _ _
    | some ad => exact run_firstCells_some w _ _ ad n c news hn (hx ad rfl)
  have hst := run_storeCells_at P g (o + len * i.size) et news 0 arr w hg (by simpa using hroom) ho
  simp [Builtin.append_, run_underlying ht, Go.sizeOf, typeInfo, hi, Builtin.lenOf, hfit, hf, Addr.add_lit, hst]

end slice
end Dt

namespace Dt
open Go Go.RowKit
set_option linter.all false
variable [LoopTab]
section append
variable {R : Type} {A : Alg R} {P : Program} {call : Nat → List AVal → Heap → (AVal → Heap → R) → R} {vs ts : List AVal} {ρ : Env} {H : Heap} {w : World} {K : AVal → Heap → R}

/-- Rows of a block are laid over: in the block that the slice shows. -/
theorem over_rel {b : Nat} {S : RB} {z : Nat} {l new : List (List AVal)} {arr : Array Value} {us : List Value} {o : Nat} (h1 : S.esz = z) (h2 : S.n = l.length) (h3 : S.off + S.n * S.esz ≤ S.size) (h4 : ∀ row ∈ l, row.length = z) (h6 : arr.size = S.size)
    (h7 : ∀ (r : Nat) (row : List AVal), l[r]? = some row → ∀ (j : Nat) (x : AVal), row[j]? = some x → ∃ v, arr[S.off + r * S.esz + j]? = some v ∧ v.oneCell' = true ∧ VRel ρ x v)
    (hz : ∀ row ∈ new, row.length = z) (hs : VRels ρ new.flatten us) (ho : ∀ u ∈ us, u.oneCell' = true) (hfit : o + new.length ≤ l.length) :
    ∀ (r : Nat) (row : List AVal), (rsplice l o new)[r]? = some row → ∀ (j : Nat) (x : AVal), row[j]? = some x →
      ∃ v, (arr.toList.take (S.off + o * S.esz + 0) ++ us ++ arr.toList.drop (S.off + o * S.esz + 0 + us.length)).toArray[S.off + r * S.esz + j]? = some v ∧ v.oneCell' = true ∧ VRel ρ x v := by
  have _ := b
  have hl := hs.length
  rw [flat_length hz] at hl
  have hroom : S.off + o * S.esz + us.length ≤ arr.size := by
    have : (o + new.length) * S.esz ≤ S.n * S.esz := Nat.mul_le_mul_right _ (by omega)
    rw [Nat.add_mul] at this
    rw [hl, h6, ← h1]
    omega
  intro r row hr j x hx
  rw [rsplice_get] at hr
  rw [over_get _ _ _ hroom, hl]
  by_cases hin : o ≤ r ∧ r < o + new.length ∧ r < l.length
  · rw [if_pos hin] at hr
    have hrz := hz row (List.mem_of_getElem? hr)
    have hj : j < z := by rw [← hrz]; exact (List.getElem?_eq_some_iff.1 hx).1
    obtain ⟨u, hu, hrel⟩ := hs.get _ _ (flat_get hz hr hx)
    refine ⟨u, ?_, ho u (List.mem_of_getElem? hu), hrel⟩
    have e1 : S.off + r * S.esz + j - (S.off + o * S.esz) = (r - o) * z + j := by
      have : r * S.esz = (r - o) * S.esz + o * S.esz := by rw [← Nat.add_mul]; congr 1; omega
      rw [this, h1]
      omega
    have e2 : S.off + o * S.esz ≤ S.off + r * S.esz + j := by
      have : o * S.esz ≤ r * S.esz := Nat.mul_le_mul_right _ hin.1
      omega
    have e3 : S.off + r * S.esz + j < S.off + o * S.esz + new.length * z := by
      have : (r + 1) * S.esz ≤ (o + new.length) * S.esz := Nat.mul_le_mul_right _ (by omega)
      rw [Nat.succ_mul, Nat.add_mul] at this
      rw [h1] at this ⊢
      omega
    rw [if_pos ⟨e2, e3⟩, e1]
    exact hu
  · rw [if_neg hin] at hr
    have hrl : r < l.length := (List.getElem?_eq_some_iff.1 hr).1
    obtain ⟨v, hv, ho', hrel⟩ := h7 r row hr j x hx
    refine ⟨v, ?_, ho', hrel⟩
    have hj : j < z := by rw [← h4 row (List.mem_of_getElem? hr)]; exact (List.getElem?_eq_some_iff.1 hx).1
    rw [if_neg]
    · exact hv
    · intro hh
      rcases Nat.lt_or_ge r o with hlt | hge
      · have : (r + 1) * S.esz ≤ o * S.esz := Nat.mul_le_mul_right _ hlt
        rw [Nat.succ_mul, h1] at this
        rw [h1] at hh
        omega
      · have : (o + new.length) * S.esz ≤ r * S.esz := Nat.mul_le_mul_right _ (by omega)
        rw [Nat.add_mul, h1] at this
        rw [h1] at hh
        omega

theorem y_append {t ty e : TypeId} {i : TypeInfo} {zr : List AVal} (ht : P.underlying t = some (.slice e)) (hi : P.info? e = some i) (hb : 0 < i.bytes) (_hz : 0 < i.size) (hzr : zeroRow P e = some zr) {X Y : AVal} {u v : Value} (hx : VRel ρ X u) (hy : VRel ρ Y v) (hH : HRel ρ H w)
    (h : A.holds (doAppend A i.size i.bytes X Y H K)) : Yields P (Builtin.append_ #[t, t] ty #[u, v]) ρ H w (fun x H => A.holds (K x H)) := by
  obtain ⟨i', zv, hi', hzv, hzs, _, _, _⟩ := zeroRow_some (ρ := ρ) hzr
  rw [hi] at hi'
  obtain rfl : i = i' := by simpa using hi'
  unfold doAppend at h
  cases hry : rowsOf H i.size Y with
  | none => rw [hry] at h; exact (A.fail_no h).elim
  | some new =>
    rw [hry] at h
    simp only at h
    obtain ⟨ay, cy, uy, rfl, ly, sy, oy, zy, ny, cyl⟩ := rowsOf_rel hy hH hry
    have zsize : ∀ n, (Builtin.zeroCells zv.cells n).size = n * i.size := fun n => by simp [Builtin.zeroCells, hzs]
    cases hx <;> try exact (A.fail_no h).elim
    case nils =>
      simp only at h
      cases new with
      | nil =>
        refine Yields.here hH (v := .slice none 0 0) h ?_ .nils
        have huy : uy = [] := List.length_eq_zero_iff.1 (by simpa using ly)
        have hf : (Builtin.firstCells i.size 0 (.slice ay 0 cy)).run P w = .ok #[] w := by
          cases ay with
          | none => exact run_firstCells_none w _ _ _ _
          | some ad => exact run_firstCells_some w _ _ ad 0 cy [] (by simp) (by simp)
        simp [Builtin.append_, run_underlying ht, Go.sizeOf, typeInfo, hi, Builtin.lenOf, hf]
      | cons y new =>
        simp only at h
        split at h
        · exact (A.fail_no h).elim
        · rename_i hle
          have hle' := Nat.le_of_ble_eq_true hle
          simp only [fL_eq, fN_eq, rlen_eq] at h
          rw [rlen_eq] at hle'
          obtain ⟨hm, h⟩ := hAdd_holds h
          obtain ⟨ad, rfl⟩ : ∃ ad, ay = some ad := by
            cases ay with
            | none => have := (ny rfl).1; cases this
            | some ad => exact ⟨ad, rfl⟩
          have hn1 : (y :: new).length ≤ 1000000000 := Nat.le_trans (Nat.le_mul_of_pos_right _ hb) hle'
          have hmul : (y :: new).length * i.bytes ≤ 1000000000 := hle'
          have hrun := run_append_nil (P := P) w t ty e i zv ht hi hzv ad (y :: new).length cy uy ly (cyl ad rfl) (by simp) (by omega) (by omega)
          have hcap : (y :: new).length ≤ grownCap w (y :: new).length 0 e := by unfold grownCap Question.cut; simp only; omega
          obtain ⟨ρ', g1, g2⟩ := grown_yields (t := t) (e := e) zy sy oy hH hm _ hcap (Builtin.zeroCells zv.cells (grownCap w (y :: new).length 0 e - (y :: new).length)) (zsize _)
          exact ⟨_, _, ρ', _, _, h, hrun, g1, g2⟩
    case slc b S es r len cap' cap a' hl hc ho ha =>
      simp only at h
      split at h
      · exact (A.fail_no h).elim
      · rename_i hbb
        rw [Bool.and_eq_true] at hbb
        have hsz : S.esz = i.size := by simpa using hbb.1
        have hle := Nat.le_of_ble_eq_true hbb.2
        rw [rlen_eq] at hle
        have hmul : (len + new.length) * i.bytes ≤ 1000000000 := hle
        have hn1 : len + new.length ≤ 1000000000 := Nat.le_trans (Nat.le_mul_of_pos_right _ hb) hle
        have hx : VRel ρ (.slc b r len cap S.esz) (.slice (some a') len cap') := .slc es r len cap' cap a' hl hc ho ha
        cases hrx : rowsOf H i.size (.slc b r len cap S.esz) with
        | none => rw [hrx] at h; exact (A.fail_no h).elim
        | some old =>
          rw [hrx] at h
          simp only at h
          obtain ⟨ax, cx, ux, hux, lx, sx, ox, zx, nx, cxl⟩ := rowsOf_rel hx hH hrx
          simp only [Value.slice.injEq] at hux
          obtain ⟨rfl, hlen, rfl⟩ := hux
          -- nothing is appended
          have empty : ∀ {new : List (List AVal)}, new = [] → new.length = uy.length / i.size → A.holds (K (.slc b r len cap S.esz) H) → uy = [] → (∀ ad, ay = some ad → True) →
              Yields P (Builtin.append_ #[t, t] ty #[.slice (some a') len cap', .slice ay 0 cy]) ρ H w (fun x H => A.holds (K x H)) := by
            intro new _ _ hK huy _
            refine Yields.here hH (v := .slice (some a') len cap') hK ?_ hx
            have hf : (Builtin.firstCells i.size 0 (.slice ay 0 cy)).run P w = .ok #[] w := by
              cases ay with
              | none => exact run_firstCells_none w _ _ _ _
              | some ad => exact run_firstCells_some w _ _ ad 0 cy [] (by simp) (by simp)
            simp [Builtin.append_, run_underlying ht, Go.sizeOf, typeInfo, hi, Builtin.lenOf, hl, hf, storeCells]
          -- within the block's own rows
          have within : ∀ {z' : Nat} {l : List (List AVal)}, H.get b = .rows z' l → r + (len + new.length) ≤ l.length → len + new.length ≤ cap' → new ≠ [] → True → ∀ (cap2 : Option Nat), cap2 = cap →
              A.holds (K (.slc b r (len + new.length) cap2 S.esz) (H.put b (.rows z' (rsplice l (r + len) new)))) →
              Yields P (Builtin.append_ #[t, t] ty #[.slice (some a') len cap', .slice ay new.length cy]) ρ H w (fun x H => A.holds (K x H)) := by
            intro z' l hg hfit hcap hne hm cap2 hcap2 hK
            rw [hcap2] at hK
            have hB := hH.blk _ _ es
            rw [hg] at hB
            obtain ⟨h1, h2, h3, h4, arr, et, h5, h6, h7⟩ := hB
            have hpos : 0 < new.length := List.length_pos_iff.2 hne
            rcases ha with ⟨h0, h00⟩ | ⟨rfl, hb2⟩
            · omega
            have hroom : S.off + r * S.esz + len * i.size + uy.length ≤ arr.size := by
              have : (r + (len + new.length)) * S.esz ≤ S.n * S.esz := Nat.mul_le_mul_right _ (by omega)
              rw [Nat.add_mul, Nat.add_mul, hsz] at this
              rw [ly, h6, hsz]
              rw [hsz] at h3
              omega
            have hrun := run_append_fits_ (P := P) (ty := ty) ht hi h5 (o := S.off + r * S.esz) (len := len) (cap := cap') (x := ay) (n := new.length) (c := cy) ly oy (fun hn => by rw [(ny hn).1]; rfl) cyl hcap hroom
            have ho1 : S.off + r * S.esz + len * i.size = S.off + (r + len) * S.esz := by rw [Nat.add_mul, hsz]; omega
            refine ⟨_, _, ρ, _, _, hK, hrun, ?_, Step.put hH b S es hm z' l _ hg arr _ et h5 (over_size _ _ _ hroom) (rsplice_length _ _ _) ?_ ?_⟩
            · exact .slc es r _ cap' cap _ hcap hc ho (.inr ⟨rfl, hb2⟩)
            · intro row hrow
              obtain ⟨k, hk⟩ := List.getElem?_of_mem hrow
              rw [rsplice_get] at hk
              split at hk
              · rw [zy row (List.mem_of_getElem? hk), ← hsz, h1]
              · exact h4 row (List.mem_of_getElem? hk)
            · rw [ho1]
              exact over_rel (b := b) h1 h2 h3 h4 h6 h7 (fun row hrow => by rw [zy row hrow, ← hsz, h1]) sy oy (by omega)
          -- a new array
          have grow : cap' < len + new.length → ∀ {H1 : Heap}, Step ρ H w ρ H1 w → H1.next = H.next → True → ∀ n, n = (old ++ new).length → A.holds (K (.slc H.next 0 n none i.size) (H1.add (.rows i.size (old ++ new)))) →
              Yields P (Builtin.append_ #[t, t] ty #[.slice (some a') len cap', .slice ay new.length cy]) ρ H w (fun x H => A.holds (K x H)) := by
            intro hg H1 hst hnx hm n hn hK
            subst hn
            have hne : 0 < new.length := by omega
            obtain ⟨ad, rfl⟩ : ∃ ad, ay = some ad := by
              cases ay with
              | none => have := (ny rfl).1; rw [this] at hne; simp at hne
              | some ad => exact ⟨ad, rfl⟩
            have hcapb : Builtin.nextslicecap (len + new.length) cap' * i.bytes ≤ 281474976710656 := growslice_fits hg (by omega)
            have hrun := run_append_grow (P := P) w t ty e i zv ht hi hzv a' len cap' ux (by rw [lx, ← hlen]) (cxl a' rfl) ad new.length cy uy ly (cyl ad rfl) hg (by omega) hcapb
            have hcap : (old ++ new).length ≤ grownCap w (len + new.length) cap' e := by rw [List.length_append, ← hlen]; unfold grownCap Question.cut; simp only; omega
            have hs2 : VRels ρ (old ++ new).flatten (ux ++ uy) := by rw [List.flatten_append]; exact sx.append sy
            obtain ⟨ρ', g1, g2⟩ := grown_yields (t := t) (e := e) (z := i.size) (l := old ++ new) (us := ux ++ uy) (fun row hrow => (List.mem_append.1 hrow).elim (zx row) (zy row)) hs2 (fun q hq => (List.mem_append.1 hq).elim (ox q) (oy q)) hst.rel hm _ hcap (Builtin.zeroCells zv.cells (grownCap w (len + new.length) cap' e - (len + new.length))) (by rw [zsize, List.length_append, ← hlen])
            rw [hnx] at g1
            rw [List.length_append, ← hlen] at g1 hK
            refine ⟨_, _, ρ', _, _, hK, hrun, g1, ?_⟩
            have e1 : (ux ++ uy).toArray = ux.toArray ++ uy.toArray := by simp
            rw [e1] at g2
            exact hst.trans g2
          have fresh : ∀ {x : List (List AVal)}, x ≠ [] → (match x with | [] => False | _ => True) := fun {x} hx => by cases x <;> simp_all
          cases hcp : cap with
          | some c =>
            rw [hcp] at h
            simp only at h
            have hcc : cap' = c := hc c hcp
            split at h
            · rename_i hfit
              rw [rlen_eq] at hfit
              have hfit' := Nat.le_of_ble_eq_true hfit
              cases hnew : new with
              | nil =>
                rw [hnew] at h ly
                simp only at h
                rw [← hcp] at h
                exact empty (new := []) rfl (by simp [ly]) h (List.length_eq_zero_iff.1 (by simpa using ly)) (fun _ _ => trivial)
              | cons y rest =>
                rw [hnew] at h
                simp only at h
                rw [← hnew] at h ⊢
                cases hg : H.get b with
                | dead => rw [hg] at h; exact (A.fail_no h).elim
                | obj o => rw [hg] at h; exact (A.fail_no h).elim
                | ro l => rw [hg] at h; exact (A.fail_no h).elim
                | rows z' l =>
                  rw [hg] at h
                  simp only at h
                  split at h
                  · rename_i hin
                    rw [rlen_eq, rlen_eq] at hin
                    have hin' := Nat.le_of_ble_eq_true hin
                    simp only [fL_eq, fN_eq, rlen_eq] at h
                    obtain ⟨hm, h⟩ := hPut_holds h
                    exact within hg hin' (by omega) (by rw [hnew]; simp) hm (some c) hcp.symm h
                  · exact (A.fail_no h).elim
            · rename_i hfit
              rw [rlen_eq] at hfit
              have hfit' : c < len + new.length := by
                rcases Nat.lt_or_ge c (len + new.length) with h | h
                · exact h
                · have h2 : Nat.ble (len + new.length) c = true := Nat.ble_eq_true_of_le h
                  rw [h2] at hfit; cases hfit
              simp only [fL_eq, fN_eq, rlen_eq] at h
              obtain ⟨hm, h⟩ := hAdd_holds h
              exact grow (by omega) (Step.refl hH) rfl hm _ rfl h
          | none =>
            rw [hcp] at h
            simp only at h
            cases hnew : new with
            | nil =>
              rw [hnew] at h ly
              simp only at h
              rw [← hcp] at h
              exact empty (new := []) rfl (by simp [ly]) h (List.length_eq_zero_iff.1 (by simpa using ly)) (fun _ _ => trivial)
            | cons y rest =>
              rw [hnew] at h
              simp only at h
              rw [← hnew] at h ⊢
              have hne : new ≠ [] := by rw [hnew]; simp
              have hpos : 0 < new.length := List.length_pos_iff.2 hne
              cases hg : H.get b with
              | dead => rw [hg] at h; exact (A.fail_no h).elim
              | obj o => rw [hg] at h; exact (A.fail_no h).elim
              | ro l => rw [hg] at h; exact (A.fail_no h).elim
              | rows z' l =>
                rw [hg] at h
                simp only at h
                have hB := hH.blk _ _ es
                rw [hg] at hB
                obtain ⟨h1, h2, h3, h4, arr, et, h5, h6, h7⟩ := hB
                split at h
                · rename_i hin
                  rw [rlen_eq, rlen_eq] at hin
                  have hin' := Nat.le_of_ble_eq_true hin
                  simp only [fL_eq, fN_eq, rlen_eq] at h
                  obtain ⟨hm, h⟩ := hPut_holds h
                  have := ho hcp
                  exact within hg hin' (by omega) hne hm none hcp.symm h
                · simp only [fL_eq, fN_eq, rlen_eq] at h
                  obtain ⟨hm, h⟩ := hPut_holds h
                  obtain ⟨hm2, h⟩ := hAdd_holds h
                  rw [Heap.next_put] at h
                  by_cases hcap : len + new.length ≤ cap'
                  · -- in place, beyond the rows: the block is given up, its array goes on under another name
                    rcases ha with ⟨h0, h00⟩ | ⟨rfl, hb2⟩
                    · omega
                    have hroom : S.off + r * S.esz + len * i.size + uy.length ≤ arr.size := by
                      have : (r + (len + new.length)) * S.esz ≤ (r + cap') * S.esz := Nat.mul_le_mul_right _ (by omega)
                      rw [Nat.add_mul, Nat.add_mul, hsz] at this
                      rw [ly, h6, hsz]
                      rw [hsz] at hb2
                      omega
                    have hrun := run_append_fits_ (P := P) (ty := ty) ht hi h5 (o := S.off + r * S.esz) (len := len) (cap := cap') (x := ay) (n := new.length) (c := cy) ly oy (fun hn => by rw [(ny hn).1]; rfl) cyl hcap hroom
                    have hll : (old ++ new).length = len + new.length := by rw [List.length_append, ← hlen]
                    have hT : S.off + r * S.esz + (len + new.length) * S.esz ≤ S.size := by
                      have : (r + (len + new.length)) * S.esz ≤ (r + cap') * S.esz := Nat.mul_le_mul_right _ (by omega)
                      rw [Nat.add_mul] at this
                      omega
                    have hst := Step.regrow hH b S ⟨S.blk, S.off + r * S.esz, S.size, len + new.length, i.size⟩ es hm hm2 (by rw [hg]; trivial) i.size (old ++ new) arr
                      (arr.toList.take (S.off + r * S.esz + len * i.size + 0) ++ uy ++ arr.toList.drop (S.off + r * S.esz + len * i.size + 0 + uy.length)).toArray et h5 (over_size _ _ _ hroom) rfl rfl hll.symm (by simpa [hsz] using hT) (by rw [over_size _ _ _ hroom, h6])
                      (fun row hrow => (List.mem_append.1 hrow).elim (zx row) (zy row)) (fun q row hq j x hx => by
                        have hxl := flat_get (l := old ++ new) (z := i.size) (fun row hrow => (List.mem_append.1 hrow).elim (zx row) (zy row)) hq hx
                        have hs2 : VRels ρ (old ++ new).flatten (ux ++ uy) := by rw [List.flatten_append]; exact sx.append sy
                        obtain ⟨v, hv, hrel⟩ := hs2.get _ _ hxl
                        refine ⟨v, ?_, (List.mem_append.1 (List.mem_of_getElem? hv)).elim (ox v) (oy v), hrel⟩
                        show (arr.toList.take (S.off + r * S.esz + len * i.size + 0) ++ uy ++ arr.toList.drop (S.off + r * S.esz + len * i.size + 0 + uy.length)).toArray[S.off + r * S.esz + q * i.size + j]? = some v
                        rw [over_get _ _ _ hroom]
                        rw [List.getElem?_append, lx, ← hlen] at hv
                        have hqj : q * i.size + j < len * i.size + uy.length := by
                          have := (List.getElem?_eq_some_iff.1 hxl).1
                          rw [flat_length (z := i.size) (fun row hrow => (List.mem_append.1 hrow).elim (zx row) (zy row)), hll, Nat.add_mul] at this
                          rw [ly]; exact this
                        by_cases hlt : q * i.size + j < len * i.size
                        · rw [if_pos hlt] at hv
                          rw [if_neg (by omega)]
                          have hc1 := cxl _ rfl (q * i.size + j) v hv
                          rw [Addr.add_lit, cell_of_row w S.blk _ arr et (0, 0) h5] at hc1
                          rw [← hc1]
                          congr 1
                          omega
                        · rw [if_neg hlt] at hv
                          rw [if_pos (by omega), ← hv]
                          congr 1
                          omega)
                    refine ⟨_, _, _, _, _, h, hrun, ?_, hst⟩
                    have := VRel.slc (ρ := ρ.add H.next ⟨S.blk, S.off + r * S.esz, S.size, len + new.length, i.size⟩) (R := ⟨S.blk, S.off + r * S.esz, S.size, len + new.length, i.size⟩) Env.add_same 0 (len + new.length) cap' none ⟨S.blk, S.off + r * S.esz, none⟩ hcap (fun c hc => by cases hc) (fun _ => by simpa using hcap) (.inr ⟨by simp, by
                      simp only [Nat.zero_add]
                      rw [Nat.add_mul] at hb2
                      rw [hsz] at hb2 ⊢
                      omega⟩)
                    rw [hll]
                    exact this
                  · exact grow (by omega) (Step.kill es hH (by rw [hg]; simp)) (Heap.next_put _ _ _) hm2 _ rfl h
end append
end Dt

namespace Dt
open Go Go.RowKit
set_option linter.all false
variable [LoopTab]
/-! ### Slices of strings and of slices, new slices, structs compared -/
section sl
variable {R : Type} {A : Alg R} {P : Program} {call : Nat → List AVal → Heap → (AVal → Heap → R) → R} {vs ts : List AVal} {ρ : Env} {H : Heap} {w : World} {K : AVal → Heap → R}

/-- An operand that may be absent. -/
inductive ORel (ρ : Env) (vs ts : List AVal) : Option Opd → Option Value → Prop where
  | none : ORel ρ vs ts none none
  | some {x : Opd} {u : Value} (h : VRel ρ (x.get vs ts) u) : ORel ρ vs ts (some x) (some u)

theorem bound_run {X : AVal} {u : Value} {c n : Nat} (hb : bound X c = some n) (hx : VRel ρ X u) : n ≤ c ∧ ∀ (C : Nat) (code : BoundsCode), c ≤ C → (Instr.sliceBound u C code).run P w = .ok n w := by
  cases hx <;> try (simp [bound] at hb; done)
  rename_i k i
  cases i with
  | negSucc m => simp [bound] at hb
  | ofNat m =>
    simp only [bound] at hb
    split at hb
    · rename_i hle
      have hle' := Nat.le_of_ble_eq_true hle
      simp at hb
      subst hb
      refine ⟨hle', fun C code hC => ?_⟩
      rw [run_sliceBound w k _ C code (by simp) (by simp; omega)]
      simp
    · cases hb

theorem bounds_run {len c l h : Nat} {lo hi : Option Opd} {lo' hi' : Option Value} (hb : bounds vs ts len c lo hi = some (l, h)) (hlo : ORel ρ vs ts lo lo') (hhi : ORel ρ vs ts hi hi') (hlc : len ≤ c) :
    l ≤ h ∧ h ≤ c ∧ (∀ (b : Bool) (C : Nat), c ≤ C → (Instr.sliceBounds b len C lo' hi' none).run P w = .ok (l, h, C) w) ∧
    (∀ (b : Bool) (C : Nat) (m' : Value), hi.isSome → (∀ code, (Instr.sliceBound m' C code).run P w = .ok c w) → (Instr.sliceBounds b len C lo' hi' (some m')).run P w = .ok (l, h, c) w) := by
  unfold bounds at hb
  cases hhi with
  | none =>
    simp only at hb
    cases hlo with
    | none =>
      simp at hb
      obtain ⟨rfl, rfl⟩ := hb
      refine ⟨by omega, hlc, fun b C hC => ?_, fun b C m' hs => by simp at hs⟩
      simp [Instr.sliceBounds]
    | some hx =>
      rename_i x u
      cases hbx : bound (x.get vs ts) len with
      | none => simp [hbx] at hb
      | some n =>
        simp [hbx] at hb
        obtain ⟨rfl, rfl⟩ := hb
        obtain ⟨h1, h2⟩ := bound_run (P := P) (w := w) hbx hx
        refine ⟨h1, hlc, fun b C hC => ?_, fun b C m' hs => by simp at hs⟩
        simp [Instr.sliceBounds, h2 _ _ (Nat.le_refl _)]
  | some hy =>
    rename_i y v
    cases hby : bound (y.get vs ts) c with
    | none => simp [hby] at hb
    | some n =>
      obtain ⟨h1, h2⟩ := bound_run (P := P) (w := w) hby hy
      simp only [hby] at hb
      cases hlo with
      | none =>
        simp at hb
        obtain ⟨rfl, rfl⟩ := hb
        refine ⟨by omega, h1, fun b C hC => ?_, fun b C m' _ hm => ?_⟩
        · simp [Instr.sliceBounds, h2 _ _ hC]
        · simp [Instr.sliceBounds, hm, h2 _ _ (Nat.le_refl _)]
      | some hx =>
        rename_i x u
        cases hbx : bound (x.get vs ts) n with
        | none => simp [hbx] at hb
        | some k =>
          simp [hbx] at hb
          obtain ⟨rfl, rfl⟩ := hb
          obtain ⟨g1, g2⟩ := bound_run (P := P) (w := w) hbx hx
          refine ⟨g1, h1, fun b C hC => ?_, fun b C m' _ hm => ?_⟩
          · simp [Instr.sliceBounds, h2 _ _ hC, g2 _ _ (Nat.le_refl _)]
          · simp [Instr.sliceBounds, hm, h2 _ _ (Nat.le_refl _), g2 _ _ (Nat.le_refl _)]

theorem bounds_run2 {len c l h : Nat} {lo hi : Option Opd} {lo' hi' : Option Value} (hb : bounds vs ts len c lo hi = some (l, h)) (hlo : ORel ρ vs ts lo lo') (hhi : ORel ρ vs ts hi hi') (hs : hi.isSome) :
    l ≤ h ∧ h ≤ c ∧ True ∧ (∀ (b : Bool) (C : Nat) (m' : Value), (∀ code, (Instr.sliceBound m' C code).run P w = .ok c w) → (Instr.sliceBounds b len C lo' hi' (some m')).run P w = .ok (l, h, c) w) := by
  unfold bounds at hb
  cases hhi with
  | none => simp at hs
  | some hy =>
    rename_i y v
    cases hby : bound (y.get vs ts) c with
    | none => simp [hby] at hb
    | some n =>
      obtain ⟨h1, h2⟩ := bound_run (P := P) (w := w) hby hy
      simp only [hby] at hb
      cases hlo with
      | none =>
        simp at hb
        obtain ⟨rfl, rfl⟩ := hb
        refine ⟨by omega, h1, trivial, fun b C m' hm => ?_⟩
        simp [Instr.sliceBounds, hm, h2 _ _ (Nat.le_refl _)]
      | some hx =>
        rename_i x u
        cases hbx : bound (x.get vs ts) n with
        | none => simp [hbx] at hb
        | some k =>
          simp [hbx] at hb
          obtain ⟨rfl, rfl⟩ := hb
          obtain ⟨g1, g2⟩ := bound_run (P := P) (w := w) hbx hx
          refine ⟨g1, h1, trivial, fun b C m' hm => ?_⟩
          simp [Instr.sliceBounds, hm, h2 _ _ (Nat.le_refl _), g2 _ _ (Nat.le_refl _)]

theorem y_slcStr {t : TypeId} (ht : P.underlying t = some .string) {x : Opd} {u : Value} {lo hi : Option Opd} {lo' hi' : Option Value} (hx : VRel ρ (x.get vs ts) u) (hlo : ORel ρ vs ts lo lo') (hhi : ORel ρ vs ts hi hi') 
    (h : A.holds (evI A call (.slcStr x lo hi) vs ts H K)) : Pure P (Instr.sliceAt t u lo' hi' none) ρ H (fun x H => A.holds (K x H)) := by
  simp only [evI] at h
  generalize x.get vs ts = X at hx h
  cases hx <;> try exact (A.fail_no h).elim
  rename_i s
  simp only at h
  cases hb : bounds vs ts s.size s.size lo hi with
  | none => rw [hb] at h; exact (A.fail_no h).elim
  | some p =>
    obtain ⟨l, g⟩ := p
    rw [hb] at h
    simp only [fN_eq] at h
    obtain ⟨h1, h2, _, _⟩ := bounds_run (P := P) (w := default) hb hlo hhi (Nat.le_refl _)
    have h3 := fun (w : World) => (bounds_run (P := P) (w := w) hb hlo hhi (Nat.le_refl _)).2.2.1
    refine Pure.here (v := .string (s.extract l g)) h (fun w => ?_) ?_
    · rw [run_sliceAt_string w t _ _ _ _ ht]
      simp [Instr.slice, run_underlying ht, h3 w _ _ (Nat.le_refl _)]
    · have := VRel.str (ρ := ρ) (s.extract l g)
      have e1 : (s.extract l g).size = g - l := by rw [ByteArray.size_extract]; omega
      have e2 : (s.extract l g).data.toList = (s.data.toList.drop l).take (g - l) := by
        simp [ByteArray.data_extract, List.take_drop]
      rw [e1, e2, codeOf_take, codeOf_drop, ← scut_eq] at this
      exact this

theorem y_slcS {t e : TypeId} {i : TypeInfo} (ht : P.underlying t = some (.slice e)) (hi' : P.info? e = some i) (_hz : 0 < P.cellsOf e) {x : Opd} {u : Value} {lo hi mx : Option Opd} {lo' hi1 mx' : Option Value} (hx : VRel ρ (x.get vs ts) u) (hlo : ORel ρ vs ts lo lo') (hhi : ORel ρ vs ts hi hi1) (hmx : ORel ρ vs ts mx mx')
    (hmh : (mx.isSome && hi.isNone) = false) 
    (h : A.holds (evI A call (.slcS (P.cellsOf e) x lo hi mx) vs ts H K)) : Pure P (Instr.sliceAt t u lo' hi1 mx') ρ H (fun x H => A.holds (K x H)) := by
  have hsat : ∀ w, (Instr.sliceAt t u lo' hi1 mx').run P w = (Instr.slice t u lo' hi1 mx').run P w := by
    intro w
    simp [Instr.sliceAt, run_underlying ht]
  simp only [evI] at h
  generalize x.get vs ts = X at hx h
  cases hx <;> try exact (A.fail_no h).elim
  case nils =>
    simp only at h
    cases hb : bounds vs ts 0 0 lo hi with
    | none => rw [hb] at h; exact (A.fail_no h).elim
    | some p =>
      obtain ⟨l, g⟩ := p
      rw [hb] at h
      cases hmx with
      | some hv =>
        rename_i mo mv
        simp only at h
        cases hbm : bound (mo.get vs ts) 0 with
        | none => rw [hbm] at h; exact (A.fail_no h).elim
        | some m =>
          rw [hbm] at h
          simp only at h
          obtain ⟨m1, _⟩ := bound_run (P := P) (w := default) hbm hv
          have m2 := fun (w : World) => (bound_run (P := P) (w := w) hbm hv).2
          have hm0 : m = 0 := by omega
          subst hm0
          have hhs : hi.isSome := by cases hi <;> simp at hmh ⊢
          obtain ⟨h1, h2, _, _⟩ := bounds_run2 (P := P) (w := default) hb hlo hhi hhs
          have h3 := fun (w : World) => (bounds_run2 (P := P) (w := w) hb hlo hhi hhs).2.2.2
          have hl : l = 0 := by omega
          have hg : g = 0 := by omega
          subst hl; subst hg
          refine Pure.here (v := .slice none 0 0) h (fun w => ?_) .nils
          rw [hsat]
          simp [Instr.slice, run_underlying ht, h3 w true 0 _ (fun code => m2 w _ code (Nat.le_refl _)), run_sizeOf hi']
      | none =>
        simp only at h
        obtain ⟨h1, h2, _, _⟩ := bounds_run (P := P) (w := default) hb hlo hhi (Nat.le_refl _)
        have h3 := fun (w : World) => (bounds_run (P := P) (w := w) hb hlo hhi (Nat.le_refl _)).2.2.1
        have hl : l = 0 := by omega
        have hg : g = 0 := by omega
        subst hl; subst hg
        refine Pure.here (v := .slice none 0 0) h (fun w => ?_) .nils
        rw [hsat]
        simp [Instr.slice, run_underlying ht, h3 w _ _ (Nat.le_refl _), run_sizeOf hi']
  case slc b S es r len cap' cap a' hl hc ho ha =>
    simp only at h
    split at h
    · exact (A.fail_no h).elim
    · rename_i hsz
      have hsz' : S.esz = P.cellsOf e := by simpa using hsz
      -- what all the cases come to
      have fin : ∀ (l g m : Nat) (capn : Option Nat), l ≤ g → g ≤ m → m ≤ cap' → (∀ c, capn = some c → c = m - l) → (capn = none → cap = none ∧ m = cap') → (∀ w, (Instr.sliceBounds true len cap' lo' hi1 mx').run P w = .ok (l, g, m) w) →
          A.holds (K (.slc b (r + l) (g - l) capn S.esz) H) → Pure P (Instr.sliceAt t (.slice (some a') len cap') lo' hi1 mx') ρ H (fun x H => A.holds (K x H)) := by
        intro l g m capn h1 h2 h3 h4 h5 h6 hK
        refine Pure.here (v := .slice (if m = l then some a' else some (a'.add (l * P.cellsOf e))) (g - l) (m - l)) hK (fun w => ?_) ?_
        · rw [hsat]
          simp [Instr.slice, run_underlying ht, h6, run_sizeOf hi']
        · have key : ∀ a2 : Addr, (if m = l then some a' else some (a'.add (l * P.cellsOf e))) = some a2 → ((g - l = 0 ∧ m - l = 0) ∨ (a2 = ⟨S.blk, S.off + (r + l) * S.esz, none⟩ ∧ S.off + (r + l + (m - l)) * S.esz ≤ S.size)) := by
            intro a2 e2
            by_cases hm : m = l
            · exact .inl (by omega)
            · rw [if_neg hm] at e2
              simp only [Option.some.injEq] at e2
              rcases ha with ⟨h0, h00⟩ | ⟨rfl, hb2⟩
              · omega
              · refine .inr ⟨?_, ?_⟩
                · rw [← e2, Addr.add_lit, ← hsz', Nat.add_mul]
                  congr 1
                  omega
                · have : (r + l + (m - l)) * S.esz ≤ (r + cap') * S.esz := Nat.mul_le_mul_right _ (by omega)
                  omega
          have hex : ∃ a2, (if m = l then some a' else some (a'.add (l * P.cellsOf e))) = some a2 := by split <;> exact ⟨_, rfl⟩
          obtain ⟨a2, e2⟩ := hex
          rw [e2]
          refine VRel.slc es (r + l) (g - l) (m - l) capn a2 (by omega) (fun c hcn => (h4 c hcn).symm) (fun hn => ?_) (key a2 e2)
          obtain ⟨q1, q2⟩ := h5 hn
          have := ho q1
          omega
      cases cap with
      | some cp =>
        have hcc : cap' = cp := hc cp rfl
        simp only at h
        cases hmx with
        | none =>
          simp only at h
          cases hb : bounds vs ts len cp lo hi with
          | none => rw [hb] at h; exact (A.fail_no h).elim
          | some p =>
            obtain ⟨l, g⟩ := p
            rw [hb] at h
            simp only [fN_eq] at h
            obtain ⟨h1, h2, _, _⟩ := bounds_run (P := P) (w := default) hb hlo hhi (by omega)
            have h3 := fun (w : World) => (bounds_run (P := P) (w := w) hb hlo hhi (by omega)).2.2.1
            exact fin l g cap' (some (cp - l)) h1 (by omega) (Nat.le_refl _) (fun c hh => by simp at hh; omega) (fun hh => by cases hh) (fun w => h3 w _ _ (by omega)) h
        | some hv =>
          rename_i mo mv
          simp only at h
          cases hbm : bound (mo.get vs ts) cp with
          | none => rw [hbm] at h; exact (A.fail_no h).elim
          | some m =>
            rw [hbm] at h
            simp only at h
            obtain ⟨m1, _⟩ := bound_run (P := P) (w := default) hbm hv
            have m2 := fun (w : World) => (bound_run (P := P) (w := w) hbm hv).2
            cases hb : bounds vs ts len m lo hi with
            | none => rw [hb] at h; exact (A.fail_no h).elim
            | some p =>
              obtain ⟨l, g⟩ := p
              rw [hb] at h
              simp only [fN_eq] at h
              have hhs : hi.isSome := by cases hi <;> simp at hmh ⊢
              obtain ⟨h1, h2, _, _⟩ := bounds_run2 (P := P) (w := default) hb hlo hhi hhs
              have h3 := fun (w : World) => (bounds_run2 (P := P) (w := w) hb hlo hhi hhs).2.2.2
              exact fin l g m (some (m - l)) h1 h2 (by omega) (fun c hh => by simp at hh; omega) (fun hh => by cases hh) (fun w => h3 w _ _ _ fun code => m2 w _ code (by omega)) h
      | none =>
        simp only at h
        cases hmx with
        | none =>
          simp only at h
          cases hb : bounds vs ts len len lo hi with
          | none => rw [hb] at h; exact (A.fail_no h).elim
          | some p =>
            obtain ⟨l, g⟩ := p
            rw [hb] at h
            simp only [fN_eq] at h
            obtain ⟨h1, h2, _, _⟩ := bounds_run (P := P) (w := default) hb hlo hhi (Nat.le_refl _)
            have h3 := fun (w : World) => (bounds_run (P := P) (w := w) hb hlo hhi (Nat.le_refl _)).2.2.1
            exact fin l g cap' none h1 (by omega) (Nat.le_refl _) (fun c hh => by cases hh) (fun _ => ⟨rfl, rfl⟩) (fun w => h3 w _ _ hl) h
        | some hv =>
          rename_i mo mv
          simp only at h
          cases hbm : bound (mo.get vs ts) len with
          | none => rw [hbm] at h; exact (A.fail_no h).elim
          | some m =>
            rw [hbm] at h
            simp only at h
            obtain ⟨m1, _⟩ := bound_run (P := P) (w := default) hbm hv
            have m2 := fun (w : World) => (bound_run (P := P) (w := w) hbm hv).2
            cases hb : bounds vs ts len m lo hi with
            | none => rw [hb] at h; exact (A.fail_no h).elim
            | some p =>
              obtain ⟨l, g⟩ := p
              rw [hb] at h
              simp only [fN_eq] at h
              have hhs : hi.isSome := by cases hi <;> simp at hmh ⊢
              obtain ⟨h1, h2, _, _⟩ := bounds_run2 (P := P) (w := default) hb hlo hhi hhs
              have h3 := fun (w : World) => (bounds_run2 (P := P) (w := w) hb hlo hhi hhs).2.2.2
              exact fin l g m (some (m - l)) h1 h2 (by omega) (fun c hh => by simp at hh; omega) (fun hh => by cases hh) (fun w => h3 w _ _ _ fun code => m2 w _ code (by omega)) h

theorem y_mkS {t e : TypeId} {zr : List AVal} (ht : P.underlying t = some (.slice e)) (hzr : zeroRow P e = some zr) (_hb : 0 < P.bytesOf e) (hz : 0 < P.cellsOf e) {x y : Opd} {u v : Value} (hx : VRel ρ (x.get vs ts) u) (hy : VRel ρ (y.get vs ts) v) (hH : HRel ρ H w)
    (h : A.holds (evI A call (.mkS zr (P.bytesOf e) x y) vs ts H K)) : Yields P (Instr.makeSlice t u v) ρ H w (fun x H => A.holds (K x H)) := by
  obtain ⟨i, z, hi, hzv, hsz, hrel, hone, hlen⟩ := zeroRow_some (ρ := ρ) hzr
  have hcell : P.cellsOf e = i.size := by simp [Program.cellsOf, hi]
  have hbytes : P.bytesOf e = i.bytes := by simp [Program.bytesOf, hi]
  rw [hcell] at hz
  rw [hbytes] at h
  simp only [evI] at h
  generalize x.get vs ts = X at hx h
  generalize y.get vs ts = Y at hy h
  cases hx <;> try exact (A.fail_no h).elim
  rename_i kl n
  cases n with
  | negSucc n => exact (A.fail_no h).elim
  | ofNat n =>
    cases hy <;> try exact (A.fail_no h).elim
    rename_i kc c
    cases c with
    | negSucc c => exact (A.fail_no h).elim
    | ofNat c =>
      simp only at h
      split at h
      · rename_i hbb
        simp only [Bool.and_eq_true] at hbb
        have b1 := Nat.le_of_ble_eq_true hbb.1.1
        have b2 : c * i.bytes ≤ 1000000000 := Nat.le_of_ble_eq_true hbb.1.2
        have b3 := Nat.le_of_ble_eq_true hbb.2
        simp only [fL_eq] at h
        obtain ⟨hm, h⟩ := hAdd_holds h
        simp only [llen_eq, hlen] at h
        have b4 : i.bytes * c ≤ 1000000000 := by rw [Nat.mul_comm]; exact b2
        have b5 : ((i.bytes : Int) * (c : Int)) ≤ 281474976710656 := by
          have : ((i.bytes * c : Nat) : Int) ≤ 281474976710656 := by omega
          rwa [Int.natCast_mul] at this
        have hrun := run_make (P := P) w t e i z ht hi hzv kl kc (Int.ofNat n) (Int.ofNat c) (by simp) (by simp; omega) b5 (by simp; omega)
        obtain ⟨z1, z2⟩ := zeros_rel hrel hone (by omega) c
        rw [hsz] at z1 z2
        have hh : Yields P (do pure (.slice (some (← newRow e ((Array.range (c * i.size)).map (z.cells[· % i.size]!)))) n (List.replicate c zr).length)) ρ H w (fun x H => A.holds (K x H)) :=
          YieldsK.weak <| newRow_yields (z := i.size) (fun row hrow => by rw [(List.mem_replicate.1 hrow).2, hlen]) z1 z2 hH hm n (by rw [List.length_replicate]; exact b1) (by rw [List.length_replicate]; exact h)
        obtain ⟨x, H', ρ', v, w', k1, k2, k3, k4⟩ := hh
        refine ⟨x, H', ρ', v, w', k1, ?_, k3, k4⟩
        rw [hrun, ← k2]
        simp [newRow, madeCells, hsz]
      · exact (A.fail_no h).elim

theorem eqCells_run {xs ys : Array Value} {X Y : List AVal} (hX : VRels ρ X xs.toList) (hY : VRels ρ Y ys.toList) (d : Nat) : ∀ (fs : List Field) (n : Nat) (ks : List Nat) (b : Bool), plainKinds P fs n = some ks → eqCells ks (X.drop n) (Y.drop n) = some b →
    (Op.eqFields (d + 1) xs ys fs).run P w = .ok b w := by
  intro fs
  induction fs with
  | nil =>
    intro n ks b hk hb
    simp [plainKinds] at hk
    subst hk
    cases h1 : X.drop n <;> cases h2 : Y.drop n <;> rw [h1, h2] at hb <;> simp [eqCells] at hb
    subst hb
    simp [Op.eqFields]
  | cons f fs ih =>
    intro n ks b hk hb
    simp only [plainKinds] at hk
    split at hk
    · rename_i hf
      simp only [Bool.and_eq_true, bne_iff_ne, ne_eq, beq_iff_eq] at hf
      obtain ⟨hname, hoff⟩ := hf
      have cell : ∀ {k : Nat} {r : List Nat}, ks = k :: r → ∃ (x y : AVal) (u v : Value), X.drop n = x :: X.drop (n + 1) ∧ Y.drop n = y :: Y.drop (n + 1) ∧ xs[n]? = some u ∧ ys[n]? = some v ∧ VRel ρ x u ∧ VRel ρ y v := by
        intro k r hks
        subst hks
        cases h1 : X.drop n with
        | nil => rw [h1] at hb; simp [eqCells] at hb
        | cons x X' =>
          cases h2 : Y.drop n with
          | nil => rw [h1, h2] at hb; simp [eqCells] at hb
          | cons y Y' =>
            have g1 : X[n]? = some x := by rw [← List.head?_drop, h1]; rfl
            have g2 : Y[n]? = some y := by rw [← List.head?_drop, h2]; rfl
            obtain ⟨u, hu, hxu⟩ := hX.get _ _ g1
            obtain ⟨v, hv, hyv⟩ := hY.get _ _ g2
            refine ⟨x, y, u, v, ?_, ?_, by simpa using hu, by simpa using hv, hxu, hyv⟩
            · have : X.drop (n + 1) = (X.drop n).drop 1 := by rw [List.drop_drop]
              rw [this, h1]; rfl
            · have : Y.drop (n + 1) = (Y.drop n).drop 1 := by rw [List.drop_drop]
              rw [this, h2]; rfl
      have step : ∀ {k : Nat} {r : List Nat}, ks = k :: r → plainKinds P fs (n + 1) = some r → isOne P f.type = true →
          (∀ (x y : AVal) (u v : Value) (c : Bool), VRel ρ x u → VRel ρ y v → eqCell k x y = some c → (Op.equalIn (d + 1) f.type u v).run P w = .ok c w) → (Op.eqFields (d + 1) xs ys (f :: fs)).run P w = .ok b w := by
        intro k r hks hr hone hcell
        obtain ⟨x, y, u, v, e1, e2, e3, e4, e5, e6⟩ := cell hks
        subst hks
        rw [e1, e2] at hb
        simp only [eqCells] at hb
        have p1 : (part f.type xs f.offset).run P w = .ok u w := by
          simp [part, run_isAgg_one hone, hoff, e3]
        have p2 : (part f.type ys f.offset).run P w = .ok v w := by
          simp [part, run_isAgg_one hone, hoff, e4]
        simp only [Op.eqFields, hname, ne_eq, not_false_eq_true, if_true, Sem.run_bind, p1, p2, Result.andThen_ok]
        split at hb
        · rename_i hc
          rw [hcell x y u v true e5 e6 hc]
          simp only [Result.andThen_ok]
          simpa using ih (n + 1) r b hr hb
        · rename_i hc
          rw [hcell x y u v false e5 e6 hc]
          simp at hb
          subst hb
          simp
        · cases hb
      have one : ∀ {dd : TypeDesc}, P.underlying f.type = some dd → (∀ fs, dd ≠ .struct fs) → (∀ n e, dd ≠ .array n e) → isOne P f.type = true := by
        intro dd h1 h2 h3
        unfold isOne
        rw [h1]
        cases dd <;> simp_all
      split at hk
      · rename_i r ht hr
        simp at hk
        refine step hk.symm hr (one ht (by simp) (by simp)) ?_
        intro x y u v c hx hy hc
        cases hx <;> cases hy <;> try (simp [eqCell] at hc; done)
        rename_i k a k' b
        simp only [eqCell] at hc
        by_cases hkk : k = k'
        · subst hkk
          rw [decide_eq_true rfl] at hc
          simp [ieq_eq] at hc
          subst hc
          exact run_equalIn_int w d f.type k _ a b ht
        · rw [decide_eq_false hkk] at hc; cases hc
      · rename_i r ht hr
        simp at hk
        refine step hk.symm hr (one ht (by simp) (by simp)) ?_
        intro x y u v c hx hy hc
        cases hx <;> cases hy <;> try (simp [eqCell] at hc; done)
        rename_i a b
        simp only [eqCell, str_beq] at hc
        simp at hc
        subst hc
        exact run_equalIn_string w d f.type a b ht
      · rename_i r ht hr
        simp at hk
        refine step hk.symm hr (one ht (by simp) (by simp)) ?_
        intro x y u v c hx hy hc
        cases hx <;> cases hy <;> try (simp [eqCell] at hc; done)
        rename_i a b
        simp only [eqCell] at hc
        simp at hc
        subst hc
        exact run_equalIn_bool' w d f.type a b ht
      · cases hk
    · cases hk

theorem plain_equal {t : TypeId} {fs : Array Field} {ks : List Nat} (ht : P.underlying t = some (.struct fs)) (hp : plainStruct P t fs.toList = some ks) {X Y : List AVal} {us ws : List Value} (hX : VRels ρ X us) (hY : VRels ρ Y ws) {b : Bool} (hb : eqCells ks X Y = some b) :
    (Op.equal t (.agg us.toArray) (.agg ws.toArray)).run P w = .ok b w := by
  unfold plainStruct at hp
  split at hp
  · rename_i hg
    simp only [Bool.and_eq_true, Bool.not_eq_eq_eq_not, Bool.not_true] at hg
    have hfo : P.fieldsOf t = fs := by simp [Program.fieldsOf, ht]
    have hrun := eqCells_run (P := P) (w := w) (xs := us.toArray) (ys := ws.toArray) (by simpa using hX) (by simpa using hY) 9998 fs.toList 0 ks b hp (by simpa using hb)
    show (Op.equalIn 10000 t (.agg us.toArray) (.agg ws.toArray)).run P w = .ok b w
    rw [run_equalIn_agg w 9999 t us.toArray ws.toArray (by rw [hfo]; exact ht) hg.1, hfo]
    exact hrun
  · cases hp
theorem y_eqAgg {t : TypeId} {fs : Array Field} {ks : List Nat} (ht : P.underlying t = some (.struct fs)) (hp : plainStruct P t fs.toList = some ks) {neg : Bool} {ox oy : Operand} {x y : Opd} {u v : Value} (hx : VRel ρ (x.get vs ts) u) (hy : VRel ρ (y.get vs ts) v) 
    (h : A.holds (evI A call (.eqAgg neg ks x y) vs ts H K)) : Pure P (do eqGuard (if neg then .neq else .eql) t ox oy u v; binOp (if neg then .neq else .eql) t u v) ρ H (fun x H => A.holds (K x H)) := by
  unfold plainStruct at hp
  split at hp
  · rename_i hg
    simp only [Bool.and_eq_true, Bool.not_eq_eq_eq_not, Bool.not_true] at hg
    simp only [evI] at h
    generalize x.get vs ts = X at hx h
    generalize y.get vs ts = Y at hy h
    cases hx <;> try exact (A.fail_no h).elim
    rename_i X us hX h1
    cases hy <;> try exact (A.fail_no h).elim
    rename_i Y ws hY h2
    simp only at h
    cases hb : eqCells ks X Y with
    | none => rw [hb] at h; exact (A.fail_no h).elim
    | some b =>
      rw [hb] at h
      simp only [fB_eq] at h
      have hfo : P.fieldsOf t = fs := by simp [Program.fieldsOf, ht]
      have hrun := fun w : World => eqCells_run (P := P) (w := w) (xs := us.toArray) (ys := ws.toArray) (by simpa using hX) (by simpa using hY) 9998 fs.toList 0 ks b hp (by simpa using hb)
      have heq : ∀ w, (Op.equalIn 10000 t (.agg us.toArray) (.agg ws.toArray)).run P w = .ok b w := by
        intro w
        rw [run_equalIn_agg w 9999 t us.toArray ws.toArray (by rw [hfo]; exact ht) hg.1, hfo]
        exact hrun w
      refine Pure.here (v := .bool (b != neg)) h (fun w => ?_) (.bool _)
      cases neg
      · simp [run_eqGuard_agg w _ t ox oy _ _ hg.2, run_eql_struct, heq]
      · simp [run_eqGuard_agg w _ t ox oy _ _ hg.2, run_neq_struct, heq]
  · cases hp
end sl
end Dt

namespace Dt
open Go Go.RowKit
set_option linter.all false
variable [LoopTab]
/-! ### Strings once more, and maps -/
section more
variable {R : Type} {A : Alg R} {P : Program} {call : Nat → List AVal → Heap → (AVal → Heap → R) → R} {vs ts : List AVal} {ρ : Env} {H : Heap} {w : World} {K : AVal → Heap → R}

theorem get_sget (s : ByteArray) (j : Nat) : (s.get! j).toNat = sget (codeOf s.data.toList) j := by
  rw [sget_eq]
  rcases Nat.lt_or_ge j s.data.toList.length with h | h
  · rw [codeOf_get _ _ h]
    have h' : j < s.data.size := by simpa using h
    have : s.get! j = s.data[j] := by
      show s.data[j]! = _
      rw [getElem!_pos s.data j h']
    rw [this]
    simp
  · have h1 := codeOf_lt s.data.toList
    have h2 : codeOf s.data.toList < 256 ^ j := Nat.lt_of_lt_of_le h1 (Nat.pow_le_pow_right (by omega) h)
    rw [Nat.div_eq_of_lt h2]
    have h' : ¬ j < s.data.size := by
      have : s.data.toList.length = s.data.size := by simp
      omega
    have : s.get! j = default := by
      show s.data[j]! = _
      rw [getElem!_neg s.data j h']
    rw [this]
    rfl

theorem decode_eq (s : ByteArray) (i : Nat) : Utf8.decode s i = decN s.size (codeOf s.data.toList) i := by
  unfold Utf8.decode decN
  simp only [get_sget]
  rfl

theorem encode_eq (r : Int) : (Utf8.encode r).size = (encN r).1 ∧ codeOf (Utf8.encode r).data.toList = (encN r).2 := by
  unfold Utf8.encode encN
  have hre : Utf8.runeError = 0xFFFD := rfl
  rw [hre]
  generalize (if Utf8.valid r then r.toNat else 0xFFFD) = c
  simp only
  by_cases h1 : c < 0x80
  · rw [if_pos h1, if_pos h1]
    constructor
    · rfl
    · simp [codeOf]
  · rw [if_neg h1, if_neg h1]
    by_cases h2 : c < 0x800
    · rw [if_pos h2, if_pos h2]
      constructor
      · rfl
      · simp [codeOf]
    · rw [if_neg h2, if_neg h2]
      by_cases h3 : c < 0x10000
      · rw [if_pos h3, if_pos h3]
        constructor
        · rfl
        · simp [codeOf]
      · rw [if_neg h3, if_neg h3]
        constructor
        · rfl
        · simp [codeOf]

theorem y_convIS {s d : TypeId} {k' : IntKind} (hs : P.underlying s = some (.int k')) (hd : P.underlying d = some .string) {x : Opd} {u : Value} (hx : VRel ρ (x.get vs ts) u) (hH : HRel ρ H w) (h : A.holds (evI A call (.convIS x) vs ts H K)) :
    Yields P (convert s d u) ρ H w (fun x H => A.holds (K x H)) := by
  simp only [evI] at h
  generalize x.get vs ts = X at hx h
  cases hx <;> try exact (A.fail_no h).elim
  rename_i k n
  simp only [fN_eq] at h
  obtain ⟨e1, e2⟩ := encode_eq n
  refine Yields.here (v := .string (Utf8.encode n)) hH h (by simp [convert, run_underlying hs, run_underlying hd, Conv.intToString]) ?_
  rw [← e1, ← e2]
  exact .str _

theorem bcode_some : ∀ (rows : List (List AVal)) (c : Nat), bcode rows = some c → ∃ ds : List Nat, rows = ds.map (fun d => [AVal.int .u8 (.ofNat d)]) ∧ c = codeOf (ds.map UInt8.ofNat)
  | [], c, h => by simp [bcode] at h; exact ⟨[], rfl, h.symm⟩
  | row :: l, c, h => by
    simp only [bcode] at h
    split at h
    · rename_i d
      split at h
      · rename_i c' hc'
        obtain ⟨ds, h1, h2⟩ := bcode_some l c' hc'
        simp at h
        subst h
        exact ⟨d :: ds, by simp [h1], by simp [codeOf, h2]⟩
      · cases h
    · cases h

theorem foldl_bytes : ∀ (ds : List Nat) (s : ByteArray), ((ds.map fun d => (Int.ofNat d)).foldl (fun r n => r.push (UInt8.ofNat n.toNat)) s).data.toList = s.data.toList ++ ds.map UInt8.ofNat
  | [], s => by simp
  | d :: ds, s => by
    simp only [List.map_cons, List.foldl_cons]
    rw [foldl_bytes ds]
    simp

theorem vrels_bytes : ∀ {ds : List Nat} {us : List Value}, VRels ρ (ds.map fun d => AVal.int .u8 (.ofNat d)) us → us = (ds.map fun d => (Int.ofNat d)).map (Value.int .u8)
  | [], us, h => by cases h; rfl
  | d :: ds, us, h => by
    cases h with
    | cons h1 h2 =>
      cases h1
      rw [vrels_bytes h2]
      rfl

theorem y_convBS {s d e : TypeId} (hs : P.underlying s = some (.slice e)) (he : P.underlying e = some (.int .u8)) (hd : P.underlying d = some .string) {x : Opd} {u : Value} (hx : VRel ρ (x.get vs ts) u) (hH : HRel ρ H w) (h : A.holds (evI A call (.convBS x) vs ts H K)) :
    Yields P (convert s d u) ρ H w (fun x H => A.holds (K x H)) := by
  simp only [evI] at h
  cases hr : rowsOf H 1 (x.get vs ts) with
  | none => rw [hr] at h; exact (A.fail_no h).elim
  | some rows =>
    rw [hr] at h
    simp only at h
    cases hb : bcode rows with
    | none => rw [hb] at h; exact (A.fail_no h).elim
    | some c =>
      rw [hb] at h
      simp only [fN_eq] at h
      obtain ⟨a, cap, us, hu, hl, hrel, ho, hrow, hn, hcell⟩ := rowsOf_rel hx hH hr
      obtain ⟨ds, rfl, rfl⟩ := bcode_some _ _ hb
      have hfl : (ds.map (fun d => [AVal.int .u8 (.ofNat d)])).flatten = ds.map fun d => AVal.int .u8 (.ofNat d) := by
        clear hb hr hl hn hrow hcell hrel hu h
        induction ds with
        | nil => rfl
        | cons d ds ih => simp only [List.map_cons, List.flatten_cons, ih]; rfl
      rw [hfl] at hrel
      have hus := vrels_bytes hrel
      have hlen : rlen (ds.map fun d => [AVal.int .u8 (.ofNat d)]) = ds.length := by rw [rlen_eq]; simp
      rw [hlen] at h
      have key : ∃ S : ByteArray, (convert s d u).run P w = .ok (.string S) w ∧ S.data.toList = ds.map UInt8.ofNat := by
        subst hu
        rw [run_convert_bytes_string w s d e a _ cap hs he hd]
        cases a with
        | none =>
          obtain ⟨h0, _⟩ := hn rfl
          have : ds = [] := by simpa using h0
          subst this
          exact ⟨ByteArray.empty, by simp [Conv.bytesToString], rfl⟩
        | some ad =>
          have hc := run_loadCells_list (P := P) w ad us (hcell ad rfl)
          have hl' : us.length = (ds.map fun d => [AVal.int .u8 (.ofNat d)]).length := by simpa using hl
          rw [hl', hus] at hc
          refine ⟨_, run_bytesToString w ad _ cap _ hc, ?_⟩
          rw [foldl_bytes]
          simp
      obtain ⟨S, h1, h2⟩ := key
      refine Yields.here (v := .string S) hH h h1 ?_
      have e1 : S.size = ds.length := by
        have : S.data.toList.length = ds.length := by rw [h2]; simp
        simpa using this
      rw [← e1, ← h2]
      exact .str S

/-! Ranges over strings. -/
theorem y_rngS {t : TypeId} (ht : P.underlying t = some .string) {x : Opd} {u : Value} (hx : VRel ρ (x.get vs ts) u) (hH : HRel ρ H w) (h : A.holds (evI A call (.rngS x) vs ts H K)) :
    Yields P (Instr.range t u) ρ H w (fun x H => A.holds (K x H)) := by
  simp only [evI] at h
  generalize x.get vs ts = X at hx h
  cases hx <;> try exact (A.fail_no h).elim
  rename_i s
  obtain ⟨_, h⟩ := hAdd_holds h
  refine ⟨_, _, ρ.add H.next ⟨w.heap.size, 0, 0, 0, 0⟩, .pointer (some ⟨w.heap.size, 0, none⟩), w.alloc (.stringIter s 0), h, ?_, ?_, Step.allocB hH _ _ _ rfl ⟨rfl, _, heap_push_new _ _, s, rfl, rfl, rfl⟩⟩
  · simp [Instr.range, run_underlying ht]
  · have := VRel.ptr (ρ := ρ.add H.next ⟨w.heap.size, 0, 0, 0, 0⟩) Env.add_same 0 0
    simpa using this

theorem run_getObj_siter {r : Nat} {s : ByteArray} {p : Nat} (hb : w.heap[r]? = some (.stringIter s p)) : (getObj r).run P w = .ok (.stringIter s p) w := by simp [getObj, Sem.run, hb]
theorem run_setObj_siter {r : Nat} {s : ByteArray} {p : Nat} (o : Obj) (hb : w.heap[r]? = some (.stringIter s p)) : (setObj r o).run P w = .ok () (putO w r o) := by simp [setObj, Sem.run, hb, putO]

theorem y_nxtS {ty : TypeId} {x : Opd} {u : Value} (hx : VRel ρ (x.get vs ts) u) (hH : HRel ρ H w) (h : A.holds (evI A call (.nxtS x) vs ts H K)) :
    Yields P (Instr.next u true ty) ρ H w (fun x H => A.holds (K x H)) := by
  simp only [evI] at h
  generalize x.get vs ts = X at hx h
  cases hx <;> try exact (A.fail_no h).elim
  rename_i b S e r c
  cases r with
  | succ r => exact (A.fail_no h).elim
  | zero =>
  cases c with
  | succ c => exact (A.fail_no h).elim
  | zero =>
  simp only at h
  have hB := hH.blk _ _ e
  cases hb : H.get b with
  | dead => rw [hb] at h; exact (A.fail_no h).elim
  | rows z l => rw [hb] at h; exact (A.fail_no h).elim
  | ro l => rw [hb] at h; exact (A.fail_no h).elim
  | obj o =>
    rw [hb] at h hB
    cases o with
    | map l => exact (A.fail_no h).elim
    | miter _ _ _ _ => exact (A.fail_no h).elim
    | loop _ _ => exact (A.fail_no h).elim
    | dfr => exact (A.fail_no h).elim
    | busy => exact (A.fail_no h).elim
    | siter n c pos =>
      obtain ⟨h0, o, h1, s, rfl, h2, h3⟩ := hB
      have hz : S.off + 0 * S.esz + 0 = 0 := by rw [h0]; omega
      rw [hz]
      simp only at h
      cases hlt : Nat.blt pos n with
      | false =>
        rw [hlt] at h
        have hge : ¬ pos < s.size := by
          rw [h2]
          intro hh
          have : Nat.blt pos n = true := by unfold Nat.blt; exact Nat.ble_eq_true_of_le hh
          rw [this] at hlt; cases hlt
        refine Yields.here (v := .tuple #[.bool false]) hH h ?_ (.tup (.cons (.bool _) .nil))
        simp [Instr.next, run_getObj_siter h1, hge]
      | true =>
        rw [hlt] at h
        have hl : pos < s.size := by
          rw [h2]
          unfold Nat.blt at hlt
          exact Nat.le_of_ble_eq_true hlt
        simp only [fN_eq] at h
        obtain ⟨_, h⟩ := hPut_holds h
        have hd := decode_eq s pos
        rw [h2, h3] at hd
        refine ⟨_, _, ρ, .tuple #[.bool true, goInt pos, .int .i32 (Utf8.decode s pos).1], putO w S.blk (.stringIter s (pos + (Utf8.decode s pos).2)), h, ?_, ?_, ?_⟩
        · simp [Instr.next, run_getObj_siter h1, hl, run_setObj_siter _ h1]
        · rw [hd]
          exact .tup (.cons (.bool _) (.cons (.int _ _) (.cons (.int _ _) .nil)))
        · refine Step.putObj hH b S e _ hb _ _ ⟨s, ?_, h2, h3⟩
          rw [hd]

/-! Maps. -/
theorem y_mkmap {t : TypeId} (hH : HRel ρ H w) (h : A.holds (evI A call .mkmap vs ts H K)) :
    Yields P (Instr.makeMap t none) ρ H w (fun x H => A.holds (K x H)) := by
  simp only [evI] at h
  obtain ⟨_, h⟩ := hAdd_holds h
  exact ⟨_, _, ρ.add H.next ⟨w.heap.size, 0, 0, 0, 0⟩, .map (some w.heap.size), w.alloc (.map #[] 0), h, by simp [Instr.makeMap], .mp Env.add_same,
    Step.allocB hH _ _ _ rfl ⟨rfl, _, heap_push_new _ _, #[], rfl, trivial⟩⟩

/-- The kind of a map's keys. -/
def KindD : Nat → TypeDesc → Prop
  | 0, .int _ => True
  | 1, .string => True
  | 2, .bool => True
  | _, _ => False

theorem run_checkKey_kind {kk : Nat} {kt : TypeId} {d : TypeDesc} {k : Value} (hd : P.underlying kt = some d) (hk : KindD kk d) (e : Bool) (n : Nat) : (Instr.checkKey e (n + 1) kt k).run P w = .ok () w := by
  unfold Instr.checkKey
  simp only [Sem.run_bind, run_underlying hd, Result.andThen]
  cases d <;> (first | (simp [KindD] at hk; done) | (cases k <;> simp))

theorem sameNow_rel {kk : Nat} {d : TypeDesc} (hd : KindD kk d) {x y : AVal} {u v : Value} (hx : VRel ρ x u) (hy : VRel ρ y v) {b : Bool} (h : eqCell kk x y = some b) :
    Instr.sameNow d u v = some b ∧ (b = true → v = u ∧ Instr.sameBits 10000 u u = true) := by
  unfold eqCell at h
  split at h
  · rename_i k a k' b'
    cases d <;> simp [KindD] at hd
    cases hx; cases hy
    by_cases hk : k = k'
    · subst hk
      rw [decide_eq_true rfl] at h
      simp only [ieq_eq, Option.some.injEq] at h
      subst h
      exact ⟨by simp [Instr.sameNow], fun hh => ⟨by simp at hh; rw [hh], by simp [Instr.sameBits, MapKept.bytes_beq]⟩⟩
    · rw [decide_eq_false hk] at h; cases h
  · cases d <;> simp [KindD] at hd
    cases hx; cases hy
    rename_i s s'
    rw [str_beq] at h
    simp only [Option.some.injEq] at h
    have hb : (s == s') = b := by
      rw [← h, Bool.eq_iff_iff, MapKept.bytes_beq, ByteArray.toList_eq, ByteArray.toList_eq]
      constructor
      · intro e; subst e; simp
      · intro e
        have : s.data.toList = s'.data.toList := by simpa using e
        have h2 : s.data = s'.data := Array.toList_inj.1 this
        cases s; cases s'
        simp at h2
        rw [h2]
    refine ⟨by simp [Instr.sameNow, hb], fun hh => ?_⟩
    rw [hh] at hb
    have := (MapKept.bytes_beq _ _).1 hb
    subst this
    exact ⟨rfl, by simp [Instr.sameBits, MapKept.bytes_beq]⟩
  · cases d <;> simp [KindD] at hd
    cases hx; cases hy
    simp only [Option.some.injEq] at h
    subst h
    exact ⟨by simp [Instr.sameNow], fun hh => ⟨by simp at hh; rw [hh], by simp [Instr.sameBits, MapKept.bytes_beq]⟩⟩
  · cases h

theorem eqKey_plain {kk : Nat} {d : TypeDesc} (hd : KindD kk d) (x y : AVal) : eqKey kk x y = eqCell kk x y := by
  match kk, hd with
  | 0, _ => rfl
  | 1, _ => rfl
  | 2, _ => rfl
  | k + 3, hd => cases d <;> simp [KindD] at hd
theorem mfind_rel {kk : Nat} {d : TypeDesc} (hd : KindD kk d) {k : AVal} {u : Value} (hk : VRel ρ k u) : ∀ (l : List (AVal × AVal)) (es : List MapEntry) (n i : Nat) (r : Option (Nat × AVal)), MRel ρ l es n → mfind kk k l i = some r →
    match r with
    | none => Instr.findNow d u es i = some none
    | some (j, v) => ∃ m e, j = i + m ∧ Instr.findNow d u es i = some (some (j, e.val)) ∧ es[m]? = some e ∧ VRel ρ v e.val ∧ e.key = u ∧ Instr.sameBits 10000 u u = true
  | [], [], _, _, r, _, h => by
    simp only [mfind] at h
    split at h
    · simp at h; subst h; rfl
    · cases h
  | [], _ :: _, _, _, _, hm, _ => hm.elim
  | _ :: _, [], _, _, _, hm, _ => hm.elim
  | x :: l, e :: es, n, i, r, hm, h => by
    obtain ⟨m1, m2, m3, m4⟩ := hm
    simp only [mfind, eqKey_plain hd] at h
    cases hc : eqCell kk k x.1 with
    | none => rw [hc] at h; cases h
    | some b =>
      rw [hc] at h
      obtain ⟨g1, g2⟩ := sameNow_rel hd hk m1 hc
      cases b with
      | true =>
        simp at h
        subst h
        obtain ⟨g3, g4⟩ := g2 rfl
        exact ⟨0, e, rfl, by simp [Instr.findNow, g1], rfl, m2, g3, g4⟩
      | false =>
        simp only at h
        have ih := mfind_rel hd hk l es (n + 1) (i + 1) r m4 h
        cases r with
        | none => simpa [Instr.findNow, g1] using ih
        | some q =>
          obtain ⟨j, v⟩ := q
          obtain ⟨m, e', q1, q2, q3, q4, q5, q6⟩ := ih
          exact ⟨m + 1, e', by omega, by simp [Instr.findNow, g1, q2], by simpa using q3, q4, q5, q6⟩

/-! Keys that are structs of a string and a bool. -/
theorem two_same {l m : List AVal} {us ws : List Value} (hl : VRels ρ l us) (hm : VRels ρ m ws) (h : eqCells [1, 2] l m = some true) : us = ws ∧ Instr.sameBits 10000 (.agg us.toArray) (.agg us.toArray) = true := by
  match l, m, hl, hm, h with
  | x :: l, y :: m, .cons (u := u) hx hl, .cons (u := v) hy hm, h =>
    simp only [eqCells] at h
    cases hc : eqCell 1 x y with
    | none => rw [hc] at h; cases h
    | some b =>
      rw [hc] at h
      cases b with
      | false => cases h
      | true =>
        simp only at h
        obtain ⟨-, g⟩ := sameNow_rel (kk := 1) (d := .string) trivial hx hy hc
        obtain ⟨g1, g2⟩ := g rfl
        match l, m, hl, hm, h with
        | x2 :: l2, y2 :: m2, .cons (u := u2) hx2 hl2, .cons (u := v2) hy2 hm2, h =>
          simp only [eqCells] at h
          cases hc2 : eqCell 2 x2 y2 with
          | none => rw [hc2] at h; cases h
          | some b =>
            rw [hc2] at h
            cases b with
            | false => cases h
            | true =>
              simp only at h
              obtain ⟨-, g'⟩ := sameNow_rel (kk := 2) (d := .bool) trivial hx2 hy2 hc2
              obtain ⟨g3, g4⟩ := g' rfl
              match l2, m2, hl2, hm2, h with
              | [], [], .nil, .nil, _ =>
                refine ⟨by rw [g1, g3], ?_⟩
                cases hx
                all_goals (try (simp [eqCell] at hc; done))
                cases hx2
                all_goals (try (simp [eqCell] at hc2; done))
                simp [Instr.sameBits, MapKept.bytes_beq]
              | [], _ :: _, _, _, h => simp [eqCells] at h
              | _ :: _, [], _, _, h => simp [eqCells] at h
              | _ :: _, _ :: _, _, _, h => simp [eqCells] at h
        | [], _, _, _, h => simp [eqCells] at h
        | _ :: _, [], _, _, h => simp [eqCells] at h
  | [], _, _, _, h => simp [eqCells] at h
  | _ :: _, [], _, _, h => simp [eqCells] at h

theorem eqKey3_inv {x y : AVal} {b : Bool} (h : eqKey 3 x y = some b) : ∃ l m, x = .agg l ∧ y = .agg m ∧ eqCells [1, 2] l m = some b := by
  unfold eqKey at h
  split at h
  · split at h
    · exact ⟨_, _, rfl, rfl, h⟩
    · cases h
  · rename_i hne
    exact absurd rfl hne
theorem agg_inv {l : List AVal} {v : Value} (h : VRel ρ (.agg l) v) : ∃ us, v = .agg us.toArray ∧ VRels ρ l us ∧ ∀ u ∈ us, u.oneCell' = true := by
  cases h with
  | agg h h1 => exact ⟨_, rfl, h, h1⟩
theorem mfind_agg {kt : TypeId} {fs : Array Field} (ht : P.underlying kt = some (.struct fs)) (hp : plainStruct P kt fs.toList = some [1, 2]) {k : AVal} {u : Value} (hk : VRel ρ k u) : ∀ (l : List (AVal × AVal)) (es : List MapEntry) (n i : Nat) (r : Option (Nat × AVal)), MRel ρ l es n → mfind 3 k l i = some r →
    match r with
    | none => (Instr.findAsking kt u es i).run P w = .ok none w
    | some (j, v) => ∃ m e, j = i + m ∧ (Instr.findAsking kt u es i).run P w = .ok (some (j, e.val)) w ∧ es[m]? = some e ∧ VRel ρ v e.val ∧ e.key = u ∧ Instr.sameBits 10000 u u = true
  | [], [], _, _, r, _, h => by
    simp only [mfind] at h
    split at h
    · simp at h; subst h; simp [Instr.findAsking]
    · cases h
  | [], _ :: _, _, _, _, hm, _ => hm.elim
  | _ :: _, [], _, _, _, hm, _ => hm.elim
  | x :: l, e :: es, n, i, r, hm, h => by
    obtain ⟨m1, m2, m3, m4⟩ := hm
    obtain ⟨x1, x2⟩ := x
    simp only [mfind] at h
    cases hc : eqKey 3 k x1 with
    | none => rw [hc] at h; cases h
    | some b =>
      rw [hc] at h
      obtain ⟨l1, l2, rfl, rfl, hc'⟩ := eqKey3_inv hc
      obtain ⟨us, rfl, hl1, ho1⟩ := agg_inv hk
      obtain ⟨ws, hkey, hl2, ho2⟩ := agg_inv m1
      have heq := plain_equal (P := P) (w := w) ht hp hl1 hl2 hc'
      rw [← hkey] at heq
      cases b with
      | true =>
        simp at h
        subst h
        obtain ⟨g3, g4⟩ := two_same hl1 hl2 hc'
        exact ⟨0, e, rfl, by simp [Instr.findAsking, heq], rfl, m2, by rw [hkey, g3], g4⟩
      | false =>
        simp only at h
        have ih := mfind_agg ht hp (.agg hl1 ho1) l es (n + 1) (i + 1) r m4 h
        cases r with
        | none => simpa [Instr.findAsking, heq] using ih
        | some q =>
          obtain ⟨j, v⟩ := q
          obtain ⟨m, e', q1, q2, q3, q4, q5, q6⟩ := ih
          exact ⟨m + 1, e', by omega, by simp [Instr.findAsking, heq, q2], by simpa using q3, q4, q5, q6⟩

/-- What a map's keys are, and how they are found. -/
inductive KeyOk (P : Program) (kt : TypeId) : Nat → Prop
  | plain {kk : Nat} {d : TypeDesc} (hd : P.underlying kt = some d) (hk : KindD kk d) : KeyOk P kt kk
  | agg {fs : Array Field} (ht : P.underlying kt = some (.struct fs)) (hp : plainStruct P kt fs.toList = some [1, 2]) : KeyOk P kt 3
theorem mapKey_ok {t : TypeId} {kk : Nat} (h : mapKey P t = some kk) : KeyOk P t kk := by
  unfold mapKey at h
  split at h
  · rename_i hq; simp at h; subst h; exact .plain hq trivial
  · rename_i hq; simp at h; subst h; exact .plain hq trivial
  · rename_i hq; simp at h; subst h; exact .plain hq trivial
  · rename_i fs hq
    split at h
    · rename_i hp; simp at h; subst h; exact .agg hq hp
    · cases h
  · cases h
theorem findKey_ok {kt : TypeId} {kk : Nat} (h : KeyOk P kt kk) {k : AVal} {u : Value} (hk : VRel ρ k u) {l : List (AVal × AVal)} {es : List MapEntry} {r : Option (Nat × AVal)} (hm : MRel ρ l es 0) (hf : mfind kk k l 0 = some r) :
    match r with
    | none => (Instr.findKey kt u es).run P w = .ok none w
    | some (j, v) => ∃ e, (Instr.findKey kt u es).run P w = .ok (some (j, e.val)) w ∧ es[j]? = some e ∧ VRel ρ v e.val ∧ e.key = u ∧ Instr.sameBits 10000 u u = true := by
  cases h with
  | plain hd hkd =>
    have := mfind_rel hkd hk l es 0 0 r hm hf
    cases r with
    | none => exact MapKept.run_findKey hd this
    | some q =>
      obtain ⟨j, v⟩ := q
      obtain ⟨m, e, q1, q2, q3, q4, q5, q6⟩ := this
      obtain rfl : j = m := by omega
      exact ⟨e, MapKept.run_findKey hd q2, q3, q4, q5, q6⟩
  | agg ht hp =>
    have := mfind_agg (w := w) ht hp hk l es 0 0 r hm hf
    have key : (Instr.findKey kt u es).run P w = (Instr.findAsking kt u es 0).run P w ∨ es = [] := by
      cases es with
      | nil => exact .inr rfl
      | cons e es =>
        refine .inl ?_
        simp [Instr.findKey, run_underlying ht, Instr.findNow, Instr.sameNow]
    cases r with
    | none =>
      rcases key with h | rfl
      · rw [h]; exact this
      · simp [Instr.findKey, run_underlying ht, Instr.findNow]
    | some q =>
      obtain ⟨j, v⟩ := q
      obtain ⟨m, e, q1, q2, q3, q4, q5, q6⟩ := this
      obtain rfl : j = m := by omega
      rcases key with h | rfl
      · exact ⟨e, by rw [h]; exact q2, q3, q4, q5, q6⟩
      · simp at q3
theorem mfind_good {k : AVal} : ∀ {l : List (AVal × AVal)} {i : Nat} {r : Option (Nat × AVal)}, mfind 3 k l i = some r → ∃ n c b, k = .agg [.str n c, .bool b]
  | [], i, r, h => by
    simp only [mfind] at h
    split at h
    · rename_i hg
      unfold goodKey at hg
      split at hg
      · split at hg
        · exact ⟨_, _, _, rfl⟩
        · cases hg
      · rename_i hne
        exact absurd rfl hne
    · cases h
  | e :: l, i, r, h => by
    simp only [mfind] at h
    split at h
    · cases h
    · rename_i hc
      obtain ⟨l1, l2, rfl, h2, h3⟩ := eqKey3_inv hc
      match l1, l2, h3 with
      | x :: l1, y :: l2, h3 =>
        simp only [eqCells] at h3
        split at h3
        · rename_i h4
          match l1, l2, h3 with
          | x' :: l1, y' :: l2, h3 =>
            simp only [eqCells] at h3
            split at h3
            · rename_i h5
              match l1, l2, h3 with
              | [], [], h3 =>
                cases x <;> cases y <;> try (simp [eqCell] at h4; done)
                cases x' <;> cases y' <;> try (simp [eqCell] at h5; done)
                exact ⟨_, _, _, rfl⟩
              | [], _ :: _, h3 => simp [eqCells] at h3
              | _ :: _, [], h3 => simp [eqCells] at h3
              | _ :: _, _ :: _, h3 => simp [eqCells] at h3
            · cases h3
            · cases h3
          | [], _, h3 => simp [eqCells] at h3
          | _ :: _, [], h3 => simp [eqCells] at h3
        · cases h3
        · cases h3
      | [], _, h3 => simp [eqCells] at h3
      | _ :: _, [], h3 => simp [eqCells] at h3
    · exact mfind_good h
theorem checkKey_ok {kt : TypeId} {kk : Nat} (h : KeyOk P kt kk) {k : AVal} {u : Value} (hk : VRel ρ k u) {l : List (AVal × AVal)} {r : Option (Nat × AVal)} (hf : mfind kk k l 0 = some r) (e : Bool) : (Instr.checkKey e 10000 kt u).run P w = .ok () w := by
  cases h with
  | plain hd hkd => exact run_checkKey_kind hd hkd e 9999
  | agg ht hp =>
    rename_i fs
    obtain ⟨n, c, b, rfl⟩ := mfind_good hf
    obtain ⟨us, rfl, hus, _⟩ := agg_inv hk
    match us, hus with
    | [u1, u2], .cons h1 (.cons h2 .nil) =>
      unfold plainStruct at hp
      split at hp
      · obtain ⟨fl⟩ := fs
        match fl, hp with
        | [], hp => simp [plainKinds] at hp
        | [f], hp =>
          simp only [plainKinds] at hp
          split at hp
          · split at hp <;> simp_all [plainKinds]
          · cases hp
        | f :: g :: rest, hp =>
          have hp' : plainKinds P (f :: g :: rest) 0 = some [1, 2] := hp
          unfold plainKinds at hp'
          split at hp'
          · rename_i hf1
            simp only [Bool.and_eq_true, bne_iff_ne, ne_eq, beq_iff_eq] at hf1
            split at hp'
            · simp at hp'
            · rename_i r ht1 hr1
              simp at hp'
              subst hp'
              unfold plainKinds at hr1
              split at hr1
              · rename_i hg1
                simp only [Bool.and_eq_true, bne_iff_ne, ne_eq, beq_iff_eq] at hg1
                split at hr1
                · simp at hr1
                · simp at hr1
                · rename_i r2 ht2 hr2
                  simp at hr1
                  subst hr1
                  cases rest with
                  | cons z rest =>
                    unfold plainKinds at hr2
                    split at hr2
                    · split at hr2 <;> simp at hr2
                    · cases hr2
                  | nil =>
                    have o1 : isOne P f.type = true := by unfold isOne; rw [ht1]
                    have o2 : isOne P g.type = true := by unfold isOne; rw [ht2]
                    have p1 : ∀ w : World, (part f.type #[u1, u2] f.offset).run P w = .ok u1 w := fun w => by simp [part, run_isAgg_one o1, hf1.2]
                    have p2 : ∀ w : World, (part g.type #[u1, u2] g.offset).run P w = .ok u2 w := fun w => by simp [part, run_isAgg_one o2, hg1.2]
                    have c1 : ∀ w : World, (Instr.checkKey e 9999 f.type u1).run P w = .ok () w := fun w => run_checkKey_kind (kk := 1) ht1 trivial e 9998
                    have c2 : ∀ w : World, (Instr.checkKey e 9999 g.type u2).run P w = .ok () w := fun w => run_checkKey_kind (kk := 2) ht2 trivial e 9998
                    show (Instr.checkKey e (9999 + 1) kt _).run P w = _
                    unfold Instr.checkKey
                    simp [run_underlying ht, hf1.1, hg1.1, p1, p2, c1, c2]
                · cases hr1
              · cases hr1
            · simp at hp'
            · cases hp'
          · cases hp'
      · cases hp

theorem MRel.set {x : AVal} {f : MapEntry → MapEntry} : ∀ {l : List (AVal × AVal)} {es : List MapEntry} {n m : Nat}, MRel ρ l es n → (∀ e, es[m]? = some e → (f e).key = e.key ∧ (f e).born = e.born ∧ VRel ρ x (f e).val) → MRel ρ (mset l m x) (es.modify m f) n
  | [], [], _, _, _, _ => by simp [mset, MRel]
  | [], _ :: _, _, _, h, _ => h.elim
  | _ :: _, [], _, _, h, _ => h.elim
  | y :: l, e :: es, n, 0, h, hf => by
    obtain ⟨m1, m2, m3, m4⟩ := h
    obtain ⟨f1, f2, f3⟩ := hf e rfl
    simp only [mset, List.modify_zero_cons]
    exact ⟨by rw [f1]; exact m1, f3, by rw [f2]; exact m3, m4⟩
  | y :: l, e :: es, n, m + 1, h, hf => by
    obtain ⟨m1, m2, m3, m4⟩ := h
    simp only [mset, List.modify_succ_cons]
    exact ⟨m1, m2, m3, MRel.set m4 fun e' he' => hf e' (by simpa using he')⟩
theorem MRel.push {k v : AVal} {key val : Value} (hk : VRel ρ k key) (hv : VRel ρ v val) : ∀ {l : List (AVal × AVal)} {es : List MapEntry} {n : Nat}, MRel ρ l es n → MRel ρ (madd l k v) (es ++ [⟨key, val, n + es.length⟩]) n
  | [], [], n, _ => ⟨hk, hv, by simp, trivial⟩
  | [], _ :: _, _, h => h.elim
  | _ :: _, [], _, h => h.elim
  | y :: l, e :: es, n, h => by
    obtain ⟨m1, m2, m3, m4⟩ := h
    refine ⟨m1, m2, m3, ?_⟩
    have := MRel.push hk hv m4
    simp only [List.length_cons]
    rwa [show n + (es.length + 1) = n + 1 + es.length from by omega]

theorem mapOf_rel {x : AVal} {u : Value} (hx : VRel ρ x u) (hH : HRel ρ H w) {l : List (AVal × AVal)} (h : mapOf H x = some l) :
    ∃ es : Array MapEntry, MRel ρ l es.toList 0 ∧ ((u = .map none ∧ es = #[]) ∨ ∃ r, u = .map (some r) ∧ w.heap[r]? = some (.map es es.size)) := by
  cases hx <;> try (simp [mapOf] at h; done)
  case nilm =>
    simp [mapOf] at h
    subst h
    exact ⟨#[], trivial, .inl ⟨rfl, rfl⟩⟩
  case mp b S e =>
    simp only [mapOf] at h
    have hB := hH.blk _ _ e
    cases hb : H.get b with
    | dead => rw [hb] at h; cases h
    | rows z l => rw [hb] at h; cases h
    | ro l => rw [hb] at h; cases h
    | obj o =>
      rw [hb] at h hB
      cases o with
      | siter _ _ _ => cases h
      | miter _ _ _ _ => cases h
      | loop _ _ => cases h
      | dfr => cases h
      | busy => cases h
      | map l' =>
        simp at h
        subst h
        obtain ⟨h0, o, h1, es, rfl, h2⟩ := hB
        exact ⟨es, h2, .inr ⟨_, rfl, h1⟩⟩

theorem zeroVal_run {t : TypeId} {z : AVal} (h : zeroVal P t = some z) : ∃ v, VRel ρ z v ∧ ∀ w, (zeroValue t).run P w = .ok v w := by
  unfold zeroVal at h
  cases hi : P.info? t with
  | none => rw [hi] at h; cases h
  | some i =>
    rw [hi] at h
    simp only at h
    cases hz : i.zero with
    | none => rw [hz] at h; cases h
    | some v =>
      rw [hz] at h
      exact ⟨v, cVal_rel h, fun w => run_zero hi hz w⟩

theorem y_lkp {t kt et : TypeId} {kk : Nat} {z : AVal} {ok : Bool} (ht : P.underlying t = some (.map kt et)) (hkk : mapKey P kt = some kk) (hz : zeroVal P et = some z) {x k : Opd} {u v : Value} (hx : VRel ρ (x.get vs ts) u) (hk : VRel ρ (k.get vs ts) v) (hH : HRel ρ H w)
    (h : A.holds (evI A call (.lkp z kk ok x k) vs ts H K)) :
    ∃ x v', A.holds (K x H) ∧ (Instr.lookup t u v ok).run P w = .ok v' w ∧ VRel ρ x v' := by
  simp only [evI] at h
  have hko := mapKey_ok hkk
  obtain ⟨z', hz1, hz2⟩ := zeroVal_run (ρ := ρ) hz
  cases hm : mapOf H (x.get vs ts) with
  | none => rw [hm] at h; exact (A.fail_no h).elim
  | some l =>
    rw [hm] at h
    obtain ⟨es, h1, h2⟩ := mapOf_rel hx hH hm
    simp only at h
    cases hf : mfind kk (k.get vs ts) l 0 with
    | none => rw [hf] at h; exact (A.fail_no h).elim
    | some r =>
      rw [hf] at h
      have hr := findKey_ok (w := w) hko hk h1 hf
      have hck := fun e => checkKey_ok (w := w) hko hk hf e
      have run : ∀ (a : Option (Nat × Value)), (Instr.findKey kt v es.toList).run P w = .ok a w → (Instr.lookup t u v ok).run P w = .ok (if ok then .tuple #[(match a with | some (_, y) => y | none => z'), .bool a.isSome] else (match a with | some (_, y) => y | none => z')) w := by
        intro a ha
        rcases h2 with ⟨rfl, rfl⟩ | ⟨r, rfl, hr'⟩
        · cases a with
          | none => simp [Instr.lookup, run_underlying ht, hck, ha, hz2]
          | some q => simp [Instr.lookup, run_underlying ht, hck, ha]
        · cases a with
          | none => simp [Instr.lookup, run_underlying ht, MapKept.run_getObj_map hr', hck, ha, hz2]
          | some q => simp [Instr.lookup, run_underlying ht, MapKept.run_getObj_map hr', hck, ha]
      cases r with
      | none =>
        simp only at hr h
        cases ok
        · exact ⟨_, _, h, run _ hr, hz1⟩
        · exact ⟨_, _, h, run _ hr, .tup (.cons hz1 (.cons (.bool _) .nil))⟩
      | some q =>
        obtain ⟨j, y⟩ := q
        obtain ⟨e, q2, q3, q4, q5, q6⟩ := hr
        simp only at h
        cases ok
        · exact ⟨_, _, h, run _ q2, q4⟩
        · exact ⟨_, _, h, run _ q2, .tup (.cons q4 (.cons (.bool _) .nil))⟩

theorem y_mupd {t kt et : TypeId} {kk : Nat} (ht : P.underlying t = some (.map kt et)) (hkk : mapKey P kt = some kk) {m k v : Opd} {u y z : Value} (hx : VRel ρ (m.get vs ts) u) (hk : VRel ρ (k.get vs ts) y) (hv : VRel ρ (v.get vs ts) z) (hH : HRel ρ H w)
    (h : A.holds (evI A call (.mupd kk m k v) vs ts H K)) :
    ∃ H' w', A.holds (K (.tup []) H') ∧ (Instr.mapUpdate t u y z).run P w = .ok () w' ∧ Step ρ H w ρ H' w' := by
  simp only [evI] at h
  have hko := mapKey_ok hkk
  generalize m.get vs ts = X at hx h
  cases hx <;> try exact (A.fail_no h).elim
  rename_i b S e
  simp only at h
  have hB := hH.blk _ _ e
  cases hb : H.get b with
  | dead => rw [hb] at h; exact (A.fail_no h).elim
  | rows z l => rw [hb] at h; exact (A.fail_no h).elim
  | ro l => rw [hb] at h; exact (A.fail_no h).elim
  | obj o =>
    rw [hb] at h hB
    cases o with
    | siter _ _ _ => exact (A.fail_no h).elim
    | miter _ _ _ _ => exact (A.fail_no h).elim
    | loop _ _ => exact (A.fail_no h).elim
    | dfr => exact (A.fail_no h).elim
    | busy => exact (A.fail_no h).elim
    | map l =>
      obtain ⟨h0, o, h1, es, rfl, h2⟩ := hB
      simp only at h
      cases hf : mfind kk (k.get vs ts) l 0 with
      | none => rw [hf] at h; exact (A.fail_no h).elim
      | some r =>
        rw [hf] at h
        have hr := findKey_ok (w := w) hko hk h2 hf
        have hck := fun e => checkKey_ok (w := w) hko hk hf e
        cases r with
        | none =>
          simp only [fL_eq] at hr h
          obtain ⟨_, h⟩ := hPut_holds h
          refine ⟨_, putO w S.blk (.map (es.push ⟨y, z, es.size⟩) (es.size + 1)), h, ?_, Step.putObj hH b S e _ hb _ _ ⟨es.push ⟨y, z, es.size⟩, by simp, ?_⟩⟩
          · simp [Instr.mapUpdate, run_underlying ht, MapKept.run_getObj_map h1, hck, hr, MapKept.run_setObj_map _ h1, putO]
          · have := MRel.push hk hv h2
            simpa using this
        | some q =>
          obtain ⟨j, q'⟩ := q
          obtain ⟨en, q2, q3, q4, q5, q6⟩ := hr
          simp only [fL_eq] at h
          obtain ⟨_, h⟩ := hPut_holds h
          have hes : es[j]? = some en := by simpa using q3
          refine ⟨_, putO w S.blk (.map (es.modify j fun e => { e with key := y, val := z }) es.size), h, ?_, Step.putObj hH b S e _ hb _ _ ⟨es.modify j fun e => { e with key := y, val := z }, by simp, ?_⟩⟩
          · simp [Instr.mapUpdate, run_underlying ht, MapKept.run_getObj_map h1, hck, q2, hes, q5, Instr.keyThatStays, q6, MapKept.run_setObj_map _ h1, putO]
          · have := MRel.set (m := j) (x := v.get vs ts) (f := fun e => { e with key := y, val := z }) h2 fun e' he' => by
              rw [q3] at he'
              cases he'
              exact ⟨q5.symm, rfl, hv⟩
            simpa using this

end more
end Dt

namespace Dt
open Go Go.RowKit
set_option linter.all false
variable [LoopTab]
/-! ### Nil, interfaces, entries, ranges over maps -/
section newer
variable {R : Type} {A : Alg R} {P : Program} {call : Nat → List AVal → Heap → (AVal → Heap → R) → R} {vs ts : List AVal} {ρ : Env} {H : Heap} {w : World} {K : AVal → Heap → R}

/-- The nil of a kind. -/
inductive NilK (P : Program) (t : TypeId) : Nat → Value → Prop
  | iface {ms} (ht : P.underlying t = some (.interface ms)) : NilK P t 0 .nilIface
  | slice {e} (ht : P.underlying t = some (.slice e)) : NilK P t 1 (.slice none 0 0)
  | map {k e} (ht : P.underlying t = some (.map k e)) : NilK P t 2 (.map none)
  | func {a b c} (ht : P.underlying t = some (.func a b c)) : NilK P t 3 .nilFunc

theorem y_binN {op : BinOp} {neg : Bool} (hop : (op = .eql ∧ neg = false) ∨ (op = .neq ∧ neg = true)) {t : TypeId} {k : Nat} {ox : Operand} {u v : Value} (hk : NilK P t k v) {x : Opd} (hx : VRel ρ (x.get vs ts) u) (h : A.holds (evI A call (.binN neg k x) vs ts H K)) :
    Pure P (do eqGuard op t ox (.const v) u v; binOp op t u v) ρ H (fun x H => A.holds (K x H)) := by
  simp only [evI] at h
  generalize x.get vs ts = X at hx h
  cases hb : isNil k X with
  | none => rw [hb] at h; exact (A.fail_no h).elim
  | some b =>
    rw [hb] at h
    simp only [fB_eq] at h
    have key : (∀ w, (Op.equal t u v).run P w = .ok b w) ∧ (∀ w, (eqGuard op t ox (.const v) u v).run P w = .ok () w) ∧ (∀ w, (binOp op t u v).run P w = .ok (.bool (b != neg)) w) := by
      have go : (∀ w d, (Op.equalIn (d + 1) t u v).run P w = .ok b w) → (∀ w, (eqGuard op t ox (.const v) u v).run P w = .ok () w) → ((∀ w, (Op.equal t u v).run P w = .ok b w) → ∀ w, (binOp op t u v).run P w = .ok (.bool (b != neg)) w) →
          (∀ w, (Op.equal t u v).run P w = .ok b w) ∧ (∀ w, (eqGuard op t ox (.const v) u v).run P w = .ok () w) ∧ (∀ w, (binOp op t u v).run P w = .ok (.bool (b != neg)) w) :=
        fun h1 h2 h3 => ⟨fun w => h1 w 9999, h2, h3 fun w => h1 w 9999⟩
      cases hk with
      | iface ht =>
        cases hx <;> simp [isNil] at hb <;> subst hb <;> refine go (fun w d => by simp [Op.equalIn, run_underlying ht]) (fun w => ?_) (fun he w => ?_) <;> rcases hop with ⟨rfl, rfl⟩ | ⟨rfl, rfl⟩ <;> simp_all [eqGuard, binOp]
      | slice ht =>
        cases hx <;> simp [isNil] at hb <;> subst hb <;> refine go (fun w d => by simp [Op.equalIn, run_underlying ht]) (fun w => ?_) (fun he w => ?_) <;> rcases hop with ⟨rfl, rfl⟩ | ⟨rfl, rfl⟩ <;> simp_all [eqGuard, binOp]
      | map ht =>
        cases hx <;> simp [isNil] at hb <;> subst hb <;> refine go (fun w d => by simp [Op.equalIn, run_underlying ht]) (fun w => ?_) (fun he w => ?_) <;> rcases hop with ⟨rfl, rfl⟩ | ⟨rfl, rfl⟩ <;> simp_all [eqGuard, binOp]
      | func ht =>
        cases hx <;> simp [isNil] at hb <;> subst hb <;> refine go (fun w d => by simp [Op.equalIn, run_underlying ht]) (fun w => ?_) (fun he w => ?_) <;> rcases hop with ⟨rfl, rfl⟩ | ⟨rfl, rfl⟩ <;> simp_all [eqGuard, binOp]
    exact Pure.here (v := .bool (b != neg)) h (fun w => by simp [key.2.1, key.2.2]) (.bool _)

theorem y_mkif {t : TypeId} {d : TypeDesc} (ht : P.underlying t = some d) (hd : ∀ ms, d ≠ .interface ms) {x : Opd} {u : Value} (hx : VRel ρ (x.get vs ts) u) (hH : HRel ρ H w) (h : A.holds (evI A call (.mkif t x) vs ts H K)) :
    Yields P (Instr.makeInterface t u) ρ H w (fun x H => A.holds (K x H)) := by
  simp only [evI] at h
  refine Yields.here (v := .iface t u) hH h ?_ (.iface t hx)
  cases d <;> first | (exact absurd rfl (hd _)) | simp [Instr.makeInterface, run_underlying ht]

theorem y_tas {t xt : TypeId} {d : TypeDesc} (ht : P.underlying t = some d) (hd : ∀ ms, d ≠ .interface ms) {z : AVal} (hz : zeroVal P t = some z) {x : Opd} {u : Value} (hx : VRel ρ (x.get vs ts) u) (hH : HRel ρ H w) (h : A.holds (evI A call (.tas t z x) vs ts H K)) :
    Yields P (Instr.typeAssert u xt t true) ρ H w (fun x H => A.holds (K x H)) := by
  simp only [evI] at h
  obtain ⟨z', hz1, hz2⟩ := zeroVal_run (ρ := ρ) hz
  generalize x.get vs ts = X at hx h
  have fails : ∀ (u : Value), (u = .nilIface ∨ ∃ t' v, u = .iface t' v ∧ t' ≠ t) → (Instr.typeAssert u xt t true).run P w = .ok (.tuple #[z', .bool false]) w := by
    intro u hu
    rcases hu with rfl | ⟨t', v, rfl, hne⟩
    · cases d <;> first | (exact absurd rfl (hd _)) | simp [Instr.typeAssert, run_underlying ht, hz2]
    · cases d <;> first | (exact absurd rfl (hd _)) | simp [Instr.typeAssert, run_underlying ht, hz2, hne]
  cases hx <;> try exact (A.fail_no h).elim
  case iface t' v' v hv =>
    simp only at h
    split at h
    · rename_i hb
      have : t' = t := by simpa using hb
      subst this
      refine Yields.here (v := .tuple #[v, .bool true]) hH h ?_ (.tup (.cons hv (.cons (.bool _) .nil)))
      cases d <;> first | (exact absurd rfl (hd _)) | simp [Instr.typeAssert, run_underlying ht]
    · rename_i hb
      have hne : t' ≠ t := by
        intro he
        rw [he] at hb
        simp at hb
      exact Yields.here hH h (fails _ (.inr ⟨_, _, rfl, hne⟩)) (.tup (.cons hz1 (.cons (.bool _) .nil)))
  case nili =>
    exact Yields.here hH h (fails _ (.inl rfl)) (.tup (.cons hz1 (.cons (.bool _) .nil)))

theorem y_idxAg {t e : TypeId} {n : Nat} (ht : P.underlying t = some (.array n e)) (ho : isMany P e = true) {x i : Opd} {u v : Value} (hx : VRel ρ (x.get vs ts) u) (hi : VRel ρ (i.get vs ts) v) (h : A.holds (evI A call (.idxAg n (P.cellsOf e) x i) vs ts H K)) :
    Pure P (Instr.index t u v) ρ H (fun x H => A.holds (K x H)) := by
  simp only [evI] at h
  generalize x.get vs ts = X at hx h
  generalize i.get vs ts = I at hi h
  cases hx <;> cases hi <;> try exact (A.fail_no h).elim
  rename_i l us hs h1 k m
  cases m with
  | negSucc m => exact (A.fail_no h).elim
  | ofNat m =>
    simp only at h
    split at h
    · rename_i hb
      have hlt : m < n := by
        unfold Nat.blt at hb
        exact Nat.le_of_ble_eq_true hb
      cases hc : cut l (m * P.cellsOf e) (P.cellsOf e) with
      | none => rw [hc] at h; exact (A.fail_no h).elim
      | some cs =>
        rw [hc] at h
        simp only [fL_eq] at h
        obtain ⟨hcs, _, hlen⟩ := cut_eq _ _ _ _ hc
        obtain ⟨j, hj⟩ := info_of_many ho
        have hce : P.cellsOf e = j.size := by simp [Program.cellsOf, hj]
        have hl := hs.length
        have hin : (0 : Int) ≤ Int.ofNat m ∧ Int.ofNat m < (n : Int) := by simp; omega
        refine Pure.here (v := .agg ((us.drop (m * P.cellsOf e)).take (P.cellsOf e)).toArray) h (fun w => ?_) (.agg (VRels.mk ?_ ?_) ?_)
        · have h0 : (0 : Int) ≤ (m : Int) ∧ (m : Int) < (n : Int) := hin
          have e1 : (Instr.index t (.agg us.toArray) (.int k (Int.ofNat m))).run P w = (part e us.toArray (m * j.size)).run P w := by
            simp [Instr.index, run_underlying ht, asIntOf, h0, hlt, run_sizeOf hj, hce]
          rw [e1]
          simp [part, run_isAgg_many ho, run_sizeOf hj, List.extract_toArray, hce]
        · rw [hcs, List.length_take, List.length_take, List.length_drop, List.length_drop, hl]
        · intro k a u ha hu
          rw [hcs, List.getElem?_take] at ha
          rw [List.getElem?_take] at hu
          split at ha
          · rename_i hk
            rw [if_pos hk, List.getElem?_drop] at hu
            rw [List.getElem?_drop] at ha
            obtain ⟨u', hu', hr⟩ := hs.get _ _ ha
            rw [hu] at hu'
            simp at hu'
            subst hu'
            exact hr
          · cases ha
        · intro u hu
          exact h1 u (List.mem_of_mem_drop (List.mem_of_mem_take hu))
    · exact (A.fail_no h).elim

theorem y_minI {ty : TypeId} {tys : Array TypeId} {x y : Opd} {u v : Value} (hx : VRel ρ (x.get vs ts) u) (hy : VRel ρ (y.get vs ts) v) (h : A.holds (evI A call (.minI x y) vs ts H K)) :
    Pure P (Builtin.min_ tys ty #[u, v]) ρ H (fun x H => A.holds (K x H)) := by
  simp only [evI] at h
  generalize x.get vs ts = X at hx h
  generalize y.get vs ts = Y at hy h
  cases hx <;> cases hy <;> try exact (A.fail_no h).elim
  rename_i k a k' b
  simp only at h
  cases hle : ile a b with
  | true =>
    rw [hle] at h
    have hab : a ≤ b := by rw [ile_eq] at hle; simpa using hle
    have : ¬ b < a := by omega
    exact Pure.here (v := .int k a) h (fun w => by simp [Builtin.min_, Builtin.min2, this]) (.int _ _)
  | false =>
    rw [hle] at h
    have hab : ¬ a ≤ b := by rw [ile_eq] at hle; simpa using hle
    have : b < a := by omega
    exact Pure.here (v := .int k b) h (fun w => by simp [Builtin.min_, Builtin.min2, this]) (.int _ _)
end newer
end Dt

namespace Dt
open Go Go.RowKit
set_option linter.all false
variable [LoopTab]
/-! ### Two pointers, entries, ranges over maps -/
section newest
variable {R : Type} {A : Alg R} {P : Program} {call : Nat → List AVal → Heap → (AVal → Heap → R) → R} {vs ts : List AVal} {ρ : Env} {H : Heap} {w : World} {K : AVal → Heap → R}

theorem y_binPP {op : BinOp} {neg : Bool} (hop : (op = .eql ∧ neg = false) ∨ (op = .neq ∧ neg = true)) {t e : TypeId} (ht : P.underlying t = some (.pointer e)) (hz : P.cellsOf e ≠ 0) {ox oy : Operand} {x y : Opd} {u v : Value} (hx : VRel ρ (x.get vs ts) u) (hy : VRel ρ (y.get vs ts) v) (hH : HRel ρ H w)
    (h : A.holds (evI A call (.binPP neg x y) vs ts H K)) : Yields P (do eqGuard op t ox oy u v; binOp op t u v) ρ H w (fun x H => A.holds (K x H)) := by
  simp only [evI] at h
  generalize x.get vs ts = X at hx h
  generalize y.get vs ts = Y at hy h
  obtain ⟨j, hj⟩ : ∃ j, P.info? e = some j := by
    cases hh : P.info? e with
    | none => simp [Program.cellsOf, hh] at hz
    | some j => exact ⟨j, rfl⟩
  have hsz : j.size ≠ 0 := by simpa [Program.cellsOf, hj] using hz
  have fin : ∀ (b : Bool) (a c : Option Addr), u = .pointer a → v = .pointer c → (∀ d, (Op.equalIn (d + 1) t (.pointer a) (.pointer c)).run P w = .ok b w) → A.holds (K (.bool (b != neg)) H) → Yields P (do eqGuard op t ox oy u v; binOp op t u v) ρ H w (fun x H => A.holds (K x H)) := by
    intro b a c hu hv he hk
    subst hu; subst hv
    have he' : (Op.equal t (.pointer a) (.pointer c)).run P w = .ok b w := he 9999
    refine Yields.here (v := .bool (b != neg)) hH hk ?_ (.bool _)
    rcases hop with ⟨rfl, rfl⟩ | ⟨rfl, rfl⟩ <;> simp [binOp, eqGuard_at_pointer, he']
  cases hx <;> cases hy <;> try exact (A.fail_no h).elim
  case ptr.ptr b S es r c b' S' es' r' c' =>
    simp only at h
    split at h
    · rename_i hb
      have : b = b' := by simpa using hb
      subst this
      rw [es] at es'
      obtain rfl : S = S' := by simpa using es'
      split at h
      · rename_i hrc
        obtain ⟨rfl, rfl⟩ : r = r' ∧ c = c' := by simpa using hrc
        refine fin true _ _ rfl rfl (fun d => ?_) (by simpa using h)
        simp [Op.equalIn, run_underlying ht, run_sizeOf hj, hz, hsz, run_sameAddr_same]
      · exact (A.fail_no h).elim
    · rename_i hb
      have hne : b ≠ b' := by
        intro he
        rw [he] at hb
        simp at hb
      split at h
      · rename_i z1 l1 z2 l2 h1 h2
        have B1 := hH.blk _ _ es
        have B2 := hH.blk _ _ es'
        rw [h1] at B1
        rw [h2] at B2
        obtain ⟨_, _, _, _, ca, ta, g1, _⟩ := B1
        obtain ⟨_, _, _, _, cb, tb, g2, _⟩ := B2
        have hblk : S.blk ≠ S'.blk := fun he => hne (hH.inj _ _ _ _ es es' (by rw [h1]; simp) (by rw [h2]; simp) he)
        refine fin false _ _ rfl rfl (fun d => ?_) (by simpa using h)
        have := run_sameAddr_other (P := P) w (a := ⟨S.blk, S.off + r * S.esz + c, none⟩) (b := ⟨S'.blk, S'.off + r' * S'.esz + c', none⟩) (fun he => hblk (by simpa using congrArg Addr.block he)) g1 g2
        simp [Op.equalIn, run_underlying ht, run_sizeOf hj, hz, hsz, this]
      · exact (A.fail_no h).elim
  case ptr.nilp =>
    refine fin false _ _ rfl rfl (fun d => ?_) (by simpa using h)
    simp [Op.equalIn, run_underlying ht]
  case nilp.ptr =>
    refine fin false _ _ rfl rfl (fun d => ?_) (by simpa using h)
    simp [Op.equalIn, run_underlying ht]
  case nilp.nilp =>
    refine fin true _ _ rfl rfl (fun d => ?_) (by simpa using h)
    simp [Op.equalIn, run_underlying ht]

theorem MRel.born : ∀ {l : List (AVal × AVal)} {es : List MapEntry} {n : Nat}, MRel ρ l es n → ∀ {i : Nat} {e : MapEntry}, es[i]? = some e → e.born = n + i
  | [], [], _, _, i, e, he => by simp at he
  | x :: l, y :: es, n, h, 0, e, he => by simp at he; subst he; simpa using h.2.2.1
  | x :: l, y :: es, n, h, i + 1, e, he => by
    have := MRel.born h.2.2.2 (i := i) (e := e) (by simpa using he)
    omega
  | [], _ :: _, _, h, _, _, _ => h.elim
  | _ :: _, [], _, h, _, _, _ => h.elim
theorem MRel.len : ∀ {l : List (AVal × AVal)} {es : List MapEntry} {n : Nat}, MRel ρ l es n → mlen l = es.length
  | [], [], _, _ => rfl
  | x :: l, y :: es, n, h => by simp [mlen, MRel.len h.2.2.2]
  | [], _ :: _, _, h => h.elim
  | _ :: _, [], _, h => h.elim
theorem MRel.get : ∀ {l : List (AVal × AVal)} {es : List MapEntry} {n : Nat}, MRel ρ l es n → ∀ {i : Nat} {x : AVal × AVal}, mget l i = some x → ∃ e, es[i]? = some e ∧ VRel ρ x.1 e.key ∧ VRel ρ x.2 e.val
  | [], [], _, _, i, x, hx => by simp [mget] at hx
  | y :: l, e :: es, n, h, 0, x, hx => by
    simp [mget] at hx
    subst hx
    exact ⟨e, rfl, h.1, h.2.1⟩
  | y :: l, e :: es, n, h, i + 1, x, hx => by
    obtain ⟨e', h1, h2⟩ := MRel.get h.2.2.2 (i := i) (x := x) (by simpa [mget] using hx)
    exact ⟨e', by simpa using h1, h2⟩
  | [], _ :: _, _, h, _, _, _ => h.elim
  | _ :: _, [], _, h, _, _, _ => h.elim

theorem putO_self {r : Nat} {o : Obj} (h : w.heap[r]? = some o) : putO w r o = w := by
  unfold putO
  have : w.heap.setIfInBounds r o = w.heap := by
    apply Array.ext
    · simp
    · intro i h1 h2
      rw [Array.getElem_setIfInBounds]
      · split
        · rename_i he
          subst he
          obtain ⟨_, h3⟩ := Array.getElem?_eq_some_iff.1 h
          exact h3.symm
        · rfl
  rw [this]

theorem y_ment {t kt et : TypeId} {kk : Nat} {z : AVal} (ht : P.underlying t = some (.map kt et)) (hkk : mapKey P kt = some kk) (hz : zeroVal P et = some z) {m k : Opd} {u y : Value} (hx : VRel ρ (m.get vs ts) u) (hk : VRel ρ (k.get vs ts) y) (hH : HRel ρ H w)
    (h : A.holds (evI A call (.ment z kk m k) vs ts H K)) :
    Yields P (Instr.mapEntry t u y) ρ H w (fun x H => A.holds (K x H)) := by
  simp only [evI] at h
  have hko := mapKey_ok hkk
  obtain ⟨z', hz1, hz2⟩ := zeroVal_run (ρ := ρ) hz
  generalize m.get vs ts = X at hx h
  cases hx <;> try exact (A.fail_no h).elim
  rename_i b S e
  simp only at h
  have hB := hH.blk _ _ e
  cases hb : H.get b with
  | dead => rw [hb] at h; exact (A.fail_no h).elim
  | rows z l => rw [hb] at h; exact (A.fail_no h).elim
  | ro l => rw [hb] at h; exact (A.fail_no h).elim
  | obj o =>
    rw [hb] at h hB
    cases o with
    | siter _ _ _ => exact (A.fail_no h).elim
    | miter _ _ _ _ => exact (A.fail_no h).elim
    | loop _ _ => exact (A.fail_no h).elim
    | dfr => exact (A.fail_no h).elim
    | busy => exact (A.fail_no h).elim
    | map l =>
      obtain ⟨h0, o, h1, es, rfl, h2⟩ := hB
      simp only at h
      cases hf : mfind kk (k.get vs ts) l 0 with
      | none => rw [hf] at h; exact (A.fail_no h).elim
      | some r =>
        rw [hf] at h
        have hr := findKey_ok (w := w) hko hk h2 hf
        have hck := fun e => checkKey_ok (w := w) hko hk hf e
        cases r with
        | none =>
          simp only [fL_eq, fN_eq] at hr h
          obtain ⟨_, h⟩ := hPut_holds h
          rw [h2.len] at h
          refine ⟨_, _, ρ, .tuple #[z', goInt es.size], putO w S.blk (.map (es.push ⟨y, z', es.size⟩) (es.size + 1)), h, ?_, .tup (.cons hz1 (.cons (.int _ _) .nil)), Step.putObj hH b S e _ hb _ _ ⟨es.push ⟨y, z', es.size⟩, by simp, ?_⟩⟩
          · simp [Instr.mapEntry, run_underlying ht, MapKept.run_getObj_map h1, hck, hr, hz2, MapKept.run_setObj_map _ h1, putO]
          · have := MRel.push hk hz1 h2
            simpa using this
        | some q =>
          obtain ⟨j, q'⟩ := q
          obtain ⟨en, q2, q3, q4, q5, q6⟩ := hr
          simp only at h
          have hes : es[j]? = some en := by simpa using q3
          have hmod : (es.modify j fun e => { e with key := y }) = es := by
            apply Array.ext
            · simp
            · intro i h1 h2
              rw [Array.getElem_modify]
              split
              · rename_i he
                subst he
                obtain ⟨_, h3⟩ := Array.getElem?_eq_some_iff.1 hes
                rw [h3, ← q5]
              · rfl
          have hborn : en.born = j := by simpa using h2.born q3
          refine Yields.here (v := .tuple #[en.val, goInt j]) hH h ?_ (.tup (.cons q4 (.cons (.int _ _) .nil)))
          have hself : putO w S.blk (.map es es.size) = w := putO_self h1
          simp only [putO] at hself
          simp [Instr.mapEntry, run_underlying ht, MapKept.run_getObj_map h1, hck, q2, hes, q5, Instr.keyThatStays, q6, MapKept.run_setObj_map _ h1, hmod, hborn, hself]

theorem y_esto {t : TypeId} {m s v : Opd} {u y z : Value} (hx : VRel ρ (m.get vs ts) u) (hs : VRel ρ (s.get vs ts) y) (hv : VRel ρ (v.get vs ts) z) (hH : HRel ρ H w)
    (h : A.holds (evI A call (.esto m s v) vs ts H K)) :
    ∃ H' w', A.holds (K (.tup []) H') ∧ (Instr.entryStore t u y z).run P w = .ok () w' ∧ Step ρ H w ρ H' w' := by
  simp only [evI] at h
  generalize m.get vs ts = X at hx h
  generalize s.get vs ts = Y at hs h
  cases hx <;> cases hs <;> try exact (A.fail_no h).elim
  rename_i b S e k n
  cases n with
  | negSucc n => exact (A.fail_no h).elim
  | ofNat n =>
    simp only at h
    have hB := hH.blk _ _ e
    cases hb : H.get b with
    | dead => rw [hb] at h; exact (A.fail_no h).elim
    | rows z l => rw [hb] at h; exact (A.fail_no h).elim
    | ro l => rw [hb] at h; exact (A.fail_no h).elim
    | obj o =>
      rw [hb] at h hB
      cases o with
      | siter _ _ _ => exact (A.fail_no h).elim
      | miter _ _ _ _ => exact (A.fail_no h).elim
      | loop _ _ => exact (A.fail_no h).elim
      | dfr => exact (A.fail_no h).elim
      | busy => exact (A.fail_no h).elim
      | map l =>
        obtain ⟨h0, o, h1, es, rfl, h2⟩ := hB
        simp only at h
        split at h
        · rename_i hlt
          have hlt : n < es.size := by
            unfold Nat.blt at hlt
            have := Nat.le_of_ble_eq_true hlt
            rw [h2.len] at this
            have h3 : es.toList.length = es.size := by simp
            omega
          simp only [fL_eq] at h
          obtain ⟨_, h⟩ := hPut_holds h
          have hfi : es.findIdx? (fun e => (e.born : Int) == Int.ofNat n) = some n := by
            rw [Array.findIdx?_eq_some_iff_getElem]
            have hbn : ∀ i (hi : i < es.size), (es[i]).born = i := fun i hi => by
              have := h2.born (i := i) (e := es[i]) (by simp [hi])
              simpa using this
            refine ⟨hlt, by rw [hbn]; simp, fun i hi => ?_⟩
            rw [hbn]
            simp
            omega
          refine ⟨_, putO w S.blk (.map (es.modify n fun e => { e with val := z }) es.size), h, ?_, Step.putObj hH b S e _ hb _ _ ⟨es.modify n fun e => { e with val := z }, by simp, ?_⟩⟩
          · have hfi' : es.findIdx? (fun e => (e.born : Int) == (n : Int)) = some n := hfi
            simp [Instr.entryStore, MapKept.run_getObj_map h1, asInt, asIntOf, hfi', MapKept.run_setObj_map _ h1, putO]
          · have := MRel.set (m := n) (x := v.get vs ts) (f := fun e => { e with val := z }) h2 fun e' _ => ⟨rfl, rfl, hv⟩
            simpa using this
        · exact (A.fail_no h).elim

theorem y_rngM {t kt et : TypeId} (ht : P.underlying t = some (.map kt et)) {x : Opd} {u : Value} (hx : VRel ρ (x.get vs ts) u) (hH : HRel ρ H w) (h : A.holds (evI A call (.rngM x) vs ts H K)) :
    Yields P (Instr.range t u) ρ H w (fun x H => A.holds (K x H)) := by
  simp only [evI] at h
  generalize x.get vs ts = X at hx h
  cases hx <;> try exact (A.fail_no h).elim
  rename_i b S e
  simp only at h
  have hB := hH.blk _ _ e
  cases hb : H.get b with
  | dead => rw [hb] at h; exact (A.fail_no h).elim
  | rows z l => rw [hb] at h; exact (A.fail_no h).elim
  | ro l => rw [hb] at h; exact (A.fail_no h).elim
  | obj o =>
    rw [hb] at h hB
    cases o with
    | siter _ _ _ => exact (A.fail_no h).elim
    | miter _ _ _ _ => exact (A.fail_no h).elim
    | loop _ _ => exact (A.fail_no h).elim
    | dfr => exact (A.fail_no h).elim
    | busy => exact (A.fail_no h).elim
    | map l =>
      obtain ⟨h0, o, h1, es, rfl, h2⟩ := hB
      simp only [fN_eq] at h
      obtain ⟨_, h⟩ := hAdd_holds h
      have hl : mlen l = es.size := by simpa using h2.len
      refine ⟨_, _, ρ.add H.next ⟨w.heap.size, 0, 0, 0, 0⟩, .pointer (some ⟨w.heap.size, 0, none⟩), w.alloc (.mapIter (some S.blk) es.size #[] es.size), h, ?_, ?_, Step.allocB hH _ _ _ rfl ⟨rfl, _, heap_push_new _ _, S, Env.add_ext hH.fresh _ _ e, by rw [hl]⟩⟩
      · simp [Instr.range, run_underlying ht, MapKept.run_getObj_map h1]
      · have := VRel.ptr (ρ := ρ.add H.next ⟨w.heap.size, 0, 0, 0, 0⟩) Env.add_same 0 0
        simpa using this

theorem isIn_eq (i : Nat) : ∀ l : List Nat, isIn i l = l.contains i
  | [] => rfl
  | j :: l => by
    simp only [isIn, List.contains_cons]
    rw [isIn_eq i l]
    cases h : Nat.beq i j with
    | true => simp [Nat.eq_of_beq_eq_true h]
    | false =>
      have : i ≠ j := fun he => by rw [he] at h; simp at h
      simp [this]
theorem lastOf_eq : ∀ l : List Nat, lastOf l = l.getLast?
  | [] => rfl
  | [i] => rfl
  | i :: j :: l => by
    have := lastOf_eq (j :: l)
    simp only [lastOf] at this ⊢
    rw [List.getLast?_cons_cons, ← this]
    cases lastOf l <;> rfl
theorem both_all {js : List Nat} {g : Nat → R} (h : A.holds (js.foldr (fun j r => A.both (g j) r) A.yes)) : ∀ j ∈ js, A.holds (g j) := by
  induction js with
  | nil => intro j hj; simp at hj
  | cons i js ih =>
    simp only [List.foldr_cons] at h
    obtain ⟨h1, h2⟩ := A.both_yes _ _ h
    intro j hj
    rcases List.mem_cons.1 hj with rfl | hj
    · exact h1
    · exact ih h2 j hj

theorem run_getObj_miter {r : Nat} {m : Option Nat} {s : Nat} {q : Array Nat} {l : Nat} (hb : w.heap[r]? = some (.mapIter m s q l)) : (getObj r).run P w = .ok (.mapIter m s q l) w := by simp [getObj, Sem.run, hb]
theorem run_setObj_miter {r : Nat} {m : Option Nat} {s : Nat} {q : Array Nat} {l : Nat} (o : Obj) (hb : w.heap[r]? = some (.mapIter m s q l)) : (setObj r o).run P w = .ok () (putO w r o) := by simp [setObj, Sem.run, hb, putO]

/-- A step of a range over a map. -/
theorem run_next_miter {r m : Nat} {seen : Array Nat} {es : Array MapEntry} (ty : TypeId) (hi : w.heap[r]? = some (.mapIter (some m) es.size seen es.size)) (hm : w.heap[m]? = some (.map es es.size)) (hb : ∀ i (h : i < es.size), es[i].born = i) :
    ((∀ i, i < es.size → seen.contains i = true) ∧ (Instr.next (.pointer (some ⟨r, 0, none⟩)) false ty).run P w = .ok (.tuple #[.bool false]) w) ∨
    ∃ (j : Nat) (e : MapEntry) (w1 : World), es[j]? = some e ∧ e.born = j ∧ seen.contains j = false ∧ (w1 = w ∨ w1 = w.drew) ∧
      (Instr.next (.pointer (some ⟨r, 0, none⟩)) false ty).run P w = .ok (.tuple #[.bool true, e.key, e.val]) (putO w1 r (.mapIter (some m) es.size (seen.push j) es.size)) := by
  have hall : (!seen.isEmpty && !es.isEmpty && es.all fun e => decide (e.born ≥ es.size)) = false := by
    cases he : es.isEmpty with
    | true => simp
    | false =>
      have h0 : 0 < es.size := by
        rcases Nat.eq_zero_or_pos es.size with h | h
        · have : es = #[] := Array.eq_empty_of_size_eq_zero h
          rw [this] at he
          simp at he
        · exact h
      have : (es.all fun e => decide (e.born ≥ es.size)) = false := by
        rw [Array.all_eq_false]
        refine ⟨0, h0, ?_⟩
        have hd : ¬ (0 ≥ es.size) := by omega
        rw [hb 0 h0, decide_eq_false hd]
        simp
      rw [this]
      simp
  simp only [Instr.next, Sem.run_bind, run_getObj_miter hi, MapKept.run_getObj_map hm, Result.andThen, hall, Bool.false_eq_true, if_false]
  have hmem : ∀ x ∈ (Array.filter (fun e => !seen.contains e.born) es).toList, ∃ j, es[j]? = some x ∧ x.born = j ∧ seen.contains j = false ∧ j < es.size := fun x hx => by
    simp only [Array.toList_filter, List.mem_filter] at hx
    obtain ⟨j, hj, he⟩ := List.getElem_of_mem hx.1
    have hj' : j < es.size := by simpa using hj
    have he' : es[j] = x := by simpa using he
    have hbj := hb j hj'
    rw [he'] at hbj
    refine ⟨j, by rw [Array.getElem?_eq_getElem hj', he'], hbj, ?_, hj'⟩
    have := hx.2
    rw [hbj] at this
    simpa using this
  have hback : ∀ i, i < es.size → seen.contains i = false → ∃ x, x ∈ (Array.filter (fun e => !seen.contains e.born) es).toList := fun i hi hs => by
    refine ⟨es[i], ?_⟩
    simp only [Array.toList_filter, List.mem_filter]
    refine ⟨by simp, ?_⟩
    rw [hb i hi, hs]
    rfl
  generalize Array.filter (fun e => !seen.contains e.born) es = L at hmem hback ⊢
  have e1 : L.filter (fun x => decide (x.born < es.size)) = L := Array.filter_eq_self.2 (fun x hx => by
    obtain ⟨j, _, h2, _, h4⟩ := hmem x (by simpa using hx)
    simp
    omega)
  have e2 : L.filter (fun x => decide (x.born ≥ es.size)) = #[] := by
    rw [Array.filter_eq_empty_iff]
    intro x hx
    obtain ⟨j, _, h2, _, h4⟩ := hmem x (by simpa using hx)
    simp
    omega
  simp only [e1, e2, Array.append_empty]
  by_cases h0 : L.size = 0
  · left
    have : L = #[] := Array.eq_empty_of_size_eq_zero h0
    subst this
    refine ⟨fun i hi => ?_, by simp [choose, Sem.run, Question.forced]⟩
    cases hs : seen.contains i with
    | true => rfl
    | false =>
      obtain ⟨x, hx⟩ := hback i hi hs
      simp at hx
  · right
    have hne : L.isEmpty = false := by simp [Array.isEmpty, h0]
    simp only [hne, Bool.false_eq_true, if_false, Array.empty_append, Array.size_map]
    have hch : ∃ (j : Nat) (w1 : World), j < L.size ∧ (w1 = w ∨ w1 = w.drew) ∧ (choose (Question.mapNext L.size)).run P w = .ok j w1 := by
      by_cases hf : L.size ≤ 1
      · exact ⟨0, w, by omega, .inl rfl, by simp [choose, Sem.run, Question.forced, hf]⟩
      · exact ⟨_, w.drew, Nat.mod_lt _ (by omega), .inr rfl, by
          simp only [choose, Sem.run, Question.forced, decide_eq_true_eq, hf, if_false, Question.cut]
          rfl⟩
    obtain ⟨j, w1, hj, hal, hrun⟩ := hch
    obtain ⟨q, q1, q2, q3, q4⟩ := hmem L[j] (by simp)
    have hi1 : w1.heap[r]? = some (.mapIter (some m) es.size seen es.size) := by rcases hal with rfl | rfl <;> exact hi
    refine ⟨q, L[j], w1, q1, q2, q3, hal, ?_⟩
    simp only [hrun, Array.getElem?_map, Array.getElem?_eq_getElem hj, Option.map_some, Sem.run_bind, run_setObj_miter _ hi1, Result.andThen, q2]
    rfl

theorem mlen_eq (l : List (AVal × AVal)) : mlen l = l.length := by induction l with | nil => rfl | cons x l ih => simp [mlen, ih]
theorem mget_eq : ∀ (l : List (AVal × AVal)) (i : Nat), mget l i = l[i]?
  | [], _ => rfl
  | _ :: _, 0 => rfl
  | _ :: l, i + 1 => by simp [mget, mget_eq l i]
theorem MRel.at : ∀ {l : List (AVal × AVal)} {es : List MapEntry} {n : Nat}, MRel ρ l es n → ∀ {i : Nat} {e : MapEntry}, es[i]? = some e → ∃ x, mget l i = some x ∧ VRel ρ x.1 e.key ∧ VRel ρ x.2 e.val
  | [], [], _, _, i, e, he => by simp at he
  | y :: l, e :: es, n, h, 0, x, hx => by
    simp at hx
    subst hx
    exact ⟨y, rfl, h.1, h.2.1⟩
  | y :: l, e :: es, n, h, i + 1, x, hx => by
    obtain ⟨e', h1, h2⟩ := MRel.at h.2.2.2 (i := i) (e := x) (by simpa using hx)
    exact ⟨e', by simpa [mget] using h1, h2⟩
  | [], _ :: _, _, h, _, _, _ => h.elim
  | _ :: _, [], _, h, _, _, _ => h.elim

theorem y_nxtM {ty : TypeId} {x : Opd} {u : Value} (hx : VRel ρ (x.get vs ts) u) (hH : HRel ρ H w) (h : A.holds (evI A call (.nxtM x) vs ts H K)) :
    Yields P (Instr.next u false ty) ρ H w (fun x H => A.holds (K x H)) := by
  simp only [evI] at h
  generalize x.get vs ts = X at hx h
  cases hx <;> try exact (A.fail_no h).elim
  rename_i i S e r c
  cases r with
  | succ r => exact (A.fail_no h).elim
  | zero =>
  cases c with
  | succ c => exact (A.fail_no h).elim
  | zero =>
  simp only at h
  split at h
  · rename_i b since seen last hb
    have hB := hH.blk _ _ e
    rw [hb] at hB
    obtain ⟨h0, o, h1, R', e', rfl⟩ := hB
    have hz : S.off + 0 * S.esz + 0 = 0 := by rw [h0]; omega
    rw [hz]
    split at h
    · rename_i l hbm
      have hB' := hH.blk _ _ e'
      rw [hbm] at hB'
      obtain ⟨h0', o', h1', es, rfl, h2⟩ := hB'
      have hl : mlen l = es.size := by simpa using h2.len
      split at h
      · rename_i hs
        obtain ⟨hs1, hs2⟩ : mlen l = since ∧ last = since := by simpa using hs
        rw [hl] at hs1
        subst hs1
        subst hs2
        have hbn : ∀ i (hi : i < es.size), (es[i]).born = i := fun i hi => by
          have := h2.born (i := i) (e := es[i]) (by simp [hi])
          simpa using this
        rcases run_next_miter (P := P) ty h1 h1' hbn with ⟨g1, g2⟩ | ⟨j, en, w1, g1, g2, g3, g4, g5⟩
        · have hnil : ((List.range es.size).filter fun j => !isIn j seen) = [] := by
            rw [List.filter_eq_nil_iff]
            intro j hj
            have := g1 j (by simpa using hj)
            rw [isIn_eq]
            simpa using this
          rw [hnil] at h
          exact Yields.here hH h g2 (.tup (.cons (.bool _) .nil))
        · have hjs : j < es.size := (Array.getElem?_eq_some_iff.1 g1).1
          have hj : j ∈ ((List.range es.size).filter fun j => !isIn j seen) := by
            rw [List.mem_filter]
            refine ⟨by simpa using hjs, ?_⟩
            rw [isIn_eq]
            simpa using g3
          obtain ⟨x, hx1, hx2, hx3⟩ := h2.at (i := j) (e := en) (by simpa using g1)
          have hgo : A.holds (match mget l j with
                | some e => fL (seen ++ [j]) fun seen => hPut H i (.obj (.miter b es.size seen es.size)) fun H => K (.tup [.bool true, e.1, e.2]) H
                | none => A.fail) := by
            revert h
            generalize hJ : ((List.range es.size).filter fun j => !isIn j seen) = J at hj
            intro h
            cases J with
            | nil => simp at hj
            | cons a J => exact both_all (g := fun j => (match mget l j with
                | some e => fL (seen ++ [j]) fun seen => hPut H i (.obj (.miter b es.size seen es.size)) fun H => K (.tup [.bool true, e.1, e.2]) H
                | none => A.fail)) h j hj
          rw [hx1] at hgo
          simp only [fL_eq] at hgo
          obtain ⟨_, hgo⟩ := hPut_holds hgo
          have hst : Step ρ H w ρ H w1 := by
            rcases g4 with rfl | rfl
            · exact Step.refl hH
            · exact Step.drew hH _
          refine ⟨_, _, ρ, _, _, hgo, g5, .tup (.cons (.bool _) (.cons hx2 (.cons hx3 .nil))), hst.trans (Step.putObj hst.rel i S e _ hb _ _ ⟨R', e', by simp⟩)⟩
      · exact (A.fail_no h).elim
    · exact (A.fail_no h).elim
  · exact (A.fail_no h).elim

theorem y_ent {x : Opd} {u : Value} (hx : VRel ρ (x.get vs ts) u) (hH : HRel ρ H w) (h : A.holds (evI A call (.ent x) vs ts H K)) :
    Yields P (Instr.entry u) ρ H w (fun x H => A.holds (K x H)) := by
  simp only [evI] at h
  generalize x.get vs ts = X at hx h
  cases hx <;> try exact (A.fail_no h).elim
  rename_i i S e r c
  cases r with
  | succ r => exact (A.fail_no h).elim
  | zero =>
  cases c with
  | succ c => exact (A.fail_no h).elim
  | zero =>
  simp only at h
  split at h
  · rename_i b since seen last hb
    have hB := hH.blk _ _ e
    rw [hb] at hB
    obtain ⟨h0, o, h1, R', e', rfl⟩ := hB
    have hz : S.off + 0 * S.esz + 0 = 0 := by rw [h0]; omega
    rw [hz]
    split at h
    · rename_i l hbm
      have hB' := hH.blk _ _ e'
      rw [hbm] at hB'
      obtain ⟨h0', o', h1', es, rfl, h2⟩ := hB'
      have hl : mlen l = es.size := by simpa using h2.len
      split at h
      · rename_i hs
        have hs1 : mlen l = last := by simpa using hs
        rw [hl] at hs1
        subst hs1
        split at h
        · rename_i j hj
          rw [lastOf_eq] at hj
          split at h
          · rename_i x hx
            obtain ⟨en, q1, q2, q3⟩ := h2.get hx
            have hbj : en.born = j := by simpa using h2.born q1
            have hbn : ∀ i (hi : i < es.size), (es[i]).born = i := fun i hi => by
              have := h2.born (i := i) (e := es[i]) (by simp [hi])
              simpa using this
            have hjs : es[j]? = some en := by simpa using q1
            have hfind : es.find? (fun e => e.born == j) = some en := by
              rw [Array.find?_eq_some_iff_getElem]
              obtain ⟨hlt, hg⟩ := Array.getElem?_eq_some_iff.1 hjs
              refine ⟨by simp [hbj], j, hlt, hg, fun k hk => ?_⟩
              rw [hbn]
              simp
              omega
            refine Yields.here (v := .tuple #[en.key, en.val]) hH h ?_ (.tup (.cons q2 (.cons q3 .nil)))
            have hbk : seen.toArray.back? = some j := by simpa [List.back?_toArray] using hj
            simp [Instr.entry, run_getObj_miter h1, MapKept.run_getObj_map h1', hbk, hfind]
          · exact (A.fail_no h).elim
        · exact (A.fail_no h).elim
      · exact (A.fail_no h).elim
    · exact (A.fail_no h).elim
  · exact (A.fail_no h).elim
end newest
end Dt
