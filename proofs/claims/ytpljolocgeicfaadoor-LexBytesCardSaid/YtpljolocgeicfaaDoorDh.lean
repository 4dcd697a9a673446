/- A part of the abstract machine and of the proof that the program does what it reckons; no conditions. -/
import Derived.Test.YtpljolocgeicfaaDoorDg
namespace Dt
open Go Go.RowKit
/-! ### Slices -/
section slice
variable {R : Type} {A : Alg R} {P : Program} {call : Nat → List AVal → Heap → (AVal → Heap → R) → R} {vs ts : List AVal} {ρ : Env} {H : Heap} {w : World} {K : AVal → Heap → R}

/-- A block is given up. -/
theorem Step.kill {b : Nat} (h : HRel ρ H w) (hm : True) : Step ρ H w ρ (H.put b .dead) w := by
  have hg : ∀ x, (H.put b .dead).get x = if x = b then .dead else H.get x := fun x => Heap.get_put _ _ _ _ hm
  have live : ∀ x, (H.put b .dead).get x ≠ .dead → H.get x ≠ .dead := fun x hx => by
    rw [hg] at hx
    by_cases hxb : x = b
    · rw [if_pos hxb] at hx; exact absurd rfl hx
    · rwa [if_neg hxb] at hx
  have liveW : ∀ x, Wr ((H.put b .dead).get x) → Wr (H.get x) := fun x hx => by
    rw [hg] at hx
    by_cases hxb : x = b
    · rw [if_pos hxb] at hx; exact hx.elim
    · rwa [if_neg hxb] at hx
  refine ⟨⟨fun x S ex => ?_, fun x y S S' ex ey dx dy hS => h.inj x y S S' ex ey (live _ dx) (live _ dy) hS, h.dom, h.glob, fun x S ex hw => h.high x S ex (liveW _ hw)⟩, fun _ _ ex => ex, Nat.le_refl _, rfl, rfl, rfl, fun r _ _ => rfl, fun x S ex hd => .inr ⟨x, S, ex, liveW _ hd, rfl⟩⟩
  rw [hg]
  by_cases hxb : x = b
  · rw [if_pos hxb]; trivial
  · rw [if_neg hxb]; exact h.blk x S ex

/-- The rows that a slice shows, and the cells that they stand for. -/
theorem rowsOf_rel {z : Nat} {X : AVal} {u : Value} {rows : List (List AVal)} (hx : VRel ρ X u) (hH : HRel ρ H w) (hr : rowsOf H z X = some rows) :
    ∃ (a : Option Addr) (cap : Nat) (us : List Value), u = .slice a rows.length cap ∧ us.length = rows.length * z ∧ VRels ρ rows.flatten us ∧ (∀ u ∈ us, u.oneCell' = true) ∧ (∀ row ∈ rows, row.length = z) ∧
      (a = none → rows = [] ∧ cap = 0) ∧ ∀ ad, a = some ad → ∀ (j : Nat) (u : Value), us[j]? = some u → w.cell? (ad.add j) = some u := by
  cases hx <;> try (simp [rowsOf] at hr; done)
  case nils =>
    simp [rowsOf] at hr
    subst hr
    exact ⟨none, 0, [], rfl, by simp, .nil, by simp, by simp, fun _ => ⟨rfl, rfl⟩, by simp⟩
  case slc b S es r len cap' cap a' hl hc ho ha =>
    simp only [rowsOf] at hr
    split at hr
    · cases hr
    · rename_i hz
      have hz' : S.esz = z := by simpa using hz
      cases len with
      | zero =>
        simp at hr
        subst hr
        exact ⟨some a', cap', [], rfl, by simp, .nil, by simp, by simp, by simp, by simp⟩
      | succ n =>
        simp only at hr
        have hB := hH.blk _ _ es
        cases hb : H.get b with
        | dead => rw [hb] at hr; cases hr
        | obj o => rw [hb] at hr; cases hr
        | rows z' l =>
          rw [hb] at hr hB
          simp only at hr
          obtain ⟨h1, h2, h3, h4, arr, et, h5, h6, h7⟩ := hB
          obtain ⟨g1, g2⟩ := rtake_eq _ _ _ _ hr
          have hzz : z' = z := by rw [← h1, hz']
          subst hzz
          rcases ha with ⟨h0, _⟩ | ⟨rfl, hb2⟩
          · omega
          have hrow : ∀ row ∈ rows, row.length = z' := fun row hrow => h4 row (by rw [g1] at hrow; exact List.mem_of_mem_drop (List.mem_of_mem_take hrow))
          have hflat : ∀ (j : Nat) (x : AVal), rows.flatten[j]? = some x → ∃ v, arr[S.off + r * S.esz + j]? = some v ∧ v.oneCell' = true ∧ VRel ρ x v := by
            intro j x hj
            have hjl : j < rows.length * z' := by rw [← flat_length hrow]; exact (List.getElem?_eq_some_iff.1 hj).1
            have hpos : 0 < z' := by
              rcases Nat.eq_zero_or_pos z' with h | h
              · rw [h] at hjl; omega
              · exact h
            have hq : j / z' < rows.length := by rw [Nat.div_lt_iff_lt_mul hpos]; exact hjl
            obtain ⟨row, hrw⟩ : ∃ row, rows[j / z']? = some row := ⟨_, List.getElem?_eq_getElem hq⟩
            have hm : j % z' < row.length := by rw [hrow row (List.mem_of_getElem? hrw)]; exact Nat.mod_lt _ hpos
            have hx1 := flat_get hrow hrw (List.getElem?_eq_getElem hm)
            have hjd : j / z' * z' + j % z' = j := by rw [Nat.mul_comm]; exact Nat.div_add_mod j z'
            rw [hjd, hj] at hx1
            simp only [Option.some.injEq] at hx1
            have hlr : l[r + j / z']? = some row := by
              rw [g1, List.getElem?_take] at hrw
              split at hrw
              · rw [List.getElem?_drop] at hrw; exact hrw
              · cases hrw
            obtain ⟨v, hv, ho', hr'⟩ := h7 _ _ hlr (j % z') x (by rw [hx1]; exact List.getElem?_eq_getElem hm)
            refine ⟨v, ?_, ho', hr'⟩
            rw [← hv]
            congr 1
            rw [h1, Nat.add_mul]
            omega
          obtain ⟨us, k1, k2, k3, k4⟩ := cells_list arr rows.flatten (S.off + r * S.esz) hflat
          refine ⟨_, cap', us, by rw [g2], by rw [k1, flat_length hrow], k2, k3, hrow, by simp, fun ad had j u hu => ?_⟩
          simp only [Option.some.injEq] at had
          subst had
          rw [Addr.add_lit, cell_of_row w S.blk _ arr et _ h5]
          exact k4 j u hu
        | ro l =>
          rw [hb] at hr hB
          simp only at hr
          obtain ⟨h1, h4, arr, et, fz, h5, h7⟩ := hB
          obtain ⟨g1, g2⟩ := rtake_eq _ _ _ _ hr
          obtain ⟨z', hzz⟩ : ∃ z', z' = z := ⟨_, rfl⟩
          subst hzz
          have h4 : ∀ row ∈ l, row.length = z' := fun row hrow => by rw [h4 row hrow, ← hz', h1]
          have h1 : S.esz = z' := hz'
          rcases ha with ⟨h0, _⟩ | ⟨rfl, hb2⟩
          · omega
          have hrow : ∀ row ∈ rows, row.length = z' := fun row hrow => h4 row (by rw [g1] at hrow; exact List.mem_of_mem_drop (List.mem_of_mem_take hrow))
          have hflat : ∀ (j : Nat) (x : AVal), rows.flatten[j]? = some x → ∃ v, arr[S.off + r * S.esz + j]? = some v ∧ v.oneCell' = true ∧ VRel ρ x v := by
            intro j x hj
            have hjl : j < rows.length * z' := by rw [← flat_length hrow]; exact (List.getElem?_eq_some_iff.1 hj).1
            have hpos : 0 < z' := by
              rcases Nat.eq_zero_or_pos z' with h | h
              · rw [h] at hjl; omega
              · exact h
            have hq : j / z' < rows.length := by rw [Nat.div_lt_iff_lt_mul hpos]; exact hjl
            obtain ⟨row, hrw⟩ : ∃ row, rows[j / z']? = some row := ⟨_, List.getElem?_eq_getElem hq⟩
            have hm : j % z' < row.length := by rw [hrow row (List.mem_of_getElem? hrw)]; exact Nat.mod_lt _ hpos
            have hx1 := flat_get hrow hrw (List.getElem?_eq_getElem hm)
            have hjd : j / z' * z' + j % z' = j := by rw [Nat.mul_comm]; exact Nat.div_add_mod j z'
            rw [hjd, hj] at hx1
            simp only [Option.some.injEq] at hx1
            have hlr : l[r + j / z']? = some row := by
              rw [g1, List.getElem?_take] at hrw
              split at hrw
              · rw [List.getElem?_drop] at hrw; exact hrw
              · cases hrw
            obtain ⟨v, hv, ho', hr'⟩ := h7 _ _ hlr (j % z') x (by rw [hx1]; exact List.getElem?_eq_getElem hm)
            refine ⟨v, ?_, ho', hr'⟩
            rw [← hv]
            congr 1
            rw [h1, Nat.add_mul]
            omega
          obtain ⟨us, k1, k2, k3, k4⟩ := cells_list arr rows.flatten (S.off + r * S.esz) hflat
          refine ⟨_, cap', us, by rw [g2], by rw [k1, flat_length hrow], k2, k3, hrow, by simp, fun ad had j u hu => ?_⟩
          simp only [Option.some.injEq] at had
          subst had
          rw [Addr.add_lit, cell_of_row w S.blk _ arr et _ h5]
          exact k4 j u hu

/-- A grown array: the rows, and zeros behind them. -/
theorem grown_yields {t e : TypeId} {z : Nat} {l : List (List AVal)} (hz : ∀ row ∈ l, row.length = z) {us : List Value} (hs : VRels ρ l.flatten us) (ho : ∀ u ∈ us, u.oneCell' = true) (hH : HRel ρ H w) (hm : True)
    (cap : Nat) (hcap : l.length ≤ cap) (zs : Array Value) (hzs : zs.size = (cap - l.length) * z) :
    ∃ ρ', VRel ρ' (.slc H.next 0 l.length none z) (.slice (some ⟨w.heap.size, 0, none⟩) l.length cap) ∧ Step ρ H w ρ' (H.add (.rows z l)) (w.drew.alloc (.cells (us.toArray ++ zs) e)) := by
  have _ := t
  have hl := hs.length
  rw [flat_length hz] at hl
  have hsz : (us.toArray ++ zs).size = cap * z := by
    simp only [Array.size_append, List.size_toArray, hl, hzs]
    rw [← Nat.add_mul]
    congr 1
    omega
  have hd := Step.drew hH (w.drawn + 1)
  refine ⟨ρ.add H.next ⟨w.heap.size, 0, cap * z, l.length, z⟩, ?_, hd.trans (Step.alloc hd.rel hm z l _ e ⟨w.heap.size, 0, cap * z, l.length, z⟩ rfl rfl rfl ?_ hz hsz fun r row hr j y hy => ?_)⟩
  · exact VRel.slc (R := ⟨w.heap.size, 0, cap * z, l.length, z⟩) Env.add_same 0 l.length cap none _ hcap (fun c hc => by cases hc) (fun _ => by simpa using hcap) (.inr ⟨by simp, by simp⟩)
  · simp only [Nat.zero_add]
    exact Nat.mul_le_mul_right _ hcap
  · obtain ⟨u, hu, hrel⟩ := hs.get _ _ (flat_get hz hr hy)
    refine ⟨u, ?_, ho u (List.mem_of_getElem? hu), hrel⟩
    have hlt : r * z + j < us.length := (List.getElem?_eq_some_iff.1 hu).1
    simp only [Nat.zero_add]
    rw [Array.getElem?_append_left (by simpa using hlt)]
    simpa using hu

/-- Cells of an array are written: what it holds behind it. -/
theorem over_get (arr : Array Value) (us : List Value) (o : Nat) (h : o + us.length ≤ arr.size) (k : Nat) :
    (arr.toList.take (o + 0) ++ us ++ arr.toList.drop (o + 0 + us.length)).toArray[k]? = if o ≤ k ∧ k < o + us.length then us[k - o]? else arr[k]? := by
  simp only [List.getElem?_toArray, List.append_assoc, Nat.add_zero]
  rw [List.getElem?_append]
  have hlt : (arr.toList.take o).length = o := by rw [List.length_take, Array.length_toList]; omega
  rw [hlt]
  by_cases hk : k < o
  · rw [if_pos hk, if_neg (by omega), List.getElem?_take, if_pos hk, Array.getElem?_toList]
  · rw [if_neg hk, List.getElem?_append]
    by_cases hk2 : k - o < us.length
    · rw [if_pos hk2, if_pos (by omega)]
    · rw [if_neg hk2, if_neg (by omega), List.getElem?_drop, Array.getElem?_toList]
      congr 1
      omega
theorem over_size (arr : Array Value) (us : List Value) (o : Nat) (h : o + us.length ≤ arr.size) : (arr.toList.take (o + 0) ++ us ++ arr.toList.drop (o + 0 + us.length)).toArray.size = arr.size := by
  simp only [List.size_toArray, List.length_append, List.length_take, List.length_drop, Array.length_toList]
  omega

/-- append that fits: the cells are written behind the slice's own. -/
theorem run_append_fits_ {t ty e : TypeId} {i : TypeInfo} (ht : P.underlying t = some (.slice e)) (hi : P.info? e = some i) {g o len cap : Nat} {arr : Array Value} {et : TypeId} (hg : w.heap[g]? = some (.cells arr et (0, 0)))
    {x : Option Addr} {n c : Nat} {news : List Value} (hn : news.length = n * i.size) (ho : ∀ u ∈ news, u.oneCell' = true) (hxn : x = none → n = 0) (hx : ∀ ad, x = some ad → ∀ (j : Nat) (u : Value), news[j]? = some u → w.cell? (ad.add j) = some u)
    (hfit : len + n ≤ cap) (hroom : o + len * i.size + news.length ≤ arr.size) :
    (Builtin.append_ #[t, t] ty #[.slice (some ⟨g, o, none⟩) len cap, .slice x n c]).run P w =
      .ok (.slice (some ⟨g, o, none⟩) (len + n) cap) (w.setRow g (arr.toList.take (o + len * i.size + 0) ++ news ++ arr.toList.drop (o + len * i.size + 0 + news.length)).toArray) := by
  have hf : (Builtin.firstCells i.size n (.slice x n c)).run P w = .ok news.toArray w := by
    cases x with
    | none =>
      have := hxn rfl
      subst this
      have : news = [] := List.length_eq_zero_iff.1 (by simpa using hn)
      subst this
      exact run_firstCells_none w _ _ _ _
    | some ad => exact run_firstCells_some w _ _ ad n c news hn (hx ad rfl)
  have hst := run_storeCells_at P g (o + len * i.size) et news 0 arr w hg (by simpa using hroom) ho
  simp [Builtin.append_, run_underlying ht, Go.sizeOf, typeInfo, hi, Builtin.lenOf, hfit, hf, Addr.add_lit, hst]

end slice
end Dt
