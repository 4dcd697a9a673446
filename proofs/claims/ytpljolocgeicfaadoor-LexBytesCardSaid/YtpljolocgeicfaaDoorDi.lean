/- A part of the abstract machine and of the proof that the program does what it reckons; no conditions. -/
import Derived.Test.YtpljolocgeicfaaDoorDh
namespace Dt
open Go Go.RowKit
section append
variable {R : Type} {A : Alg R} {P : Program} {call : Nat → List AVal → Heap → (AVal → Heap → R) → R} {vs ts : List AVal} {ρ : Env} {H : Heap} {w : World} {K : AVal → Heap → R}

/-- Rows of a block are laid over: in the block that the slice shows. -/
theorem over_rel {b : Nat} {S : RB} {z : Nat} {l new : List (List AVal)} {arr : Array Value} {us : List Value} {o : Nat} (h1 : S.esz = z) (h2 : S.n = l.length) (h3 : S.off + S.n * S.esz ≤ S.size) (h4 : ∀ row ∈ l, row.length = z) (h6 : arr.size = S.size)
    (h7 : ∀ (r : Nat) (row : List AVal), l[r]? = some row → ∀ (j : Nat) (x : AVal), row[j]? = some x → ∃ v, arr[S.off + r * S.esz + j]? = some v ∧ v.oneCell' = true ∧ VRel ρ x v)
    (hz : ∀ row ∈ new, row.length = z) (hs : VRels ρ new.flatten us) (ho : ∀ u ∈ us, u.oneCell' = true) (hfit : o + new.length ≤ l.length) :
    ∀ (r : Nat) (row : List AVal), (rsplice l o new)[r]? = some row → ∀ (j : Nat) (x : AVal), row[j]? = some x →
      ∃ v, (arr.toList.take (S.off + o * S.esz + 0) ++ us ++ arr.toList.drop (S.off + o * S.esz + 0 + us.length)).toArray[S.off + r * S.esz + j]? = some v ∧ v.oneCell' = true ∧ VRel ρ x v := by
  have _ := b
  have hl := hs.length
  rw [flat_length hz] at hl
  have hroom : S.off + o * S.esz + us.length ≤ arr.size := by
    have : (o + new.length) * S.esz ≤ S.n * S.esz := Nat.mul_le_mul_right _ (by omega)
    rw [Nat.add_mul] at this
    rw [hl, h6, ← h1]
    omega
  intro r row hr j x hx
  rw [rsplice_get] at hr
  rw [over_get _ _ _ hroom, hl]
  by_cases hin : o ≤ r ∧ r < o + new.length ∧ r < l.length
  · rw [if_pos hin] at hr
    have hrz := hz row (List.mem_of_getElem? hr)
    have hj : j < z := by rw [← hrz]; exact (List.getElem?_eq_some_iff.1 hx).1
    obtain ⟨u, hu, hrel⟩ := hs.get _ _ (flat_get hz hr hx)
    refine ⟨u, ?_, ho u (List.mem_of_getElem? hu), hrel⟩
    have e1 : S.off + r * S.esz + j - (S.off + o * S.esz) = (r - o) * z + j := by
      have : r * S.esz = (r - o) * S.esz + o * S.esz := by rw [← Nat.add_mul]; congr 1; omega
      rw [this, h1]
      omega
    have e2 : S.off + o * S.esz ≤ S.off + r * S.esz + j := by
      have : o * S.esz ≤ r * S.esz := Nat.mul_le_mul_right _ hin.1
      omega
    have e3 : S.off + r * S.esz + j < S.off + o * S.esz + new.length * z := by
      have : (r + 1) * S.esz ≤ (o + new.length) * S.esz := Nat.mul_le_mul_right _ (by omega)
      rw [Nat.succ_mul, Nat.add_mul] at this
      rw [h1] at this ⊢
      omega
    rw [if_pos ⟨e2, e3⟩, e1]
    exact hu
  · rw [if_neg hin] at hr
    have hrl : r < l.length := (List.getElem?_eq_some_iff.1 hr).1
    obtain ⟨v, hv, ho', hrel⟩ := h7 r row hr j x hx
    refine ⟨v, ?_, ho', hrel⟩
    have hj : j < z := by rw [← h4 row (List.mem_of_getElem? hr)]; exact (List.getElem?_eq_some_iff.1 hx).1
    rw [if_neg]
    · exact hv
    · intro hh
      rcases Nat.lt_or_ge r o with hlt | hge
      · have : (r + 1) * S.esz ≤ o * S.esz := Nat.mul_le_mul_right _ hlt
        rw [Nat.succ_mul, h1] at this
        rw [h1] at hh
        omega
      · have : (o + new.length) * S.esz ≤ r * S.esz := Nat.mul_le_mul_right _ (by omega)
        rw [Nat.add_mul, h1] at this
        rw [h1] at hh
        omega

theorem y_append {t ty e : TypeId} {i : TypeInfo} {zr : List AVal} (ht : P.underlying t = some (.slice e)) (hi : P.info? e = some i) (hb : 0 < i.bytes) (_hz : 0 < i.size) (hzr : zeroRow P e = some zr) {X Y : AVal} {u v : Value} (hx : VRel ρ X u) (hy : VRel ρ Y v) (hH : HRel ρ H w)
    (h : A.holds (doAppend A i.size i.bytes X Y H K)) : Yields P (Builtin.append_ #[t, t] ty #[u, v]) ρ H w (fun x H => A.holds (K x H)) := by
  obtain ⟨i', zv, hi', hzv, hzs, _, _, _⟩ := zeroRow_some (ρ := ρ) hzr
  rw [hi] at hi'
  obtain rfl : i = i' := by simpa using hi'
  unfold doAppend at h
  cases hry : rowsOf H i.size Y with
  | none => rw [hry] at h; exact (A.fail_no h).elim
  | some new =>
    rw [hry] at h
    simp only at h
    obtain ⟨ay, cy, uy, rfl, ly, sy, oy, zy, ny, cyl⟩ := rowsOf_rel hy hH hry
    have zsize : ∀ n, (Builtin.zeroCells zv.cells n).size = n * i.size := fun n => by simp [Builtin.zeroCells, hzs]
    cases hx <;> try exact (A.fail_no h).elim
    case nils =>
      simp only at h
      cases new with
      | nil =>
        refine Yields.here hH (v := .slice none 0 0) h ?_ .nils
        have huy : uy = [] := List.length_eq_zero_iff.1 (by simpa using ly)
        have hf : (Builtin.firstCells i.size 0 (.slice ay 0 cy)).run P w = .ok #[] w := by
          cases ay with
          | none => exact run_firstCells_none w _ _ _ _
          | some ad => exact run_firstCells_some w _ _ ad 0 cy [] (by simp) (by simp)
        simp [Builtin.append_, run_underlying ht, Go.sizeOf, typeInfo, hi, Builtin.lenOf, hf]
      | cons y new =>
        simp only at h
        split at h
        · exact (A.fail_no h).elim
        · rename_i hle
          have hle' := Nat.le_of_ble_eq_true hle
          simp only [fL_eq, fN_eq, rlen_eq] at h
          rw [rlen_eq] at hle'
          obtain ⟨hm, h⟩ := hAdd_holds h
          obtain ⟨ad, rfl⟩ : ∃ ad, ay = some ad := by
            cases ay with
            | none => have := (ny rfl).1; cases this
            | some ad => exact ⟨ad, rfl⟩
          have hn1 : (y :: new).length ≤ 1000000000 := Nat.le_trans (Nat.le_mul_of_pos_right _ hb) hle'
          have hmul : (y :: new).length * i.bytes ≤ 1000000000 := hle'
          have hrun := run_append_nil (P := P) w t ty e i zv ht hi hzv ad (y :: new).length cy uy ly (cyl ad rfl) (by simp) (by omega) (by omega)
          have hcap : (y :: new).length ≤ grownCap w (y :: new).length 0 e := by unfold grownCap Question.cut; simp only; omega
          obtain ⟨ρ', g1, g2⟩ := grown_yields (t := t) (e := e) zy sy oy hH hm _ hcap (Builtin.zeroCells zv.cells (grownCap w (y :: new).length 0 e - (y :: new).length)) (zsize _)
          exact ⟨_, _, ρ', _, _, h, hrun, g1, g2⟩
    case slc b S es r len cap' cap a' hl hc ho ha =>
      simp only at h
      split at h
      · exact (A.fail_no h).elim
      · rename_i hbb
        rw [Bool.and_eq_true] at hbb
        have hsz : S.esz = i.size := by simpa using hbb.1
        have hle := Nat.le_of_ble_eq_true hbb.2
        rw [rlen_eq] at hle
        have hmul : (len + new.length) * i.bytes ≤ 1000000000 := hle
        have hn1 : len + new.length ≤ 1000000000 := Nat.le_trans (Nat.le_mul_of_pos_right _ hb) hle
        have hx : VRel ρ (.slc b r len cap S.esz) (.slice (some a') len cap') := .slc es r len cap' cap a' hl hc ho ha
        cases hrx : rowsOf H i.size (.slc b r len cap S.esz) with
        | none => rw [hrx] at h; exact (A.fail_no h).elim
        | some old =>
          rw [hrx] at h
          simp only at h
          obtain ⟨ax, cx, ux, hux, lx, sx, ox, zx, nx, cxl⟩ := rowsOf_rel hx hH hrx
          simp only [Value.slice.injEq] at hux
          obtain ⟨rfl, hlen, rfl⟩ := hux
          -- nothing is appended
          have empty : ∀ {new : List (List AVal)}, new = [] → new.length = uy.length / i.size → A.holds (K (.slc b r len cap S.esz) H) → uy = [] → (∀ ad, ay = some ad → True) →
              Yields P (Builtin.append_ #[t, t] ty #[.slice (some a') len cap', .slice ay 0 cy]) ρ H w (fun x H => A.holds (K x H)) := by
            intro new _ _ hK huy _
            refine Yields.here hH (v := .slice (some a') len cap') hK ?_ hx
            have hf : (Builtin.firstCells i.size 0 (.slice ay 0 cy)).run P w = .ok #[] w := by
              cases ay with
              | none => exact run_firstCells_none w _ _ _ _
              | some ad => exact run_firstCells_some w _ _ ad 0 cy [] (by simp) (by simp)
            simp [Builtin.append_, run_underlying ht, Go.sizeOf, typeInfo, hi, Builtin.lenOf, hl, hf, storeCells]
          -- within the block's own rows
          have within : ∀ {z' : Nat} {l : List (List AVal)}, H.get b = .rows z' l → r + (len + new.length) ≤ l.length → len + new.length ≤ cap' → new ≠ [] → True → ∀ (cap2 : Option Nat), cap2 = cap →
              A.holds (K (.slc b r (len + new.length) cap2 S.esz) (H.put b (.rows z' (rsplice l (r + len) new)))) →
              Yields P (Builtin.append_ #[t, t] ty #[.slice (some a') len cap', .slice ay new.length cy]) ρ H w (fun x H => A.holds (K x H)) := by
            intro z' l hg hfit hcap hne hm cap2 hcap2 hK
            rw [hcap2] at hK
            have hB := hH.blk _ _ es
            rw [hg] at hB
            obtain ⟨h1, h2, h3, h4, arr, et, h5, h6, h7⟩ := hB
            have hpos : 0 < new.length := List.length_pos_iff.2 hne
            rcases ha with ⟨h0, h00⟩ | ⟨rfl, hb2⟩
            · omega
            have hroom : S.off + r * S.esz + len * i.size + uy.length ≤ arr.size := by
              have : (r + (len + new.length)) * S.esz ≤ S.n * S.esz := Nat.mul_le_mul_right _ (by omega)
              rw [Nat.add_mul, Nat.add_mul, hsz] at this
              rw [ly, h6, hsz]
              rw [hsz] at h3
              omega
            have hrun := run_append_fits_ (P := P) (ty := ty) ht hi h5 (o := S.off + r * S.esz) (len := len) (cap := cap') (x := ay) (n := new.length) (c := cy) ly oy (fun hn => by rw [(ny hn).1]; rfl) cyl hcap hroom
            have ho1 : S.off + r * S.esz + len * i.size = S.off + (r + len) * S.esz := by rw [Nat.add_mul, hsz]; omega
            refine ⟨_, _, ρ, _, _, hK, hrun, ?_, Step.put hH b S es hm z' l _ hg arr _ et h5 (over_size _ _ _ hroom) (rsplice_length _ _ _) ?_ ?_⟩
            · exact .slc es r _ cap' cap _ hcap hc ho (.inr ⟨rfl, hb2⟩)
            · intro row hrow
              obtain ⟨k, hk⟩ := List.getElem?_of_mem hrow
              rw [rsplice_get] at hk
              split at hk
              · rw [zy row (List.mem_of_getElem? hk), ← hsz, h1]
              · exact h4 row (List.mem_of_getElem? hk)
            · rw [ho1]
              exact over_rel (b := b) h1 h2 h3 h4 h6 h7 (fun row hrow => by rw [zy row hrow, ← hsz, h1]) sy oy (by omega)
          -- a new array
          have grow : cap' < len + new.length → ∀ {H1 : Heap}, Step ρ H w ρ H1 w → H1.next = H.next → True → ∀ n, n = (old ++ new).length → A.holds (K (.slc H.next 0 n none i.size) (H1.add (.rows i.size (old ++ new)))) →
              Yields P (Builtin.append_ #[t, t] ty #[.slice (some a') len cap', .slice ay new.length cy]) ρ H w (fun x H => A.holds (K x H)) := by
            intro hg H1 hst hnx hm n hn hK
            subst hn
            have hne : 0 < new.length := by omega
            obtain ⟨ad, rfl⟩ : ∃ ad, ay = some ad := by
              cases ay with
              | none => have := (ny rfl).1; rw [this] at hne; simp at hne
              | some ad => exact ⟨ad, rfl⟩
            have hcapb : Builtin.nextslicecap (len + new.length) cap' * i.bytes ≤ 281474976710656 := growslice_fits hg (by omega)
            have hrun := run_append_grow (P := P) w t ty e i zv ht hi hzv a' len cap' ux (by rw [lx, ← hlen]) (cxl a' rfl) ad new.length cy uy ly (cyl ad rfl) hg (by omega) hcapb
            have hcap : (old ++ new).length ≤ grownCap w (len + new.length) cap' e := by rw [List.length_append, ← hlen]; unfold grownCap Question.cut; simp only; omega
            have hs2 : VRels ρ (old ++ new).flatten (ux ++ uy) := by rw [List.flatten_append]; exact sx.append sy
            obtain ⟨ρ', g1, g2⟩ := grown_yields (t := t) (e := e) (z := i.size) (l := old ++ new) (us := ux ++ uy) (fun row hrow => (List.mem_append.1 hrow).elim (zx row) (zy row)) hs2 (fun q hq => (List.mem_append.1 hq).elim (ox q) (oy q)) hst.rel hm _ hcap (Builtin.zeroCells zv.cells (grownCap w (len + new.length) cap' e - (len + new.length))) (by rw [zsize, List.length_append, ← hlen])
            rw [hnx] at g1
            rw [List.length_append, ← hlen] at g1 hK
            refine ⟨_, _, ρ', _, _, hK, hrun, g1, ?_⟩
            have e1 : (ux ++ uy).toArray = ux.toArray ++ uy.toArray := by simp
            rw [e1] at g2
            exact hst.trans g2
          have fresh : ∀ {x : List (List AVal)}, x ≠ [] → (match x with | [] => False | _ => True) := fun {x} hx => by cases x <;> simp_all
          cases hcp : cap with
          | some c =>
            rw [hcp] at h
            simp only at h
            have hcc : cap' = c := hc c hcp
            split at h
            · rename_i hfit
              rw [rlen_eq] at hfit
              have hfit' := Nat.le_of_ble_eq_true hfit
              cases hnew : new with
              | nil =>
                rw [hnew] at h ly
                simp only at h
                rw [← hcp] at h
                exact empty (new := []) rfl (by simp [ly]) h (List.length_eq_zero_iff.1 (by simpa using ly)) (fun _ _ => trivial)
              | cons y rest =>
                rw [hnew] at h
                simp only at h
                rw [← hnew] at h ⊢
                cases hg : H.get b with
                | dead => rw [hg] at h; exact (A.fail_no h).elim
                | obj o => rw [hg] at h; exact (A.fail_no h).elim
                | ro l => rw [hg] at h; exact (A.fail_no h).elim
                | rows z' l =>
                  rw [hg] at h
                  simp only at h
                  split at h
                  · rename_i hin
                    rw [rlen_eq, rlen_eq] at hin
                    have hin' := Nat.le_of_ble_eq_true hin
                    simp only [fL_eq, fN_eq, rlen_eq] at h
                    obtain ⟨hm, h⟩ := hPut_holds h
                    exact within hg hin' (by omega) (by rw [hnew]; simp) hm (some c) hcp.symm h
                  · exact (A.fail_no h).elim
            · rename_i hfit
              rw [rlen_eq] at hfit
              have hfit' : c < len + new.length := by
                rcases Nat.lt_or_ge c (len + new.length) with h | h
                · exact h
                · have h2 : Nat.ble (len + new.length) c = true := Nat.ble_eq_true_of_le h
                  rw [h2] at hfit; cases hfit
              simp only [fL_eq, fN_eq, rlen_eq] at h
              obtain ⟨hm, h⟩ := hAdd_holds h
              exact grow (by omega) (Step.refl hH) rfl hm _ rfl h
          | none =>
            rw [hcp] at h
            simp only at h
            cases hnew : new with
            | nil =>
              rw [hnew] at h ly
              simp only at h
              rw [← hcp] at h
              exact empty (new := []) rfl (by simp [ly]) h (List.length_eq_zero_iff.1 (by simpa using ly)) (fun _ _ => trivial)
            | cons y rest =>
              rw [hnew] at h
              simp only at h
              rw [← hnew] at h ⊢
              have hne : new ≠ [] := by rw [hnew]; simp
              have hpos : 0 < new.length := List.length_pos_iff.2 hne
              cases hg : H.get b with
              | dead => rw [hg] at h; exact (A.fail_no h).elim
              | obj o => rw [hg] at h; exact (A.fail_no h).elim
              | ro l => rw [hg] at h; exact (A.fail_no h).elim
              | rows z' l =>
                rw [hg] at h
                simp only at h
                have hB := hH.blk _ _ es
                rw [hg] at hB
                obtain ⟨h1, h2, h3, h4, arr, et, h5, h6, h7⟩ := hB
                split at h
                · rename_i hin
                  rw [rlen_eq, rlen_eq] at hin
                  have hin' := Nat.le_of_ble_eq_true hin
                  simp only [fL_eq, fN_eq, rlen_eq] at h
                  obtain ⟨hm, h⟩ := hPut_holds h
                  have := ho hcp
                  exact within hg hin' (by omega) hne hm none hcp.symm h
                · simp only [fL_eq, fN_eq, rlen_eq] at h
                  obtain ⟨hm, h⟩ := hPut_holds h
                  obtain ⟨hm2, h⟩ := hAdd_holds h
                  rw [Heap.next_put] at h
                  by_cases hcap : len + new.length ≤ cap'
                  · -- in place, beyond the rows: the block is given up, its array goes on under another name
                    rcases ha with ⟨h0, h00⟩ | ⟨rfl, hb2⟩
                    · omega
                    have hroom : S.off + r * S.esz + len * i.size + uy.length ≤ arr.size := by
                      have : (r + (len + new.length)) * S.esz ≤ (r + cap') * S.esz := Nat.mul_le_mul_right _ (by omega)
                      rw [Nat.add_mul, Nat.add_mul, hsz] at this
                      rw [ly, h6, hsz]
                      rw [hsz] at hb2
                      omega
                    have hrun := run_append_fits_ (P := P) (ty := ty) ht hi h5 (o := S.off + r * S.esz) (len := len) (cap := cap') (x := ay) (n := new.length) (c := cy) ly oy (fun hn => by rw [(ny hn).1]; rfl) cyl hcap hroom
                    have hll : (old ++ new).length = len + new.length := by rw [List.length_append, ← hlen]
                    have hT : S.off + r * S.esz + (len + new.length) * S.esz ≤ S.size := by
                      have : (r + (len + new.length)) * S.esz ≤ (r + cap') * S.esz := Nat.mul_le_mul_right _ (by omega)
                      rw [Nat.add_mul] at this
                      omega
                    have hst := Step.regrow hH b S ⟨S.blk, S.off + r * S.esz, S.size, len + new.length, i.size⟩ es hm hm2 (by rw [hg]; trivial) i.size (old ++ new) arr
                      (arr.toList.take (S.off + r * S.esz + len * i.size + 0) ++ uy ++ arr.toList.drop (S.off + r * S.esz + len * i.size + 0 + uy.length)).toArray et h5 (over_size _ _ _ hroom) rfl rfl hll.symm (by simpa [hsz] using hT) (by rw [over_size _ _ _ hroom, h6])
                      (fun row hrow => (List.mem_append.1 hrow).elim (zx row) (zy row)) (fun q row hq j x hx => by
                        have hxl := flat_get (l := old ++ new) (z := i.size) (fun row hrow => (List.mem_append.1 hrow).elim (zx row) (zy row)) hq hx
                        have hs2 : VRels ρ (old ++ new).flatten (ux ++ uy) := by rw [List.flatten_append]; exact sx.append sy
                        obtain ⟨v, hv, hrel⟩ := hs2.get _ _ hxl
                        refine ⟨v, ?_, (List.mem_append.1 (List.mem_of_getElem? hv)).elim (ox v) (oy v), hrel⟩
                        show (arr.toList.take (S.off + r * S.esz + len * i.size + 0) ++ uy ++ arr.toList.drop (S.off + r * S.esz + len * i.size + 0 + uy.length)).toArray[S.off + r * S.esz + q * i.size + j]? = some v
                        rw [over_get _ _ _ hroom]
                        rw [List.getElem?_append, lx, ← hlen] at hv
                        have hqj : q * i.size + j < len * i.size + uy.length := by
                          have := (List.getElem?_eq_some_iff.1 hxl).1
                          rw [flat_length (z := i.size) (fun row hrow => (List.mem_append.1 hrow).elim (zx row) (zy row)), hll, Nat.add_mul] at this
                          rw [ly]; exact this
                        by_cases hlt : q * i.size + j < len * i.size
                        · rw [if_pos hlt] at hv
                          rw [if_neg (by omega)]
                          have hc1 := cxl _ rfl (q * i.size + j) v hv
                          rw [Addr.add_lit, cell_of_row w S.blk _ arr et (0, 0) h5] at hc1
                          rw [← hc1]
                          congr 1
                          omega
                        · rw [if_neg hlt] at hv
                          rw [if_pos (by omega), ← hv]
                          congr 1
                          omega)
                    refine ⟨_, _, _, _, _, h, hrun, ?_, hst⟩
                    have := VRel.slc (ρ := ρ.add H.next ⟨S.blk, S.off + r * S.esz, S.size, len + new.length, i.size⟩) (R := ⟨S.blk, S.off + r * S.esz, S.size, len + new.length, i.size⟩) Env.add_same 0 (len + new.length) cap' none ⟨S.blk, S.off + r * S.esz, none⟩ hcap (fun c hc => by cases hc) (fun _ => by simpa using hcap) (.inr ⟨by simp, by
                      simp only [Nat.zero_add]
                      rw [Nat.add_mul] at hb2
                      rw [hsz] at hb2 ⊢
                      omega⟩)
                    rw [hll]
                    exact this
                  · exact grow (by omega) (Step.kill hH hm) (Heap.next_put _ _ _) hm2 _ rfl h
end append
end Dt
