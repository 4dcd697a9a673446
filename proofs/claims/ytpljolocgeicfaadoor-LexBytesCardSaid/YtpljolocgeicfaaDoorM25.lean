/- A part of the abstract machine and of the proof that the program does what it reckons; no conditions. -/
import Derived.Test.YtpljolocgeicfaaDoorM24
import Derived.Test.YtpljolocgeicfaaDoorRows
import Derived.Lib.LaidU8
import Derived.Lib.LaidTab
namespace Dt
open Go
set_option linter.all false
set_option maxRecDepth 100000
theorem cells_of_var {w : World} {name : String} {cs : Array Value} {g : Nat} (hg : Go.Proofs.Tryd.prog.globalNamed name = some g) (h : w.var? Go.Proofs.Tryd.prog name = some cs) : ∃ et fz, w.heap[g]? = some (.cells cs et fz) := by
  unfold World.var? at h
  rw [hg] at h
  simp only [Option.bind_some] at h
  split at h
  · rename_i cs' et fz hh
    simp at h
    subst h
    exact ⟨et, fz, hh⟩
  · cases h
theorem bytesV_get : ∀ (l : List Nat) (j : Nat) (x : AVal), (bytesV l)[j]? = some x → ∃ n, l[j]? = some n ∧ x = .int .u8 (.ofNat n)
  | [], j, x, h => by simp [bytesV] at h
  | n :: l, 0, x, h => by simp [bytesV] at h; exact ⟨n, rfl, h.symm⟩
  | n :: l, j + 1, x, h => by
    obtain ⟨m, h1, h2⟩ := bytesV_get l j x (by simpa [bytesV] using h)
    exact ⟨m, by simpa using h1, h2⟩
theorem row_ok {w : World} {name : String} {cs : Array Value} {g : Nat} {l : List Nat} (hg : Go.Proofs.Tryd.prog.globalNamed name = some g) (h : w.var? Go.Proofs.Tryd.prog name = some cs) (hc : cs.toList = l.map fun n => Value.int .u8 (.ofNat n)) :
    ∃ (c : Array Value) (et : TypeId) (fz : Nat × Nat), w.heap[g]? = some (.cells c et fz) ∧ ∀ (j : Nat) (x : AVal), (bytesV l)[j]? = some x → ∃ v, c[j]? = some v ∧ v.oneCell' = true ∧ VRel (fun _ => none) x v := by
  obtain ⟨et, fz, h1⟩ := cells_of_var hg h
  refine ⟨cs, et, fz, h1, fun j x hx => ?_⟩
  obtain ⟨n, h2, rfl⟩ := bytesV_get l j x hx
  refine ⟨.int .u8 (.ofNat n), ?_, rfl, .int _ _⟩
  rw [← Array.getElem?_toList, hc, List.getElem?_map, h2]
  rfl
theorem g0 : Go.Proofs.Tryd.prog.globalNamed "strings.asciiSpace" = some 0 := by kernel_rfl
theorem g1 : Go.Proofs.Tryd.prog.globalNamed "unicode.White_Space" = some 1 := by kernel_rfl
theorem g2 : Go.Proofs.Tryd.prog.globalNamed "unicode/utf8.first" = some 2 := by kernel_rfl
theorem g3 : Go.Proofs.Tryd.prog.globalNamed "unicode/utf8.acceptRanges" = some 3 := by kernel_rfl
theorem gt0 : (Go.Proofs.Tryd.prog.globals[0]?).map (·.type) = some 64 := by kernel_rfl
theorem gt2 : (Go.Proofs.Tryd.prog.globals[2]?).map (·.type) = some 64 := by kernel_rfl
theorem gt3 : (Go.Proofs.Tryd.prog.globals[3]?).map (·.type) = some 98 := by kernel_rfl
theorem u64_ : Go.Proofs.Tryd.prog.underlying 64 = some (.array 256 5) := by kernel_rfl
theorem u98_ : Go.Proofs.Tryd.prog.underlying 98 = some (.array 16 97) := by kernel_rfl
theorem u5_ : Go.Proofs.Tryd.prog.underlying 5 = some (.int .u8) := by kernel_rfl
theorem c5_ : Go.Proofs.Tryd.prog.cellsOf 5 = 1 := by kernel_rfl
theorem c64_ : Go.Proofs.Tryd.prog.cellsOf 64 = 256 := by kernel_rfl
theorem c97_ : Go.Proofs.Tryd.prog.cellsOf 97 = 2 := by kernel_rfl
theorem tab_row {w : World} {name : String} {g : Nat} {l : List Nat} {d : DataW Unit} (hg : Go.Proofs.Tryd.prog.globalNamed name = some g) (ht : (Go.Proofs.Tryd.prog.globals[g]?).map (·.type) = some 64) (hd : d = Lib.tabData .u8 (l.map fun n => (Int.ofNat n))) (h : Lib.VarReads Go.Proofs.Tryd.prog w name d) :
    ∃ (c : Array Value) (et : TypeId) (fz : Nat × Nat), w.heap[g]? = some (.cells c et fz) ∧ ∀ (j : Nat) (x : AVal), (bytesV l)[j]? = some x → ∃ v, c[j]? = some v ∧ v.oneCell' = true ∧ VRel (fun _ => none) x v := by
  obtain ⟨g', t, cs, fuel, p, h1, h2, h3, h4⟩ := h
  obtain rfl := Option.some.inj (hg.symm.trans h1)
  obtain rfl := Option.some.inj (ht.symm.trans h2)
  subst hd
  refine row_ok hg h3 ?_
  have := Lib.cells_of_tab u64_ u5_ c5_ c64_ h4
  rw [this]
  simp
theorem acc_row {w : World} {d : DataW Unit} (hd : d = .agg ((List.range 16).map fun i => .agg ([(acT.getD (2 * i) 0 : Int), (acT.getD (2 * i + 1) 0 : Int)].map fun z => .lit (.int .u8 z)))) (h : Lib.VarReads Go.Proofs.Tryd.prog w "unicode/utf8.acceptRanges" d) :
    ∃ (c : Array Value) (et : TypeId) (fz : Nat × Nat), w.heap[3]? = some (.cells c et fz) ∧ ∀ (j : Nat) (x : AVal), (bytesV acT)[j]? = some x → ∃ v, c[j]? = some v ∧ v.oneCell' = true ∧ VRel (fun _ => none) x v := by
  obtain ⟨g', t, cs, fuel, p, h1, h2, h3, h4⟩ := h
  obtain rfl := Option.some.inj (g3.symm.trans h1)
  obtain rfl := Option.some.inj (gt3.symm.trans h2)
  subst hd
  obtain ⟨et, fz, hh⟩ := cells_of_var g3 h3
  have key : ∀ i, i < 16 → cs.toList[2 * i]? = some (.int .u8 (acT.getD (2 * i) 0 : Int)) ∧ cs.toList[2 * i + 1]? = some (.int .u8 (acT.getD (2 * i + 1) 0 : Int)) := by
    intro i hi
    obtain ⟨fuel', d, q, hdi, he⟩ := Lib.array_elem u98_ h4 i hi
    simp only [List.getElem?_map, List.getElem?_range hi, Option.map_some, Option.some.injEq] at hdi
    subst hdi
    rw [c97_] at he
    obtain ⟨fs, u97, hsz, hf⟩ : ∃ fs : Array Field, Go.Proofs.Tryd.prog.underlying 97 = some (.struct fs) ∧ fs.size = 2 ∧ ∀ (j : Nat) (f : Field), fs[j]? = some f → Go.Proofs.Tryd.prog.underlying f.type = some (.int .u8) ∧ f.offset = j ∧ Go.Proofs.Tryd.prog.cellsOf f.type = 1 := by
      refine ⟨_, Go.Proofs.Tryd.underlying97, rfl, fun j f hj => ?_⟩
      match j, hj with
      | 0, hj => simp at hj; subst hj; exact ⟨u5_, rfl, c5_⟩
      | 1, hj => simp at hj; subst hj; exact ⟨u5_, rfl, c5_⟩
      | j + 2, hj => simp at hj
    have hcs := Lib.ints_of_struct u97 hf (by rw [c97_, hsz]) he
    have e0 := congrArg (·[0]?) hcs
    have e1 := congrArg (·[1]?) hcs
    simp only [List.getElem?_take, List.getElem?_drop] at e0 e1
    exact ⟨by simpa [Nat.mul_comm] using e0, by simpa [Nat.mul_comm] using e1⟩
  refine ⟨cs, et, fz, hh, fun j x hx => ?_⟩
  obtain ⟨n, hn, rfl⟩ := bytesV_get acT j x hx
  have hj : j < 32 := (List.getElem?_eq_some_iff.1 hn).1
  have hn' : acT.getD j 0 = n := by rw [List.getD_eq_getElem?_getD, hn]; rfl
  refine ⟨.int .u8 (.ofNat n), ?_, rfl, .int _ _⟩
  rw [← Array.getElem?_toList]
  obtain ⟨k1, k2⟩ := key (j / 2) (by omega)
  rcases Nat.mod_two_eq_zero_or_one j with e | e
  · rw [show 2 * (j / 2) = j by omega, hn'] at k1; exact k1
  · rw [show 2 * (j / 2) + 1 = j by omega, hn'] at k2; exact k2
open Go.Proofs.YtpljolocgeicfaaDoor in
theorem grel {w : World} {l : List (String × DataW Unit)} (hL : laidMet Go.Proofs.Tryd.prog l w)
    (hl : l = [("unicode/utf8.acceptRanges", Rows.laid_unicode_utf8_acceptRanges), ("unicode.White_Space", Rows.laid_unicode_White_Space), ("strings.asciiSpace", Rows.laid_strings_asciiSpace), ("unicode/utf8.first", Rows.laid_unicode_utf8_first)]) : GRel w GT := by
  subst hl
  have r0 := tab_row (l := spT) g0 gt0 (by kernel_rfl) (Lib.laidMet.reads hL (n := "strings.asciiSpace") (.tail _ (.tail _ (.head _))))
  have r2 := tab_row (l := fiT) g2 gt2 (by kernel_rfl) (Lib.laidMet.reads hL (n := "unicode/utf8.first") (.tail _ (.tail _ (.tail _ (.head _)))))
  have r3 := acc_row (by kernel_rfl) (Lib.laidMet.reads hL (n := "unicode/utf8.acceptRanges") (.head _))
  obtain ⟨g', t, cs, fuel, p, h1, h2, h3, h4⟩ := Lib.laidMet.reads hL (n := "unicode.White_Space") (.tail _ (.head _))
  obtain ⟨et, fz, hh⟩ := cells_of_var g1 h3
  intro g row hg
  match g, hg with
  | 0, hg => cases hg; exact r0
  | 1, hg => cases hg; exact ⟨cs, et, fz, hh, fun j x hx => by simp at hx⟩
  | 2, hg => cases hg; exact r2
  | 3, hg => cases hg; exact r3
  | g + 4, hg => simp [GT] at hg
end Dt
