/- A part of the abstract machine and of the proof that the program does what it reckons; no conditions. -/
import Derived.Test.YtpljolocgeicfaaDoorDo
import Derived.Test.YtpljolocgeicfaaDoorXb
import Derived.Laws.Externs
namespace Dt
open Go
set_option maxRecDepth 100000
def look : List (Nat × DF) → Nat → Option DF
  | [], _ => none
  | p :: l, f => match Nat.beq p.1 f with | true => some p.2 | false => look l f
def table : List (Nat × DF) := [(3, d3), (4, d4), (5, d5), (6, d6), (7, d7), (8, d8), (9, d9), (10, d10), (11, d11), (12, d12), (13, d13), (14, d14), (15, d15), (16, d16), (17, d17), (18, d18), (19, d19), (20, d20), (21, d21), (22, d22), (23, d23), (24, d24), (25, d25), (26, d26), (27, d27), (28, d28), (29, d29), (30, d30), (31, d31), (32, d32), (33, d33), (34, d34), (35, d35), (36, d36), (37, d37), (38, d38), (39, d39), (40, d40), (41, d41), (42, d42), (43, d43), (44, d44), (45, d45), (46, d46), (47, d47), (48, d48), (49, d49), (50, d50), (51, d51), (52, d52), (53, d53), (54, d54), (55, d55), (56, d56), (57, d57), (58, d58), (59, d59), (61, d61), (63, d63), (64, d64)]
theorem look_mem : ∀ {l : List (Nat × DF)} {f : Nat} {F : DF}, look l f = some F → (f, F) ∈ l
  | [], _, _, h => by simp [look] at h
  | p :: l, f, F, h => by
    simp only [look] at h
    split at h
    · rename_i hb
      have := Nat.eq_of_beq_eq_true hb
      simp at h
      subst this
      subst h
      simp
    · exact List.mem_cons_of_mem _ (look_mem h)
def AllOk (l : List (Nat × DF)) : Prop := ∀ p ∈ l, FunOk Go.Proofs.Tryd.prog p.1 p.2
theorem AllOk.nil : AllOk [] := fun p h => by cases h
theorem AllOk.cons {f : Nat} {F : DF} {l : List (Nat × DF)} (h : FunOk Go.Proofs.Tryd.prog f F) (t : AllOk l) : AllOk ((f, F) :: l) := fun p hp => by
  rcases List.mem_cons.1 hp with rfl | hp
  · exact h
  · exact t p hp
theorem table_ok : AllOk table := .cons k3 (.cons k4 (.cons k5 (.cons k6 (.cons k7 (.cons k8 (.cons k9 (.cons k10 (.cons k11 (.cons k12 (.cons k13 (.cons k14 (.cons k15 (.cons k16 (.cons k17 (.cons k18 (.cons k19 (.cons k20 (.cons k21 (.cons k22 (.cons k23 (.cons k24 (.cons k25 (.cons k26 (.cons k27 (.cons k28 (.cons k29 (.cons k30 (.cons k31 (.cons k32 (.cons k33 (.cons k34 (.cons k35 (.cons k36 (.cons k37 (.cons k38 (.cons k39 (.cons k40 (.cons k41 (.cons k42 (.cons k43 (.cons k44 (.cons k45 (.cons k46 (.cons k47 (.cons k48 (.cons k49 (.cons k50 (.cons k51 (.cons k52 (.cons k53 (.cons k54 (.cons k55 (.cons k56 (.cons k57 (.cons k58 (.cons k59 (.cons k61 (.cons k63 (.cons k64 (.nil))))))))))))))))))))))))))))))))))))))))))))))))))))))))))))
theorem funs_ok : ∀ f F, look table f = some F → FunOk Go.Proofs.Tryd.prog f F := fun f F h => table_ok (f, F) (look_mem h)
/-- The tables of strings.Fields and of package utf8. -/
def spT : List Nat := [0, 0, 0, 0, 0, 0, 0, 0, 0, 1, 1, 1, 1, 1, 0, 0, 0, 0, 0, 0, 0, 0, 0, 0, 0, 0, 0, 0, 0, 0, 0, 0, 1, 0, 0, 0, 0, 0, 0, 0, 0, 0, 0, 0, 0, 0, 0, 0, 0, 0, 0, 0, 0, 0, 0, 0, 0, 0, 0, 0, 0, 0, 0, 0, 0, 0, 0, 0, 0, 0, 0, 0, 0, 0, 0, 0, 0, 0, 0, 0, 0, 0, 0, 0, 0, 0, 0, 0, 0, 0, 0, 0, 0, 0, 0, 0, 0, 0, 0, 0, 0, 0, 0, 0, 0, 0, 0, 0, 0, 0, 0, 0, 0, 0, 0, 0, 0, 0, 0, 0, 0, 0, 0, 0, 0, 0, 0, 0, 0, 0, 0, 0, 0, 0, 0, 0, 0, 0, 0, 0, 0, 0, 0, 0, 0, 0, 0, 0, 0, 0, 0, 0, 0, 0, 0, 0, 0, 0, 0, 0, 0, 0, 0, 0, 0, 0, 0, 0, 0, 0, 0, 0, 0, 0, 0, 0, 0, 0, 0, 0, 0, 0, 0, 0, 0, 0, 0, 0, 0, 0, 0, 0, 0, 0, 0, 0, 0, 0, 0, 0, 0, 0, 0, 0, 0, 0, 0, 0, 0, 0, 0, 0, 0, 0, 0, 0, 0, 0, 0, 0, 0, 0, 0, 0, 0, 0, 0, 0, 0, 0, 0, 0, 0, 0, 0, 0, 0, 0, 0, 0, 0, 0, 0, 0, 0, 0, 0, 0, 0, 0, 0, 0, 0, 0, 0, 0]
def fiT : List Nat := [240, 240, 240, 240, 240, 240, 240, 240, 240, 240, 240, 240, 240, 240, 240, 240, 240, 240, 240, 240, 240, 240, 240, 240, 240, 240, 240, 240, 240, 240, 240, 240, 240, 240, 240, 240, 240, 240, 240, 240, 240, 240, 240, 240, 240, 240, 240, 240, 240, 240, 240, 240, 240, 240, 240, 240, 240, 240, 240, 240, 240, 240, 240, 240, 240, 240, 240, 240, 240, 240, 240, 240, 240, 240, 240, 240, 240, 240, 240, 240, 240, 240, 240, 240, 240, 240, 240, 240, 240, 240, 240, 240, 240, 240, 240, 240, 240, 240, 240, 240, 240, 240, 240, 240, 240, 240, 240, 240, 240, 240, 240, 240, 240, 240, 240, 240, 240, 240, 240, 240, 240, 240, 240, 240, 240, 240, 240, 240, 241, 241, 241, 241, 241, 241, 241, 241, 241, 241, 241, 241, 241, 241, 241, 241, 241, 241, 241, 241, 241, 241, 241, 241, 241, 241, 241, 241, 241, 241, 241, 241, 241, 241, 241, 241, 241, 241, 241, 241, 241, 241, 241, 241, 241, 241, 241, 241, 241, 241, 241, 241, 241, 241, 241, 241, 241, 241, 241, 241, 241, 241, 241, 241, 241, 241, 2, 2, 2, 2, 2, 2, 2, 2, 2, 2, 2, 2, 2, 2, 2, 2, 2, 2, 2, 2, 2, 2, 2, 2, 2, 2, 2, 2, 2, 2, 19, 3, 3, 3, 3, 3, 3, 3, 3, 3, 3, 3, 3, 35, 3, 3, 52, 4, 4, 4, 68, 241, 241, 241, 241, 241, 241, 241, 241, 241, 241, 241]
def acT : List Nat := [128, 191, 160, 191, 128, 159, 144, 191, 128, 143, 0, 0, 0, 0, 0, 0, 0, 0, 0, 0, 0, 0, 0, 0, 0, 0, 0, 0, 0, 0, 0, 0]
def bytesV : List Nat → List AVal
  | [] => []
  | n :: l => .int .u8 (.ofNat n) :: bytesV l
def GT : List (List AVal) := [bytesV spT, [], bytesV fiT, bytesV acT]
/-- Are the tables these? -/
def isNums : List Nat → List AVal → Bool
  | [], [] => true
  | n :: l, x :: m => (match x with | .int .u8 (.ofNat k) => Nat.beq k n | _ => false) && isNums l m
  | _, _ => false
theorem isNums_eq : ∀ {l : List Nat} {m : List AVal}, isNums l m = true → m = bytesV l
  | [], [], _ => rfl
  | [], _ :: _, h => by simp [isNums] at h
  | _ :: _, [], h => by simp [isNums] at h
  | n :: l, x :: m, h => by
    simp only [isNums, Bool.and_eq_true] at h
    obtain ⟨h1, h2⟩ := h
    split at h1
    · rename_i k
      have := Nat.eq_of_beq_eq_true h1
      subst this
      rw [isNums_eq h2]
      rfl
    · cases h1
def isGT (gl : List (List AVal)) : Bool := match gl with
  | [a, b, c, d] => isNums spT a && (isNums [] b && (isNums fiT c && isNums acT d))
  | _ => false
theorem isGT_eq {gl : List (List AVal)} (h : isGT gl = true) : gl = GT := by
  unfold isGT at h
  split at h
  · simp only [Bool.and_eq_true] at h
    rw [isNums_eq h.1, isNums_eq h.2.1, isNums_eq h.2.2.1, isNums_eq h.2.2.2]
    rfl
  · cases h
theorem isGT_GT : isGT GT = true := by kernel_rfl

def yes (x : AVal) (_ : Heap) : Bool := match x with | .bool b => b | _ => false
theorem yes_true {x : AVal} {H : Heap} (h : yes x H = true) : x = .bool true := by
  cases x <;> simp [yes] at h
  rw [h]

/-- Where a byte stands first. -/
def idxB (n c d : Nat) : Int := match (List.range n).find? fun i => Nat.beq (sget c i) (d % 256) with
  | some i => .ofNat i
  | none => .negSucc 0
theorem firstIdx_idxB (s : ByteArray) (d : Nat) : firstIdx s (Int.ofNat d).toNat.toUInt8 = idxB s.size (codeOf s.data.toList) d := by
  unfold firstIdx idxB
  have : (fun i => s[i]! == (Int.ofNat d).toNat.toUInt8) = fun i => Nat.beq (sget (codeOf s.data.toList) i) (d % 256) := by
    funext i
    rw [← get_sget]
    have h1 : s[i]! = s.get! i := by
      show s[i]! = s.data[i]!
      by_cases hi : i < s.size
      · rw [getElem!_pos s i hi, getElem!_pos s.data i hi]
        rfl
      · rw [getElem!_neg s i hi, getElem!_neg s.data i hi]
    rw [h1, Bool.eq_iff_iff]
    have h2 : (Int.ofNat d).toNat.toUInt8.toNat = d % 256 := by simp
    constructor
    · intro h
      have := eq_of_beq h
      rw [this, h2, Nat.beq_eq]
    · intro h
      have := Nat.eq_of_beq_eq_true h
      rw [beq_iff_eq]
      exact UInt8.toNat_inj.1 (by rw [this, h2])
  rw [this]
  cases (List.range s.size).find? _ <;> rfl
theorem idxB_knows (gl : List (List AVal)) (n c d : Nat) : Knows Go.Proofs.Tryd.prog gl 65 [.str n c, .int .u8 (.ofNat d)] (.val (.int .i64 (idxB n c d))) := by
  intro w ρ us hg hs
  cases hs with
  | cons h1 h2 => cases h2 with
    | cons h2 h3 =>
      cases h3
      cases h1
      cases h2
      rename_i s
      unfold Out
      rw [run_callFunc_extern (P := Go.Proofs.Tryd.prog) (fn := Go.Proofs.Tryd.f65) (by kernel_rfl) (by kernel_rfl) (by kernel_rfl) (by kernel_rfl) (e := Extern.BytealgIndexByte.indexByte) (by kernel_rfl), run_indexByte_string]
      simp only [Result.andThen]
      exact ⟨by rw [firstIdx_idxB]; exact .int _ _, Quiet.refl w⟩
/-- Known ahead: where a byte stands first. -/
def known0 (_ : List (List AVal)) (f : Nat) (args : List AVal) : Option KA := match Nat.beq f 65 with
  | true => match args with
    | [.str n c, .int .u8 (.ofNat d)] => some (.val (.int .i64 (idxB n c d)))
    | _ => none
  | false => none
theorem known0_ok (gl : List (List AVal)) (f : Nat) (args : List AVal) (a : KA) (h : known0 gl f args = some a) : Knows Go.Proofs.Tryd.prog gl f args a := by
  unfold known0 at h
  split at h
  · rename_i hb
    have := Nat.eq_of_beq_eq_true hb
    subst this
    split at h
    · simp only [Option.some.injEq] at h
      subst h
      exact idxB_knows gl _ _ _
    · cases h
  · cases h
def T0 : Prog := ⟨look table, known0⟩
theorem T0_ok : ProgOk Go.Proofs.Tryd.prog T0 := ⟨follows, funs_ok, known0_ok⟩

/-! The words. -/
def wordsL : List (AVal × AVal) := [(.str 3 9602786, .int .i64 (.ofNat 2)), (.str 2 48078, .int .i64 (.ofNat 3)), (.str 6 111516500389741, .int .i64 (.ofNat 1)), (.str 5 435710945399, .int .i64 (.ofNat 1)), (.str 4 1635017060, .int .i64 (.ofNat 1)), (.str 3 7628140, .int .i64 (.ofNat 1)), (.str 2 28265, .int .i64 (.ofNat 1)), (.str 4 1852141679, .int .i64 (.ofNat 1)), (.str 5 444234036085, .int .i64 (.ofNat 1)), (.str 6 113723912251752, .int .i64 (.ofNat 1)), (.str 8 7453010351851726194, .int .i64 (.ofNat 1)), (.str 2 28532, .int .i64 (.ofNat 1)), (.str 7 28556934595048048, .int .i64 (.ofNat 1)), (.str 9 1871507254677525983088, .int .i64 (.ofNat 1)), (.str 5 517164396137, .int .i64 (.ofNat 1)), (.str 6 119264420195945, .int .i64 (.ofNat 1)), (.str 6 125861489962601, .int .i64 (.ofNat 1)), (.str 3 7628115, .int .i64 (.ofNat 1)), (.str 3 7631718, .int .i64 (.ofNat 1)), (.str 3 6581875, .int .i64 (.ofNat 1)), (.str 1 58, .int .i64 (.ofNat 1)), (.str 1 61, .int .i64 (.ofNat 1)), (.str 2 15917, .int .i64 (.ofNat 1)), (.str 1 92, .int .i64 (.ofNat 1)), (.str 2 10794, .int .i64 (.ofNat 1)), (.str 1 95, .int .i64 (.ofNat 1))]
def sameM : List (AVal × AVal) → List (AVal × AVal) → Bool
  | [], [] => true
  | x :: l, y :: m => (match x.1, y.1, x.2, y.2 with
    | .str n c, .str n' c', .int .i64 (.ofNat a), .int .i64 (.ofNat b) => Nat.beq n n' && (Nat.beq c c' && Nat.beq a b)
    | _, _, _, _ => false) && sameM l m
  | _, _ => false
theorem sameM_eq : ∀ {l m : List (AVal × AVal)}, sameM l m = true → l = m
  | [], [], _ => rfl
  | [], _ :: _, h => by simp [sameM] at h
  | _ :: _, [], h => by simp [sameM] at h
  | (x1, x2) :: l, (y1, y2) :: m, h => by
    simp only [sameM, Bool.and_eq_true] at h
    obtain ⟨h1, h2⟩ := h
    rw [sameM_eq h2]
    split at h1
    · simp only [Bool.and_eq_true] at h1
      rw [Nat.eq_of_beq_eq_true h1.1, Nat.eq_of_beq_eq_true h1.2.1, Nat.eq_of_beq_eq_true h1.2.2]
    · cases h1
theorem plain_mono {ρ ρ' : Env} {l : List (AVal × AVal)} : ∀ {es : List MapEntry} {n : Nat}, sameM l l = true → MRel ρ l es n → MRel ρ' l es n := by
  induction l with
  | nil => intro es n _ h; cases es; exact trivial; exact h.elim
  | cons x l ih =>
    obtain ⟨x1, x2⟩ := x
    intro es n h hm
    cases es with
    | nil => exact hm.elim
    | cons e es =>
      obtain ⟨m1, m2, m3, m4⟩ := hm
      simp only [sameM, Bool.and_eq_true] at h
      obtain ⟨h1, h2⟩ := h
      refine ⟨?_, ?_, m3, ih h2 m4⟩
      · split at h1
        · generalize e.key = u at m1 ⊢
          cases m1
          exact .str _
        · cases h1
      · split at h1
        · generalize e.val = u at m2 ⊢
          cases m2
          exact .int _ _
        · cases h1
def isWords (x : AVal) (H : Heap) : Bool := match x with
  | .mp b => match H.get b with
    | .obj (.map l) => sameM l wordsL
    | _ => false
  | _ => false
theorem words_true : evF AB T0 60 16 [] ⟨0, .nil, GT⟩ isWords = true := by kernel_rfl
theorem words_plain : sameM wordsL wordsL = true := by kernel_rfl
theorem words_knows : Knows Go.Proofs.Tryd.prog GT 16 [] (.map wordsL) := by
  intro w ρ us hg hs
  cases hs
  refine Out.mono ?_ (evF_sound (A := AB) T0_ok 60 16 [] ⟨0, .nil, GT⟩ isWords Env.none w [] .nil (HRel.nobody w hg) words_true)
  intro v w' hv
  obtain ⟨x, H', ρ', g2, g3, g4⟩ := hv
  have g2' : isWords x H' = true := g2
  unfold isWords at g2'
  cases g3 <;> try (cases g2'; done)
  rename_i b R e
  simp only at g2'
  cases hb : H'.get b with
  | dead => rw [hb] at g2'; cases g2'
  | rows z l => rw [hb] at g2'; cases g2'
  | ro l => rw [hb] at g2'; cases g2'
  | obj o =>
    rw [hb] at g2'
    have hB := g4.rel.blk _ _ e
    rw [hb] at hB
    cases o with
    | siter _ _ _ => cases g2'
    | miter _ _ _ _ => cases g2'
    | map l =>
      simp only at g2'
      have := sameM_eq g2'
      subst this
      obtain ⟨h0, o, h1, es, rfl, h2⟩ := hB
      refine ⟨g4.quiet, R.blk, es, rfl, ?_, h1, plain_mono words_plain h2⟩
      rcases g4.range _ _ e (by rw [hb]; trivial) with h | ⟨b0, R0, e0, _⟩
      · exact h
      · cases e0

/-- Known ahead: that, and the words. -/
def known1 (gl : List (List AVal)) (f : Nat) (args : List AVal) : Option KA := match Nat.beq f 16 with
  | true => match args with
    | [] => match isGT gl with
      | true => some (.map wordsL)
      | false => none
    | _ => none
  | false => known0 gl f args
theorem known1_ok (gl : List (List AVal)) (f : Nat) (args : List AVal) (a : KA) (h : known1 gl f args = some a) : Knows Go.Proofs.Tryd.prog gl f args a := by
  unfold known1 at h
  split at h
  · rename_i hb
    have := Nat.eq_of_beq_eq_true hb
    subst this
    split at h
    · split at h
      · rename_i hg
        simp only [Option.some.injEq] at h
        subst h
        rw [isGT_eq hg]
        exact words_knows
      · cases h
    · cases h
  · exact known0_ok gl f args a h
def T1 : Prog := ⟨look table, known1⟩
theorem T1_ok : ProgOk Go.Proofs.Tryd.prog T1 := ⟨follows, funs_ok, known1_ok⟩

theorem alive_true : evF AB T1 60 8 [] ⟨0, .nil, GT⟩ yes = true := by kernel_rfl
theorem alive_knows : Knows Go.Proofs.Tryd.prog GT 8 [] (.val (.bool true)) := by
  intro w ρ us hg hs
  cases hs
  refine Out.mono ?_ (evF_sound (A := AB) T1_ok 60 8 [] ⟨0, .nil, GT⟩ yes Env.none w [] .nil (HRel.nobody w hg) alive_true)
  intro v w' hv
  obtain ⟨x, H', ρ', g2, g3, g4⟩ := hv
  rw [yes_true g2] at g3
  cases g3
  exact ⟨.bool true, g4.quiet⟩

/-- Known ahead: those, and that the example holds. -/
def known2 (gl : List (List AVal)) (f : Nat) (args : List AVal) : Option KA := match Nat.beq f 8 with
  | true => match args with
    | [] => match isGT gl with
      | true => some (.val (.bool true))
      | false => none
    | _ => none
  | false => known1 gl f args
theorem known2_ok (gl : List (List AVal)) (f : Nat) (args : List AVal) (a : KA) (h : known2 gl f args = some a) : Knows Go.Proofs.Tryd.prog gl f args a := by
  unfold known2 at h
  split at h
  · rename_i hb
    have := Nat.eq_of_beq_eq_true hb
    subst this
    split at h
    · split at h
      · rename_i hg
        simp only [Option.some.injEq] at h
        subst h
        rw [isGT_eq hg]
        exact alive_knows
      · cases h
    · cases h
  · exact known1_ok gl f args a h
/-! The set of the digits. -/
def digT : List Bool := [false, false, false, false, false, false, false, false, false, false, false, false, false, false, false, false, false, false, false, false, false, false, false, false, false, false, false, false, false, false, false, false, false, false, false, false, false, false, false, false, false, false, false, false, false, false, false, false, true, true, true, true, true, true, true, true, true, true, false, false, false, false, false, false, false, false, false, false, false, false, false, false, false, false, false, false, false, false, false, false, false, false, false, false, false, false, false, false, false, false, false, false, false, false, false, false, false, false, false, false, false, false, false, false, false, false, false, false, false, false, false, false, false, false, false, false, false, false, false, false, false, false, false, false, false, false, false, false, false, false, false, false, false, false, false, false, false, false, false, false, false, false, false, false, false, false, false, false, false, false, false, false, false, false, false, false, false, false, false, false, false, false, false, false, false, false, false, false, false, false, false, false, false, false, false, false, false, false, false, false, false, false, false, false, false, false, false, false, false, false, false, false, false, false, false, false, false, false, false, false, false, false, false, false, false, false, false, false, false, false, false, false, false, false, false, false, false, false, false, false, false, false, false, false, false, false, false, false, false, false, false, false, false, false, false, false, false, false, false, false, false, false, false, false, false, false, false, false, false, false, false, false, false, false, false, false]
def boolsV : List Bool → List AVal
  | [] => []
  | b :: l => .bool b :: boolsV l
def isBools : List Bool → List AVal → Bool
  | [], [] => true
  | b :: l, x :: m => (match x with | .bool c => b == c | _ => false) && isBools l m
  | _, _ => false
theorem isBools_eq : ∀ {l : List Bool} {m : List AVal}, isBools l m = true → m = boolsV l
  | [], [], _ => rfl
  | [], _ :: _, h => by simp [isBools] at h
  | _ :: _, [], h => by simp [isBools] at h
  | n :: l, x :: m, h => by
    simp only [isBools, Bool.and_eq_true] at h
    obtain ⟨h1, h2⟩ := h
    split at h1
    · have := eq_of_beq h1
      subst this
      rw [isBools_eq h2]
      rfl
    · cases h1
theorem bools_mono {ρ ρ' : Env} : ∀ {l : List Bool} {us : List Value}, VRels ρ (boolsV l) us → VRels ρ' (boolsV l) us
  | [], us, h => by cases h; exact .nil
  | b :: l, us, h => by
    cases h with
    | cons h1 h2 =>
      cases h1
      exact .cons (.bool _) (bools_mono h2)
def isDigs (x : AVal) (_ : Heap) : Bool := match x with
  | .tup [.agg l, .bool true] => isBools digT l
  | _ => false
theorem digs_true (gl : List (List AVal)) : evF AB T0 60 50 [.str 10 270211885617516653982000] ⟨0, .nil, gl⟩ isDigs = true := by kernel_rfl
theorem digs_knows (gl : List (List AVal)) : Knows Go.Proofs.Tryd.prog gl 50 [.str 10 270211885617516653982000] (.val (.tup [.agg (boolsV digT), .bool true])) := by
  intro w ρ us hg hs
  have hs' : VRels Env.none [.str 10 270211885617516653982000] us := by
    cases hs with
    | cons h1 h2 =>
      cases h2
      generalize hn : (10 : Nat) = n at h1
      generalize hc : (270211885617516653982000 : Nat) = c at h1
      cases h1
      exact .cons (.str _) .nil
  refine Out.mono ?_ (evF_sound (A := AB) T0_ok 60 50 [.str 10 270211885617516653982000] ⟨0, .nil, gl⟩ isDigs Env.none w us hs' (HRel.nobody w hg) (digs_true gl))
  intro v w' hv
  obtain ⟨x, H', ρ', g2, g3, g4⟩ := hv
  have g2' : isDigs x H' = true := g2
  unfold isDigs at g2'
  split at g2'
  · rename_i l
    have := isBools_eq g2'
    subst this
    refine ⟨?_, g4.quiet⟩
    cases g3 with
    | tup h =>
      cases h with
      | cons h1 h2 => cases h2 with
        | cons h2 h3 =>
          cases h3
          cases h2
          generalize hb : boolsV digT = bl at h1
          cases h1 with
          | agg h4 h5 =>
            subst hb
            exact .tup (.cons (.agg (bools_mono h4) h5) (.cons (.bool _) .nil))
  · cases g2'
/-- Known ahead: all that, and that set. -/
def known3 (gl : List (List AVal)) (f : Nat) (args : List AVal) : Option KA := match Nat.beq f 50 with
  | true => match args with
    | [.str n c] => match Nat.beq n 10 && Nat.beq c 270211885617516653982000 with
      | true => some (.val (.tup [.agg (boolsV digT), .bool true]))
      | false => none
    | _ => none
  | false => known2 gl f args
theorem known3_ok (gl : List (List AVal)) (f : Nat) (args : List AVal) (a : KA) (h : known3 gl f args = some a) : Knows Go.Proofs.Tryd.prog gl f args a := by
  unfold known3 at h
  split at h
  · rename_i hb
    have := Nat.eq_of_beq_eq_true hb
    subst this
    split at h
    · split at h
      · rename_i n c hn
        simp only [Bool.and_eq_true] at hn
        have e1 := Nat.eq_of_beq_eq_true hn.1
        have e2 := Nat.eq_of_beq_eq_true hn.2
        subst e1
        subst e2
        simp only [Option.some.injEq] at h
        subst h
        exact digs_knows gl
      · cases h
    · cases h
  · exact known2_ok gl f args a h
/-- The functions, and all that is known ahead. -/
def TT : Prog := ⟨look table, known3⟩
theorem TT_ok : ProgOk Go.Proofs.Tryd.prog TT := ⟨follows, funs_ok, known3_ok⟩
theorem digs_known {gl : List (List AVal)} : TT.known gl 50 [.str 10 270211885617516653982000] = some (.val (.tup [.agg (boolsV digT), .bool true])) := by
  rfl
theorem words_known : TT.known GT 16 [] = some (.map wordsL) := by
  show known3 GT 16 [] = _
  simp only [known3, known2, known1, isGT_GT, Nat.beq]
theorem alive_known : TT.known GT 8 [] = some (.val (.bool true)) := by
  show known3 GT 8 [] = _
  simp only [known3, known2, isGT_GT, Nat.beq]
theorem idx_known {gl : List (List AVal)} {n c d : Nat} : TT.known gl 65 [.str n c, .int .u8 (.ofNat d)] = some (.val (.int .i64 (idxB n c d))) := by
  rfl
end Dt
