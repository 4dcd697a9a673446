/- A part of the abstract machine and of the proof that the program does what it reckons; no conditions. -/
import Derived.Test.YtoifgfkgjbddcaaGreatDoorZb1
import Derived.Test.YtoifgfkgjbddcaaGreatDoorZb2
import Derived.Test.YtoifgfkgjbddcaaGreatDoorZb3
import Derived.Test.YtoifgfkgjbddcaaGreatDoorZb4
import Derived.Test.YtoifgfkgjbddcaaGreatDoorZb5
import Derived.Test.YtoifgfkgjbddcaaGreatDoorZb6
import Derived.Laws.Externs
import Derived.Lib.Bytealg
set_option linter.all false
namespace Dt
open Go
set_option linter.all false
set_option maxRecDepth 100000
def FT.Ok (p : Nat → DF → Prop) : FT → Prop
  | .leaf => True
  | .node n F l r => p n F ∧ l.Ok p ∧ r.Ok p
theorem FT.look_ok {p : Nat → DF → Prop} : ∀ {t : FT} {k : Nat} {F : DF}, t.Ok p → t.look k = some F → p k F
  | .leaf, _, _, _, h => by simp [FT.look] at h
  | .node n G l r, k, F, ho, h => by
    simp only [FT.look] at h
    split at h
    · rename_i hb
      have := Nat.eq_of_beq_eq_true hb
      simp at h
      subst this
      subst h
      exact ho.1
    · split at h
      · exact FT.look_ok ho.2.1 h
      · exact FT.look_ok ho.2.2 h
/-- What is so of each entry of the table. -/
def EntryOk (n : Nat) (F : DF) : Prop := (F.rnd = none → FunOk Go.Proofs.Tryz.prog n F) ∧ ∀ k, F.rnd = some k → RoundOk Go.Proofs.Tryz.prog n F k
theorem entryF {n : Nat} {F : DF} (h : FunOk Go.Proofs.Tryz.prog n F) (hr : F.rnd = none) : EntryOk n F := ⟨fun _ => h, fun k hk => by rw [hr] at hk; cases hk⟩
theorem entryR {n k : Nat} {F : DF} (h : RoundOk Go.Proofs.Tryz.prog n F k) (hr : F.rnd = some k) : EntryOk n F := ⟨fun hn => (by rw [hr] at hn; cases hn), fun j hj => by rw [hr] at hj; cases hj; exact h⟩
theorem table_ok : table.Ok EntryOk := ⟨entryF k106 rfl, ⟨entryF k55 rfl, ⟨entryF k27 rfl, ⟨entryF k15 rfl, ⟨entryF k9 rfl, ⟨entryF k6 rfl, ⟨entryF k4 rfl, ⟨entryF k3 rfl, trivial, trivial⟩, ⟨entryF k5 rfl, trivial, trivial⟩⟩, ⟨entryF k8 rfl, ⟨entryF k7 rfl, trivial, trivial⟩, trivial⟩⟩, ⟨entryF k12 rfl, ⟨entryF k11 rfl, ⟨entryF k10 rfl, trivial, trivial⟩, trivial⟩, ⟨entryF k14 rfl, ⟨entryF k13 rfl, trivial, trivial⟩, trivial⟩⟩⟩, ⟨entryF k21 rfl, ⟨entryF k18 rfl, ⟨entryF k17 rfl, ⟨entryF k16 rfl, trivial, trivial⟩, trivial⟩, ⟨entryF k20 rfl, ⟨entryF k19 rfl, trivial, trivial⟩, trivial⟩⟩, ⟨entryF k24 rfl, ⟨entryF k23 rfl, ⟨entryF k22 rfl, trivial, trivial⟩, trivial⟩, ⟨entryF k26 rfl, ⟨entryF k25 rfl, trivial, trivial⟩, trivial⟩⟩⟩⟩, ⟨entryF k43 rfl, ⟨entryF k33 rfl, ⟨entryF k30 rfl, ⟨entryF k29 rfl, ⟨entryF k28 rfl, trivial, trivial⟩, trivial⟩, ⟨entryF k32 rfl, ⟨entryF k31 rfl, trivial, trivial⟩, trivial⟩⟩, ⟨entryF k36 rfl, ⟨entryF k35 rfl, ⟨entryF k34 rfl, trivial, trivial⟩, trivial⟩, ⟨entryF k42 rfl, ⟨entryF k37 rfl, trivial, trivial⟩, trivial⟩⟩⟩, ⟨entryF k49 rfl, ⟨entryF k46 rfl, ⟨entryF k45 rfl, ⟨entryF k44 rfl, trivial, trivial⟩, trivial⟩, ⟨entryF k48 rfl, ⟨entryF k47 rfl, trivial, trivial⟩, trivial⟩⟩, ⟨entryF k52 rfl, ⟨entryF k51 rfl, ⟨entryF k50 rfl, trivial, trivial⟩, trivial⟩, ⟨entryF k54 rfl, ⟨entryF k53 rfl, trivial, trivial⟩, trivial⟩⟩⟩⟩⟩, ⟨entryF k79 rfl, ⟨entryF k67 rfl, ⟨entryF k61 rfl, ⟨entryF k58 rfl, ⟨entryF k57 rfl, ⟨entryF k56 rfl, trivial, trivial⟩, trivial⟩, ⟨entryF k60 rfl, ⟨entryF k59 rfl, trivial, trivial⟩, trivial⟩⟩, ⟨entryF k64 rfl, ⟨entryF k63 rfl, ⟨entryF k62 rfl, trivial, trivial⟩, trivial⟩, ⟨entryF k66 rfl, ⟨entryF k65 rfl, trivial, trivial⟩, trivial⟩⟩⟩, ⟨entryF k73 rfl, ⟨entryF k70 rfl, ⟨entryF k69 rfl, ⟨entryF k68 rfl, trivial, trivial⟩, trivial⟩, ⟨entryF k72 rfl, ⟨entryF k71 rfl, trivial, trivial⟩, trivial⟩⟩, ⟨entryF k76 rfl, ⟨entryF k75 rfl, ⟨entryF k74 rfl, trivial, trivial⟩, trivial⟩, ⟨entryF k78 rfl, ⟨entryF k77 rfl, trivial, trivial⟩, trivial⟩⟩⟩⟩, ⟨entryF k94 rfl, ⟨entryF k85 rfl, ⟨entryF k82 rfl, ⟨entryF k81 rfl, ⟨entryF k80 rfl, trivial, trivial⟩, trivial⟩, ⟨entryF k84 rfl, ⟨entryF k83 rfl, trivial, trivial⟩, trivial⟩⟩, ⟨entryF k88 rfl, ⟨entryF k87 rfl, ⟨entryF k86 rfl, trivial, trivial⟩, trivial⟩, ⟨entryF k93 rfl, ⟨entryF k92 rfl, trivial, trivial⟩, trivial⟩⟩⟩, ⟨entryF k100 rfl, ⟨entryF k97 rfl, ⟨entryF k96 rfl, ⟨entryF k95 rfl, trivial, trivial⟩, trivial⟩, ⟨entryF k99 rfl, ⟨entryF k98 rfl, trivial, trivial⟩, trivial⟩⟩, ⟨entryF k103 rfl, ⟨entryF k102 rfl, ⟨entryF k101 rfl, trivial, trivial⟩, trivial⟩, ⟨entryF k105 rfl, ⟨entryF k104 rfl, trivial, trivial⟩, trivial⟩⟩⟩⟩⟩⟩, ⟨entryF k155 rfl, ⟨entryF k131 rfl, ⟨entryF k119 rfl, ⟨entryF k113 rfl, ⟨entryF k110 rfl, ⟨entryF k108 rfl, ⟨entryF k107 rfl, trivial, trivial⟩, ⟨entryF k109 rfl, trivial, trivial⟩⟩, ⟨entryF k112 rfl, ⟨entryF k111 rfl, trivial, trivial⟩, trivial⟩⟩, ⟨entryF k116 rfl, ⟨entryF k115 rfl, ⟨entryF k114 rfl, trivial, trivial⟩, trivial⟩, ⟨entryF k118 rfl, ⟨entryF k117 rfl, trivial, trivial⟩, trivial⟩⟩⟩, ⟨entryF k125 rfl, ⟨entryF k122 rfl, ⟨entryF k121 rfl, ⟨entryF k120 rfl, trivial, trivial⟩, trivial⟩, ⟨entryF k124 rfl, ⟨entryF k123 rfl, trivial, trivial⟩, trivial⟩⟩, ⟨entryF k128 rfl, ⟨entryF k127 rfl, ⟨entryF k126 rfl, trivial, trivial⟩, trivial⟩, ⟨entryF k130 rfl, ⟨entryF k129 rfl, trivial, trivial⟩, trivial⟩⟩⟩⟩, ⟨entryF k143 rfl, ⟨entryF k137 rfl, ⟨entryF k134 rfl, ⟨entryF k133 rfl, ⟨entryF k132 rfl, trivial, trivial⟩, trivial⟩, ⟨entryF k136 rfl, ⟨entryF k135 rfl, trivial, trivial⟩, trivial⟩⟩, ⟨entryF k140 rfl, ⟨entryF k139 rfl, ⟨entryF k138 rfl, trivial, trivial⟩, trivial⟩, ⟨entryF k142 rfl, ⟨entryF k141 rfl, trivial, trivial⟩, trivial⟩⟩⟩, ⟨entryF k149 rfl, ⟨entryF k146 rfl, ⟨entryF k145 rfl, ⟨entryF k144 rfl, trivial, trivial⟩, trivial⟩, ⟨entryF k148 rfl, ⟨entryF k147 rfl, trivial, trivial⟩, trivial⟩⟩, ⟨entryF k152 rfl, ⟨entryF k151 rfl, ⟨entryF k150 rfl, trivial, trivial⟩, trivial⟩, ⟨entryF k154 rfl, ⟨entryF k153 rfl, trivial, trivial⟩, trivial⟩⟩⟩⟩⟩, ⟨entryF k181 rfl, ⟨entryF k168 rfl, ⟨entryF k162 rfl, ⟨entryF k158 rfl, ⟨entryF k157 rfl, ⟨entryF k156 rfl, trivial, trivial⟩, trivial⟩, ⟨entryF k160 rfl, ⟨entryF k159 rfl, trivial, trivial⟩, trivial⟩⟩, ⟨entryF k165 rfl, ⟨entryF k164 rfl, ⟨entryF k163 rfl, trivial, trivial⟩, trivial⟩, ⟨entryF k167 rfl, ⟨entryF k166 rfl, trivial, trivial⟩, trivial⟩⟩⟩, ⟨entryF k174 rfl, ⟨entryF k171 rfl, ⟨entryF k170 rfl, ⟨entryF k169 rfl, trivial, trivial⟩, trivial⟩, ⟨entryF k173 rfl, ⟨entryF k172 rfl, trivial, trivial⟩, trivial⟩⟩, ⟨entryF k177 rfl, ⟨entryF k176 rfl, ⟨entryF k175 rfl, trivial, trivial⟩, trivial⟩, ⟨entryF k179 rfl, ⟨entryF k178 rfl, trivial, trivial⟩, trivial⟩⟩⟩⟩, ⟨entryF k194 rfl, ⟨entryF k188 rfl, ⟨entryF k185 rfl, ⟨entryF k183 rfl, ⟨entryF k182 rfl, trivial, trivial⟩, trivial⟩, ⟨entryF k187 rfl, ⟨entryF k186 rfl, trivial, trivial⟩, trivial⟩⟩, ⟨entryF k191 rfl, ⟨entryF k190 rfl, ⟨entryF k189 rfl, trivial, trivial⟩, trivial⟩, ⟨entryF k193 rfl, ⟨entryF k192 rfl, trivial, trivial⟩, trivial⟩⟩⟩, ⟨entryF k200 rfl, ⟨entryF k197 rfl, ⟨entryF k196 rfl, ⟨entryF k195 rfl, trivial, trivial⟩, trivial⟩, ⟨entryF k199 rfl, ⟨entryF k198 rfl, trivial, trivial⟩, trivial⟩⟩, ⟨entryF k203 rfl, ⟨entryF k202 rfl, ⟨entryF k201 rfl, trivial, trivial⟩, trivial⟩, ⟨entryR k1018 rfl, ⟨entryF k204 rfl, trivial, trivial⟩, trivial⟩⟩⟩⟩⟩⟩⟩

def yes (x : AVal) (_ : Heap) : Bool := match x with | .bool b => b | _ => false
theorem yes_true {x : AVal} {H : Heap} (h : yes x H = true) : x = .bool true := by
  cases x <;> simp [yes] at h
  rw [h]

/-- Where a byte stands first. -/
def idxB (n c d : Nat) : Int := match (List.range n).find? fun i => Nat.beq (sget c i) (d % 256) with
  | some i => .ofNat i
  | none => .negSucc 0
theorem firstIdx_idxB (s : ByteArray) (d : Nat) : firstIdx s (Int.ofNat d).toNat.toUInt8 = idxB s.size (codeOf s.data.toList) d := by
  unfold firstIdx idxB
  have : (fun i => s[i]! == (Int.ofNat d).toNat.toUInt8) = fun i => Nat.beq (sget (codeOf s.data.toList) i) (d % 256) := by
    funext i
    rw [← get_sget]
    have h1 : s[i]! = s.get! i := by
      show s[i]! = s.data[i]!
      by_cases hi : i < s.size
      · rw [getElem!_pos s i hi, getElem!_pos s.data i hi]
        rfl
      · rw [getElem!_neg s i hi, getElem!_neg s.data i hi]
    rw [h1, Bool.eq_iff_iff]
    have h2 : (Int.ofNat d).toNat.toUInt8.toNat = d % 256 := by simp
    constructor
    · intro h
      have := eq_of_beq h
      rw [this, h2, Nat.beq_eq]
    · intro h
      have := Nat.eq_of_beq_eq_true h
      rw [beq_iff_eq]
      exact UInt8.toNat_inj.1 (by rw [this, h2])
  rw [this]
  cases (List.range s.size).find? _ <;> rfl
theorem idxB_knows (gl : List (List AVal)) (n c d : Nat) : Knows Go.Proofs.Tryz.prog gl 180 [.str n c, .int .u8 (.ofNat d)] (.val (.int .i64 (idxB n c d))) := by
  intro w ρ us hg hs
  cases hs with
  | cons h1 h2 => cases h2 with
    | cons h2 h3 =>
      cases h3
      cases h1
      cases h2
      rename_i s
      unfold Out
      rw [run_callFunc_extern (P := Go.Proofs.Tryz.prog) (fn := Go.Proofs.Tryz.f180) (by kernel_rfl) (by kernel_rfl) (by kernel_rfl) (by kernel_rfl) (e := Extern.BytealgIndexByte.indexByte) (by kernel_rfl), run_indexByte_string]
      simp only [Result.andThen]
      exact ⟨by rw [firstIdx_idxB]; exact .int _ _, Quiet.refl w⟩
/-- How often a byte stands there. -/
def cntB : Nat → Nat → Nat → Nat
  | 0, _, _ => 0
  | n + 1, c, d => Nat.add (cntB n (Nat.div c 256) d) (match Nat.beq (Nat.mod c 256) (Nat.mod d 256) with | true => 1 | false => 0)
theorem cntB_eq (d : Nat) : ∀ l : List UInt8, Lib.countByte l (Int.ofNat d).toNat.toUInt8 = cntB l.length (codeOf l) d
  | [] => rfl
  | b :: l => by
    have hb : b.toNat < 256 := b.toNat_lt
    have h1 : codeOf (b :: l) % 256 = b.toNat := by simp only [codeOf]; omega
    have h2 : codeOf (b :: l) / 256 = codeOf l := by simp only [codeOf]; omega
    have ih := cntB_eq d l
    unfold Lib.countByte at ih ⊢
    rw [List.count_cons, ih]
    show _ = Nat.add (cntB l.length (Nat.div (codeOf (b :: l)) 256) d) _
    rw [show Nat.div (codeOf (b :: l)) 256 = codeOf l from h2, show Nat.mod (codeOf (b :: l)) 256 = b.toNat from h1]
    have h3 : (Int.ofNat d).toNat.toUInt8.toNat = d % 256 := by simp
    show Nat.add _ _ = Nat.add _ _
    congr 1
    by_cases hbd : b = (Int.ofNat d).toNat.toUInt8
    · have : Nat.beq b.toNat (Nat.mod d 256) = true := by rw [Nat.beq_eq, hbd, h3]; rfl
      rw [this, if_pos (by rw [hbd]; simp)]
    · have : Nat.beq b.toNat (Nat.mod d 256) = false := by
        cases hq : Nat.beq b.toNat (Nat.mod d 256) with
        | false => rfl
        | true => exact absurd (UInt8.toNat_inj.1 (by rw [h3]; exact Nat.eq_of_beq_eq_true hq)) hbd
      rw [this, if_neg (by simpa using hbd)]
theorem cntB_knows (gl : List (List AVal)) (n c d : Nat) : Knows Go.Proofs.Tryz.prog gl 184 [.str n c, .int .u8 (.ofNat d)] (.val (.int .i64 (.ofNat (cntB n c d)))) := by
  intro w ρ us hg hs
  cases hs with
  | cons h1 h2 => cases h2 with
    | cons h2 h3 =>
      cases h3
      cases h1
      cases h2
      rename_i s
      unfold Out
      rw [run_callFunc_extern (P := Go.Proofs.Tryz.prog) (fn := Go.Proofs.Tryz.f184) (by kernel_rfl) (by kernel_rfl) (by kernel_rfl) (by kernel_rfl) (e := Extern.BytealgCount.count) (by kernel_rfl), Lib.run_countString]
      simp only [Result.andThen]
      refine ⟨?_, Quiet.refl w⟩
      rw [cntB_eq]
      exact .int _ _
/-- Known ahead: where a byte stands first; how often. -/
def known0 (_ : List (List AVal)) (f : Nat) (args : List AVal) : Option KA := match Nat.beq f 180 with
  | true => match args with
    | [.str n c, .int .u8 (.ofNat d)] => some (.val (.int .i64 (idxB n c d)))
    | _ => none
  | false => match Nat.beq f 184 with
    | true => match args with
      | [.str n c, .int .u8 (.ofNat d)] => some (.val (.int .i64 (.ofNat (cntB n c d))))
      | _ => none
    | false => none
theorem known0_ok (gl : List (List AVal)) (f : Nat) (args : List AVal) (a : KA) (h : known0 gl f args = some a) : Knows Go.Proofs.Tryz.prog gl f args a := by
  unfold known0 at h
  split at h
  · rename_i hb
    have := Nat.eq_of_beq_eq_true hb
    subst this
    split at h
    · simp only [Option.some.injEq] at h
      subst h
      exact idxB_knows gl _ _ _
    · cases h
  · split at h
    · rename_i hb
      have := Nat.eq_of_beq_eq_true hb
      subst this
      split at h
      · simp only [Option.some.injEq] at h
        subst h
        exact cntB_knows gl _ _ _
      · cases h
    · cases h
def T0 : Prog := ⟨table.look, known0⟩
theorem T0_ok : ProgOk Go.Proofs.Tryz.prog T0 := ⟨follows, fun f F h hr => (FT.look_ok table_ok h).1 hr, fun f F k h hr => (FT.look_ok table_ok h).2 k hr, known0_ok⟩
end Dt
