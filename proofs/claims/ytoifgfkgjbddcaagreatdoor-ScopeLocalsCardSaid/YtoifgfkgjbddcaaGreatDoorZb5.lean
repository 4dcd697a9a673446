/- A part of the abstract machine and of the proof that the program does what it reckons; no conditions. -/
import Derived.Test.YtoifgfkgjbddcaaGreatDoorZr
set_option linter.all false
namespace Dt
open Go
set_option linter.all false
set_option maxRecDepth 100000
theorem c7 : cFunc Go.Proofs.Tryz.prog none false false vm7 Go.Proofs.Tryz.f7 = some d7 := by kernel_rfl
theorem k7 : FunOk Go.Proofs.Tryz.prog 7 d7 := fun_ok (fn := Go.Proofs.Tryz.f7) (by kernel_rfl) (by kernel_rfl) (by kernel_rfl) c7 (by kernel_rfl) (flags_none _ (by kernel_rfl))
theorem c18 : cFunc Go.Proofs.Tryz.prog (some (1018, 57)) true false vm18 Go.Proofs.Tryz.f18 = some d18 := by kernel_rfl
theorem k18 : FunOk Go.Proofs.Tryz.prog 18 d18 := by
  have hb : Go.Proofs.Tryz.f18.body = some body18 := by kernel_rfl
  refine ⟨Go.Proofs.Tryz.f18, body18, vm18, some (1018, 57), true, false, by kernel_rfl, hb, ne_of_beq_false (by kernel_rfl), nodup_of (by kernel_rfl), c18, tab_all ⟨Go.Proofs.Tryz.f57, _, by kernel_rfl, rfl, ne_of_beq_false (by kernel_rfl)⟩ _ fun r hr => ?_, flags_none _ (by kernel_rfl)⟩
  have h1 : (one? (rngAll body18)).isSome = true := by kernel_rfl
  cases ho : one? (rngAll body18) with
  | none => rw [ho] at h1; cases h1
  | some r0 =>
    have hl : rngAll body18 = [r0] := by
      revert ho
      generalize rngAll body18 = l
      intro ho
      match l, ho with
      | [a], ho => simp only [one?, Option.some.injEq] at ho; rw [ho]
    rw [hl] at hr
    simp only [List.mem_singleton] at hr
    subst hr
    show rec18 = _
    rw [rec18, ho]
    rfl
noncomputable def L18 : LoopRec := match rec18 with | some L => L | none => ⟨#[], .skip, .skip, [], 0⟩
theorem k1018 : RoundOk Go.Proofs.Tryz.prog 1018 d1018 1 := by
  have h1 : rec18.isSome = true := by kernel_rfl
  refine ⟨L18, ?_, nodup_of (by kernel_rfl), nodup_of (by kernel_rfl), fun t ht => ?_, by kernel_rfl, by kernel_rfl, by kernel_rfl, by kernel_rfl, flags_none _ (by kernel_rfl)⟩
  · show rec18 = some L18
    unfold L18
    cases ho : rec18 with
    | none => rw [ho] at h1; cases h1
    | some L => rfl
  · have h2 : (L18.ps.toList.all fun t => Nat.blt t L18.N) = true := by kernel_rfl
    exact Nat.le_of_ble_eq_true (List.all_eq_true.1 h2 t ht)
theorem c20 : cFunc Go.Proofs.Tryz.prog none false false vm20 Go.Proofs.Tryz.f20 = some d20 := by kernel_rfl
theorem k20 : FunOk Go.Proofs.Tryz.prog 20 d20 := fun_ok (fn := Go.Proofs.Tryz.f20) (by kernel_rfl) (by kernel_rfl) (by kernel_rfl) c20 (by kernel_rfl) (flags_none _ (by kernel_rfl))
theorem c25 : cFunc Go.Proofs.Tryz.prog none false false vm25 Go.Proofs.Tryz.f25 = some d25 := by kernel_rfl
theorem k25 : FunOk Go.Proofs.Tryz.prog 25 d25 := fun_ok (fn := Go.Proofs.Tryz.f25) (by kernel_rfl) (by kernel_rfl) (by kernel_rfl) c25 (by kernel_rfl) (flags_none _ (by kernel_rfl))
theorem c31 : cFunc Go.Proofs.Tryz.prog none false false vm31 Go.Proofs.Tryz.f31 = some d31 := by kernel_rfl
theorem k31 : FunOk Go.Proofs.Tryz.prog 31 d31 := fun_ok (fn := Go.Proofs.Tryz.f31) (by kernel_rfl) (by kernel_rfl) (by kernel_rfl) c31 (by kernel_rfl) (flags_none _ (by kernel_rfl))
theorem c32 : cFunc Go.Proofs.Tryz.prog none false false vm32 Go.Proofs.Tryz.f32 = some d32 := by kernel_rfl
theorem k32 : FunOk Go.Proofs.Tryz.prog 32 d32 := fun_ok (fn := Go.Proofs.Tryz.f32) (by kernel_rfl) (by kernel_rfl) (by kernel_rfl) c32 (by kernel_rfl) (flags_none _ (by kernel_rfl))
theorem c33 : cFunc Go.Proofs.Tryz.prog none false false vm33 Go.Proofs.Tryz.f33 = some d33 := by kernel_rfl
theorem k33 : FunOk Go.Proofs.Tryz.prog 33 d33 := fun_ok (fn := Go.Proofs.Tryz.f33) (by kernel_rfl) (by kernel_rfl) (by kernel_rfl) c33 (by kernel_rfl) (flags_none _ (by kernel_rfl))
theorem c42 : cFunc Go.Proofs.Tryz.prog none false false vm42 Go.Proofs.Tryz.f42 = some d42 := by kernel_rfl
theorem k42 : FunOk Go.Proofs.Tryz.prog 42 d42 := fun_ok (fn := Go.Proofs.Tryz.f42) (by kernel_rfl) (by kernel_rfl) (by kernel_rfl) c42 (by kernel_rfl) (flags_none _ (by kernel_rfl))
theorem c43 : cFunc Go.Proofs.Tryz.prog none false false vm43 Go.Proofs.Tryz.f43 = some d43 := by kernel_rfl
theorem k43 : FunOk Go.Proofs.Tryz.prog 43 d43 := fun_ok (fn := Go.Proofs.Tryz.f43) (by kernel_rfl) (by kernel_rfl) (by kernel_rfl) c43 (by kernel_rfl) (flags_none _ (by kernel_rfl))
theorem c44 : cFunc Go.Proofs.Tryz.prog none false false vm44 Go.Proofs.Tryz.f44 = some d44 := by kernel_rfl
theorem k44 : FunOk Go.Proofs.Tryz.prog 44 d44 := fun_ok (fn := Go.Proofs.Tryz.f44) (by kernel_rfl) (by kernel_rfl) (by kernel_rfl) c44 (by kernel_rfl) (flags_none _ (by kernel_rfl))
theorem c49 : cFunc Go.Proofs.Tryz.prog none false false vm49 Go.Proofs.Tryz.f49 = some d49 := by kernel_rfl
theorem k49 : FunOk Go.Proofs.Tryz.prog 49 d49 := fun_ok (fn := Go.Proofs.Tryz.f49) (by kernel_rfl) (by kernel_rfl) (by kernel_rfl) c49 (by kernel_rfl) (flags_none _ (by kernel_rfl))
theorem c53 : cFunc Go.Proofs.Tryz.prog none false false vm53 Go.Proofs.Tryz.f53 = some d53 := by kernel_rfl
theorem k53 : FunOk Go.Proofs.Tryz.prog 53 d53 := fun_ok (fn := Go.Proofs.Tryz.f53) (by kernel_rfl) (by kernel_rfl) (by kernel_rfl) c53 (by kernel_rfl) (flags_none _ (by kernel_rfl))
theorem c57 : cFunc Go.Proofs.Tryz.prog none false false vm57 Go.Proofs.Tryz.f57 = some d57 := by kernel_rfl
theorem k57 : FunOk Go.Proofs.Tryz.prog 57 d57 := fun_ok (fn := Go.Proofs.Tryz.f57) (by kernel_rfl) (by kernel_rfl) (by kernel_rfl) c57 (by kernel_rfl) (flags_none _ (by kernel_rfl))
theorem c88 : cFunc Go.Proofs.Tryz.prog none false false vm88 Go.Proofs.Tryz.f88 = some d88 := by kernel_rfl
theorem k88 : FunOk Go.Proofs.Tryz.prog 88 d88 := fun_ok (fn := Go.Proofs.Tryz.f88) (by kernel_rfl) (by kernel_rfl) (by kernel_rfl) c88 (by kernel_rfl) (flags_none _ (by kernel_rfl))
theorem c95 : cFunc Go.Proofs.Tryz.prog none false false vm95 Go.Proofs.Tryz.f95 = some d95 := by kernel_rfl
theorem k95 : FunOk Go.Proofs.Tryz.prog 95 d95 := fun_ok (fn := Go.Proofs.Tryz.f95) (by kernel_rfl) (by kernel_rfl) (by kernel_rfl) c95 (by kernel_rfl) (flags_none _ (by kernel_rfl))
theorem c97 : cFunc Go.Proofs.Tryz.prog none false false vm97 Go.Proofs.Tryz.f97 = some d97 := by kernel_rfl
theorem k97 : FunOk Go.Proofs.Tryz.prog 97 d97 := fun_ok (fn := Go.Proofs.Tryz.f97) (by kernel_rfl) (by kernel_rfl) (by kernel_rfl) c97 (by kernel_rfl) (flags_none _ (by kernel_rfl))
theorem c100 : cFunc Go.Proofs.Tryz.prog none false false vm100 Go.Proofs.Tryz.f100 = some d100 := by kernel_rfl
theorem k100 : FunOk Go.Proofs.Tryz.prog 100 d100 := fun_ok (fn := Go.Proofs.Tryz.f100) (by kernel_rfl) (by kernel_rfl) (by kernel_rfl) c100 (by kernel_rfl) (flags_none _ (by kernel_rfl))
theorem c108 : cFunc Go.Proofs.Tryz.prog none false false vm108 Go.Proofs.Tryz.f108 = some d108 := by kernel_rfl
theorem k108 : FunOk Go.Proofs.Tryz.prog 108 d108 := fun_ok (fn := Go.Proofs.Tryz.f108) (by kernel_rfl) (by kernel_rfl) (by kernel_rfl) c108 (by kernel_rfl) (flags_none _ (by kernel_rfl))
theorem c111 : cFunc Go.Proofs.Tryz.prog none false false vm111 Go.Proofs.Tryz.f111 = some d111 := by kernel_rfl
theorem k111 : FunOk Go.Proofs.Tryz.prog 111 d111 := fun_ok (fn := Go.Proofs.Tryz.f111) (by kernel_rfl) (by kernel_rfl) (by kernel_rfl) c111 (by kernel_rfl) (flags_none _ (by kernel_rfl))
theorem c115 : cFunc Go.Proofs.Tryz.prog none false false vm115 Go.Proofs.Tryz.f115 = some d115 := by kernel_rfl
theorem k115 : FunOk Go.Proofs.Tryz.prog 115 d115 := fun_ok (fn := Go.Proofs.Tryz.f115) (by kernel_rfl) (by kernel_rfl) (by kernel_rfl) c115 (by kernel_rfl) (flags_none _ (by kernel_rfl))
theorem c118 : cFunc Go.Proofs.Tryz.prog none false true vm118 Go.Proofs.Tryz.f118 = some d118 := by kernel_rfl
theorem k118 : FunOk Go.Proofs.Tryz.prog 118 d118 := fun_ok (fn := Go.Proofs.Tryz.f118) (by kernel_rfl) (by kernel_rfl) (by kernel_rfl) c118 (by kernel_rfl) (flags_one (by kernel_rfl) (by kernel_rfl) (by kernel_rfl) pair118)
theorem c135 : cFunc Go.Proofs.Tryz.prog none false false vm135 Go.Proofs.Tryz.f135 = some d135 := by kernel_rfl
theorem k135 : FunOk Go.Proofs.Tryz.prog 135 d135 := fun_ok (fn := Go.Proofs.Tryz.f135) (by kernel_rfl) (by kernel_rfl) (by kernel_rfl) c135 (by kernel_rfl) (flags_none _ (by kernel_rfl))
theorem c155 : cFunc Go.Proofs.Tryz.prog none false false vm155 Go.Proofs.Tryz.f155 = some d155 := by kernel_rfl
theorem k155 : FunOk Go.Proofs.Tryz.prog 155 d155 := fun_ok (fn := Go.Proofs.Tryz.f155) (by kernel_rfl) (by kernel_rfl) (by kernel_rfl) c155 (by kernel_rfl) (flags_none _ (by kernel_rfl))
theorem c157 : cFunc Go.Proofs.Tryz.prog none false false vm157 Go.Proofs.Tryz.f157 = some d157 := by kernel_rfl
theorem k157 : FunOk Go.Proofs.Tryz.prog 157 d157 := fun_ok (fn := Go.Proofs.Tryz.f157) (by kernel_rfl) (by kernel_rfl) (by kernel_rfl) c157 (by kernel_rfl) (flags_none _ (by kernel_rfl))
theorem c159 : cFunc Go.Proofs.Tryz.prog none false false vm159 Go.Proofs.Tryz.f159 = some d159 := by kernel_rfl
theorem k159 : FunOk Go.Proofs.Tryz.prog 159 d159 := fun_ok (fn := Go.Proofs.Tryz.f159) (by kernel_rfl) (by kernel_rfl) (by kernel_rfl) c159 (by kernel_rfl) (flags_none _ (by kernel_rfl))
theorem c160 : cFunc Go.Proofs.Tryz.prog none false false vm160 Go.Proofs.Tryz.f160 = some d160 := by kernel_rfl
theorem k160 : FunOk Go.Proofs.Tryz.prog 160 d160 := fun_ok (fn := Go.Proofs.Tryz.f160) (by kernel_rfl) (by kernel_rfl) (by kernel_rfl) c160 (by kernel_rfl) (flags_none _ (by kernel_rfl))
theorem c162 : cFunc Go.Proofs.Tryz.prog none false false vm162 Go.Proofs.Tryz.f162 = some d162 := by kernel_rfl
theorem k162 : FunOk Go.Proofs.Tryz.prog 162 d162 := fun_ok (fn := Go.Proofs.Tryz.f162) (by kernel_rfl) (by kernel_rfl) (by kernel_rfl) c162 (by kernel_rfl) (flags_none _ (by kernel_rfl))
theorem c164 : cFunc Go.Proofs.Tryz.prog none false false vm164 Go.Proofs.Tryz.f164 = some d164 := by kernel_rfl
theorem k164 : FunOk Go.Proofs.Tryz.prog 164 d164 := fun_ok (fn := Go.Proofs.Tryz.f164) (by kernel_rfl) (by kernel_rfl) (by kernel_rfl) c164 (by kernel_rfl) (flags_none _ (by kernel_rfl))
theorem c170 : cFunc Go.Proofs.Tryz.prog none false false vm170 Go.Proofs.Tryz.f170 = some d170 := by kernel_rfl
theorem k170 : FunOk Go.Proofs.Tryz.prog 170 d170 := fun_ok (fn := Go.Proofs.Tryz.f170) (by kernel_rfl) (by kernel_rfl) (by kernel_rfl) c170 (by kernel_rfl) (flags_none _ (by kernel_rfl))
theorem c185 : cFunc Go.Proofs.Tryz.prog none false false vm185 Go.Proofs.Tryz.f185 = some d185 := by kernel_rfl
theorem k185 : FunOk Go.Proofs.Tryz.prog 185 d185 := fun_ok (fn := Go.Proofs.Tryz.f185) (by kernel_rfl) (by kernel_rfl) (by kernel_rfl) c185 (by kernel_rfl) (flags_none _ (by kernel_rfl))
theorem c188 : cFunc Go.Proofs.Tryz.prog none false false vm188 Go.Proofs.Tryz.f188 = some d188 := by kernel_rfl
theorem k188 : FunOk Go.Proofs.Tryz.prog 188 d188 := fun_ok (fn := Go.Proofs.Tryz.f188) (by kernel_rfl) (by kernel_rfl) (by kernel_rfl) c188 (by kernel_rfl) (flags_none _ (by kernel_rfl))
theorem c196 : cFunc Go.Proofs.Tryz.prog none false false vm196 Go.Proofs.Tryz.f196 = some d196 := by kernel_rfl
theorem k196 : FunOk Go.Proofs.Tryz.prog 196 d196 := fun_ok (fn := Go.Proofs.Tryz.f196) (by kernel_rfl) (by kernel_rfl) (by kernel_rfl) c196 (by kernel_rfl) (flags_none _ (by kernel_rfl))
theorem c199 : cFunc Go.Proofs.Tryz.prog none false false vm199 Go.Proofs.Tryz.f199 = some d199 := by kernel_rfl
theorem k199 : FunOk Go.Proofs.Tryz.prog 199 d199 := fun_ok (fn := Go.Proofs.Tryz.f199) (by kernel_rfl) (by kernel_rfl) (by kernel_rfl) c199 (by kernel_rfl) (flags_none _ (by kernel_rfl))
theorem c200 : cFunc Go.Proofs.Tryz.prog none false false vm200 Go.Proofs.Tryz.f200 = some d200 := by kernel_rfl
theorem k200 : FunOk Go.Proofs.Tryz.prog 200 d200 := fun_ok (fn := Go.Proofs.Tryz.f200) (by kernel_rfl) (by kernel_rfl) (by kernel_rfl) c200 (by kernel_rfl) (flags_none _ (by kernel_rfl))
theorem c202 : cFunc Go.Proofs.Tryz.prog none false false vm202 Go.Proofs.Tryz.f202 = some d202 := by kernel_rfl
theorem k202 : FunOk Go.Proofs.Tryz.prog 202 d202 := fun_ok (fn := Go.Proofs.Tryz.f202) (by kernel_rfl) (by kernel_rfl) (by kernel_rfl) c202 (by kernel_rfl) (flags_none _ (by kernel_rfl))
end Dt
