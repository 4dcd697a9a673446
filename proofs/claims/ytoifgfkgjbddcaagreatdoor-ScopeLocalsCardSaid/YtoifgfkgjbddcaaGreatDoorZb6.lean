/- A part of the abstract machine and of the proof that the program does what it reckons; no conditions. -/
import Derived.Test.YtoifgfkgjbddcaaGreatDoorZr
set_option linter.all false
namespace Dt
open Go
set_option linter.all false
set_option maxRecDepth 100000
theorem c8 : cFunc Go.Proofs.Tryz.prog none false false vm8 Go.Proofs.Tryz.f8 = some d8 := by kernel_rfl
theorem k8 : FunOk Go.Proofs.Tryz.prog 8 d8 := fun_ok (fn := Go.Proofs.Tryz.f8) (by kernel_rfl) (by kernel_rfl) (by kernel_rfl) c8 (by kernel_rfl) (flags_none _ (by kernel_rfl))
theorem c9 : cFunc Go.Proofs.Tryz.prog none false false vm9 Go.Proofs.Tryz.f9 = some d9 := by kernel_rfl
theorem k9 : FunOk Go.Proofs.Tryz.prog 9 d9 := fun_ok (fn := Go.Proofs.Tryz.f9) (by kernel_rfl) (by kernel_rfl) (by kernel_rfl) c9 (by kernel_rfl) (flags_none _ (by kernel_rfl))
theorem c11 : cFunc Go.Proofs.Tryz.prog none false false vm11 Go.Proofs.Tryz.f11 = some d11 := by kernel_rfl
theorem k11 : FunOk Go.Proofs.Tryz.prog 11 d11 := fun_ok (fn := Go.Proofs.Tryz.f11) (by kernel_rfl) (by kernel_rfl) (by kernel_rfl) c11 (by kernel_rfl) (flags_none _ (by kernel_rfl))
theorem c23 : cFunc Go.Proofs.Tryz.prog none false false vm23 Go.Proofs.Tryz.f23 = some d23 := by kernel_rfl
theorem k23 : FunOk Go.Proofs.Tryz.prog 23 d23 := fun_ok (fn := Go.Proofs.Tryz.f23) (by kernel_rfl) (by kernel_rfl) (by kernel_rfl) c23 (by kernel_rfl) (flags_none _ (by kernel_rfl))
theorem c61 : cFunc Go.Proofs.Tryz.prog none false false vm61 Go.Proofs.Tryz.f61 = some d61 := by kernel_rfl
theorem k61 : FunOk Go.Proofs.Tryz.prog 61 d61 := fun_ok (fn := Go.Proofs.Tryz.f61) (by kernel_rfl) (by kernel_rfl) (by kernel_rfl) c61 (by kernel_rfl) (flags_none _ (by kernel_rfl))
theorem c62 : cFunc Go.Proofs.Tryz.prog none false false vm62 Go.Proofs.Tryz.f62 = some d62 := by kernel_rfl
theorem k62 : FunOk Go.Proofs.Tryz.prog 62 d62 := fun_ok (fn := Go.Proofs.Tryz.f62) (by kernel_rfl) (by kernel_rfl) (by kernel_rfl) c62 (by kernel_rfl) (flags_none _ (by kernel_rfl))
theorem c65 : cFunc Go.Proofs.Tryz.prog none false false vm65 Go.Proofs.Tryz.f65 = some d65 := by kernel_rfl
theorem k65 : FunOk Go.Proofs.Tryz.prog 65 d65 := fun_ok (fn := Go.Proofs.Tryz.f65) (by kernel_rfl) (by kernel_rfl) (by kernel_rfl) c65 (by kernel_rfl) (flags_none _ (by kernel_rfl))
theorem c69 : cFunc Go.Proofs.Tryz.prog none false false vm69 Go.Proofs.Tryz.f69 = some d69 := by kernel_rfl
theorem k69 : FunOk Go.Proofs.Tryz.prog 69 d69 := fun_ok (fn := Go.Proofs.Tryz.f69) (by kernel_rfl) (by kernel_rfl) (by kernel_rfl) c69 (by kernel_rfl) (flags_none _ (by kernel_rfl))
theorem c71 : cFunc Go.Proofs.Tryz.prog none false false vm71 Go.Proofs.Tryz.f71 = some d71 := by kernel_rfl
theorem k71 : FunOk Go.Proofs.Tryz.prog 71 d71 := fun_ok (fn := Go.Proofs.Tryz.f71) (by kernel_rfl) (by kernel_rfl) (by kernel_rfl) c71 (by kernel_rfl) (flags_none _ (by kernel_rfl))
theorem c75 : cFunc Go.Proofs.Tryz.prog none false false vm75 Go.Proofs.Tryz.f75 = some d75 := by kernel_rfl
theorem k75 : FunOk Go.Proofs.Tryz.prog 75 d75 := fun_ok (fn := Go.Proofs.Tryz.f75) (by kernel_rfl) (by kernel_rfl) (by kernel_rfl) c75 (by kernel_rfl) (flags_none _ (by kernel_rfl))
theorem c77 : cFunc Go.Proofs.Tryz.prog none false false vm77 Go.Proofs.Tryz.f77 = some d77 := by kernel_rfl
theorem k77 : FunOk Go.Proofs.Tryz.prog 77 d77 := fun_ok (fn := Go.Proofs.Tryz.f77) (by kernel_rfl) (by kernel_rfl) (by kernel_rfl) c77 (by kernel_rfl) (flags_none _ (by kernel_rfl))
theorem c85 : cFunc Go.Proofs.Tryz.prog none false false vm85 Go.Proofs.Tryz.f85 = some d85 := by kernel_rfl
theorem k85 : FunOk Go.Proofs.Tryz.prog 85 d85 := fun_ok (fn := Go.Proofs.Tryz.f85) (by kernel_rfl) (by kernel_rfl) (by kernel_rfl) c85 (by kernel_rfl) (flags_none _ (by kernel_rfl))
theorem c87 : cFunc Go.Proofs.Tryz.prog none false false vm87 Go.Proofs.Tryz.f87 = some d87 := by kernel_rfl
theorem k87 : FunOk Go.Proofs.Tryz.prog 87 d87 := fun_ok (fn := Go.Proofs.Tryz.f87) (by kernel_rfl) (by kernel_rfl) (by kernel_rfl) c87 (by kernel_rfl) (flags_none _ (by kernel_rfl))
theorem c93 : cFunc Go.Proofs.Tryz.prog none false false vm93 Go.Proofs.Tryz.f93 = some d93 := by kernel_rfl
theorem k93 : FunOk Go.Proofs.Tryz.prog 93 d93 := fun_ok (fn := Go.Proofs.Tryz.f93) (by kernel_rfl) (by kernel_rfl) (by kernel_rfl) c93 (by kernel_rfl) (flags_none _ (by kernel_rfl))
theorem c96 : cFunc Go.Proofs.Tryz.prog none false false vm96 Go.Proofs.Tryz.f96 = some d96 := by kernel_rfl
theorem k96 : FunOk Go.Proofs.Tryz.prog 96 d96 := fun_ok (fn := Go.Proofs.Tryz.f96) (by kernel_rfl) (by kernel_rfl) (by kernel_rfl) c96 (by kernel_rfl) (flags_none _ (by kernel_rfl))
theorem c99 : cFunc Go.Proofs.Tryz.prog none false false vm99 Go.Proofs.Tryz.f99 = some d99 := by kernel_rfl
theorem k99 : FunOk Go.Proofs.Tryz.prog 99 d99 := fun_ok (fn := Go.Proofs.Tryz.f99) (by kernel_rfl) (by kernel_rfl) (by kernel_rfl) c99 (by kernel_rfl) (flags_none _ (by kernel_rfl))
theorem c104 : cFunc Go.Proofs.Tryz.prog none false false vm104 Go.Proofs.Tryz.f104 = some d104 := by kernel_rfl
theorem k104 : FunOk Go.Proofs.Tryz.prog 104 d104 := fun_ok (fn := Go.Proofs.Tryz.f104) (by kernel_rfl) (by kernel_rfl) (by kernel_rfl) c104 (by kernel_rfl) (flags_none _ (by kernel_rfl))
theorem c109 : cFunc Go.Proofs.Tryz.prog none false false vm109 Go.Proofs.Tryz.f109 = some d109 := by kernel_rfl
theorem k109 : FunOk Go.Proofs.Tryz.prog 109 d109 := fun_ok (fn := Go.Proofs.Tryz.f109) (by kernel_rfl) (by kernel_rfl) (by kernel_rfl) c109 (by kernel_rfl) (flags_none _ (by kernel_rfl))
theorem c123 : cFunc Go.Proofs.Tryz.prog none false false vm123 Go.Proofs.Tryz.f123 = some d123 := by kernel_rfl
theorem k123 : FunOk Go.Proofs.Tryz.prog 123 d123 := fun_ok (fn := Go.Proofs.Tryz.f123) (by kernel_rfl) (by kernel_rfl) (by kernel_rfl) c123 (by kernel_rfl) (flags_none _ (by kernel_rfl))
theorem c133 : cFunc Go.Proofs.Tryz.prog none false false vm133 Go.Proofs.Tryz.f133 = some d133 := by kernel_rfl
theorem k133 : FunOk Go.Proofs.Tryz.prog 133 d133 := fun_ok (fn := Go.Proofs.Tryz.f133) (by kernel_rfl) (by kernel_rfl) (by kernel_rfl) c133 (by kernel_rfl) (flags_none _ (by kernel_rfl))
theorem c136 : cFunc Go.Proofs.Tryz.prog none false false vm136 Go.Proofs.Tryz.f136 = some d136 := by kernel_rfl
theorem k136 : FunOk Go.Proofs.Tryz.prog 136 d136 := fun_ok (fn := Go.Proofs.Tryz.f136) (by kernel_rfl) (by kernel_rfl) (by kernel_rfl) c136 (by kernel_rfl) (flags_none _ (by kernel_rfl))
theorem c138 : cFunc Go.Proofs.Tryz.prog none false false vm138 Go.Proofs.Tryz.f138 = some d138 := by kernel_rfl
theorem k138 : FunOk Go.Proofs.Tryz.prog 138 d138 := fun_ok (fn := Go.Proofs.Tryz.f138) (by kernel_rfl) (by kernel_rfl) (by kernel_rfl) c138 (by kernel_rfl) (flags_none _ (by kernel_rfl))
theorem c141 : cFunc Go.Proofs.Tryz.prog none false false vm141 Go.Proofs.Tryz.f141 = some d141 := by kernel_rfl
theorem k141 : FunOk Go.Proofs.Tryz.prog 141 d141 := fun_ok (fn := Go.Proofs.Tryz.f141) (by kernel_rfl) (by kernel_rfl) (by kernel_rfl) c141 (by kernel_rfl) (flags_none _ (by kernel_rfl))
theorem c148 : cFunc Go.Proofs.Tryz.prog none false false vm148 Go.Proofs.Tryz.f148 = some d148 := by kernel_rfl
theorem k148 : FunOk Go.Proofs.Tryz.prog 148 d148 := fun_ok (fn := Go.Proofs.Tryz.f148) (by kernel_rfl) (by kernel_rfl) (by kernel_rfl) c148 (by kernel_rfl) (flags_none _ (by kernel_rfl))
theorem c151 : cFunc Go.Proofs.Tryz.prog none false false vm151 Go.Proofs.Tryz.f151 = some d151 := by kernel_rfl
theorem k151 : FunOk Go.Proofs.Tryz.prog 151 d151 := fun_ok (fn := Go.Proofs.Tryz.f151) (by kernel_rfl) (by kernel_rfl) (by kernel_rfl) c151 (by kernel_rfl) (flags_none _ (by kernel_rfl))
theorem c166 : cFunc Go.Proofs.Tryz.prog none false false vm166 Go.Proofs.Tryz.f166 = some d166 := by kernel_rfl
theorem k166 : FunOk Go.Proofs.Tryz.prog 166 d166 := fun_ok (fn := Go.Proofs.Tryz.f166) (by kernel_rfl) (by kernel_rfl) (by kernel_rfl) c166 (by kernel_rfl) (flags_none _ (by kernel_rfl))
theorem c168 : cFunc Go.Proofs.Tryz.prog none false false vm168 Go.Proofs.Tryz.f168 = some d168 := by kernel_rfl
theorem k168 : FunOk Go.Proofs.Tryz.prog 168 d168 := fun_ok (fn := Go.Proofs.Tryz.f168) (by kernel_rfl) (by kernel_rfl) (by kernel_rfl) c168 (by kernel_rfl) (flags_none _ (by kernel_rfl))
theorem c181 : cFunc Go.Proofs.Tryz.prog none false false vm181 Go.Proofs.Tryz.f181 = some d181 := by kernel_rfl
theorem k181 : FunOk Go.Proofs.Tryz.prog 181 d181 := fun_ok (fn := Go.Proofs.Tryz.f181) (by kernel_rfl) (by kernel_rfl) (by kernel_rfl) c181 (by kernel_rfl) (flags_none _ (by kernel_rfl))
theorem c186 : cFunc Go.Proofs.Tryz.prog none false false vm186 Go.Proofs.Tryz.f186 = some d186 := by kernel_rfl
theorem k186 : FunOk Go.Proofs.Tryz.prog 186 d186 := fun_ok (fn := Go.Proofs.Tryz.f186) (by kernel_rfl) (by kernel_rfl) (by kernel_rfl) c186 (by kernel_rfl) (flags_none _ (by kernel_rfl))
theorem c191 : cFunc Go.Proofs.Tryz.prog none false false vm191 Go.Proofs.Tryz.f191 = some d191 := by kernel_rfl
theorem k191 : FunOk Go.Proofs.Tryz.prog 191 d191 := fun_ok (fn := Go.Proofs.Tryz.f191) (by kernel_rfl) (by kernel_rfl) (by kernel_rfl) c191 (by kernel_rfl) (flags_none _ (by kernel_rfl))
end Dt
