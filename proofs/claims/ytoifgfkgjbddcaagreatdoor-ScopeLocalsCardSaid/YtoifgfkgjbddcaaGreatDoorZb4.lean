/- A part of the abstract machine and of the proof that the program does what it reckons; no conditions. -/
import Derived.Test.YtoifgfkgjbddcaaGreatDoorZr
set_option linter.all false
namespace Dt
open Go
set_option linter.all false
set_option maxRecDepth 100000
theorem c6 : cFunc Go.Proofs.Tryz.prog none false false vm6 Go.Proofs.Tryz.f6 = some d6 := by kernel_rfl
theorem k6 : FunOk Go.Proofs.Tryz.prog 6 d6 := fun_ok (fn := Go.Proofs.Tryz.f6) (by kernel_rfl) (by kernel_rfl) (by kernel_rfl) c6 (by kernel_rfl) (flags_none _ (by kernel_rfl))
theorem c15 : cFunc Go.Proofs.Tryz.prog none false false vm15 Go.Proofs.Tryz.f15 = some d15 := by kernel_rfl
theorem k15 : FunOk Go.Proofs.Tryz.prog 15 d15 := fun_ok (fn := Go.Proofs.Tryz.f15) (by kernel_rfl) (by kernel_rfl) (by kernel_rfl) c15 (by kernel_rfl) (flags_none _ (by kernel_rfl))
theorem c22 : cFunc Go.Proofs.Tryz.prog none false false vm22 Go.Proofs.Tryz.f22 = some d22 := by kernel_rfl
theorem k22 : FunOk Go.Proofs.Tryz.prog 22 d22 := fun_ok (fn := Go.Proofs.Tryz.f22) (by kernel_rfl) (by kernel_rfl) (by kernel_rfl) c22 (by kernel_rfl) (flags_none _ (by kernel_rfl))
theorem c45 : cFunc Go.Proofs.Tryz.prog none false false vm45 Go.Proofs.Tryz.f45 = some d45 := by kernel_rfl
theorem k45 : FunOk Go.Proofs.Tryz.prog 45 d45 := fun_ok (fn := Go.Proofs.Tryz.f45) (by kernel_rfl) (by kernel_rfl) (by kernel_rfl) c45 (by kernel_rfl) (flags_none _ (by kernel_rfl))
theorem c48 : cFunc Go.Proofs.Tryz.prog none false false vm48 Go.Proofs.Tryz.f48 = some d48 := by kernel_rfl
theorem k48 : FunOk Go.Proofs.Tryz.prog 48 d48 := fun_ok (fn := Go.Proofs.Tryz.f48) (by kernel_rfl) (by kernel_rfl) (by kernel_rfl) c48 (by kernel_rfl) (flags_none _ (by kernel_rfl))
theorem c56 : cFunc Go.Proofs.Tryz.prog none false false vm56 Go.Proofs.Tryz.f56 = some d56 := by kernel_rfl
theorem k56 : FunOk Go.Proofs.Tryz.prog 56 d56 := fun_ok (fn := Go.Proofs.Tryz.f56) (by kernel_rfl) (by kernel_rfl) (by kernel_rfl) c56 (by kernel_rfl) (flags_none _ (by kernel_rfl))
theorem c66 : cFunc Go.Proofs.Tryz.prog none false false vm66 Go.Proofs.Tryz.f66 = some d66 := by kernel_rfl
theorem k66 : FunOk Go.Proofs.Tryz.prog 66 d66 := fun_ok (fn := Go.Proofs.Tryz.f66) (by kernel_rfl) (by kernel_rfl) (by kernel_rfl) c66 (by kernel_rfl) (flags_none _ (by kernel_rfl))
theorem c70 : cFunc Go.Proofs.Tryz.prog none false false vm70 Go.Proofs.Tryz.f70 = some d70 := by kernel_rfl
theorem k70 : FunOk Go.Proofs.Tryz.prog 70 d70 := fun_ok (fn := Go.Proofs.Tryz.f70) (by kernel_rfl) (by kernel_rfl) (by kernel_rfl) c70 (by kernel_rfl) (flags_none _ (by kernel_rfl))
theorem c72 : cFunc Go.Proofs.Tryz.prog none false false vm72 Go.Proofs.Tryz.f72 = some d72 := by kernel_rfl
theorem k72 : FunOk Go.Proofs.Tryz.prog 72 d72 := fun_ok (fn := Go.Proofs.Tryz.f72) (by kernel_rfl) (by kernel_rfl) (by kernel_rfl) c72 (by kernel_rfl) (flags_none _ (by kernel_rfl))
theorem c86 : cFunc Go.Proofs.Tryz.prog none false false vm86 Go.Proofs.Tryz.f86 = some d86 := by kernel_rfl
theorem k86 : FunOk Go.Proofs.Tryz.prog 86 d86 := fun_ok (fn := Go.Proofs.Tryz.f86) (by kernel_rfl) (by kernel_rfl) (by kernel_rfl) c86 (by kernel_rfl) (flags_none _ (by kernel_rfl))
theorem c103 : cFunc Go.Proofs.Tryz.prog none false false vm103 Go.Proofs.Tryz.f103 = some d103 := by kernel_rfl
theorem k103 : FunOk Go.Proofs.Tryz.prog 103 d103 := fun_ok (fn := Go.Proofs.Tryz.f103) (by kernel_rfl) (by kernel_rfl) (by kernel_rfl) c103 (by kernel_rfl) (flags_none _ (by kernel_rfl))
theorem c106 : cFunc Go.Proofs.Tryz.prog none false false vm106 Go.Proofs.Tryz.f106 = some d106 := by kernel_rfl
theorem k106 : FunOk Go.Proofs.Tryz.prog 106 d106 := fun_ok (fn := Go.Proofs.Tryz.f106) (by kernel_rfl) (by kernel_rfl) (by kernel_rfl) c106 (by kernel_rfl) (flags_none _ (by kernel_rfl))
theorem c119 : cFunc Go.Proofs.Tryz.prog none false false vm119 Go.Proofs.Tryz.f119 = some d119 := by kernel_rfl
theorem k119 : FunOk Go.Proofs.Tryz.prog 119 d119 := fun_ok (fn := Go.Proofs.Tryz.f119) (by kernel_rfl) (by kernel_rfl) (by kernel_rfl) c119 (by kernel_rfl) (flags_none _ (by kernel_rfl))
theorem c120 : cFunc Go.Proofs.Tryz.prog none false false vm120 Go.Proofs.Tryz.f120 = some d120 := by kernel_rfl
theorem k120 : FunOk Go.Proofs.Tryz.prog 120 d120 := fun_ok (fn := Go.Proofs.Tryz.f120) (by kernel_rfl) (by kernel_rfl) (by kernel_rfl) c120 (by kernel_rfl) (flags_none _ (by kernel_rfl))
theorem c122 : cFunc Go.Proofs.Tryz.prog none false false vm122 Go.Proofs.Tryz.f122 = some d122 := by kernel_rfl
theorem k122 : FunOk Go.Proofs.Tryz.prog 122 d122 := fun_ok (fn := Go.Proofs.Tryz.f122) (by kernel_rfl) (by kernel_rfl) (by kernel_rfl) c122 (by kernel_rfl) (flags_none _ (by kernel_rfl))
theorem c124 : cFunc Go.Proofs.Tryz.prog none false false vm124 Go.Proofs.Tryz.f124 = some d124 := by kernel_rfl
theorem k124 : FunOk Go.Proofs.Tryz.prog 124 d124 := fun_ok (fn := Go.Proofs.Tryz.f124) (by kernel_rfl) (by kernel_rfl) (by kernel_rfl) c124 (by kernel_rfl) (flags_none _ (by kernel_rfl))
theorem c127 : cFunc Go.Proofs.Tryz.prog none false false vm127 Go.Proofs.Tryz.f127 = some d127 := by kernel_rfl
theorem k127 : FunOk Go.Proofs.Tryz.prog 127 d127 := fun_ok (fn := Go.Proofs.Tryz.f127) (by kernel_rfl) (by kernel_rfl) (by kernel_rfl) c127 (by kernel_rfl) (flags_none _ (by kernel_rfl))
theorem c128 : cFunc Go.Proofs.Tryz.prog none false false vm128 Go.Proofs.Tryz.f128 = some d128 := by kernel_rfl
theorem k128 : FunOk Go.Proofs.Tryz.prog 128 d128 := fun_ok (fn := Go.Proofs.Tryz.f128) (by kernel_rfl) (by kernel_rfl) (by kernel_rfl) c128 (by kernel_rfl) (flags_none _ (by kernel_rfl))
theorem c132 : cFunc Go.Proofs.Tryz.prog none false false vm132 Go.Proofs.Tryz.f132 = some d132 := by kernel_rfl
theorem k132 : FunOk Go.Proofs.Tryz.prog 132 d132 := fun_ok (fn := Go.Proofs.Tryz.f132) (by kernel_rfl) (by kernel_rfl) (by kernel_rfl) c132 (by kernel_rfl) (flags_none _ (by kernel_rfl))
theorem c137 : cFunc Go.Proofs.Tryz.prog none false false vm137 Go.Proofs.Tryz.f137 = some d137 := by kernel_rfl
theorem k137 : FunOk Go.Proofs.Tryz.prog 137 d137 := fun_ok (fn := Go.Proofs.Tryz.f137) (by kernel_rfl) (by kernel_rfl) (by kernel_rfl) c137 (by kernel_rfl) (flags_none _ (by kernel_rfl))
theorem c142 : cFunc Go.Proofs.Tryz.prog none false true vm142 Go.Proofs.Tryz.f142 = some d142 := by kernel_rfl
theorem k142 : FunOk Go.Proofs.Tryz.prog 142 d142 := fun_ok (fn := Go.Proofs.Tryz.f142) (by kernel_rfl) (by kernel_rfl) (by kernel_rfl) c142 (by kernel_rfl) (flags_one (by kernel_rfl) (by kernel_rfl) (by kernel_rfl) pair142)
theorem c145 : cFunc Go.Proofs.Tryz.prog none false false vm145 Go.Proofs.Tryz.f145 = some d145 := by kernel_rfl
theorem k145 : FunOk Go.Proofs.Tryz.prog 145 d145 := fun_ok (fn := Go.Proofs.Tryz.f145) (by kernel_rfl) (by kernel_rfl) (by kernel_rfl) c145 (by kernel_rfl) (flags_none _ (by kernel_rfl))
theorem c147 : cFunc Go.Proofs.Tryz.prog none false false vm147 Go.Proofs.Tryz.f147 = some d147 := by kernel_rfl
theorem k147 : FunOk Go.Proofs.Tryz.prog 147 d147 := fun_ok (fn := Go.Proofs.Tryz.f147) (by kernel_rfl) (by kernel_rfl) (by kernel_rfl) c147 (by kernel_rfl) (flags_none _ (by kernel_rfl))
theorem c149 : cFunc Go.Proofs.Tryz.prog none false false vm149 Go.Proofs.Tryz.f149 = some d149 := by kernel_rfl
theorem k149 : FunOk Go.Proofs.Tryz.prog 149 d149 := fun_ok (fn := Go.Proofs.Tryz.f149) (by kernel_rfl) (by kernel_rfl) (by kernel_rfl) c149 (by kernel_rfl) (flags_none _ (by kernel_rfl))
theorem c152 : cFunc Go.Proofs.Tryz.prog none false false vm152 Go.Proofs.Tryz.f152 = some d152 := by kernel_rfl
theorem k152 : FunOk Go.Proofs.Tryz.prog 152 d152 := fun_ok (fn := Go.Proofs.Tryz.f152) (by kernel_rfl) (by kernel_rfl) (by kernel_rfl) c152 (by kernel_rfl) (flags_none _ (by kernel_rfl))
theorem c154 : cFunc Go.Proofs.Tryz.prog none false false vm154 Go.Proofs.Tryz.f154 = some d154 := by kernel_rfl
theorem k154 : FunOk Go.Proofs.Tryz.prog 154 d154 := fun_ok (fn := Go.Proofs.Tryz.f154) (by kernel_rfl) (by kernel_rfl) (by kernel_rfl) c154 (by kernel_rfl) (flags_none _ (by kernel_rfl))
theorem c156 : cFunc Go.Proofs.Tryz.prog none false false vm156 Go.Proofs.Tryz.f156 = some d156 := by kernel_rfl
theorem k156 : FunOk Go.Proofs.Tryz.prog 156 d156 := fun_ok (fn := Go.Proofs.Tryz.f156) (by kernel_rfl) (by kernel_rfl) (by kernel_rfl) c156 (by kernel_rfl) (flags_none _ (by kernel_rfl))
theorem c165 : cFunc Go.Proofs.Tryz.prog none false false vm165 Go.Proofs.Tryz.f165 = some d165 := by kernel_rfl
theorem k165 : FunOk Go.Proofs.Tryz.prog 165 d165 := fun_ok (fn := Go.Proofs.Tryz.f165) (by kernel_rfl) (by kernel_rfl) (by kernel_rfl) c165 (by kernel_rfl) (flags_none _ (by kernel_rfl))
theorem c169 : cFunc Go.Proofs.Tryz.prog none false false vm169 Go.Proofs.Tryz.f169 = some d169 := by kernel_rfl
theorem k169 : FunOk Go.Proofs.Tryz.prog 169 d169 := fun_ok (fn := Go.Proofs.Tryz.f169) (by kernel_rfl) (by kernel_rfl) (by kernel_rfl) c169 (by kernel_rfl) (flags_none _ (by kernel_rfl))
theorem c173 : cFunc Go.Proofs.Tryz.prog none false false vm173 Go.Proofs.Tryz.f173 = some d173 := by kernel_rfl
theorem k173 : FunOk Go.Proofs.Tryz.prog 173 d173 := fun_ok (fn := Go.Proofs.Tryz.f173) (by kernel_rfl) (by kernel_rfl) (by kernel_rfl) c173 (by kernel_rfl) (flags_none _ (by kernel_rfl))
theorem c189 : cFunc Go.Proofs.Tryz.prog none false false vm189 Go.Proofs.Tryz.f189 = some d189 := by kernel_rfl
theorem k189 : FunOk Go.Proofs.Tryz.prog 189 d189 := fun_ok (fn := Go.Proofs.Tryz.f189) (by kernel_rfl) (by kernel_rfl) (by kernel_rfl) c189 (by kernel_rfl) (flags_none _ (by kernel_rfl))
theorem c197 : cFunc Go.Proofs.Tryz.prog none false false vm197 Go.Proofs.Tryz.f197 = some d197 := by kernel_rfl
theorem k197 : FunOk Go.Proofs.Tryz.prog 197 d197 := fun_ok (fn := Go.Proofs.Tryz.f197) (by kernel_rfl) (by kernel_rfl) (by kernel_rfl) c197 (by kernel_rfl) (flags_none _ (by kernel_rfl))
end Dt
