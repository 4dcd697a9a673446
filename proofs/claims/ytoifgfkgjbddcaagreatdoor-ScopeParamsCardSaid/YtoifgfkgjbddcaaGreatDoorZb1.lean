/- A part of the abstract machine and of the proof that the program does what it reckons; no conditions. -/
import Derived.Test.YtoifgfkgjbddcaaGreatDoorZr
set_option linter.all false
namespace Dt
open Go
set_option linter.all false
set_option maxRecDepth 100000
theorem c3 : cFunc Go.Proofs.Tryz.prog none false false vm3 Go.Proofs.Tryz.f3 = some d3 := by kernel_rfl
theorem k3 : FunOk Go.Proofs.Tryz.prog 3 d3 := fun_ok (fn := Go.Proofs.Tryz.f3) (by kernel_rfl) (by kernel_rfl) (by kernel_rfl) c3 (by kernel_rfl) (flags_none _ (by kernel_rfl))
theorem c10 : cFunc Go.Proofs.Tryz.prog none false false vm10 Go.Proofs.Tryz.f10 = some d10 := by kernel_rfl
theorem k10 : FunOk Go.Proofs.Tryz.prog 10 d10 := fun_ok (fn := Go.Proofs.Tryz.f10) (by kernel_rfl) (by kernel_rfl) (by kernel_rfl) c10 (by kernel_rfl) (flags_none _ (by kernel_rfl))
theorem c16 : cFunc Go.Proofs.Tryz.prog none false false vm16 Go.Proofs.Tryz.f16 = some d16 := by kernel_rfl
theorem k16 : FunOk Go.Proofs.Tryz.prog 16 d16 := fun_ok (fn := Go.Proofs.Tryz.f16) (by kernel_rfl) (by kernel_rfl) (by kernel_rfl) c16 (by kernel_rfl) (flags_none _ (by kernel_rfl))
theorem c21 : cFunc Go.Proofs.Tryz.prog none false false vm21 Go.Proofs.Tryz.f21 = some d21 := by kernel_rfl
theorem k21 : FunOk Go.Proofs.Tryz.prog 21 d21 := fun_ok (fn := Go.Proofs.Tryz.f21) (by kernel_rfl) (by kernel_rfl) (by kernel_rfl) c21 (by kernel_rfl) (flags_none _ (by kernel_rfl))
theorem c27 : cFunc Go.Proofs.Tryz.prog none false false vm27 Go.Proofs.Tryz.f27 = some d27 := by kernel_rfl
theorem k27 : FunOk Go.Proofs.Tryz.prog 27 d27 := fun_ok (fn := Go.Proofs.Tryz.f27) (by kernel_rfl) (by kernel_rfl) (by kernel_rfl) c27 (by kernel_rfl) (flags_none _ (by kernel_rfl))
theorem c36 : cFunc Go.Proofs.Tryz.prog none false false vm36 Go.Proofs.Tryz.f36 = some d36 := by kernel_rfl
theorem k36 : FunOk Go.Proofs.Tryz.prog 36 d36 := fun_ok (fn := Go.Proofs.Tryz.f36) (by kernel_rfl) (by kernel_rfl) (by kernel_rfl) c36 (by kernel_rfl) (flags_none _ (by kernel_rfl))
theorem c54 : cFunc Go.Proofs.Tryz.prog none false false vm54 Go.Proofs.Tryz.f54 = some d54 := by kernel_rfl
theorem k54 : FunOk Go.Proofs.Tryz.prog 54 d54 := fun_ok (fn := Go.Proofs.Tryz.f54) (by kernel_rfl) (by kernel_rfl) (by kernel_rfl) c54 (by kernel_rfl) (flags_none _ (by kernel_rfl))
theorem c76 : cFunc Go.Proofs.Tryz.prog none false false vm76 Go.Proofs.Tryz.f76 = some d76 := by kernel_rfl
theorem k76 : FunOk Go.Proofs.Tryz.prog 76 d76 := fun_ok (fn := Go.Proofs.Tryz.f76) (by kernel_rfl) (by kernel_rfl) (by kernel_rfl) c76 (by kernel_rfl) (flags_none _ (by kernel_rfl))
theorem c78 : cFunc Go.Proofs.Tryz.prog none false false vm78 Go.Proofs.Tryz.f78 = some d78 := by kernel_rfl
theorem k78 : FunOk Go.Proofs.Tryz.prog 78 d78 := fun_ok (fn := Go.Proofs.Tryz.f78) (by kernel_rfl) (by kernel_rfl) (by kernel_rfl) c78 (by kernel_rfl) (flags_none _ (by kernel_rfl))
theorem c82 : cFunc Go.Proofs.Tryz.prog none false false vm82 Go.Proofs.Tryz.f82 = some d82 := by kernel_rfl
theorem k82 : FunOk Go.Proofs.Tryz.prog 82 d82 := fun_ok (fn := Go.Proofs.Tryz.f82) (by kernel_rfl) (by kernel_rfl) (by kernel_rfl) c82 (by kernel_rfl) (flags_none _ (by kernel_rfl))
theorem c94 : cFunc Go.Proofs.Tryz.prog none false false vm94 Go.Proofs.Tryz.f94 = some d94 := by kernel_rfl
theorem k94 : FunOk Go.Proofs.Tryz.prog 94 d94 := fun_ok (fn := Go.Proofs.Tryz.f94) (by kernel_rfl) (by kernel_rfl) (by kernel_rfl) c94 (by kernel_rfl) (flags_none _ (by kernel_rfl))
theorem c98 : cFunc Go.Proofs.Tryz.prog none false false vm98 Go.Proofs.Tryz.f98 = some d98 := by kernel_rfl
theorem k98 : FunOk Go.Proofs.Tryz.prog 98 d98 := fun_ok (fn := Go.Proofs.Tryz.f98) (by kernel_rfl) (by kernel_rfl) (by kernel_rfl) c98 (by kernel_rfl) (flags_none _ (by kernel_rfl))
theorem c102 : cFunc Go.Proofs.Tryz.prog none false false vm102 Go.Proofs.Tryz.f102 = some d102 := by kernel_rfl
theorem k102 : FunOk Go.Proofs.Tryz.prog 102 d102 := fun_ok (fn := Go.Proofs.Tryz.f102) (by kernel_rfl) (by kernel_rfl) (by kernel_rfl) c102 (by kernel_rfl) (flags_none _ (by kernel_rfl))
theorem c114 : cFunc Go.Proofs.Tryz.prog none false false vm114 Go.Proofs.Tryz.f114 = some d114 := by kernel_rfl
theorem k114 : FunOk Go.Proofs.Tryz.prog 114 d114 := fun_ok (fn := Go.Proofs.Tryz.f114) (by kernel_rfl) (by kernel_rfl) (by kernel_rfl) c114 (by kernel_rfl) (flags_none _ (by kernel_rfl))
theorem c117 : cFunc Go.Proofs.Tryz.prog none false false vm117 Go.Proofs.Tryz.f117 = some d117 := by kernel_rfl
theorem k117 : FunOk Go.Proofs.Tryz.prog 117 d117 := fun_ok (fn := Go.Proofs.Tryz.f117) (by kernel_rfl) (by kernel_rfl) (by kernel_rfl) c117 (by kernel_rfl) (flags_none _ (by kernel_rfl))
theorem c126 : cFunc Go.Proofs.Tryz.prog none false false vm126 Go.Proofs.Tryz.f126 = some d126 := by kernel_rfl
theorem k126 : FunOk Go.Proofs.Tryz.prog 126 d126 := fun_ok (fn := Go.Proofs.Tryz.f126) (by kernel_rfl) (by kernel_rfl) (by kernel_rfl) c126 (by kernel_rfl) (flags_none _ (by kernel_rfl))
theorem c129 : cFunc Go.Proofs.Tryz.prog none false false vm129 Go.Proofs.Tryz.f129 = some d129 := by kernel_rfl
theorem k129 : FunOk Go.Proofs.Tryz.prog 129 d129 := fun_ok (fn := Go.Proofs.Tryz.f129) (by kernel_rfl) (by kernel_rfl) (by kernel_rfl) c129 (by kernel_rfl) (flags_none _ (by kernel_rfl))
theorem c140 : cFunc Go.Proofs.Tryz.prog none false false vm140 Go.Proofs.Tryz.f140 = some d140 := by kernel_rfl
theorem k140 : FunOk Go.Proofs.Tryz.prog 140 d140 := fun_ok (fn := Go.Proofs.Tryz.f140) (by kernel_rfl) (by kernel_rfl) (by kernel_rfl) c140 (by kernel_rfl) (flags_none _ (by kernel_rfl))
theorem c146 : cFunc Go.Proofs.Tryz.prog none false false vm146 Go.Proofs.Tryz.f146 = some d146 := by kernel_rfl
theorem k146 : FunOk Go.Proofs.Tryz.prog 146 d146 := fun_ok (fn := Go.Proofs.Tryz.f146) (by kernel_rfl) (by kernel_rfl) (by kernel_rfl) c146 (by kernel_rfl) (flags_none _ (by kernel_rfl))
theorem c153 : cFunc Go.Proofs.Tryz.prog none false false vm153 Go.Proofs.Tryz.f153 = some d153 := by kernel_rfl
theorem k153 : FunOk Go.Proofs.Tryz.prog 153 d153 := fun_ok (fn := Go.Proofs.Tryz.f153) (by kernel_rfl) (by kernel_rfl) (by kernel_rfl) c153 (by kernel_rfl) (flags_none _ (by kernel_rfl))
theorem c172 : cFunc Go.Proofs.Tryz.prog none false false vm172 Go.Proofs.Tryz.f172 = some d172 := by kernel_rfl
theorem k172 : FunOk Go.Proofs.Tryz.prog 172 d172 := fun_ok (fn := Go.Proofs.Tryz.f172) (by kernel_rfl) (by kernel_rfl) (by kernel_rfl) c172 (by kernel_rfl) (flags_none _ (by kernel_rfl))
theorem c175 : cFunc Go.Proofs.Tryz.prog none false false vm175 Go.Proofs.Tryz.f175 = some d175 := by kernel_rfl
theorem k175 : FunOk Go.Proofs.Tryz.prog 175 d175 := fun_ok (fn := Go.Proofs.Tryz.f175) (by kernel_rfl) (by kernel_rfl) (by kernel_rfl) c175 (by kernel_rfl) (flags_none _ (by kernel_rfl))
theorem c190 : cFunc Go.Proofs.Tryz.prog none false false vm190 Go.Proofs.Tryz.f190 = some d190 := by kernel_rfl
theorem k190 : FunOk Go.Proofs.Tryz.prog 190 d190 := fun_ok (fn := Go.Proofs.Tryz.f190) (by kernel_rfl) (by kernel_rfl) (by kernel_rfl) c190 (by kernel_rfl) (flags_none _ (by kernel_rfl))
theorem c195 : cFunc Go.Proofs.Tryz.prog none false false vm195 Go.Proofs.Tryz.f195 = some d195 := by kernel_rfl
theorem k195 : FunOk Go.Proofs.Tryz.prog 195 d195 := fun_ok (fn := Go.Proofs.Tryz.f195) (by kernel_rfl) (by kernel_rfl) (by kernel_rfl) c195 (by kernel_rfl) (flags_none _ (by kernel_rfl))
theorem c198 : cFunc Go.Proofs.Tryz.prog none false false vm198 Go.Proofs.Tryz.f198 = some d198 := by kernel_rfl
theorem k198 : FunOk Go.Proofs.Tryz.prog 198 d198 := fun_ok (fn := Go.Proofs.Tryz.f198) (by kernel_rfl) (by kernel_rfl) (by kernel_rfl) c198 (by kernel_rfl) (flags_none _ (by kernel_rfl))
end Dt
