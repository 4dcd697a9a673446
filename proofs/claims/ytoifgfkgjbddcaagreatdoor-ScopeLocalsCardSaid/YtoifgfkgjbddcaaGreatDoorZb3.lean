/- A part of the abstract machine and of the proof that the program does what it reckons; no conditions. -/
import Derived.Test.YtoifgfkgjbddcaaGreatDoorZr
set_option linter.all false
namespace Dt
open Go
set_option linter.all false
set_option maxRecDepth 100000
theorem c5 : cFunc Go.Proofs.Tryz.prog none false false vm5 Go.Proofs.Tryz.f5 = some d5 := by kernel_rfl
theorem k5 : FunOk Go.Proofs.Tryz.prog 5 d5 := fun_ok (fn := Go.Proofs.Tryz.f5) (by kernel_rfl) (by kernel_rfl) (by kernel_rfl) c5 (by kernel_rfl) (flags_none _ (by kernel_rfl))
theorem c12 : cFunc Go.Proofs.Tryz.prog none false false vm12 Go.Proofs.Tryz.f12 = some d12 := by kernel_rfl
theorem k12 : FunOk Go.Proofs.Tryz.prog 12 d12 := fun_ok (fn := Go.Proofs.Tryz.f12) (by kernel_rfl) (by kernel_rfl) (by kernel_rfl) c12 (by kernel_rfl) (flags_none _ (by kernel_rfl))
theorem c14 : cFunc Go.Proofs.Tryz.prog none false false vm14 Go.Proofs.Tryz.f14 = some d14 := by kernel_rfl
theorem k14 : FunOk Go.Proofs.Tryz.prog 14 d14 := fun_ok (fn := Go.Proofs.Tryz.f14) (by kernel_rfl) (by kernel_rfl) (by kernel_rfl) c14 (by kernel_rfl) (flags_none _ (by kernel_rfl))
theorem c24 : cFunc Go.Proofs.Tryz.prog none false false vm24 Go.Proofs.Tryz.f24 = some d24 := by kernel_rfl
theorem k24 : FunOk Go.Proofs.Tryz.prog 24 d24 := fun_ok (fn := Go.Proofs.Tryz.f24) (by kernel_rfl) (by kernel_rfl) (by kernel_rfl) c24 (by kernel_rfl) (flags_none _ (by kernel_rfl))
theorem c26 : cFunc Go.Proofs.Tryz.prog none false false vm26 Go.Proofs.Tryz.f26 = some d26 := by kernel_rfl
theorem k26 : FunOk Go.Proofs.Tryz.prog 26 d26 := fun_ok (fn := Go.Proofs.Tryz.f26) (by kernel_rfl) (by kernel_rfl) (by kernel_rfl) c26 (by kernel_rfl) (flags_none _ (by kernel_rfl))
theorem c35 : cFunc Go.Proofs.Tryz.prog none false false vm35 Go.Proofs.Tryz.f35 = some d35 := by kernel_rfl
theorem k35 : FunOk Go.Proofs.Tryz.prog 35 d35 := fun_ok (fn := Go.Proofs.Tryz.f35) (by kernel_rfl) (by kernel_rfl) (by kernel_rfl) c35 (by kernel_rfl) (flags_none _ (by kernel_rfl))
theorem c37 : cFunc Go.Proofs.Tryz.prog none false false vm37 Go.Proofs.Tryz.f37 = some d37 := by kernel_rfl
theorem k37 : FunOk Go.Proofs.Tryz.prog 37 d37 := fun_ok (fn := Go.Proofs.Tryz.f37) (by kernel_rfl) (by kernel_rfl) (by kernel_rfl) c37 (by kernel_rfl) (flags_none _ (by kernel_rfl))
theorem c47 : cFunc Go.Proofs.Tryz.prog none false false vm47 Go.Proofs.Tryz.f47 = some d47 := by kernel_rfl
theorem k47 : FunOk Go.Proofs.Tryz.prog 47 d47 := fun_ok (fn := Go.Proofs.Tryz.f47) (by kernel_rfl) (by kernel_rfl) (by kernel_rfl) c47 (by kernel_rfl) (flags_none _ (by kernel_rfl))
theorem c50 : cFunc Go.Proofs.Tryz.prog none false false vm50 Go.Proofs.Tryz.f50 = some d50 := by kernel_rfl
theorem k50 : FunOk Go.Proofs.Tryz.prog 50 d50 := fun_ok (fn := Go.Proofs.Tryz.f50) (by kernel_rfl) (by kernel_rfl) (by kernel_rfl) c50 (by kernel_rfl) (flags_none _ (by kernel_rfl))
theorem c52 : cFunc Go.Proofs.Tryz.prog none false false vm52 Go.Proofs.Tryz.f52 = some d52 := by kernel_rfl
theorem k52 : FunOk Go.Proofs.Tryz.prog 52 d52 := fun_ok (fn := Go.Proofs.Tryz.f52) (by kernel_rfl) (by kernel_rfl) (by kernel_rfl) c52 (by kernel_rfl) (flags_none _ (by kernel_rfl))
theorem c74 : cFunc Go.Proofs.Tryz.prog none false false vm74 Go.Proofs.Tryz.f74 = some d74 := by kernel_rfl
theorem k74 : FunOk Go.Proofs.Tryz.prog 74 d74 := fun_ok (fn := Go.Proofs.Tryz.f74) (by kernel_rfl) (by kernel_rfl) (by kernel_rfl) c74 (by kernel_rfl) (flags_none _ (by kernel_rfl))
theorem c79 : cFunc Go.Proofs.Tryz.prog none false false vm79 Go.Proofs.Tryz.f79 = some d79 := by kernel_rfl
theorem k79 : FunOk Go.Proofs.Tryz.prog 79 d79 := fun_ok (fn := Go.Proofs.Tryz.f79) (by kernel_rfl) (by kernel_rfl) (by kernel_rfl) c79 (by kernel_rfl) (flags_none _ (by kernel_rfl))
theorem c81 : cFunc Go.Proofs.Tryz.prog none false false vm81 Go.Proofs.Tryz.f81 = some d81 := by kernel_rfl
theorem k81 : FunOk Go.Proofs.Tryz.prog 81 d81 := fun_ok (fn := Go.Proofs.Tryz.f81) (by kernel_rfl) (by kernel_rfl) (by kernel_rfl) c81 (by kernel_rfl) (flags_none _ (by kernel_rfl))
theorem c84 : cFunc Go.Proofs.Tryz.prog none false false vm84 Go.Proofs.Tryz.f84 = some d84 := by kernel_rfl
theorem k84 : FunOk Go.Proofs.Tryz.prog 84 d84 := fun_ok (fn := Go.Proofs.Tryz.f84) (by kernel_rfl) (by kernel_rfl) (by kernel_rfl) c84 (by kernel_rfl) (flags_none _ (by kernel_rfl))
theorem c101 : cFunc Go.Proofs.Tryz.prog none false false vm101 Go.Proofs.Tryz.f101 = some d101 := by kernel_rfl
theorem k101 : FunOk Go.Proofs.Tryz.prog 101 d101 := fun_ok (fn := Go.Proofs.Tryz.f101) (by kernel_rfl) (by kernel_rfl) (by kernel_rfl) c101 (by kernel_rfl) (flags_none _ (by kernel_rfl))
theorem c105 : cFunc Go.Proofs.Tryz.prog none false false vm105 Go.Proofs.Tryz.f105 = some d105 := by kernel_rfl
theorem k105 : FunOk Go.Proofs.Tryz.prog 105 d105 := fun_ok (fn := Go.Proofs.Tryz.f105) (by kernel_rfl) (by kernel_rfl) (by kernel_rfl) c105 (by kernel_rfl) (flags_none _ (by kernel_rfl))
theorem c112 : cFunc Go.Proofs.Tryz.prog none false false vm112 Go.Proofs.Tryz.f112 = some d112 := by kernel_rfl
theorem k112 : FunOk Go.Proofs.Tryz.prog 112 d112 := fun_ok (fn := Go.Proofs.Tryz.f112) (by kernel_rfl) (by kernel_rfl) (by kernel_rfl) c112 (by kernel_rfl) (flags_none _ (by kernel_rfl))
theorem c130 : cFunc Go.Proofs.Tryz.prog none false false vm130 Go.Proofs.Tryz.f130 = some d130 := by kernel_rfl
theorem k130 : FunOk Go.Proofs.Tryz.prog 130 d130 := fun_ok (fn := Go.Proofs.Tryz.f130) (by kernel_rfl) (by kernel_rfl) (by kernel_rfl) c130 (by kernel_rfl) (flags_none _ (by kernel_rfl))
theorem c134 : cFunc Go.Proofs.Tryz.prog none false false vm134 Go.Proofs.Tryz.f134 = some d134 := by kernel_rfl
theorem k134 : FunOk Go.Proofs.Tryz.prog 134 d134 := fun_ok (fn := Go.Proofs.Tryz.f134) (by kernel_rfl) (by kernel_rfl) (by kernel_rfl) c134 (by kernel_rfl) (flags_none _ (by kernel_rfl))
theorem c139 : cFunc Go.Proofs.Tryz.prog none false false vm139 Go.Proofs.Tryz.f139 = some d139 := by kernel_rfl
theorem k139 : FunOk Go.Proofs.Tryz.prog 139 d139 := fun_ok (fn := Go.Proofs.Tryz.f139) (by kernel_rfl) (by kernel_rfl) (by kernel_rfl) c139 (by kernel_rfl) (flags_none _ (by kernel_rfl))
theorem c143 : cFunc Go.Proofs.Tryz.prog none false false vm143 Go.Proofs.Tryz.f143 = some d143 := by kernel_rfl
theorem k143 : FunOk Go.Proofs.Tryz.prog 143 d143 := fun_ok (fn := Go.Proofs.Tryz.f143) (by kernel_rfl) (by kernel_rfl) (by kernel_rfl) c143 (by kernel_rfl) (flags_none _ (by kernel_rfl))
theorem c158 : cFunc Go.Proofs.Tryz.prog none false false vm158 Go.Proofs.Tryz.f158 = some d158 := by kernel_rfl
theorem k158 : FunOk Go.Proofs.Tryz.prog 158 d158 := fun_ok (fn := Go.Proofs.Tryz.f158) (by kernel_rfl) (by kernel_rfl) (by kernel_rfl) c158 (by kernel_rfl) (flags_none _ (by kernel_rfl))
theorem c167 : cFunc Go.Proofs.Tryz.prog none false false vm167 Go.Proofs.Tryz.f167 = some d167 := by kernel_rfl
theorem k167 : FunOk Go.Proofs.Tryz.prog 167 d167 := fun_ok (fn := Go.Proofs.Tryz.f167) (by kernel_rfl) (by kernel_rfl) (by kernel_rfl) c167 (by kernel_rfl) (flags_none _ (by kernel_rfl))
theorem c171 : cFunc Go.Proofs.Tryz.prog none false false vm171 Go.Proofs.Tryz.f171 = some d171 := by kernel_rfl
theorem k171 : FunOk Go.Proofs.Tryz.prog 171 d171 := fun_ok (fn := Go.Proofs.Tryz.f171) (by kernel_rfl) (by kernel_rfl) (by kernel_rfl) c171 (by kernel_rfl) (flags_none _ (by kernel_rfl))
theorem c176 : cFunc Go.Proofs.Tryz.prog none false false vm176 Go.Proofs.Tryz.f176 = some d176 := by kernel_rfl
theorem k176 : FunOk Go.Proofs.Tryz.prog 176 d176 := fun_ok (fn := Go.Proofs.Tryz.f176) (by kernel_rfl) (by kernel_rfl) (by kernel_rfl) c176 (by kernel_rfl) (flags_none _ (by kernel_rfl))
theorem c177 : cFunc Go.Proofs.Tryz.prog none false false vm177 Go.Proofs.Tryz.f177 = some d177 := by kernel_rfl
theorem k177 : FunOk Go.Proofs.Tryz.prog 177 d177 := fun_ok (fn := Go.Proofs.Tryz.f177) (by kernel_rfl) (by kernel_rfl) (by kernel_rfl) c177 (by kernel_rfl) (flags_none _ (by kernel_rfl))
theorem c192 : cFunc Go.Proofs.Tryz.prog none false false vm192 Go.Proofs.Tryz.f192 = some d192 := by kernel_rfl
theorem k192 : FunOk Go.Proofs.Tryz.prog 192 d192 := fun_ok (fn := Go.Proofs.Tryz.f192) (by kernel_rfl) (by kernel_rfl) (by kernel_rfl) c192 (by kernel_rfl) (flags_none _ (by kernel_rfl))
theorem c194 : cFunc Go.Proofs.Tryz.prog none false false vm194 Go.Proofs.Tryz.f194 = some d194 := by kernel_rfl
theorem k194 : FunOk Go.Proofs.Tryz.prog 194 d194 := fun_ok (fn := Go.Proofs.Tryz.f194) (by kernel_rfl) (by kernel_rfl) (by kernel_rfl) c194 (by kernel_rfl) (flags_none _ (by kernel_rfl))
end Dt
