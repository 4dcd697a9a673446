/- A part of the abstract machine and of the proof that the program does what it reckons; no conditions. -/
import Derived.Test.YtoifgfkgjbddcaaGreatDoorZr
set_option linter.all false
namespace Dt
open Go
set_option linter.all false
set_option maxRecDepth 100000
theorem c4 : cFunc Go.Proofs.Tryz.prog none false false vm4 Go.Proofs.Tryz.f4 = some d4 := by kernel_rfl
theorem k4 : FunOk Go.Proofs.Tryz.prog 4 d4 := fun_ok (fn := Go.Proofs.Tryz.f4) (by kernel_rfl) (by kernel_rfl) (by kernel_rfl) c4 (by kernel_rfl) (flags_none _ (by kernel_rfl))
theorem c13 : cFunc Go.Proofs.Tryz.prog none false false vm13 Go.Proofs.Tryz.f13 = some d13 := by kernel_rfl
theorem k13 : FunOk Go.Proofs.Tryz.prog 13 d13 := fun_ok (fn := Go.Proofs.Tryz.f13) (by kernel_rfl) (by kernel_rfl) (by kernel_rfl) c13 (by kernel_rfl) (flags_none _ (by kernel_rfl))
theorem c17 : cFunc Go.Proofs.Tryz.prog none false false vm17 Go.Proofs.Tryz.f17 = some d17 := by kernel_rfl
theorem k17 : FunOk Go.Proofs.Tryz.prog 17 d17 := fun_ok (fn := Go.Proofs.Tryz.f17) (by kernel_rfl) (by kernel_rfl) (by kernel_rfl) c17 (by kernel_rfl) (flags_none _ (by kernel_rfl))
theorem c19 : cFunc Go.Proofs.Tryz.prog none false false vm19 Go.Proofs.Tryz.f19 = some d19 := by kernel_rfl
theorem k19 : FunOk Go.Proofs.Tryz.prog 19 d19 := fun_ok (fn := Go.Proofs.Tryz.f19) (by kernel_rfl) (by kernel_rfl) (by kernel_rfl) c19 (by kernel_rfl) (flags_none _ (by kernel_rfl))
theorem c28 : cFunc Go.Proofs.Tryz.prog none false false vm28 Go.Proofs.Tryz.f28 = some d28 := by kernel_rfl
theorem k28 : FunOk Go.Proofs.Tryz.prog 28 d28 := fun_ok (fn := Go.Proofs.Tryz.f28) (by kernel_rfl) (by kernel_rfl) (by kernel_rfl) c28 (by kernel_rfl) (flags_none _ (by kernel_rfl))
theorem c29 : cFunc Go.Proofs.Tryz.prog none false false vm29 Go.Proofs.Tryz.f29 = some d29 := by kernel_rfl
theorem k29 : FunOk Go.Proofs.Tryz.prog 29 d29 := fun_ok (fn := Go.Proofs.Tryz.f29) (by kernel_rfl) (by kernel_rfl) (by kernel_rfl) c29 (by kernel_rfl) (flags_none _ (by kernel_rfl))
theorem c30 : cFunc Go.Proofs.Tryz.prog none false false vm30 Go.Proofs.Tryz.f30 = some d30 := by kernel_rfl
theorem k30 : FunOk Go.Proofs.Tryz.prog 30 d30 := fun_ok (fn := Go.Proofs.Tryz.f30) (by kernel_rfl) (by kernel_rfl) (by kernel_rfl) c30 (by kernel_rfl) (flags_none _ (by kernel_rfl))
theorem c34 : cFunc Go.Proofs.Tryz.prog none false false vm34 Go.Proofs.Tryz.f34 = some d34 := by kernel_rfl
theorem k34 : FunOk Go.Proofs.Tryz.prog 34 d34 := fun_ok (fn := Go.Proofs.Tryz.f34) (by kernel_rfl) (by kernel_rfl) (by kernel_rfl) c34 (by kernel_rfl) (flags_none _ (by kernel_rfl))
theorem c46 : cFunc Go.Proofs.Tryz.prog none false false vm46 Go.Proofs.Tryz.f46 = some d46 := by kernel_rfl
theorem k46 : FunOk Go.Proofs.Tryz.prog 46 d46 := fun_ok (fn := Go.Proofs.Tryz.f46) (by kernel_rfl) (by kernel_rfl) (by kernel_rfl) c46 (by kernel_rfl) (flags_none _ (by kernel_rfl))
theorem c51 : cFunc Go.Proofs.Tryz.prog none false false vm51 Go.Proofs.Tryz.f51 = some d51 := by kernel_rfl
theorem k51 : FunOk Go.Proofs.Tryz.prog 51 d51 := fun_ok (fn := Go.Proofs.Tryz.f51) (by kernel_rfl) (by kernel_rfl) (by kernel_rfl) c51 (by kernel_rfl) (flags_none _ (by kernel_rfl))
theorem c55 : cFunc Go.Proofs.Tryz.prog none false false vm55 Go.Proofs.Tryz.f55 = some d55 := by kernel_rfl
theorem k55 : FunOk Go.Proofs.Tryz.prog 55 d55 := fun_ok (fn := Go.Proofs.Tryz.f55) (by kernel_rfl) (by kernel_rfl) (by kernel_rfl) c55 (by kernel_rfl) (flags_none _ (by kernel_rfl))
theorem c58 : cFunc Go.Proofs.Tryz.prog none false false vm58 Go.Proofs.Tryz.f58 = some d58 := by kernel_rfl
theorem k58 : FunOk Go.Proofs.Tryz.prog 58 d58 := fun_ok (fn := Go.Proofs.Tryz.f58) (by kernel_rfl) (by kernel_rfl) (by kernel_rfl) c58 (by kernel_rfl) (flags_none _ (by kernel_rfl))
theorem c59 : cFunc Go.Proofs.Tryz.prog none false false vm59 Go.Proofs.Tryz.f59 = some d59 := by kernel_rfl
theorem k59 : FunOk Go.Proofs.Tryz.prog 59 d59 := fun_ok (fn := Go.Proofs.Tryz.f59) (by kernel_rfl) (by kernel_rfl) (by kernel_rfl) c59 (by kernel_rfl) (flags_none _ (by kernel_rfl))
theorem c60 : cFunc Go.Proofs.Tryz.prog none false false vm60 Go.Proofs.Tryz.f60 = some d60 := by kernel_rfl
theorem k60 : FunOk Go.Proofs.Tryz.prog 60 d60 := fun_ok (fn := Go.Proofs.Tryz.f60) (by kernel_rfl) (by kernel_rfl) (by kernel_rfl) c60 (by kernel_rfl) (flags_none _ (by kernel_rfl))
theorem c63 : cFunc Go.Proofs.Tryz.prog none false false vm63 Go.Proofs.Tryz.f63 = some d63 := by kernel_rfl
theorem k63 : FunOk Go.Proofs.Tryz.prog 63 d63 := fun_ok (fn := Go.Proofs.Tryz.f63) (by kernel_rfl) (by kernel_rfl) (by kernel_rfl) c63 (by kernel_rfl) (flags_none _ (by kernel_rfl))
theorem c64 : cFunc Go.Proofs.Tryz.prog none false false vm64 Go.Proofs.Tryz.f64 = some d64 := by kernel_rfl
theorem k64 : FunOk Go.Proofs.Tryz.prog 64 d64 := fun_ok (fn := Go.Proofs.Tryz.f64) (by kernel_rfl) (by kernel_rfl) (by kernel_rfl) c64 (by kernel_rfl) (flags_none _ (by kernel_rfl))
theorem c67 : cFunc Go.Proofs.Tryz.prog none false false vm67 Go.Proofs.Tryz.f67 = some d67 := by kernel_rfl
theorem k67 : FunOk Go.Proofs.Tryz.prog 67 d67 := fun_ok (fn := Go.Proofs.Tryz.f67) (by kernel_rfl) (by kernel_rfl) (by kernel_rfl) c67 (by kernel_rfl) (flags_none _ (by kernel_rfl))
theorem c68 : cFunc Go.Proofs.Tryz.prog none true false vm68 Go.Proofs.Tryz.f68 = some d68 := by kernel_rfl
theorem k68 : FunOk Go.Proofs.Tryz.prog 68 d68 := fun_ok (fn := Go.Proofs.Tryz.f68) (by kernel_rfl) (by kernel_rfl) (by kernel_rfl) c68 (by kernel_rfl) (flags_none _ (by kernel_rfl))
theorem c73 : cFunc Go.Proofs.Tryz.prog none false false vm73 Go.Proofs.Tryz.f73 = some d73 := by kernel_rfl
theorem k73 : FunOk Go.Proofs.Tryz.prog 73 d73 := fun_ok (fn := Go.Proofs.Tryz.f73) (by kernel_rfl) (by kernel_rfl) (by kernel_rfl) c73 (by kernel_rfl) (flags_none _ (by kernel_rfl))
theorem c80 : cFunc Go.Proofs.Tryz.prog none false false vm80 Go.Proofs.Tryz.f80 = some d80 := by kernel_rfl
theorem k80 : FunOk Go.Proofs.Tryz.prog 80 d80 := fun_ok (fn := Go.Proofs.Tryz.f80) (by kernel_rfl) (by kernel_rfl) (by kernel_rfl) c80 (by kernel_rfl) (flags_none _ (by kernel_rfl))
theorem c83 : cFunc Go.Proofs.Tryz.prog none false false vm83 Go.Proofs.Tryz.f83 = some d83 := by kernel_rfl
theorem k83 : FunOk Go.Proofs.Tryz.prog 83 d83 := fun_ok (fn := Go.Proofs.Tryz.f83) (by kernel_rfl) (by kernel_rfl) (by kernel_rfl) c83 (by kernel_rfl) (flags_none _ (by kernel_rfl))
theorem c92 : cFunc Go.Proofs.Tryz.prog none false false vm92 Go.Proofs.Tryz.f92 = some d92 := by kernel_rfl
theorem k92 : FunOk Go.Proofs.Tryz.prog 92 d92 := fun_ok (fn := Go.Proofs.Tryz.f92) (by kernel_rfl) (by kernel_rfl) (by kernel_rfl) c92 (by kernel_rfl) (flags_none _ (by kernel_rfl))
theorem c107 : cFunc Go.Proofs.Tryz.prog none false false vm107 Go.Proofs.Tryz.f107 = some d107 := by kernel_rfl
theorem k107 : FunOk Go.Proofs.Tryz.prog 107 d107 := fun_ok (fn := Go.Proofs.Tryz.f107) (by kernel_rfl) (by kernel_rfl) (by kernel_rfl) c107 (by kernel_rfl) (flags_none _ (by kernel_rfl))
theorem c110 : cFunc Go.Proofs.Tryz.prog none false false vm110 Go.Proofs.Tryz.f110 = some d110 := by kernel_rfl
theorem k110 : FunOk Go.Proofs.Tryz.prog 110 d110 := fun_ok (fn := Go.Proofs.Tryz.f110) (by kernel_rfl) (by kernel_rfl) (by kernel_rfl) c110 (by kernel_rfl) (flags_none _ (by kernel_rfl))
theorem c113 : cFunc Go.Proofs.Tryz.prog none false false vm113 Go.Proofs.Tryz.f113 = some d113 := by kernel_rfl
theorem k113 : FunOk Go.Proofs.Tryz.prog 113 d113 := fun_ok (fn := Go.Proofs.Tryz.f113) (by kernel_rfl) (by kernel_rfl) (by kernel_rfl) c113 (by kernel_rfl) (flags_none _ (by kernel_rfl))
theorem c117 : cFunc Go.Proofs.Tryz.prog none false false vm117 Go.Proofs.Tryz.f117 = some d117 := by kernel_rfl
theorem k117 : FunOk Go.Proofs.Tryz.prog 117 d117 := fun_ok (fn := Go.Proofs.Tryz.f117) (by kernel_rfl) (by kernel_rfl) (by kernel_rfl) c117 (by kernel_rfl) (flags_none _ (by kernel_rfl))
theorem c126 : cFunc Go.Proofs.Tryz.prog none false false vm126 Go.Proofs.Tryz.f126 = some d126 := by kernel_rfl
theorem k126 : FunOk Go.Proofs.Tryz.prog 126 d126 := fun_ok (fn := Go.Proofs.Tryz.f126) (by kernel_rfl) (by kernel_rfl) (by kernel_rfl) c126 (by kernel_rfl) (flags_none _ (by kernel_rfl))
theorem c129 : cFunc Go.Proofs.Tryz.prog none false false vm129 Go.Proofs.Tryz.f129 = some d129 := by kernel_rfl
theorem k129 : FunOk Go.Proofs.Tryz.prog 129 d129 := fun_ok (fn := Go.Proofs.Tryz.f129) (by kernel_rfl) (by kernel_rfl) (by kernel_rfl) c129 (by kernel_rfl) (flags_none _ (by kernel_rfl))
theorem c140 : cFunc Go.Proofs.Tryz.prog none false false vm140 Go.Proofs.Tryz.f140 = some d140 := by kernel_rfl
theorem k140 : FunOk Go.Proofs.Tryz.prog 140 d140 := fun_ok (fn := Go.Proofs.Tryz.f140) (by kernel_rfl) (by kernel_rfl) (by kernel_rfl) c140 (by kernel_rfl) (flags_none _ (by kernel_rfl))
theorem c146 : cFunc Go.Proofs.Tryz.prog none false false vm146 Go.Proofs.Tryz.f146 = some d146 := by kernel_rfl
theorem k146 : FunOk Go.Proofs.Tryz.prog 146 d146 := fun_ok (fn := Go.Proofs.Tryz.f146) (by kernel_rfl) (by kernel_rfl) (by kernel_rfl) c146 (by kernel_rfl) (flags_none _ (by kernel_rfl))
theorem c153 : cFunc Go.Proofs.Tryz.prog none false false vm153 Go.Proofs.Tryz.f153 = some d153 := by kernel_rfl
theorem k153 : FunOk Go.Proofs.Tryz.prog 153 d153 := fun_ok (fn := Go.Proofs.Tryz.f153) (by kernel_rfl) (by kernel_rfl) (by kernel_rfl) c153 (by kernel_rfl) (flags_none _ (by kernel_rfl))
theorem c172 : cFunc Go.Proofs.Tryz.prog none false false vm172 Go.Proofs.Tryz.f172 = some d172 := by kernel_rfl
theorem k172 : FunOk Go.Proofs.Tryz.prog 172 d172 := fun_ok (fn := Go.Proofs.Tryz.f172) (by kernel_rfl) (by kernel_rfl) (by kernel_rfl) c172 (by kernel_rfl) (flags_none _ (by kernel_rfl))
theorem c175 : cFunc Go.Proofs.Tryz.prog none false false vm175 Go.Proofs.Tryz.f175 = some d175 := by kernel_rfl
theorem k175 : FunOk Go.Proofs.Tryz.prog 175 d175 := fun_ok (fn := Go.Proofs.Tryz.f175) (by kernel_rfl) (by kernel_rfl) (by kernel_rfl) c175 (by kernel_rfl) (flags_none _ (by kernel_rfl))
theorem c190 : cFunc Go.Proofs.Tryz.prog none false false vm190 Go.Proofs.Tryz.f190 = some d190 := by kernel_rfl
theorem k190 : FunOk Go.Proofs.Tryz.prog 190 d190 := fun_ok (fn := Go.Proofs.Tryz.f190) (by kernel_rfl) (by kernel_rfl) (by kernel_rfl) c190 (by kernel_rfl) (flags_none _ (by kernel_rfl))
theorem c195 : cFunc Go.Proofs.Tryz.prog none false false vm195 Go.Proofs.Tryz.f195 = some d195 := by kernel_rfl
theorem k195 : FunOk Go.Proofs.Tryz.prog 195 d195 := fun_ok (fn := Go.Proofs.Tryz.f195) (by kernel_rfl) (by kernel_rfl) (by kernel_rfl) c195 (by kernel_rfl) (flags_none _ (by kernel_rfl))
theorem c198 : cFunc Go.Proofs.Tryz.prog none false false vm198 Go.Proofs.Tryz.f198 = some d198 := by kernel_rfl
theorem k198 : FunOk Go.Proofs.Tryz.prog 198 d198 := fun_ok (fn := Go.Proofs.Tryz.f198) (by kernel_rfl) (by kernel_rfl) (by kernel_rfl) c198 (by kernel_rfl) (flags_none _ (by kernel_rfl))
end Dt
