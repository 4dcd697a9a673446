/- A part of the abstract machine and of the proof that the program does what it reckons; no conditions. -/
import Derived.Test.YtoifgfkgjbddcaaGreatDoorZr
set_option linter.all false
namespace Dt
open Go
set_option linter.all false
set_option maxRecDepth 100000
theorem c4 : cFunc Go.Proofs.Tryz.prog none false false vm4 Go.Proofs.Tryz.f4 = some d4 := by kernel_rfl
theorem k4 : FunOk Go.Proofs.Tryz.prog 4 d4 := fun_ok (fn := Go.Proofs.Tryz.f4) (by kernel_rfl) (by kernel_rfl) (by kernel_rfl) c4 (by kernel_rfl) (flags_none _ (by kernel_rfl))
theorem c13 : cFunc Go.Proofs.Tryz.prog none false false vm13 Go.Proofs.Tryz.f13 = some d13 := by kernel_rfl
theorem k13 : FunOk Go.Proofs.Tryz.prog 13 d13 := fun_ok (fn := Go.Proofs.Tryz.f13) (by kernel_rfl) (by kernel_rfl) (by kernel_rfl) c13 (by kernel_rfl) (flags_none _ (by kernel_rfl))
theorem c17 : cFunc Go.Proofs.Tryz.prog none false false vm17 Go.Proofs.Tryz.f17 = some d17 := by kernel_rfl
theorem k17 : FunOk Go.Proofs.Tryz.prog 17 d17 := fun_ok (fn := Go.Proofs.Tryz.f17) (by kernel_rfl) (by kernel_rfl) (by kernel_rfl) c17 (by kernel_rfl) (flags_none _ (by kernel_rfl))
theorem c19 : cFunc Go.Proofs.Tryz.prog none false false vm19 Go.Proofs.Tryz.f19 = some d19 := by kernel_rfl
theorem k19 : FunOk Go.Proofs.Tryz.prog 19 d19 := fun_ok (fn := Go.Proofs.Tryz.f19) (by kernel_rfl) (by kernel_rfl) (by kernel_rfl) c19 (by kernel_rfl) (flags_none _ (by kernel_rfl))
theorem c28 : cFunc Go.Proofs.Tryz.prog none false false vm28 Go.Proofs.Tryz.f28 = some d28 := by kernel_rfl
theorem k28 : FunOk Go.Proofs.Tryz.prog 28 d28 := fun_ok (fn := Go.Proofs.Tryz.f28) (by kernel_rfl) (by kernel_rfl) (by kernel_rfl) c28 (by kernel_rfl) (flags_none _ (by kernel_rfl))
theorem c29 : cFunc Go.Proofs.Tryz.prog none false false vm29 Go.Proofs.Tryz.f29 = some d29 := by kernel_rfl
theorem k29 : FunOk Go.Proofs.Tryz.prog 29 d29 := fun_ok (fn := Go.Proofs.Tryz.f29) (by kernel_rfl) (by kernel_rfl) (by kernel_rfl) c29 (by kernel_rfl) (flags_none _ (by kernel_rfl))
theorem c30 : cFunc Go.Proofs.Tryz.prog none false false vm30 Go.Proofs.Tryz.f30 = some d30 := by kernel_rfl
theorem k30 : FunOk Go.Proofs.Tryz.prog 30 d30 := fun_ok (fn := Go.Proofs.Tryz.f30) (by kernel_rfl) (by kernel_rfl) (by kernel_rfl) c30 (by kernel_rfl) (flags_none _ (by kernel_rfl))
theorem c34 : cFunc Go.Proofs.Tryz.prog none false false vm34 Go.Proofs.Tryz.f34 = some d34 := by kernel_rfl
theorem k34 : FunOk Go.Proofs.Tryz.prog 34 d34 := fun_ok (fn := Go.Proofs.Tryz.f34) (by kernel_rfl) (by kernel_rfl) (by kernel_rfl) c34 (by kernel_rfl) (flags_none _ (by kernel_rfl))
theorem c46 : cFunc Go.Proofs.Tryz.prog none false false vm46 Go.Proofs.Tryz.f46 = some d46 := by kernel_rfl
theorem k46 : FunOk Go.Proofs.Tryz.prog 46 d46 := fun_ok (fn := Go.Proofs.Tryz.f46) (by kernel_rfl) (by kernel_rfl) (by kernel_rfl) c46 (by kernel_rfl) (flags_none _ (by kernel_rfl))
theorem c51 : cFunc Go.Proofs.Tryz.prog none false false vm51 Go.Proofs.Tryz.f51 = some d51 := by kernel_rfl
theorem k51 : FunOk Go.Proofs.Tryz.prog 51 d51 := fun_ok (fn := Go.Proofs.Tryz.f51) (by kernel_rfl) (by kernel_rfl) (by kernel_rfl) c51 (by kernel_rfl) (flags_none _ (by kernel_rfl))
theorem c55 : cFunc Go.Proofs.Tryz.prog none false false vm55 Go.Proofs.Tryz.f55 = some d55 := by kernel_rfl
theorem k55 : FunOk Go.Proofs.Tryz.prog 55 d55 := fun_ok (fn := Go.Proofs.Tryz.f55) (by kernel_rfl) (by kernel_rfl) (by kernel_rfl) c55 (by kernel_rfl) (flags_none _ (by kernel_rfl))
theorem c58 : cFunc Go.Proofs.Tryz.prog none false false vm58 Go.Proofs.Tryz.f58 = some d58 := by kernel_rfl
theorem k58 : FunOk Go.Proofs.Tryz.prog 58 d58 := fun_ok (fn := Go.Proofs.Tryz.f58) (by kernel_rfl) (by kernel_rfl) (by kernel_rfl) c58 (by kernel_rfl) (flags_none _ (by kernel_rfl))
theorem c59 : cFunc Go.Proofs.Tryz.prog none false false vm59 Go.Proofs.Tryz.f59 = some d59 := by kernel_rfl
theorem k59 : FunOk Go.Proofs.Tryz.prog 59 d59 := fun_ok (fn := Go.Proofs.Tryz.f59) (by kernel_rfl) (by kernel_rfl) (by kernel_rfl) c59 (by kernel_rfl) (flags_none _ (by kernel_rfl))
theorem c60 : cFunc Go.Proofs.Tryz.prog none false false vm60 Go.Proofs.Tryz.f60 = some d60 := by kernel_rfl
theorem k60 : FunOk Go.Proofs.Tryz.prog 60 d60 := fun_ok (fn := Go.Proofs.Tryz.f60) (by kernel_rfl) (by kernel_rfl) (by kernel_rfl) c60 (by kernel_rfl) (flags_none _ (by kernel_rfl))
theorem c63 : cFunc Go.Proofs.Tryz.prog none false false vm63 Go.Proofs.Tryz.f63 = some d63 := by kernel_rfl
theorem k63 : FunOk Go.Proofs.Tryz.prog 63 d63 := fun_ok (fn := Go.Proofs.Tryz.f63) (by kernel_rfl) (by kernel_rfl) (by kernel_rfl) c63 (by kernel_rfl) (flags_none _ (by kernel_rfl))
theorem c64 : cFunc Go.Proofs.Tryz.prog none false false vm64 Go.Proofs.Tryz.f64 = some d64 := by kernel_rfl
theorem k64 : FunOk Go.Proofs.Tryz.prog 64 d64 := fun_ok (fn := Go.Proofs.Tryz.f64) (by kernel_rfl) (by kernel_rfl) (by kernel_rfl) c64 (by kernel_rfl) (flags_none _ (by kernel_rfl))
theorem c67 : cFunc Go.Proofs.Tryz.prog none false false vm67 Go.Proofs.Tryz.f67 = some d67 := by kernel_rfl
theorem k67 : FunOk Go.Proofs.Tryz.prog 67 d67 := fun_ok (fn := Go.Proofs.Tryz.f67) (by kernel_rfl) (by kernel_rfl) (by kernel_rfl) c67 (by kernel_rfl) (flags_none _ (by kernel_rfl))
theorem c68 : cFunc Go.Proofs.Tryz.prog none true false vm68 Go.Proofs.Tryz.f68 = some d68 := by kernel_rfl
theorem k68 : FunOk Go.Proofs.Tryz.prog 68 d68 := fun_ok (fn := Go.Proofs.Tryz.f68) (by kernel_rfl) (by kernel_rfl) (by kernel_rfl) c68 (by kernel_rfl) (flags_none _ (by kernel_rfl))
theorem c73 : cFunc Go.Proofs.Tryz.prog none false false vm73 Go.Proofs.Tryz.f73 = some d73 := by kernel_rfl
theorem k73 : FunOk Go.Proofs.Tryz.prog 73 d73 := fun_ok (fn := Go.Proofs.Tryz.f73) (by kernel_rfl) (by kernel_rfl) (by kernel_rfl) c73 (by kernel_rfl) (flags_none _ (by kernel_rfl))
theorem c80 : cFunc Go.Proofs.Tryz.prog none false false vm80 Go.Proofs.Tryz.f80 = some d80 := by kernel_rfl
theorem k80 : FunOk Go.Proofs.Tryz.prog 80 d80 := fun_ok (fn := Go.Proofs.Tryz.f80) (by kernel_rfl) (by kernel_rfl) (by kernel_rfl) c80 (by kernel_rfl) (flags_none _ (by kernel_rfl))
theorem c83 : cFunc Go.Proofs.Tryz.prog none false false vm83 Go.Proofs.Tryz.f83 = some d83 := by kernel_rfl
theorem k83 : FunOk Go.Proofs.Tryz.prog 83 d83 := fun_ok (fn := Go.Proofs.Tryz.f83) (by kernel_rfl) (by kernel_rfl) (by kernel_rfl) c83 (by kernel_rfl) (flags_none _ (by kernel_rfl))
theorem c92 : cFunc Go.Proofs.Tryz.prog none false false vm92 Go.Proofs.Tryz.f92 = some d92 := by kernel_rfl
theorem k92 : FunOk Go.Proofs.Tryz.prog 92 d92 := fun_ok (fn := Go.Proofs.Tryz.f92) (by kernel_rfl) (by kernel_rfl) (by kernel_rfl) c92 (by kernel_rfl) (flags_none _ (by kernel_rfl))
theorem c107 : cFunc Go.Proofs.Tryz.prog none false false vm107 Go.Proofs.Tryz.f107 = some d107 := by kernel_rfl
theorem k107 : FunOk Go.Proofs.Tryz.prog 107 d107 := fun_ok (fn := Go.Proofs.Tryz.f107) (by kernel_rfl) (by kernel_rfl) (by kernel_rfl) c107 (by kernel_rfl) (flags_none _ (by kernel_rfl))
theorem c110 : cFunc Go.Proofs.Tryz.prog none false false vm110 Go.Proofs.Tryz.f110 = some d110 := by kernel_rfl
theorem k110 : FunOk Go.Proofs.Tryz.prog 110 d110 := fun_ok (fn := Go.Proofs.Tryz.f110) (by kernel_rfl) (by kernel_rfl) (by kernel_rfl) c110 (by kernel_rfl) (flags_none _ (by kernel_rfl))
theorem c113 : cFunc Go.Proofs.Tryz.prog none false false vm113 Go.Proofs.Tryz.f113 = some d113 := by kernel_rfl
theorem k113 : FunOk Go.Proofs.Tryz.prog 113 d113 := fun_ok (fn := Go.Proofs.Tryz.f113) (by kernel_rfl) (by kernel_rfl) (by kernel_rfl) c113 (by kernel_rfl) (flags_none _ (by kernel_rfl))
theorem c116 : cFunc Go.Proofs.Tryz.prog none false false vm116 Go.Proofs.Tryz.f116 = some d116 := by kernel_rfl
theorem k116 : FunOk Go.Proofs.Tryz.prog 116 d116 := fun_ok (fn := Go.Proofs.Tryz.f116) (by kernel_rfl) (by kernel_rfl) (by kernel_rfl) c116 (by kernel_rfl) (flags_none _ (by kernel_rfl))
theorem c121 : cFunc Go.Proofs.Tryz.prog none false false vm121 Go.Proofs.Tryz.f121 = some d121 := by kernel_rfl
theorem k121 : FunOk Go.Proofs.Tryz.prog 121 d121 := fun_ok (fn := Go.Proofs.Tryz.f121) (by kernel_rfl) (by kernel_rfl) (by kernel_rfl) c121 (by kernel_rfl) (flags_none _ (by kernel_rfl))
theorem c125 : cFunc Go.Proofs.Tryz.prog none false false vm125 Go.Proofs.Tryz.f125 = some d125 := by kernel_rfl
theorem k125 : FunOk Go.Proofs.Tryz.prog 125 d125 := fun_ok (fn := Go.Proofs.Tryz.f125) (by kernel_rfl) (by kernel_rfl) (by kernel_rfl) c125 (by kernel_rfl) (flags_none _ (by kernel_rfl))
theorem c131 : cFunc Go.Proofs.Tryz.prog none false false vm131 Go.Proofs.Tryz.f131 = some d131 := by kernel_rfl
theorem k131 : FunOk Go.Proofs.Tryz.prog 131 d131 := fun_ok (fn := Go.Proofs.Tryz.f131) (by kernel_rfl) (by kernel_rfl) (by kernel_rfl) c131 (by kernel_rfl) (flags_none _ (by kernel_rfl))
theorem c144 : cFunc Go.Proofs.Tryz.prog none false false vm144 Go.Proofs.Tryz.f144 = some d144 := by kernel_rfl
theorem k144 : FunOk Go.Proofs.Tryz.prog 144 d144 := fun_ok (fn := Go.Proofs.Tryz.f144) (by kernel_rfl) (by kernel_rfl) (by kernel_rfl) c144 (by kernel_rfl) (flags_none _ (by kernel_rfl))
theorem c150 : cFunc Go.Proofs.Tryz.prog none false false vm150 Go.Proofs.Tryz.f150 = some d150 := by kernel_rfl
theorem k150 : FunOk Go.Proofs.Tryz.prog 150 d150 := fun_ok (fn := Go.Proofs.Tryz.f150) (by kernel_rfl) (by kernel_rfl) (by kernel_rfl) c150 (by kernel_rfl) (flags_none _ (by kernel_rfl))
theorem c163 : cFunc Go.Proofs.Tryz.prog none false false vm163 Go.Proofs.Tryz.f163 = some d163 := by kernel_rfl
theorem k163 : FunOk Go.Proofs.Tryz.prog 163 d163 := fun_ok (fn := Go.Proofs.Tryz.f163) (by kernel_rfl) (by kernel_rfl) (by kernel_rfl) c163 (by kernel_rfl) (flags_none _ (by kernel_rfl))
theorem c174 : cFunc Go.Proofs.Tryz.prog none false false vm174 Go.Proofs.Tryz.f174 = some d174 := by kernel_rfl
theorem k174 : FunOk Go.Proofs.Tryz.prog 174 d174 := fun_ok (fn := Go.Proofs.Tryz.f174) (by kernel_rfl) (by kernel_rfl) (by kernel_rfl) c174 (by kernel_rfl) (flags_none _ (by kernel_rfl))
theorem c178 : cFunc Go.Proofs.Tryz.prog none false false vm178 Go.Proofs.Tryz.f178 = some d178 := by kernel_rfl
theorem k178 : FunOk Go.Proofs.Tryz.prog 178 d178 := fun_ok (fn := Go.Proofs.Tryz.f178) (by kernel_rfl) (by kernel_rfl) (by kernel_rfl) c178 (by kernel_rfl) (flags_none _ (by kernel_rfl))
theorem c179 : cFunc Go.Proofs.Tryz.prog none false false vm179 Go.Proofs.Tryz.f179 = some d179 := by kernel_rfl
theorem k179 : FunOk Go.Proofs.Tryz.prog 179 d179 := fun_ok (fn := Go.Proofs.Tryz.f179) (by kernel_rfl) (by kernel_rfl) (by kernel_rfl) c179 (by kernel_rfl) (flags_none _ (by kernel_rfl))
theorem c182 : cFunc Go.Proofs.Tryz.prog none false false vm182 Go.Proofs.Tryz.f182 = some d182 := by kernel_rfl
theorem k182 : FunOk Go.Proofs.Tryz.prog 182 d182 := fun_ok (fn := Go.Proofs.Tryz.f182) (by kernel_rfl) (by kernel_rfl) (by kernel_rfl) c182 (by kernel_rfl) (flags_none _ (by kernel_rfl))
theorem c183 : cFunc Go.Proofs.Tryz.prog none false false vm183 Go.Proofs.Tryz.f183 = some d183 := by kernel_rfl
theorem k183 : FunOk Go.Proofs.Tryz.prog 183 d183 := fun_ok (fn := Go.Proofs.Tryz.f183) (by kernel_rfl) (by kernel_rfl) (by kernel_rfl) c183 (by kernel_rfl) (flags_none _ (by kernel_rfl))
theorem c187 : cFunc Go.Proofs.Tryz.prog none false false vm187 Go.Proofs.Tryz.f187 = some d187 := by kernel_rfl
theorem k187 : FunOk Go.Proofs.Tryz.prog 187 d187 := fun_ok (fn := Go.Proofs.Tryz.f187) (by kernel_rfl) (by kernel_rfl) (by kernel_rfl) c187 (by kernel_rfl) (flags_none _ (by kernel_rfl))
theorem c193 : cFunc Go.Proofs.Tryz.prog none false false vm193 Go.Proofs.Tryz.f193 = some d193 := by kernel_rfl
theorem k193 : FunOk Go.Proofs.Tryz.prog 193 d193 := fun_ok (fn := Go.Proofs.Tryz.f193) (by kernel_rfl) (by kernel_rfl) (by kernel_rfl) c193 (by kernel_rfl) (flags_none _ (by kernel_rfl))
theorem c201 : cFunc Go.Proofs.Tryz.prog none false false vm201 Go.Proofs.Tryz.f201 = some d201 := by kernel_rfl
theorem k201 : FunOk Go.Proofs.Tryz.prog 201 d201 := fun_ok (fn := Go.Proofs.Tryz.f201) (by kernel_rfl) (by kernel_rfl) (by kernel_rfl) c201 (by kernel_rfl) (flags_none _ (by kernel_rfl))
theorem c203 : cFunc Go.Proofs.Tryz.prog none false false vm203 Go.Proofs.Tryz.f203 = some d203 := by kernel_rfl
theorem k203 : FunOk Go.Proofs.Tryz.prog 203 d203 := fun_ok (fn := Go.Proofs.Tryz.f203) (by kernel_rfl) (by kernel_rfl) (by kernel_rfl) c203 (by kernel_rfl) (flags_none _ (by kernel_rfl))
theorem c204 : cFunc Go.Proofs.Tryz.prog none false false vm204 Go.Proofs.Tryz.f204 = some d204 := by kernel_rfl
theorem k204 : FunOk Go.Proofs.Tryz.prog 204 d204 := fun_ok (fn := Go.Proofs.Tryz.f204) (by kernel_rfl) (by kernel_rfl) (by kernel_rfl) c204 (by kernel_rfl) (flags_none _ (by kernel_rfl))
end Dt
