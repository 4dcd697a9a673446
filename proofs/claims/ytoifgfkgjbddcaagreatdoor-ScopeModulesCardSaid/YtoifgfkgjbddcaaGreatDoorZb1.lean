/- A part of the abstract machine and of the proof that the program does what it reckons; no conditions. -/
import Derived.Test.YtoifgfkgjbddcaaGreatDoorZr
set_option linter.all false
namespace Dt
open Go
set_option linter.all false
set_option maxRecDepth 100000
theorem c3 : cFunc Go.Proofs.Tryz.prog none false false vm3 Go.Proofs.Tryz.f3 = some d3 := by kernel_rfl
theorem k3 : FunOk Go.Proofs.Tryz.prog 3 d3 := fun_ok (fn := Go.Proofs.Tryz.f3) (by kernel_rfl) (by kernel_rfl) (by kernel_rfl) c3 (by kernel_rfl) (flags_none _ (by kernel_rfl))
theorem c10 : cFunc Go.Proofs.Tryz.prog none false false vm10 Go.Proofs.Tryz.f10 = some d10 := by kernel_rfl
theorem k10 : FunOk Go.Proofs.Tryz.prog 10 d10 := fun_ok (fn := Go.Proofs.Tryz.f10) (by kernel_rfl) (by kernel_rfl) (by kernel_rfl) c10 (by kernel_rfl) (flags_none _ (by kernel_rfl))
theorem c16 : cFunc Go.Proofs.Tryz.prog none false false vm16 Go.Proofs.Tryz.f16 = some d16 := by kernel_rfl
theorem k16 : FunOk Go.Proofs.Tryz.prog 16 d16 := fun_ok (fn := Go.Proofs.Tryz.f16) (by kernel_rfl) (by kernel_rfl) (by kernel_rfl) c16 (by kernel_rfl) (flags_none _ (by kernel_rfl))
theorem c21 : cFunc Go.Proofs.Tryz.prog none false false vm21 Go.Proofs.Tryz.f21 = some d21 := by kernel_rfl
theorem k21 : FunOk Go.Proofs.Tryz.prog 21 d21 := fun_ok (fn := Go.Proofs.Tryz.f21) (by kernel_rfl) (by kernel_rfl) (by kernel_rfl) c21 (by kernel_rfl) (flags_none _ (by kernel_rfl))
theorem c27 : cFunc Go.Proofs.Tryz.prog none false false vm27 Go.Proofs.Tryz.f27 = some d27 := by kernel_rfl
theorem k27 : FunOk Go.Proofs.Tryz.prog 27 d27 := fun_ok (fn := Go.Proofs.Tryz.f27) (by kernel_rfl) (by kernel_rfl) (by kernel_rfl) c27 (by kernel_rfl) (flags_none _ (by kernel_rfl))
theorem c36 : cFunc Go.Proofs.Tryz.prog none false false vm36 Go.Proofs.Tryz.f36 = some d36 := by kernel_rfl
theorem k36 : FunOk Go.Proofs.Tryz.prog 36 d36 := fun_ok (fn := Go.Proofs.Tryz.f36) (by kernel_rfl) (by kernel_rfl) (by kernel_rfl) c36 (by kernel_rfl) (flags_none _ (by kernel_rfl))
theorem c54 : cFunc Go.Proofs.Tryz.prog none false false vm54 Go.Proofs.Tryz.f54 = some d54 := by kernel_rfl
theorem k54 : FunOk Go.Proofs.Tryz.prog 54 d54 := fun_ok (fn := Go.Proofs.Tryz.f54) (by kernel_rfl) (by kernel_rfl) (by kernel_rfl) c54 (by kernel_rfl) (flags_none _ (by kernel_rfl))
theorem c76 : cFunc Go.Proofs.Tryz.prog none false false vm76 Go.Proofs.Tryz.f76 = some d76 := by kernel_rfl
theorem k76 : FunOk Go.Proofs.Tryz.prog 76 d76 := fun_ok (fn := Go.Proofs.Tryz.f76) (by kernel_rfl) (by kernel_rfl) (by kernel_rfl) c76 (by kernel_rfl) (flags_none _ (by kernel_rfl))
theorem c78 : cFunc Go.Proofs.Tryz.prog none false false vm78 Go.Proofs.Tryz.f78 = some d78 := by kernel_rfl
theorem k78 : FunOk Go.Proofs.Tryz.prog 78 d78 := fun_ok (fn := Go.Proofs.Tryz.f78) (by kernel_rfl) (by kernel_rfl) (by kernel_rfl) c78 (by kernel_rfl) (flags_none _ (by kernel_rfl))
theorem c82 : cFunc Go.Proofs.Tryz.prog none false false vm82 Go.Proofs.Tryz.f82 = some d82 := by kernel_rfl
theorem k82 : FunOk Go.Proofs.Tryz.prog 82 d82 := fun_ok (fn := Go.Proofs.Tryz.f82) (by kernel_rfl) (by kernel_rfl) (by kernel_rfl) c82 (by kernel_rfl) (flags_none _ (by kernel_rfl))
theorem c94 : cFunc Go.Proofs.Tryz.prog none false false vm94 Go.Proofs.Tryz.f94 = some d94 := by kernel_rfl
theorem k94 : FunOk Go.Proofs.Tryz.prog 94 d94 := fun_ok (fn := Go.Proofs.Tryz.f94) (by kernel_rfl) (by kernel_rfl) (by kernel_rfl) c94 (by kernel_rfl) (flags_none _ (by kernel_rfl))
theorem c98 : cFunc Go.Proofs.Tryz.prog none false false vm98 Go.Proofs.Tryz.f98 = some d98 := by kernel_rfl
theorem k98 : FunOk Go.Proofs.Tryz.prog 98 d98 := fun_ok (fn := Go.Proofs.Tryz.f98) (by kernel_rfl) (by kernel_rfl) (by kernel_rfl) c98 (by kernel_rfl) (flags_none _ (by kernel_rfl))
theorem c102 : cFunc Go.Proofs.Tryz.prog none false false vm102 Go.Proofs.Tryz.f102 = some d102 := by kernel_rfl
theorem k102 : FunOk Go.Proofs.Tryz.prog 102 d102 := fun_ok (fn := Go.Proofs.Tryz.f102) (by kernel_rfl) (by kernel_rfl) (by kernel_rfl) c102 (by kernel_rfl) (flags_none _ (by kernel_rfl))
theorem c114 : cFunc Go.Proofs.Tryz.prog none false false vm114 Go.Proofs.Tryz.f114 = some d114 := by kernel_rfl
theorem k114 : FunOk Go.Proofs.Tryz.prog 114 d114 := fun_ok (fn := Go.Proofs.Tryz.f114) (by kernel_rfl) (by kernel_rfl) (by kernel_rfl) c114 (by kernel_rfl) (flags_none _ (by kernel_rfl))
theorem c116 : cFunc Go.Proofs.Tryz.prog none false false vm116 Go.Proofs.Tryz.f116 = some d116 := by kernel_rfl
theorem k116 : FunOk Go.Proofs.Tryz.prog 116 d116 := fun_ok (fn := Go.Proofs.Tryz.f116) (by kernel_rfl) (by kernel_rfl) (by kernel_rfl) c116 (by kernel_rfl) (flags_none _ (by kernel_rfl))
theorem c121 : cFunc Go.Proofs.Tryz.prog none false false vm121 Go.Proofs.Tryz.f121 = some d121 := by kernel_rfl
theorem k121 : FunOk Go.Proofs.Tryz.prog 121 d121 := fun_ok (fn := Go.Proofs.Tryz.f121) (by kernel_rfl) (by kernel_rfl) (by kernel_rfl) c121 (by kernel_rfl) (flags_none _ (by kernel_rfl))
theorem c125 : cFunc Go.Proofs.Tryz.prog none false false vm125 Go.Proofs.Tryz.f125 = some d125 := by kernel_rfl
theorem k125 : FunOk Go.Proofs.Tryz.prog 125 d125 := fun_ok (fn := Go.Proofs.Tryz.f125) (by kernel_rfl) (by kernel_rfl) (by kernel_rfl) c125 (by kernel_rfl) (flags_none _ (by kernel_rfl))
theorem c131 : cFunc Go.Proofs.Tryz.prog none false false vm131 Go.Proofs.Tryz.f131 = some d131 := by kernel_rfl
theorem k131 : FunOk Go.Proofs.Tryz.prog 131 d131 := fun_ok (fn := Go.Proofs.Tryz.f131) (by kernel_rfl) (by kernel_rfl) (by kernel_rfl) c131 (by kernel_rfl) (flags_none _ (by kernel_rfl))
theorem c144 : cFunc Go.Proofs.Tryz.prog none false false vm144 Go.Proofs.Tryz.f144 = some d144 := by kernel_rfl
theorem k144 : FunOk Go.Proofs.Tryz.prog 144 d144 := fun_ok (fn := Go.Proofs.Tryz.f144) (by kernel_rfl) (by kernel_rfl) (by kernel_rfl) c144 (by kernel_rfl) (flags_none _ (by kernel_rfl))
theorem c150 : cFunc Go.Proofs.Tryz.prog none false false vm150 Go.Proofs.Tryz.f150 = some d150 := by kernel_rfl
theorem k150 : FunOk Go.Proofs.Tryz.prog 150 d150 := fun_ok (fn := Go.Proofs.Tryz.f150) (by kernel_rfl) (by kernel_rfl) (by kernel_rfl) c150 (by kernel_rfl) (flags_none _ (by kernel_rfl))
theorem c163 : cFunc Go.Proofs.Tryz.prog none false false vm163 Go.Proofs.Tryz.f163 = some d163 := by kernel_rfl
theorem k163 : FunOk Go.Proofs.Tryz.prog 163 d163 := fun_ok (fn := Go.Proofs.Tryz.f163) (by kernel_rfl) (by kernel_rfl) (by kernel_rfl) c163 (by kernel_rfl) (flags_none _ (by kernel_rfl))
theorem c174 : cFunc Go.Proofs.Tryz.prog none false false vm174 Go.Proofs.Tryz.f174 = some d174 := by kernel_rfl
theorem k174 : FunOk Go.Proofs.Tryz.prog 174 d174 := fun_ok (fn := Go.Proofs.Tryz.f174) (by kernel_rfl) (by kernel_rfl) (by kernel_rfl) c174 (by kernel_rfl) (flags_none _ (by kernel_rfl))
theorem c178 : cFunc Go.Proofs.Tryz.prog none false false vm178 Go.Proofs.Tryz.f178 = some d178 := by kernel_rfl
theorem k178 : FunOk Go.Proofs.Tryz.prog 178 d178 := fun_ok (fn := Go.Proofs.Tryz.f178) (by kernel_rfl) (by kernel_rfl) (by kernel_rfl) c178 (by kernel_rfl) (flags_none _ (by kernel_rfl))
theorem c179 : cFunc Go.Proofs.Tryz.prog none false false vm179 Go.Proofs.Tryz.f179 = some d179 := by kernel_rfl
theorem k179 : FunOk Go.Proofs.Tryz.prog 179 d179 := fun_ok (fn := Go.Proofs.Tryz.f179) (by kernel_rfl) (by kernel_rfl) (by kernel_rfl) c179 (by kernel_rfl) (flags_none _ (by kernel_rfl))
theorem c182 : cFunc Go.Proofs.Tryz.prog none false false vm182 Go.Proofs.Tryz.f182 = some d182 := by kernel_rfl
theorem k182 : FunOk Go.Proofs.Tryz.prog 182 d182 := fun_ok (fn := Go.Proofs.Tryz.f182) (by kernel_rfl) (by kernel_rfl) (by kernel_rfl) c182 (by kernel_rfl) (flags_none _ (by kernel_rfl))
theorem c183 : cFunc Go.Proofs.Tryz.prog none false false vm183 Go.Proofs.Tryz.f183 = some d183 := by kernel_rfl
theorem k183 : FunOk Go.Proofs.Tryz.prog 183 d183 := fun_ok (fn := Go.Proofs.Tryz.f183) (by kernel_rfl) (by kernel_rfl) (by kernel_rfl) c183 (by kernel_rfl) (flags_none _ (by kernel_rfl))
theorem c187 : cFunc Go.Proofs.Tryz.prog none false false vm187 Go.Proofs.Tryz.f187 = some d187 := by kernel_rfl
theorem k187 : FunOk Go.Proofs.Tryz.prog 187 d187 := fun_ok (fn := Go.Proofs.Tryz.f187) (by kernel_rfl) (by kernel_rfl) (by kernel_rfl) c187 (by kernel_rfl) (flags_none _ (by kernel_rfl))
theorem c193 : cFunc Go.Proofs.Tryz.prog none false false vm193 Go.Proofs.Tryz.f193 = some d193 := by kernel_rfl
theorem k193 : FunOk Go.Proofs.Tryz.prog 193 d193 := fun_ok (fn := Go.Proofs.Tryz.f193) (by kernel_rfl) (by kernel_rfl) (by kernel_rfl) c193 (by kernel_rfl) (flags_none _ (by kernel_rfl))
theorem c201 : cFunc Go.Proofs.Tryz.prog none false false vm201 Go.Proofs.Tryz.f201 = some d201 := by kernel_rfl
theorem k201 : FunOk Go.Proofs.Tryz.prog 201 d201 := fun_ok (fn := Go.Proofs.Tryz.f201) (by kernel_rfl) (by kernel_rfl) (by kernel_rfl) c201 (by kernel_rfl) (flags_none _ (by kernel_rfl))
theorem c203 : cFunc Go.Proofs.Tryz.prog none false false vm203 Go.Proofs.Tryz.f203 = some d203 := by kernel_rfl
theorem k203 : FunOk Go.Proofs.Tryz.prog 203 d203 := fun_ok (fn := Go.Proofs.Tryz.f203) (by kernel_rfl) (by kernel_rfl) (by kernel_rfl) c203 (by kernel_rfl) (flags_none _ (by kernel_rfl))
theorem c204 : cFunc Go.Proofs.Tryz.prog none false false vm204 Go.Proofs.Tryz.f204 = some d204 := by kernel_rfl
theorem k204 : FunOk Go.Proofs.Tryz.prog 204 d204 := fun_ok (fn := Go.Proofs.Tryz.f204) (by kernel_rfl) (by kernel_rfl) (by kernel_rfl) c204 (by kernel_rfl) (flags_none _ (by kernel_rfl))
end Dt
