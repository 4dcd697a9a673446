/- A part of the abstract machine and of the proof that the program does what it reckons; no conditions. -/
import Derived.Test.YtpljolocgeicfaaDoorDo
import Derived.Test.YtpljolocgeicfaaDoorXa
import Derived.Test.YtpljolocgeicfaaDoorProg
import Derived.KernelRfl
namespace Dt
open Go
theorem c3 : cFunc Go.Proofs.Tryd.prog vm3 Go.Proofs.Tryd.f3 = some d3 := by kernel_rfl
theorem c4 : cFunc Go.Proofs.Tryd.prog vm4 Go.Proofs.Tryd.f4 = some d4 := by kernel_rfl
theorem c5 : cFunc Go.Proofs.Tryd.prog vm5 Go.Proofs.Tryd.f5 = some d5 := by kernel_rfl
theorem c6 : cFunc Go.Proofs.Tryd.prog vm6 Go.Proofs.Tryd.f6 = some d6 := by kernel_rfl
theorem c7 : cFunc Go.Proofs.Tryd.prog vm7 Go.Proofs.Tryd.f7 = some d7 := by kernel_rfl
theorem c8 : cFunc Go.Proofs.Tryd.prog vm8 Go.Proofs.Tryd.f8 = some d8 := by kernel_rfl
theorem c9 : cFunc Go.Proofs.Tryd.prog vm9 Go.Proofs.Tryd.f9 = some d9 := by kernel_rfl
theorem c10 : cFunc Go.Proofs.Tryd.prog vm10 Go.Proofs.Tryd.f10 = some d10 := by kernel_rfl
theorem c11 : cFunc Go.Proofs.Tryd.prog vm11 Go.Proofs.Tryd.f11 = some d11 := by kernel_rfl
theorem c12 : cFunc Go.Proofs.Tryd.prog vm12 Go.Proofs.Tryd.f12 = some d12 := by kernel_rfl
theorem c13 : cFunc Go.Proofs.Tryd.prog vm13 Go.Proofs.Tryd.f13 = some d13 := by kernel_rfl
theorem c14 : cFunc Go.Proofs.Tryd.prog vm14 Go.Proofs.Tryd.f14 = some d14 := by kernel_rfl
theorem c15 : cFunc Go.Proofs.Tryd.prog vm15 Go.Proofs.Tryd.f15 = some d15 := by kernel_rfl
theorem c16 : cFunc Go.Proofs.Tryd.prog vm16 Go.Proofs.Tryd.f16 = some d16 := by kernel_rfl
theorem c17 : cFunc Go.Proofs.Tryd.prog vm17 Go.Proofs.Tryd.f17 = some d17 := by kernel_rfl
theorem c18 : cFunc Go.Proofs.Tryd.prog vm18 Go.Proofs.Tryd.f18 = some d18 := by kernel_rfl
theorem c19 : cFunc Go.Proofs.Tryd.prog vm19 Go.Proofs.Tryd.f19 = some d19 := by kernel_rfl
theorem c20 : cFunc Go.Proofs.Tryd.prog vm20 Go.Proofs.Tryd.f20 = some d20 := by kernel_rfl
theorem c21 : cFunc Go.Proofs.Tryd.prog vm21 Go.Proofs.Tryd.f21 = some d21 := by kernel_rfl
theorem c22 : cFunc Go.Proofs.Tryd.prog vm22 Go.Proofs.Tryd.f22 = some d22 := by kernel_rfl
theorem c23 : cFunc Go.Proofs.Tryd.prog vm23 Go.Proofs.Tryd.f23 = some d23 := by kernel_rfl
theorem c24 : cFunc Go.Proofs.Tryd.prog vm24 Go.Proofs.Tryd.f24 = some d24 := by kernel_rfl
theorem c25 : cFunc Go.Proofs.Tryd.prog vm25 Go.Proofs.Tryd.f25 = some d25 := by kernel_rfl
theorem c26 : cFunc Go.Proofs.Tryd.prog vm26 Go.Proofs.Tryd.f26 = some d26 := by kernel_rfl
theorem c27 : cFunc Go.Proofs.Tryd.prog vm27 Go.Proofs.Tryd.f27 = some d27 := by kernel_rfl
theorem c28 : cFunc Go.Proofs.Tryd.prog vm28 Go.Proofs.Tryd.f28 = some d28 := by kernel_rfl
theorem c29 : cFunc Go.Proofs.Tryd.prog vm29 Go.Proofs.Tryd.f29 = some d29 := by kernel_rfl
theorem c30 : cFunc Go.Proofs.Tryd.prog vm30 Go.Proofs.Tryd.f30 = some d30 := by kernel_rfl
theorem c31 : cFunc Go.Proofs.Tryd.prog vm31 Go.Proofs.Tryd.f31 = some d31 := by kernel_rfl
theorem c32 : cFunc Go.Proofs.Tryd.prog vm32 Go.Proofs.Tryd.f32 = some d32 := by kernel_rfl
theorem c33 : cFunc Go.Proofs.Tryd.prog vm33 Go.Proofs.Tryd.f33 = some d33 := by kernel_rfl
theorem c34 : cFunc Go.Proofs.Tryd.prog vm34 Go.Proofs.Tryd.f34 = some d34 := by kernel_rfl
theorem c35 : cFunc Go.Proofs.Tryd.prog vm35 Go.Proofs.Tryd.f35 = some d35 := by kernel_rfl
theorem c36 : cFunc Go.Proofs.Tryd.prog vm36 Go.Proofs.Tryd.f36 = some d36 := by kernel_rfl
theorem c37 : cFunc Go.Proofs.Tryd.prog vm37 Go.Proofs.Tryd.f37 = some d37 := by kernel_rfl
theorem c38 : cFunc Go.Proofs.Tryd.prog vm38 Go.Proofs.Tryd.f38 = some d38 := by kernel_rfl
theorem c39 : cFunc Go.Proofs.Tryd.prog vm39 Go.Proofs.Tryd.f39 = some d39 := by kernel_rfl
theorem c40 : cFunc Go.Proofs.Tryd.prog vm40 Go.Proofs.Tryd.f40 = some d40 := by kernel_rfl
theorem c41 : cFunc Go.Proofs.Tryd.prog vm41 Go.Proofs.Tryd.f41 = some d41 := by kernel_rfl
theorem c42 : cFunc Go.Proofs.Tryd.prog vm42 Go.Proofs.Tryd.f42 = some d42 := by kernel_rfl
theorem c43 : cFunc Go.Proofs.Tryd.prog vm43 Go.Proofs.Tryd.f43 = some d43 := by kernel_rfl
theorem c44 : cFunc Go.Proofs.Tryd.prog vm44 Go.Proofs.Tryd.f44 = some d44 := by kernel_rfl
theorem c45 : cFunc Go.Proofs.Tryd.prog vm45 Go.Proofs.Tryd.f45 = some d45 := by kernel_rfl
theorem c46 : cFunc Go.Proofs.Tryd.prog vm46 Go.Proofs.Tryd.f46 = some d46 := by kernel_rfl
theorem c47 : cFunc Go.Proofs.Tryd.prog vm47 Go.Proofs.Tryd.f47 = some d47 := by kernel_rfl
theorem c48 : cFunc Go.Proofs.Tryd.prog vm48 Go.Proofs.Tryd.f48 = some d48 := by kernel_rfl
theorem c49 : cFunc Go.Proofs.Tryd.prog vm49 Go.Proofs.Tryd.f49 = some d49 := by kernel_rfl
theorem c50 : cFunc Go.Proofs.Tryd.prog vm50 Go.Proofs.Tryd.f50 = some d50 := by kernel_rfl
theorem c51 : cFunc Go.Proofs.Tryd.prog vm51 Go.Proofs.Tryd.f51 = some d51 := by kernel_rfl
theorem c52 : cFunc Go.Proofs.Tryd.prog vm52 Go.Proofs.Tryd.f52 = some d52 := by kernel_rfl
theorem c53 : cFunc Go.Proofs.Tryd.prog vm53 Go.Proofs.Tryd.f53 = some d53 := by kernel_rfl
theorem c54 : cFunc Go.Proofs.Tryd.prog vm54 Go.Proofs.Tryd.f54 = some d54 := by kernel_rfl
theorem c55 : cFunc Go.Proofs.Tryd.prog vm55 Go.Proofs.Tryd.f55 = some d55 := by kernel_rfl
theorem c56 : cFunc Go.Proofs.Tryd.prog vm56 Go.Proofs.Tryd.f56 = some d56 := by kernel_rfl
theorem c57 : cFunc Go.Proofs.Tryd.prog vm57 Go.Proofs.Tryd.f57 = some d57 := by kernel_rfl
theorem c58 : cFunc Go.Proofs.Tryd.prog vm58 Go.Proofs.Tryd.f58 = some d58 := by kernel_rfl
theorem c59 : cFunc Go.Proofs.Tryd.prog vm59 Go.Proofs.Tryd.f59 = some d59 := by kernel_rfl
theorem c61 : cFunc Go.Proofs.Tryd.prog vm61 Go.Proofs.Tryd.f61 = some d61 := by kernel_rfl
theorem c63 : cFunc Go.Proofs.Tryd.prog vm63 Go.Proofs.Tryd.f63 = some d63 := by kernel_rfl
theorem c64 : cFunc Go.Proofs.Tryd.prog vm64 Go.Proofs.Tryd.f64 = some d64 := by kernel_rfl
theorem follows : Go.Proofs.Tryd.prog.follows .mixedOrders = true := by kernel_rfl
theorem k3 : FunOk Go.Proofs.Tryd.prog 3 d3 := ⟨Go.Proofs.Tryd.f3, _, vm3, by kernel_rfl, rfl, ne_of_beq_false (by kernel_rfl), by decide, c3⟩
theorem k4 : FunOk Go.Proofs.Tryd.prog 4 d4 := ⟨Go.Proofs.Tryd.f4, _, vm4, by kernel_rfl, rfl, ne_of_beq_false (by kernel_rfl), by decide, c4⟩
theorem k5 : FunOk Go.Proofs.Tryd.prog 5 d5 := ⟨Go.Proofs.Tryd.f5, _, vm5, by kernel_rfl, rfl, ne_of_beq_false (by kernel_rfl), by decide, c5⟩
theorem k6 : FunOk Go.Proofs.Tryd.prog 6 d6 := ⟨Go.Proofs.Tryd.f6, _, vm6, by kernel_rfl, rfl, ne_of_beq_false (by kernel_rfl), by decide, c6⟩
theorem k7 : FunOk Go.Proofs.Tryd.prog 7 d7 := ⟨Go.Proofs.Tryd.f7, _, vm7, by kernel_rfl, rfl, ne_of_beq_false (by kernel_rfl), by decide, c7⟩
theorem k8 : FunOk Go.Proofs.Tryd.prog 8 d8 := ⟨Go.Proofs.Tryd.f8, _, vm8, by kernel_rfl, rfl, ne_of_beq_false (by kernel_rfl), by decide, c8⟩
theorem k9 : FunOk Go.Proofs.Tryd.prog 9 d9 := ⟨Go.Proofs.Tryd.f9, _, vm9, by kernel_rfl, rfl, ne_of_beq_false (by kernel_rfl), by decide, c9⟩
theorem k10 : FunOk Go.Proofs.Tryd.prog 10 d10 := ⟨Go.Proofs.Tryd.f10, _, vm10, by kernel_rfl, rfl, ne_of_beq_false (by kernel_rfl), by decide, c10⟩
theorem k11 : FunOk Go.Proofs.Tryd.prog 11 d11 := ⟨Go.Proofs.Tryd.f11, _, vm11, by kernel_rfl, rfl, ne_of_beq_false (by kernel_rfl), by decide, c11⟩
theorem k12 : FunOk Go.Proofs.Tryd.prog 12 d12 := ⟨Go.Proofs.Tryd.f12, _, vm12, by kernel_rfl, rfl, ne_of_beq_false (by kernel_rfl), by decide, c12⟩
theorem k13 : FunOk Go.Proofs.Tryd.prog 13 d13 := ⟨Go.Proofs.Tryd.f13, _, vm13, by kernel_rfl, rfl, ne_of_beq_false (by kernel_rfl), by decide, c13⟩
theorem k14 : FunOk Go.Proofs.Tryd.prog 14 d14 := ⟨Go.Proofs.Tryd.f14, _, vm14, by kernel_rfl, rfl, ne_of_beq_false (by kernel_rfl), by decide, c14⟩
theorem k15 : FunOk Go.Proofs.Tryd.prog 15 d15 := ⟨Go.Proofs.Tryd.f15, _, vm15, by kernel_rfl, rfl, ne_of_beq_false (by kernel_rfl), by decide, c15⟩
theorem k16 : FunOk Go.Proofs.Tryd.prog 16 d16 := ⟨Go.Proofs.Tryd.f16, _, vm16, by kernel_rfl, rfl, ne_of_beq_false (by kernel_rfl), by decide, c16⟩
theorem k17 : FunOk Go.Proofs.Tryd.prog 17 d17 := ⟨Go.Proofs.Tryd.f17, _, vm17, by kernel_rfl, rfl, ne_of_beq_false (by kernel_rfl), by decide, c17⟩
theorem k18 : FunOk Go.Proofs.Tryd.prog 18 d18 := ⟨Go.Proofs.Tryd.f18, _, vm18, by kernel_rfl, rfl, ne_of_beq_false (by kernel_rfl), by decide, c18⟩
theorem k19 : FunOk Go.Proofs.Tryd.prog 19 d19 := ⟨Go.Proofs.Tryd.f19, _, vm19, by kernel_rfl, rfl, ne_of_beq_false (by kernel_rfl), by decide, c19⟩
theorem k20 : FunOk Go.Proofs.Tryd.prog 20 d20 := ⟨Go.Proofs.Tryd.f20, _, vm20, by kernel_rfl, rfl, ne_of_beq_false (by kernel_rfl), by decide, c20⟩
theorem k21 : FunOk Go.Proofs.Tryd.prog 21 d21 := ⟨Go.Proofs.Tryd.f21, _, vm21, by kernel_rfl, rfl, ne_of_beq_false (by kernel_rfl), by decide, c21⟩
theorem k22 : FunOk Go.Proofs.Tryd.prog 22 d22 := ⟨Go.Proofs.Tryd.f22, _, vm22, by kernel_rfl, rfl, ne_of_beq_false (by kernel_rfl), by decide, c22⟩
theorem k23 : FunOk Go.Proofs.Tryd.prog 23 d23 := ⟨Go.Proofs.Tryd.f23, _, vm23, by kernel_rfl, rfl, ne_of_beq_false (by kernel_rfl), by decide, c23⟩
theorem k24 : FunOk Go.Proofs.Tryd.prog 24 d24 := ⟨Go.Proofs.Tryd.f24, _, vm24, by kernel_rfl, rfl, ne_of_beq_false (by kernel_rfl), by decide, c24⟩
theorem k25 : FunOk Go.Proofs.Tryd.prog 25 d25 := ⟨Go.Proofs.Tryd.f25, _, vm25, by kernel_rfl, rfl, ne_of_beq_false (by kernel_rfl), by decide, c25⟩
theorem k26 : FunOk Go.Proofs.Tryd.prog 26 d26 := ⟨Go.Proofs.Tryd.f26, _, vm26, by kernel_rfl, rfl, ne_of_beq_false (by kernel_rfl), by decide, c26⟩
theorem k27 : FunOk Go.Proofs.Tryd.prog 27 d27 := ⟨Go.Proofs.Tryd.f27, _, vm27, by kernel_rfl, rfl, ne_of_beq_false (by kernel_rfl), by decide, c27⟩
theorem k28 : FunOk Go.Proofs.Tryd.prog 28 d28 := ⟨Go.Proofs.Tryd.f28, _, vm28, by kernel_rfl, rfl, ne_of_beq_false (by kernel_rfl), by decide, c28⟩
theorem k29 : FunOk Go.Proofs.Tryd.prog 29 d29 := ⟨Go.Proofs.Tryd.f29, _, vm29, by kernel_rfl, rfl, ne_of_beq_false (by kernel_rfl), by decide, c29⟩
theorem k30 : FunOk Go.Proofs.Tryd.prog 30 d30 := ⟨Go.Proofs.Tryd.f30, _, vm30, by kernel_rfl, rfl, ne_of_beq_false (by kernel_rfl), by decide, c30⟩
theorem k31 : FunOk Go.Proofs.Tryd.prog 31 d31 := ⟨Go.Proofs.Tryd.f31, _, vm31, by kernel_rfl, rfl, ne_of_beq_false (by kernel_rfl), by decide, c31⟩
theorem k32 : FunOk Go.Proofs.Tryd.prog 32 d32 := ⟨Go.Proofs.Tryd.f32, _, vm32, by kernel_rfl, rfl, ne_of_beq_false (by kernel_rfl), by decide, c32⟩
theorem k33 : FunOk Go.Proofs.Tryd.prog 33 d33 := ⟨Go.Proofs.Tryd.f33, _, vm33, by kernel_rfl, rfl, ne_of_beq_false (by kernel_rfl), by decide, c33⟩
theorem k34 : FunOk Go.Proofs.Tryd.prog 34 d34 := ⟨Go.Proofs.Tryd.f34, _, vm34, by kernel_rfl, rfl, ne_of_beq_false (by kernel_rfl), by decide, c34⟩
theorem k35 : FunOk Go.Proofs.Tryd.prog 35 d35 := ⟨Go.Proofs.Tryd.f35, _, vm35, by kernel_rfl, rfl, ne_of_beq_false (by kernel_rfl), by decide, c35⟩
theorem k36 : FunOk Go.Proofs.Tryd.prog 36 d36 := ⟨Go.Proofs.Tryd.f36, _, vm36, by kernel_rfl, rfl, ne_of_beq_false (by kernel_rfl), by decide, c36⟩
theorem k37 : FunOk Go.Proofs.Tryd.prog 37 d37 := ⟨Go.Proofs.Tryd.f37, _, vm37, by kernel_rfl, rfl, ne_of_beq_false (by kernel_rfl), by decide, c37⟩
theorem k38 : FunOk Go.Proofs.Tryd.prog 38 d38 := ⟨Go.Proofs.Tryd.f38, _, vm38, by kernel_rfl, rfl, ne_of_beq_false (by kernel_rfl), by decide, c38⟩
theorem k39 : FunOk Go.Proofs.Tryd.prog 39 d39 := ⟨Go.Proofs.Tryd.f39, _, vm39, by kernel_rfl, rfl, ne_of_beq_false (by kernel_rfl), by decide, c39⟩
theorem k40 : FunOk Go.Proofs.Tryd.prog 40 d40 := ⟨Go.Proofs.Tryd.f40, _, vm40, by kernel_rfl, rfl, ne_of_beq_false (by kernel_rfl), by decide, c40⟩
theorem k41 : FunOk Go.Proofs.Tryd.prog 41 d41 := ⟨Go.Proofs.Tryd.f41, _, vm41, by kernel_rfl, rfl, ne_of_beq_false (by kernel_rfl), by decide, c41⟩
theorem k42 : FunOk Go.Proofs.Tryd.prog 42 d42 := ⟨Go.Proofs.Tryd.f42, _, vm42, by kernel_rfl, rfl, ne_of_beq_false (by kernel_rfl), by decide, c42⟩
theorem k43 : FunOk Go.Proofs.Tryd.prog 43 d43 := ⟨Go.Proofs.Tryd.f43, _, vm43, by kernel_rfl, rfl, ne_of_beq_false (by kernel_rfl), by decide, c43⟩
theorem k44 : FunOk Go.Proofs.Tryd.prog 44 d44 := ⟨Go.Proofs.Tryd.f44, _, vm44, by kernel_rfl, rfl, ne_of_beq_false (by kernel_rfl), by decide, c44⟩
theorem k45 : FunOk Go.Proofs.Tryd.prog 45 d45 := ⟨Go.Proofs.Tryd.f45, _, vm45, by kernel_rfl, rfl, ne_of_beq_false (by kernel_rfl), by decide, c45⟩
theorem k46 : FunOk Go.Proofs.Tryd.prog 46 d46 := ⟨Go.Proofs.Tryd.f46, _, vm46, by kernel_rfl, rfl, ne_of_beq_false (by kernel_rfl), by decide, c46⟩
theorem k47 : FunOk Go.Proofs.Tryd.prog 47 d47 := ⟨Go.Proofs.Tryd.f47, _, vm47, by kernel_rfl, rfl, ne_of_beq_false (by kernel_rfl), by decide, c47⟩
theorem k48 : FunOk Go.Proofs.Tryd.prog 48 d48 := ⟨Go.Proofs.Tryd.f48, _, vm48, by kernel_rfl, rfl, ne_of_beq_false (by kernel_rfl), by decide, c48⟩
theorem k49 : FunOk Go.Proofs.Tryd.prog 49 d49 := ⟨Go.Proofs.Tryd.f49, _, vm49, by kernel_rfl, rfl, ne_of_beq_false (by kernel_rfl), by decide, c49⟩
theorem k50 : FunOk Go.Proofs.Tryd.prog 50 d50 := ⟨Go.Proofs.Tryd.f50, _, vm50, by kernel_rfl, rfl, ne_of_beq_false (by kernel_rfl), by decide, c50⟩
theorem k51 : FunOk Go.Proofs.Tryd.prog 51 d51 := ⟨Go.Proofs.Tryd.f51, _, vm51, by kernel_rfl, rfl, ne_of_beq_false (by kernel_rfl), by decide, c51⟩
theorem k52 : FunOk Go.Proofs.Tryd.prog 52 d52 := ⟨Go.Proofs.Tryd.f52, _, vm52, by kernel_rfl, rfl, ne_of_beq_false (by kernel_rfl), by decide, c52⟩
theorem k53 : FunOk Go.Proofs.Tryd.prog 53 d53 := ⟨Go.Proofs.Tryd.f53, _, vm53, by kernel_rfl, rfl, ne_of_beq_false (by kernel_rfl), by decide, c53⟩
theorem k54 : FunOk Go.Proofs.Tryd.prog 54 d54 := ⟨Go.Proofs.Tryd.f54, _, vm54, by kernel_rfl, rfl, ne_of_beq_false (by kernel_rfl), by decide, c54⟩
theorem k55 : FunOk Go.Proofs.Tryd.prog 55 d55 := ⟨Go.Proofs.Tryd.f55, _, vm55, by kernel_rfl, rfl, ne_of_beq_false (by kernel_rfl), by decide, c55⟩
theorem k56 : FunOk Go.Proofs.Tryd.prog 56 d56 := ⟨Go.Proofs.Tryd.f56, _, vm56, by kernel_rfl, rfl, ne_of_beq_false (by kernel_rfl), by decide, c56⟩
theorem k57 : FunOk Go.Proofs.Tryd.prog 57 d57 := ⟨Go.Proofs.Tryd.f57, _, vm57, by kernel_rfl, rfl, ne_of_beq_false (by kernel_rfl), by decide, c57⟩
theorem k58 : FunOk Go.Proofs.Tryd.prog 58 d58 := ⟨Go.Proofs.Tryd.f58, _, vm58, by kernel_rfl, rfl, ne_of_beq_false (by kernel_rfl), by decide, c58⟩
theorem k59 : FunOk Go.Proofs.Tryd.prog 59 d59 := ⟨Go.Proofs.Tryd.f59, _, vm59, by kernel_rfl, rfl, ne_of_beq_false (by kernel_rfl), by decide, c59⟩
theorem k61 : FunOk Go.Proofs.Tryd.prog 61 d61 := ⟨Go.Proofs.Tryd.f61, _, vm61, by kernel_rfl, rfl, ne_of_beq_false (by kernel_rfl), by decide, c61⟩
theorem k63 : FunOk Go.Proofs.Tryd.prog 63 d63 := ⟨Go.Proofs.Tryd.f63, _, vm63, by kernel_rfl, rfl, ne_of_beq_false (by kernel_rfl), by decide, c63⟩
theorem k64 : FunOk Go.Proofs.Tryd.prog 64 d64 := ⟨Go.Proofs.Tryd.f64, _, vm64, by kernel_rfl, rfl, ne_of_beq_false (by kernel_rfl), by decide, c64⟩
end Dt
