/- A part of the abstract machine and of the proof that the program does what it reckons; no conditions. -/
import Derived.Test.YtmndopeencbamaaDo
import Derived.Test.YtmndopeencbamaaEa
import Derived.Test.YtmndopeencbamaaProg
import Derived.KernelRfl
namespace Dt
open Go
theorem c3 : cFunc Go.Proofs.Try.prog vm3 Go.Proofs.Try.f3 = some d3 := by kernel_rfl
theorem c4 : cFunc Go.Proofs.Try.prog vm4 Go.Proofs.Try.f4 = some d4 := by kernel_rfl
theorem c5 : cFunc Go.Proofs.Try.prog vm5 Go.Proofs.Try.f5 = some d5 := by kernel_rfl
theorem c6 : cFunc Go.Proofs.Try.prog vm6 Go.Proofs.Try.f6 = some d6 := by kernel_rfl
theorem c7 : cFunc Go.Proofs.Try.prog vm7 Go.Proofs.Try.f7 = some d7 := by kernel_rfl
theorem c8 : cFunc Go.Proofs.Try.prog vm8 Go.Proofs.Try.f8 = some d8 := by kernel_rfl
theorem c9 : cFunc Go.Proofs.Try.prog vm9 Go.Proofs.Try.f9 = some d9 := by kernel_rfl
theorem c10 : cFunc Go.Proofs.Try.prog vm10 Go.Proofs.Try.f10 = some d10 := by kernel_rfl
theorem c11 : cFunc Go.Proofs.Try.prog vm11 Go.Proofs.Try.f11 = some d11 := by kernel_rfl
theorem c12 : cFunc Go.Proofs.Try.prog vm12 Go.Proofs.Try.f12 = some d12 := by kernel_rfl
theorem c13 : cFunc Go.Proofs.Try.prog vm13 Go.Proofs.Try.f13 = some d13 := by kernel_rfl
theorem c14 : cFunc Go.Proofs.Try.prog vm14 Go.Proofs.Try.f14 = some d14 := by kernel_rfl
theorem c15 : cFunc Go.Proofs.Try.prog vm15 Go.Proofs.Try.f15 = some d15 := by kernel_rfl
theorem c16 : cFunc Go.Proofs.Try.prog vm16 Go.Proofs.Try.f16 = some d16 := by kernel_rfl
theorem c17 : cFunc Go.Proofs.Try.prog vm17 Go.Proofs.Try.f17 = some d17 := by kernel_rfl
theorem c18 : cFunc Go.Proofs.Try.prog vm18 Go.Proofs.Try.f18 = some d18 := by kernel_rfl
theorem c19 : cFunc Go.Proofs.Try.prog vm19 Go.Proofs.Try.f19 = some d19 := by kernel_rfl
theorem c20 : cFunc Go.Proofs.Try.prog vm20 Go.Proofs.Try.f20 = some d20 := by kernel_rfl
theorem c21 : cFunc Go.Proofs.Try.prog vm21 Go.Proofs.Try.f21 = some d21 := by kernel_rfl
theorem c22 : cFunc Go.Proofs.Try.prog vm22 Go.Proofs.Try.f22 = some d22 := by kernel_rfl
theorem c23 : cFunc Go.Proofs.Try.prog vm23 Go.Proofs.Try.f23 = some d23 := by kernel_rfl
theorem c24 : cFunc Go.Proofs.Try.prog vm24 Go.Proofs.Try.f24 = some d24 := by kernel_rfl
theorem c25 : cFunc Go.Proofs.Try.prog vm25 Go.Proofs.Try.f25 = some d25 := by kernel_rfl
theorem c26 : cFunc Go.Proofs.Try.prog vm26 Go.Proofs.Try.f26 = some d26 := by kernel_rfl
theorem c27 : cFunc Go.Proofs.Try.prog vm27 Go.Proofs.Try.f27 = some d27 := by kernel_rfl
theorem c28 : cFunc Go.Proofs.Try.prog vm28 Go.Proofs.Try.f28 = some d28 := by kernel_rfl
theorem c29 : cFunc Go.Proofs.Try.prog vm29 Go.Proofs.Try.f29 = some d29 := by kernel_rfl
theorem c30 : cFunc Go.Proofs.Try.prog vm30 Go.Proofs.Try.f30 = some d30 := by kernel_rfl
theorem c31 : cFunc Go.Proofs.Try.prog vm31 Go.Proofs.Try.f31 = some d31 := by kernel_rfl
theorem c32 : cFunc Go.Proofs.Try.prog vm32 Go.Proofs.Try.f32 = some d32 := by kernel_rfl
theorem c33 : cFunc Go.Proofs.Try.prog vm33 Go.Proofs.Try.f33 = some d33 := by kernel_rfl
theorem c34 : cFunc Go.Proofs.Try.prog vm34 Go.Proofs.Try.f34 = some d34 := by kernel_rfl
theorem c35 : cFunc Go.Proofs.Try.prog vm35 Go.Proofs.Try.f35 = some d35 := by kernel_rfl
theorem c36 : cFunc Go.Proofs.Try.prog vm36 Go.Proofs.Try.f36 = some d36 := by kernel_rfl
theorem c37 : cFunc Go.Proofs.Try.prog vm37 Go.Proofs.Try.f37 = some d37 := by kernel_rfl
theorem c38 : cFunc Go.Proofs.Try.prog vm38 Go.Proofs.Try.f38 = some d38 := by kernel_rfl
theorem c39 : cFunc Go.Proofs.Try.prog vm39 Go.Proofs.Try.f39 = some d39 := by kernel_rfl
theorem c40 : cFunc Go.Proofs.Try.prog vm40 Go.Proofs.Try.f40 = some d40 := by kernel_rfl
theorem c41 : cFunc Go.Proofs.Try.prog vm41 Go.Proofs.Try.f41 = some d41 := by kernel_rfl
theorem c42 : cFunc Go.Proofs.Try.prog vm42 Go.Proofs.Try.f42 = some d42 := by kernel_rfl
theorem c43 : cFunc Go.Proofs.Try.prog vm43 Go.Proofs.Try.f43 = some d43 := by kernel_rfl
theorem follows : Go.Proofs.Try.prog.follows .mixedOrders = true := by kernel_rfl
theorem k3 : FunOk Go.Proofs.Try.prog 3 d3 := ⟨Go.Proofs.Try.f3, _, vm3, by kernel_rfl, rfl, ne_of_beq_false (by kernel_rfl), by decide, c3⟩
theorem k4 : FunOk Go.Proofs.Try.prog 4 d4 := ⟨Go.Proofs.Try.f4, _, vm4, by kernel_rfl, rfl, ne_of_beq_false (by kernel_rfl), by decide, c4⟩
theorem k5 : FunOk Go.Proofs.Try.prog 5 d5 := ⟨Go.Proofs.Try.f5, _, vm5, by kernel_rfl, rfl, ne_of_beq_false (by kernel_rfl), by decide, c5⟩
theorem k6 : FunOk Go.Proofs.Try.prog 6 d6 := ⟨Go.Proofs.Try.f6, _, vm6, by kernel_rfl, rfl, ne_of_beq_false (by kernel_rfl), by decide, c6⟩
theorem k7 : FunOk Go.Proofs.Try.prog 7 d7 := ⟨Go.Proofs.Try.f7, _, vm7, by kernel_rfl, rfl, ne_of_beq_false (by kernel_rfl), by decide, c7⟩
theorem k8 : FunOk Go.Proofs.Try.prog 8 d8 := ⟨Go.Proofs.Try.f8, _, vm8, by kernel_rfl, rfl, ne_of_beq_false (by kernel_rfl), by decide, c8⟩
theorem k9 : FunOk Go.Proofs.Try.prog 9 d9 := ⟨Go.Proofs.Try.f9, _, vm9, by kernel_rfl, rfl, ne_of_beq_false (by kernel_rfl), by decide, c9⟩
theorem k10 : FunOk Go.Proofs.Try.prog 10 d10 := ⟨Go.Proofs.Try.f10, _, vm10, by kernel_rfl, rfl, ne_of_beq_false (by kernel_rfl), by decide, c10⟩
theorem k11 : FunOk Go.Proofs.Try.prog 11 d11 := ⟨Go.Proofs.Try.f11, _, vm11, by kernel_rfl, rfl, ne_of_beq_false (by kernel_rfl), by decide, c11⟩
theorem k12 : FunOk Go.Proofs.Try.prog 12 d12 := ⟨Go.Proofs.Try.f12, _, vm12, by kernel_rfl, rfl, ne_of_beq_false (by kernel_rfl), by decide, c12⟩
theorem k13 : FunOk Go.Proofs.Try.prog 13 d13 := ⟨Go.Proofs.Try.f13, _, vm13, by kernel_rfl, rfl, ne_of_beq_false (by kernel_rfl), by decide, c13⟩
theorem k14 : FunOk Go.Proofs.Try.prog 14 d14 := ⟨Go.Proofs.Try.f14, _, vm14, by kernel_rfl, rfl, ne_of_beq_false (by kernel_rfl), by decide, c14⟩
theorem k15 : FunOk Go.Proofs.Try.prog 15 d15 := ⟨Go.Proofs.Try.f15, _, vm15, by kernel_rfl, rfl, ne_of_beq_false (by kernel_rfl), by decide, c15⟩
theorem k16 : FunOk Go.Proofs.Try.prog 16 d16 := ⟨Go.Proofs.Try.f16, _, vm16, by kernel_rfl, rfl, ne_of_beq_false (by kernel_rfl), by decide, c16⟩
theorem k17 : FunOk Go.Proofs.Try.prog 17 d17 := ⟨Go.Proofs.Try.f17, _, vm17, by kernel_rfl, rfl, ne_of_beq_false (by kernel_rfl), by decide, c17⟩
theorem k18 : FunOk Go.Proofs.Try.prog 18 d18 := ⟨Go.Proofs.Try.f18, _, vm18, by kernel_rfl, rfl, ne_of_beq_false (by kernel_rfl), by decide, c18⟩
theorem k19 : FunOk Go.Proofs.Try.prog 19 d19 := ⟨Go.Proofs.Try.f19, _, vm19, by kernel_rfl, rfl, ne_of_beq_false (by kernel_rfl), by decide, c19⟩
theorem k20 : FunOk Go.Proofs.Try.prog 20 d20 := ⟨Go.Proofs.Try.f20, _, vm20, by kernel_rfl, rfl, ne_of_beq_false (by kernel_rfl), by decide, c20⟩
theorem k21 : FunOk Go.Proofs.Try.prog 21 d21 := ⟨Go.Proofs.Try.f21, _, vm21, by kernel_rfl, rfl, ne_of_beq_false (by kernel_rfl), by decide, c21⟩
theorem k22 : FunOk Go.Proofs.Try.prog 22 d22 := ⟨Go.Proofs.Try.f22, _, vm22, by kernel_rfl, rfl, ne_of_beq_false (by kernel_rfl), by decide, c22⟩
theorem k23 : FunOk Go.Proofs.Try.prog 23 d23 := ⟨Go.Proofs.Try.f23, _, vm23, by kernel_rfl, rfl, ne_of_beq_false (by kernel_rfl), by decide, c23⟩
theorem k24 : FunOk Go.Proofs.Try.prog 24 d24 := ⟨Go.Proofs.Try.f24, _, vm24, by kernel_rfl, rfl, ne_of_beq_false (by kernel_rfl), by decide, c24⟩
theorem k25 : FunOk Go.Proofs.Try.prog 25 d25 := ⟨Go.Proofs.Try.f25, _, vm25, by kernel_rfl, rfl, ne_of_beq_false (by kernel_rfl), by decide, c25⟩
theorem k26 : FunOk Go.Proofs.Try.prog 26 d26 := ⟨Go.Proofs.Try.f26, _, vm26, by kernel_rfl, rfl, ne_of_beq_false (by kernel_rfl), by decide, c26⟩
theorem k27 : FunOk Go.Proofs.Try.prog 27 d27 := ⟨Go.Proofs.Try.f27, _, vm27, by kernel_rfl, rfl, ne_of_beq_false (by kernel_rfl), by decide, c27⟩
theorem k28 : FunOk Go.Proofs.Try.prog 28 d28 := ⟨Go.Proofs.Try.f28, _, vm28, by kernel_rfl, rfl, ne_of_beq_false (by kernel_rfl), by decide, c28⟩
theorem k29 : FunOk Go.Proofs.Try.prog 29 d29 := ⟨Go.Proofs.Try.f29, _, vm29, by kernel_rfl, rfl, ne_of_beq_false (by kernel_rfl), by decide, c29⟩
theorem k30 : FunOk Go.Proofs.Try.prog 30 d30 := ⟨Go.Proofs.Try.f30, _, vm30, by kernel_rfl, rfl, ne_of_beq_false (by kernel_rfl), by decide, c30⟩
theorem k31 : FunOk Go.Proofs.Try.prog 31 d31 := ⟨Go.Proofs.Try.f31, _, vm31, by kernel_rfl, rfl, ne_of_beq_false (by kernel_rfl), by decide, c31⟩
theorem k32 : FunOk Go.Proofs.Try.prog 32 d32 := ⟨Go.Proofs.Try.f32, _, vm32, by kernel_rfl, rfl, ne_of_beq_false (by kernel_rfl), by decide, c32⟩
theorem k33 : FunOk Go.Proofs.Try.prog 33 d33 := ⟨Go.Proofs.Try.f33, _, vm33, by kernel_rfl, rfl, ne_of_beq_false (by kernel_rfl), by decide, c33⟩
theorem k34 : FunOk Go.Proofs.Try.prog 34 d34 := ⟨Go.Proofs.Try.f34, _, vm34, by kernel_rfl, rfl, ne_of_beq_false (by kernel_rfl), by decide, c34⟩
theorem k35 : FunOk Go.Proofs.Try.prog 35 d35 := ⟨Go.Proofs.Try.f35, _, vm35, by kernel_rfl, rfl, ne_of_beq_false (by kernel_rfl), by decide, c35⟩
theorem k36 : FunOk Go.Proofs.Try.prog 36 d36 := ⟨Go.Proofs.Try.f36, _, vm36, by kernel_rfl, rfl, ne_of_beq_false (by kernel_rfl), by decide, c36⟩
theorem k37 : FunOk Go.Proofs.Try.prog 37 d37 := ⟨Go.Proofs.Try.f37, _, vm37, by kernel_rfl, rfl, ne_of_beq_false (by kernel_rfl), by decide, c37⟩
theorem k38 : FunOk Go.Proofs.Try.prog 38 d38 := ⟨Go.Proofs.Try.f38, _, vm38, by kernel_rfl, rfl, ne_of_beq_false (by kernel_rfl), by decide, c38⟩
theorem k39 : FunOk Go.Proofs.Try.prog 39 d39 := ⟨Go.Proofs.Try.f39, _, vm39, by kernel_rfl, rfl, ne_of_beq_false (by kernel_rfl), by decide, c39⟩
theorem k40 : FunOk Go.Proofs.Try.prog 40 d40 := ⟨Go.Proofs.Try.f40, _, vm40, by kernel_rfl, rfl, ne_of_beq_false (by kernel_rfl), by decide, c40⟩
theorem k41 : FunOk Go.Proofs.Try.prog 41 d41 := ⟨Go.Proofs.Try.f41, _, vm41, by kernel_rfl, rfl, ne_of_beq_false (by kernel_rfl), by decide, c41⟩
theorem k42 : FunOk Go.Proofs.Try.prog 42 d42 := ⟨Go.Proofs.Try.f42, _, vm42, by kernel_rfl, rfl, ne_of_beq_false (by kernel_rfl), by decide, c42⟩
theorem k43 : FunOk Go.Proofs.Try.prog 43 d43 := ⟨Go.Proofs.Try.f43, _, vm43, by kernel_rfl, rfl, ne_of_beq_false (by kernel_rfl), by decide, c43⟩
end Dt
