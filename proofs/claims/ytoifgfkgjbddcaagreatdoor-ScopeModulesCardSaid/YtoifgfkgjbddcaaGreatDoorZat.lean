/- A part of the abstract machine and of the proof that the program does what it reckons; no conditions. -/
import Derived.Test.YtoifgfkgjbddcaaGreatDoorZas
set_option linter.all false
namespace Dt
open Go
set_option linter.all false
set_option maxRecDepth 100000
/-- The one table that errors.As looks at: the handle of the type error. -/
def GE : List (List AVal) := [[.iface 186 (.agg [.gp 4 71])]]
theorem Quiet.alloc (w : World) (o : Obj) : Quiet w (w.alloc o) := ⟨by simp, rfl, rfl, rfl, fun k hk => heap_push_old w o k hk⟩
theorem ge_cell {w : World} (h : GRel w GE) : w.cell? ⟨0, 0, none⟩ = some (.iface 186 (.agg #[.pointer (some ⟨4, 71, none⟩)])) := by
  obtain ⟨c, et, fz, h1, h2⟩ := h 0 _ rfl
  obtain ⟨v, h3, _, h4⟩ := h2 0 _ rfl
  cases h4 with
  | iface _ h5 => cases h5 with
    | agg h6 _ => cases h6 with
      | cons h7 h8 =>
        cases h7
        cases h8
        simp [World.cell?, h1, h3]
theorem as_knows (a e : Int) (b r c : Nat) : Knows Go.Proofs.Tryz.prog GE 21 [.iface 75 (.agg [.int .i64 a, .int .i64 e]), .iface 77 (.ptr b r c)] (.put (.ptr b r c) 2 (.agg [.int .i64 a, .int .i64 e]) (.bool true)) := by
  intro R A w ρ us H K hH hgl hs h
  have hg : GRel w GE := by rw [← hgl]; exact hH.glob
  cases hs with
  | cons h1 h2 => cases h2 with
    | cons h2 h3 =>
      cases h3
      cases h1 with
      | iface _ h1 => cases h1 with
        | agg h1 ho => cases h1 with
          | cons p1 h1 => cases h1 with
            | cons p2 h1 =>
              cases h1
              cases p1
              cases p2
              cases h2 with
              | iface _ h2 =>
                have hp := h2
                cases h2 with
                | ptr hS _ _ =>
                  rename_i S
                  have q : Quiet w ((((w.alloc (.cells #[.pointer (some ⟨S.blk, S.off + r * S.esz + c, none⟩)] 77)).alloc (.cells #[.pointer (some ⟨4, 77, none⟩), .pointer (some ⟨w.heap.size, 0, none⟩), .int .u64 150] 111)).alloc (.cells #[.pointer (some ⟨4, 77, none⟩), .pointer (some ⟨w.heap.size, 0, none⟩), .int .u64 150] 111)).alloc (.cells #[.int .i64 a, .int .i64 e] 75)) :=
                    (((Quiet.alloc _ _).trans (Quiet.alloc _ _)).trans (Quiet.alloc _ _)).trans (Quiet.alloc _ _)
                  obtain ⟨i, hi⟩ : ∃ i, Go.Proofs.Tryz.prog.info? 75 = some i := info_of_many (by kernel_rfl)
                  have hi2 : i.size = 2 := by
                    have : Go.Proofs.Tryz.prog.cellsOf 75 = 2 := by kernel_rfl
                    simpa [Program.cellsOf, hi] using this
                  have hh : A.holds (evI A (fun _ _ _ _ => A.fail) (.store i.size (.c (.ptr b r c)) (.c (.agg [.int .i64 a, .int .i64 e]))) [] [] H fun _ H => K (.bool true) H) := by
                    rw [store_eq, hi2]
                    exact h
                  obtain ⟨H', w', g1, g2, g3⟩ := y_store hi (x := .c (.ptr b r c)) (v := .c (.agg [.int .i64 a, .int .i64 e])) (vs := []) (ts := []) (y := .agg #[.int .i64 a, .int .i64 e]) hp (VRel.agg (u := [.int .i64 a, .int .i64 e]) (.cons (.int .i64 a) (.cons (.int .i64 e) .nil)) ho) (q.hrel hH) hh
                  simp only [Instr.storeAt, Instr.sureAddr, Sem.run_bind, Sem.run_pure, Result.andThen_ok] at g2
                  refine Out.ofBody ⟨Go.Proofs.Tryz.f21, _, by kernel_rfl, rfl, ne_of_beq_false (by kernel_rfl)⟩ (Calls.mono (Go.Proofs.YtoifgfkgjbddcaaGreatDoor.errorsAs.as21 a e _ w w' (ge_cell hg) g2) fun ev w2 hw => ?_)
                  obtain ⟨rfl, rfl⟩ := hw
                  exact ⟨_, rfl, .bool true, H', ρ, g1, .bool true, (q.step hH).trans g3⟩
end Dt
