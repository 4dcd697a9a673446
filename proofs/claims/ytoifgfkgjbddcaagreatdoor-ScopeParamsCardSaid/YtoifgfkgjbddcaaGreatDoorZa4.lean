/- A part of the abstract machine and of the proof that the program does what it reckons; no conditions. -/
import Derived.Test.YtoifgfkgjbddcaaGreatDoorZa3
set_option linter.all false
namespace Dt
open Go
set_option linter.all false
/-- (*telamon/scope.module).inside -/
def vm166 : List Nat := [0, 4, 1]
def b166_0 : DC :=
 .seq (.seq (.reg [⟨.tmp, .move (.v 0), .none⟩,
 ⟨.tmp, .binP .neq (.t 0) (.c (.nilp)), .none⟩]) (
 .cond (.t 0) (
 .skip) (
 .exit 0))) (
 .seq (.block 1 (
 .seq (.reg [⟨.tmp, .move (.v 0), .none⟩,
 ⟨.tmp, .move (.v 2), .none⟩,
 ⟨.tmp, .binPP false (.t 1) (.t 0), .none⟩]) (
 .cond (.t 0) (
 .seq (.reg [⟨(.var 1), .move (.c (.bool true)), .none⟩]) (
 .ret)) (
 .skip)))) (
 .reg [⟨.tmp, .move (.v 0), .none⟩,
 ⟨.tmp, .nilck (.t 0), .none⟩,
 ⟨.tmp, .fadr 4 (.t 0), .none⟩,
 ⟨.tmp, .load1 (.t 0), .none⟩,
 ⟨(.var 0), .move (.t 0), .none⟩]))
def r166_1 : DC :=
 .seq (.reg [⟨(.var 1), .move (.c (.bool false)), .none⟩]) (
 .ret)
def d166 : DF := ⟨[.some 0, .some 4, .some 1],
 .seq (.reg [⟨(.var 1), .move (.c (.bool false)), .none⟩]) (
 .seq (.block 0 (
 .loop b166_0)) r166_1),
 [.opd (.v 1)], 3, .none⟩
/-- (*telamon/scope.pattern).variable -/
def vm167 : List Nat := [0, 1, 6, 7, 2]

def d167 : DF := ⟨[.some 0, .some 1, .some 6, .some 7, .some 2],
 .seq (.reg [⟨(.var 2), .alloc [.int .i64 (.ofNat 0), .int .i64 (.ofNat 0), .str 0 0, .bool false, .nils, .nils, .int .i64 (.ofNat 0)], .none⟩,
 ⟨(.var 3), .move (.c (.nili)), .none⟩]) (
 .seq (.seq (.reg [⟨.tmp, .move (.v 1), .none⟩,
 ⟨.tmp, .bin .neq (.t 0) (.c (.str 1 95)), .none⟩]) (
 .cond (.t 0) (
 .seq (.seq (.reg [⟨.tmp, .move (.v 0), .none⟩,
 ⟨.tmp, .nilck (.t 0), .none⟩,
 ⟨.tmp, .fadr 2 (.t 0), .none⟩,
 ⟨.tmp, .load1 (.t 0), .none⟩,
 ⟨.tmp, .move (.v 1), .none⟩,
 ⟨.tmp, .lkp (.int .i64 (.ofNat 0)) 1 false (.t 1) (.t 0), .none⟩,
 ⟨.tmp, .bin .neq (.t 0) (.c (.int .i64 (.ofNat 0))), .none⟩]) (
 .cond (.t 0) (
 .seq (.reg [⟨.tmp, .build [.int .i64 (.ofNat 0), .int .i64 (.ofNat 0), .str 0 0, .bool false, .nils, .nils, .int .i64 (.ofNat 0)] [], .none⟩,
 ⟨.tmp, .move (.v 4), .none⟩,
 ⟨.tmp, .call 64 [(.t 0), (.c (.int .i64 (.ofNat 46)))], .none⟩,
 ⟨.no, .store 7 (.v 2) (.t 2), .none⟩,
 ⟨(.var 3), .move (.t 0), .none⟩]) (
 .ret)) (
 .skip))) (
 .reg [⟨.tmp, .move (.v 0), .none⟩,
 ⟨.tmp, .nilck (.t 0), .none⟩,
 ⟨.tmp, .fadr 2 (.t 0), .none⟩,
 ⟨.tmp, .load1 (.t 0), .none⟩,
 ⟨.tmp, .move (.v 1), .none⟩,
 ⟨.no, .mupd 1 (.t 1) (.t 0) (.c (.int .i64 (.ofNat 1))), .none⟩])) (
 .skip))) (
 .seq (.reg [⟨.tmp, .move (.v 0), .none⟩,
 ⟨.tmp, .move (.v 0), .none⟩,
 ⟨.tmp, .nilck (.t 0), .none⟩,
 ⟨.tmp, .fadr 1 (.t 0), .none⟩,
 ⟨.tmp, .load1 (.t 0), .none⟩,
 ⟨.tmp, .move (.v 1), .none⟩,
 ⟨.tmp, .buildS 1 [[.str 0 0]] [(0, (.t 0))], .none⟩,
 ⟨.tmp, .append 1 16 (.t 2) (.t 0), .none⟩,
 ⟨.tmp, .nilck (.t 7), .none⟩,
 ⟨.tmp, .fadr 1 (.t 0), .none⟩,
 ⟨.no, .store 1 (.t 0) (.t 2), .none⟩]) (
 .seq (.reg [⟨.tmp, .move (.v 0), .none⟩,
 ⟨.tmp, .nilck (.t 0), .none⟩,
 ⟨.tmp, .fadr 1 (.t 0), .none⟩,
 ⟨.tmp, .load1 (.t 0), .none⟩,
 ⟨.tmp, .len false (.t 0), .none⟩,
 ⟨.tmp, .bin .sub (.t 0) (.c (.int .i64 (.ofNat 1))), .none⟩,
 ⟨.tmp, .move (.v 4), .none⟩,
 ⟨.tmp, .build [.int .i64 (.ofNat 0), .int .i64 (.ofNat 0), .str 0 0, .bool false, .nils, .nils, .int .i64 (.ofNat 0)] [(0, 1, (.c (.int .i64 (.ofNat 14)))), (1, 1, (.t 1)), (6, 1, (.t 0))], .none⟩,
 ⟨.no, .store 7 (.v 2) (.t 0), .none⟩,
 ⟨(.var 3), .move (.c (.nili)), .none⟩]) (
 .ret)))),
 [.cellN 7 (.v 2), .opd (.v 3)], 5, .none⟩
/-- (*telamon/scope.pattern).ctor -/
def vm168 : List Nat := [3, 4, 5, 6, 10, 0, 9, 11, 8, 1]

def d168 : DF := ⟨[.some 3, .some 4, .some 5, .some 6, .some 10, .some 0, .some 9, .some 11, .some 8, .some 1],
 .seq (.reg [⟨(.var 0), .box 7 (.v 9), .none⟩,
 ⟨(.var 1), .alloc [.int .i64 (.ofNat 0), .int .i64 (.ofNat 0), .str 0 0, .bool false, .nils, .nils, .int .i64 (.ofNat 0)], .none⟩,
 ⟨(.var 2), .move (.c (.bool false)), .none⟩,
 ⟨(.var 3), .move (.c (.nili)), .none⟩]) (
 .seq (.seq (.reg [⟨.tmp, .move (.v 5), .none⟩,
 ⟨.tmp, .nilck (.t 0), .none⟩,
 ⟨.tmp, .fadr 0 (.t 0), .none⟩,
 ⟨.tmp, .load1 (.t 0), .none⟩,
 ⟨.tmp, .fadr 2 (.v 0), .none⟩,
 ⟨.tmp, .load1 (.t 0), .none⟩,
 ⟨.tmp, .call 139 [(.t 2), (.t 0)], .none⟩,
 ⟨.tmp, .move (.t 0), .none⟩,
 ⟨.tmp, .ext (.t 0) 0, .none⟩,
 ⟨.tmp, .ext (.t 1) 1, .none⟩,
 ⟨.tmp, .move (.t 1), .none⟩,
 ⟨(.var 8), .move (.t 1), .none⟩]) (
 .seq (.reg [⟨.tmp, .move (.v 8), .none⟩]) (
 .cond (.t 0) (
 .seq (.reg [⟨.tmp, .build [.int .i64 (.ofNat 0), .int .i64 (.ofNat 0), .str 0 0, .bool false, .nils, .nils, .int .i64 (.ofNat 0)] [], .none⟩,
 ⟨.no, .store 7 (.v 1) (.t 0), .none⟩,
 ⟨(.var 2), .move (.c (.bool false)), .none⟩,
 ⟨(.var 3), .move (.c (.nili)), .none⟩]) (
 .ret)) (
 .skip)))) (
 .seq (.reg [⟨.tmp, .move (.v 5), .none⟩,
 ⟨.tmp, .nilck (.t 0), .none⟩,
 ⟨.tmp, .fadr 0 (.t 0), .none⟩,
 ⟨.tmp, .load1 (.t 0), .none⟩,
 ⟨.tmp, .fadr 2 (.v 0), .none⟩,
 ⟨.tmp, .load1 (.t 0), .none⟩,
 ⟨.tmp, .fadr 6 (.v 0), .none⟩,
 ⟨.tmp, .load1 (.t 0), .none⟩,
 ⟨.tmp, .call 140 [(.t 4), (.t 2), (.t 0)], .none⟩,
 ⟨.tmp, .move (.t 0), .none⟩,
 ⟨.tmp, .ext (.t 0) 0, .none⟩,
 ⟨.tmp, .ext (.t 1) 1, .none⟩,
 ⟨(.var 6), .move (.t 1), .none⟩,
 ⟨(.var 4), .move (.t 0), .none⟩]) (
 .seq (.reg [⟨.tmp, .move (.v 4), .none⟩,
 ⟨.tmp, .tas 75 (.agg [.int .i64 (.ofNat 0), .int .i64 (.ofNat 0)]) (.t 0), .none⟩,
 ⟨.tmp, .move (.t 0), .none⟩,
 ⟨.tmp, .ext (.t 0) 0, .none⟩,
 ⟨.tmp, .ext (.t 1) 1, .none⟩,
 ⟨(.var 7), .alloc [.int .i64 (.ofNat 0), .int .i64 (.ofNat 0)], .none⟩,
 ⟨.no, .store 2 (.v 7) (.t 1), .none⟩,
 ⟨.tmp, .move (.t 0), .none⟩]) (
 .seq (.block 0 (
 .seq (.reg [⟨.tmp, .move (.v 4), .none⟩,
 ⟨.tmp, .binN true 0 (.t 0), .none⟩,
 ⟨.tmp, .move (.t 0), .none⟩,
 ⟨.tmp, .fadr 1 (.v 7), .some ((.t 0), true)⟩,
 ⟨.tmp, .load1 (.t 0), .some ((.t 1), true)⟩,
 ⟨.tmp, .bin .eql (.t 0) (.c (.int .i64 (.ofNat 44))), .some ((.t 2), true)⟩,
 ⟨.tmp, .pick (.t 3) (.t 0) (.c (.bool false)), .none⟩,
 ⟨.tmp, .move (.t 0), .none⟩,
 ⟨.tmp, .fadr 2 (.v 0), .some ((.t 0), true)⟩,
 ⟨.tmp, .load1 (.t 0), .some ((.t 1), true)⟩,
 ⟨.tmp, .call 155 [(.t 0)], .some ((.t 2), true)⟩,
 ⟨.tmp, .not (.t 0), .some ((.t 3), true)⟩,
 ⟨.tmp, .pick (.t 4) (.t 0) (.c (.bool false)), .none⟩,
 ⟨.tmp, .move (.t 0), .none⟩]) (
 .cond (.t 0) (
 .seq (.reg [⟨.tmp, .build [.int .i64 (.ofNat 0), .int .i64 (.ofNat 0), .str 0 0, .bool false, .nils, .nils, .int .i64 (.ofNat 0)] [], .none⟩,
 ⟨.no, .store 7 (.v 1) (.t 0), .none⟩,
 ⟨(.var 2), .move (.c (.bool false)), .none⟩,
 ⟨(.var 3), .move (.c (.nili)), .none⟩]) (
 .ret)) (
 .seq (.reg [⟨.tmp, .move (.v 4), .none⟩,
 ⟨.tmp, .binN true 0 (.t 0), .none⟩,
 ⟨.tmp, .move (.t 0), .none⟩]) (
 .cond (.t 0) (
 .seq (.reg [⟨.tmp, .build [.int .i64 (.ofNat 0), .int .i64 (.ofNat 0), .str 0 0, .bool false, .nils, .nils, .int .i64 (.ofNat 0)] [], .none⟩,
 ⟨.tmp, .move (.v 4), .none⟩,
 ⟨.no, .store 7 (.v 1) (.t 1), .none⟩,
 ⟨(.var 2), .move (.c (.bool false)), .none⟩,
 ⟨(.var 3), .move (.t 0), .none⟩]) (
 .ret)) (
 .skip)))))) (
 .seq (.reg [⟨.tmp, .move (.v 6), .none⟩,
 ⟨.tmp, .fadr 6 (.v 0), .none⟩,
 ⟨.tmp, .load1 (.t 0), .none⟩,
 ⟨.tmp, .build [.int .i64 (.ofNat 0), .int .i64 (.ofNat 0), .str 0 0, .bool false, .nils, .nils, .int .i64 (.ofNat 0)] [(0, 1, (.c (.int .i64 (.ofNat 2)))), (2, 1, (.t 2)), (6, 1, (.t 0))], .none⟩,
 ⟨.tmp, .move (.v 5), .none⟩,
 ⟨.tmp, .nilck (.t 0), .none⟩,
 ⟨.tmp, .fadr 0 (.t 0), .none⟩,
 ⟨.tmp, .load1 (.t 0), .none⟩,
 ⟨.tmp, .nilck (.t 0), .none⟩,
 ⟨.tmp, .fadr 2 (.t 0), .none⟩,
 ⟨.tmp, .load1 (.t 0), .none⟩,
 ⟨.tmp, .move (.v 6), .none⟩,
 ⟨.tmp, .lkp (.agg [.nilp, .bool false]) 1 false (.t 1) (.t 0), .none⟩,
 ⟨.tmp, .fld1 1 (.t 0), .none⟩,
 ⟨.no, .store 7 (.v 1) (.t 10), .none⟩,
 ⟨.no, .againL (.agg [.nilp, .bool false]) 1 false (.t 3) (.t 2) (.t 1), .none⟩,
 ⟨.no, .again1 (.t 4) (.t 3), .none⟩,
 ⟨.no, .again1 (.t 7) (.t 6), .none⟩,
 ⟨(.var 2), .move (.t 0), .none⟩,
 ⟨(.var 3), .move (.c (.nili)), .none⟩]) (
 .ret)))))),
 [.cellN 7 (.v 1), .opd (.v 2), .opd (.v 3)], 10, .none⟩
/-- (*telamon/scope.pattern).one$1 -/
def vm169 : List Nat := [8, 6, 3, 4, 5, 7, 0, 1, 2]

def d169 : DF := ⟨[.some 8, .some 6, .some 3, .some 4, .some 5, .some 7, .some 0, .some 1, .some 2],
 .seq (.reg [⟨(.var 2), .box 7 (.v 6), .none⟩,
 ⟨(.var 3), .alloc [.int .i64 (.ofNat 0), .int .i64 (.ofNat 0), .str 0 0, .bool false, .nils, .nils, .int .i64 (.ofNat 0)], .none⟩,
 ⟨(.var 4), .move (.c (.nili)), .none⟩]) (
 .seq (.reg [⟨.tmp, .load1 (.v 7), .none⟩,
 ⟨.tmp, .loadN 7 (.v 2), .none⟩,
 ⟨.tmp, .call 168 [(.t 1), (.t 0)], .none⟩,
 ⟨.tmp, .move (.t 0), .none⟩,
 ⟨.tmp, .ext (.t 0) 0, .none⟩,
 ⟨.tmp, .ext (.t 1) 1, .none⟩,
 ⟨.tmp, .ext (.t 2) 2, .none⟩,
 ⟨(.var 1), .alloc [.int .i64 (.ofNat 0), .int .i64 (.ofNat 0), .str 0 0, .bool false, .nils, .nils, .int .i64 (.ofNat 0)], .none⟩,
 ⟨.no, .store 7 (.v 1) (.t 2), .none⟩,
 ⟨(.var 5), .move (.t 1), .none⟩,
 ⟨(.var 0), .move (.t 0), .none⟩]) (
 .seq (.seq (.reg [⟨.tmp, .move (.v 0), .none⟩,
 ⟨.tmp, .binN false 0 (.t 0), .none⟩,
 ⟨.tmp, .move (.t 0), .none⟩,
 ⟨.tmp, .move (.v 5), .some ((.t 0), true)⟩,
 ⟨.tmp, .not (.t 0), .some ((.t 1), true)⟩,
 ⟨.tmp, .pick (.t 2) (.t 0) (.c (.bool false)), .none⟩]) (
 .cond (.t 0) (
 .reg [⟨.tmp, .fadr 6 (.v 8), .none⟩,
 ⟨.tmp, .load1 (.t 0), .none⟩,
 ⟨.tmp, .call 64 [(.t 0), (.c (.int .i64 (.ofNat 53)))], .none⟩,
 ⟨(.var 0), .move (.t 0), .none⟩]) (
 .skip))) (
 .seq (.reg [⟨.tmp, .loadN 7 (.v 1), .none⟩,
 ⟨.tmp, .move (.v 0), .none⟩,
 ⟨.no, .store 7 (.v 3) (.t 1), .none⟩,
 ⟨(.var 4), .move (.t 0), .none⟩]) (
 .ret)))),
 [.cellN 7 (.v 3), .opd (.v 4)], 9, .none⟩
/-- (*telamon/telamonref12.chart).atomOf -/
def vm170 : List Nat := [8, 0, 9, 1, 7, 2, 6]
def b170_0 : DC :=
 .seq (.seq (.reg [⟨.tmp, .move (.v 0), .none⟩,
 ⟨.tmp, .move (.v 1), .none⟩,
 ⟨.tmp, .nilck (.t 0), .none⟩,
 ⟨.tmp, .fadr 0 (.t 0), .none⟩,
 ⟨.tmp, .load1 (.t 0), .none⟩,
 ⟨.tmp, .len false (.t 0), .none⟩,
 ⟨.tmp, .bin .lss (.t 5) (.t 0), .none⟩]) (
 .cond (.t 0) (
 .skip) (
 .exit 0))) (
 .seq (.block 1 (
 .seq (.reg [⟨.tmp, .move (.v 1), .none⟩,
 ⟨.tmp, .nilck (.t 0), .none⟩,
 ⟨.tmp, .fadr 0 (.t 0), .none⟩,
 ⟨.tmp, .load1 (.t 0), .none⟩,
 ⟨.tmp, .move (.v 0), .none⟩,
 ⟨.tmp, .idxS 6 (.t 1) (.t 0), .none⟩,
 ⟨.tmp, .fadr 2 (.t 0), .none⟩,
 ⟨.tmp, .load1 (.t 0), .none⟩,
 ⟨.tmp, .not (.t 0), .none⟩,
 ⟨.tmp, .move (.t 0), .none⟩,
 ⟨.tmp, .move (.v 1), .some ((.t 0), true)⟩,
 ⟨.tmp, .nilck (.t 0), .some ((.t 1), true)⟩,
 ⟨.tmp, .fadr 0 (.t 0), .some ((.t 2), true)⟩,
 ⟨.tmp, .load1 (.t 0), .some ((.t 3), true)⟩,
 ⟨.tmp, .move (.v 0), .some ((.t 4), true)⟩,
 ⟨.tmp, .idxS 6 (.t 1) (.t 0), .some ((.t 5), true)⟩,
 ⟨.tmp, .fadr 3 (.t 0), .some ((.t 6), true)⟩,
 ⟨.tmp, .load1 (.t 0), .some ((.t 7), true)⟩,
 ⟨.tmp, .not (.t 0), .some ((.t 8), true)⟩,
 ⟨.tmp, .pick (.t 9) (.t 0) (.c (.bool false)), .none⟩]) (
 .cond (.t 0) (
 .seq (.reg [⟨.tmp, .move (.v 1), .none⟩,
 ⟨.tmp, .move (.v 0), .none⟩,
 ⟨.tmp, .move (.v 3), .none⟩,
 ⟨.tmp, .move (.v 5), .none⟩,
 ⟨.tmp, .call 153 [(.t 3), (.t 2), (.t 1), (.t 0)], .none⟩,
 ⟨(.var 2), .alloc [.int .i64 (.ofNat 0), .int .i64 (.ofNat 0), .int .i64 (.ofNat 0), .str 0 0, .bool false, .nils, .nils, .int .i64 (.ofNat 0), .bool false], .none⟩,
 ⟨.no, .store 9 (.v 2) (.t 0), .none⟩]) (
 .reg [⟨.tmp, .fadr 0 (.v 2), .none⟩,
 ⟨.tmp, .load1 (.t 0), .none⟩,
 ⟨.tmp, .fadr 1 (.v 2), .none⟩,
 ⟨.tmp, .loadN 7 (.t 0), .none⟩,
 ⟨.tmp, .call 152 [(.v 4), (.t 2), (.t 0)], .none⟩])) (
 .skip)))) (
 .reg [⟨.tmp, .move (.v 0), .none⟩,
 ⟨.tmp, .bin .add (.t 0) (.c (.int .i64 (.ofNat 1))), .none⟩,
 ⟨(.var 0), .move (.t 0), .none⟩]))
def r170_1 : DC :=
 .seq (.reg [⟨.tmp, .fadr 8 (.v 4), .none⟩,
 ⟨.no, .store 1 (.t 0) (.c (.bool true)), .none⟩]) (
 .seq (.reg [⟨.tmp, .move (.v 1), .none⟩,
 ⟨.tmp, .nilck (.t 0), .none⟩,
 ⟨.tmp, .fadr 4 (.t 0), .none⟩,
 ⟨.tmp, .load1 (.t 0), .none⟩,
 ⟨.tmp, .move (.v 3), .none⟩,
 ⟨.tmp, .idxS 1 (.t 1) (.t 0), .none⟩,
 ⟨.tmp, .load1 (.t 0), .none⟩,
 ⟨.tmp, .move (.v 5), .none⟩,
 ⟨.tmp, .loadN 9 (.v 4), .none⟩,
 ⟨.tmp, .idxS 9 (.t 2) (.t 1), .none⟩,
 ⟨.no, .store 9 (.t 0) (.t 1), .none⟩]) (
 .seq (.reg [⟨.tmp, .loadN 9 (.v 4), .none⟩,
 ⟨.no, .store 9 (.v 6) (.t 0), .none⟩]) (
 .ret)))
def d170 : DF := ⟨[.some 8, .some 0, .some 9, .some 1, .some 7, .some 2, .some 6],
 .seq (.reg [⟨(.var 6), .alloc [.int .i64 (.ofNat 0), .int .i64 (.ofNat 0), .int .i64 (.ofNat 0), .str 0 0, .bool false, .nils, .nils, .int .i64 (.ofNat 0), .bool false], .none⟩]) (
 .seq (.seq (.reg [⟨.tmp, .move (.v 1), .none⟩,
 ⟨.tmp, .nilck (.t 0), .none⟩,
 ⟨.tmp, .fadr 4 (.t 0), .none⟩,
 ⟨.tmp, .load1 (.t 0), .none⟩,
 ⟨.tmp, .move (.v 3), .none⟩,
 ⟨.tmp, .idxS 1 (.t 1) (.t 0), .none⟩,
 ⟨.tmp, .load1 (.t 0), .none⟩,
 ⟨.tmp, .move (.v 5), .none⟩,
 ⟨.tmp, .idxS 9 (.t 1) (.t 0), .none⟩,
 ⟨.tmp, .fadr 8 (.t 0), .none⟩,
 ⟨.tmp, .load1 (.t 0), .none⟩]) (
 .cond (.t 0) (
 .seq (.reg [⟨.tmp, .move (.v 1), .none⟩,
 ⟨.tmp, .nilck (.t 0), .none⟩,
 ⟨.tmp, .fadr 4 (.t 0), .none⟩,
 ⟨.tmp, .load1 (.t 0), .none⟩,
 ⟨.tmp, .move (.v 3), .none⟩,
 ⟨.tmp, .idxS 1 (.t 1) (.t 0), .none⟩,
 ⟨.tmp, .load1 (.t 0), .none⟩,
 ⟨.tmp, .move (.v 5), .none⟩,
 ⟨.tmp, .idxS 9 (.t 1) (.t 0), .none⟩,
 ⟨.tmp, .loadN 9 (.t 0), .none⟩,
 ⟨.no, .store 9 (.v 6) (.t 0), .none⟩]) (
 .ret)) (
 .skip))) (
 .seq (.reg [⟨(.var 4), .alloc [.int .i64 (.ofNat 0), .int .i64 (.ofNat 0), .int .i64 (.ofNat 0), .str 0 0, .bool false, .nils, .nils, .int .i64 (.ofNat 0), .bool false], .none⟩]) (
 .seq (.seq (.reg [⟨.tmp, .move (.v 5), .none⟩,
 ⟨.tmp, .move (.v 3), .none⟩,
 ⟨.tmp, .bin .add (.t 0) (.c (.int .i64 (.ofNat 1))), .none⟩,
 ⟨.tmp, .bin .eql (.t 2) (.t 0), .none⟩,
 ⟨.tmp, .move (.t 0), .none⟩,
 ⟨.tmp, .move (.v 1), .some ((.t 0), true)⟩,
 ⟨.tmp, .nilck (.t 0), .some ((.t 1), true)⟩,
 ⟨.tmp, .fadr 1 (.t 0), .some ((.t 2), true)⟩,
 ⟨.tmp, .load1 (.t 0), .some ((.t 3), true)⟩,
 ⟨.tmp, .move (.v 3), .some ((.t 4), true)⟩,
 ⟨.tmp, .idxS 7 (.t 1) (.t 0), .some ((.t 5), true)⟩,
 ⟨.tmp, .fadr 0 (.t 0), .some ((.t 6), true)⟩,
 ⟨.tmp, .load1 (.t 0), .some ((.t 7), true)⟩,
 ⟨.tmp, .bin .neq (.t 0) (.c (.int .i64 (.ofNat 13))), .some ((.t 8), true)⟩,
 ⟨.tmp, .pick (.t 9) (.t 0) (.c (.bool false)), .none⟩,
 ⟨.tmp, .move (.t 0), .none⟩,
 ⟨.tmp, .move (.v 1), .some ((.t 0), true)⟩,
 ⟨.tmp, .nilck (.t 0), .some ((.t 1), true)⟩,
 ⟨.tmp, .fadr 2 (.t 0), .some ((.t 2), true)⟩,
 ⟨.tmp, .load1 (.t 0), .some ((.t 3), true)⟩,
 ⟨.tmp, .move (.v 3), .some ((.t 4), true)⟩,
 ⟨.tmp, .idxS 1 (.t 1) (.t 0), .some ((.t 5), true)⟩,
 ⟨.tmp, .load1 (.t 0), .some ((.t 6), true)⟩,
 ⟨.tmp, .not (.t 0), .some ((.t 7), true)⟩,
 ⟨.tmp, .pick (.t 8) (.t 0) (.c (.bool false)), .none⟩]) (
 .cond (.t 0) (
 .reg [⟨.tmp, .move (.v 1), .none⟩,
 ⟨.tmp, .nilck (.t 0), .none⟩,
 ⟨.tmp, .fadr 1 (.t 0), .none⟩,
 ⟨.tmp, .load1 (.t 0), .none⟩,
 ⟨.tmp, .move (.v 3), .none⟩,
 ⟨.tmp, .idxS 7 (.t 1) (.t 0), .none⟩,
 ⟨.tmp, .loadN 7 (.t 0), .none⟩,
 ⟨.tmp, .call 152 [(.v 4), (.c (.int .i64 (.ofNat 1))), (.t 0)], .none⟩]) (
 .skip))) (
 .seq (.seq (.reg [⟨(.var 0), .move (.c (.int .i64 (.ofNat 0))), .none⟩]) (
 .block 0 (
 .loop b170_0))) r170_1)))),
 [.cellN 9 (.v 6)], 7, .none⟩
/-- telamon/telamonref12.app -/
def vm171 : List Nat := [3, 4, 6, 0, 1, 2]

def d171 : DF := ⟨[.some 3, .some 4, .some 6, .some 0, .some 1, .some 2],
 .seq (.reg [⟨(.var 0), .box 7 (.v 3), .none⟩,
 ⟨(.var 1), .box 7 (.v 4), .none⟩,
 ⟨(.var 2), .alloc [.int .i64 (.ofNat 0), .int .i64 (.ofNat 0), .str 0 0, .bool false, .nils, .nils, .int .i64 (.ofNat 0)], .none⟩]) (
 .seq (.reg [⟨.tmp, .move (.v 5), .none⟩,
 ⟨.tmp, .loadN 7 (.v 0), .none⟩,
 ⟨.tmp, .loadN 7 (.v 1), .none⟩,
 ⟨.tmp, .buildS 7 [[.int .i64 (.ofNat 0), .int .i64 (.ofNat 0), .str 0 0, .bool false, .nils, .nils, .int .i64 (.ofNat 0)], [.int .i64 (.ofNat 0), .int .i64 (.ofNat 0), .str 0 0, .bool false, .nils, .nils, .int .i64 (.ofNat 0)]] [(0, (.t 1)), (1, (.t 0))], .none⟩,
 ⟨.tmp, .fadr 6 (.v 0), .none⟩,
 ⟨.tmp, .load1 (.t 0), .none⟩,
 ⟨.tmp, .build [.int .i64 (.ofNat 0), .int .i64 (.ofNat 0), .str 0 0, .bool false, .nils, .nils, .int .i64 (.ofNat 0)] [(0, 1, (.c (.int .i64 (.ofNat 5)))), (3, 1, (.t 5)), (5, 1, (.t 2)), (6, 1, (.t 0))], .none⟩,
 ⟨.no, .store 7 (.v 2) (.t 0), .none⟩]) (
 .ret)),
 [.cellN 7 (.v 2)], 6, .none⟩
/-- telamon/telamonref12.times -/
def vm172 : List Nat := [4, 0, 1]

def d172 : DF := ⟨[.some 4, .some 0, .some 1],
 .seq (.reg [⟨(.var 0), .move (.c (.int .i64 (.ofNat 0))), .none⟩]) (
 .seq (.seq (.reg [⟨.tmp, .move (.v 1), .none⟩,
 ⟨.tmp, .move (.v 2), .none⟩,
 ⟨.tmp, .bin .mul (.t 1) (.t 0), .none⟩,
 ⟨.tmp, .bin .gtr (.t 0) (.c (.int .i64 (.ofNat 2))), .none⟩]) (
 .cond (.t 0) (
 .seq (.reg [⟨(.var 0), .move (.c (.int .i64 (.ofNat 2))), .none⟩]) (
 .ret)) (
 .skip))) (
 .seq (.reg [⟨.tmp, .move (.v 1), .none⟩,
 ⟨.tmp, .move (.v 2), .none⟩,
 ⟨.tmp, .bin .mul (.t 1) (.t 0), .none⟩,
 ⟨(.var 0), .move (.t 0), .none⟩]) (
 .ret))),
 [.opd (.v 0)], 3, .none⟩
/-- (*telamon/telamonref12.chart).tail -/
def vm173 : List Nat := [16, 17, 18, 0, 4, 2, 13, 3, 14, 11, 1, 12, 15, 5]
def b173_0 : DC :=
 .seq (.seq (.reg [⟨.tmp, .move (.v 0), .none⟩,
 ⟨.tmp, .move (.v 4), .none⟩,
 ⟨.tmp, .bin .lss (.t 1) (.t 0), .none⟩]) (
 .cond (.t 0) (
 .skip) (
 .exit 0))) (
 .seq (.block 1 (
 .seq (.seq (.reg [⟨.tmp, .move (.v 3), .none⟩,
 ⟨.tmp, .move (.v 0), .none⟩,
 ⟨.tmp, .fadr 1 (.v 8), .none⟩,
 ⟨.tmp, .load1 (.t 0), .none⟩,
 ⟨.tmp, .move (.v 5), .none⟩,
 ⟨.tmp, .bin .add (.t 0) (.c (.int .i64 (.ofNat 1))), .none⟩,
 ⟨.tmp, .idxS 1 (.t 2) (.t 0), .none⟩,
 ⟨.tmp, .load1 (.t 0), .none⟩,
 ⟨.tmp, .call 174 [(.t 7), (.t 6), (.t 0)], .none⟩,
 ⟨.tmp, .not (.t 0), .none⟩]) (
 .cond (.t 0) (
 .exit 1) (
 .skip))) (
 .seq (.reg [⟨.tmp, .move (.v 3), .none⟩,
 ⟨.tmp, .move (.v 7), .none⟩,
 ⟨.tmp, .bin .add (.t 0) (.c (.int .i64 (.ofNat 1))), .none⟩,
 ⟨.tmp, .move (.v 0), .none⟩,
 ⟨.tmp, .call 137 [(.t 3), (.t 1), (.t 0)], .none⟩,
 ⟨(.var 1), .alloc [.int .i64 (.ofNat 0), .int .i64 (.ofNat 0), .int .i64 (.ofNat 0), .str 0 0, .bool false, .nils, .nils, .int .i64 (.ofNat 0), .bool false], .none⟩,
 ⟨.no, .store 9 (.v 1) (.t 0), .none⟩]) (
 .seq (.seq (.reg [⟨.tmp, .fadr 0 (.v 1), .none⟩,
 ⟨.tmp, .load1 (.t 0), .none⟩,
 ⟨.tmp, .bin .eql (.t 0) (.c (.int .i64 (.ofNat 0))), .none⟩]) (
 .cond (.t 0) (
 .exit 1) (
 .skip))) (
 .seq (.reg [⟨.tmp, .move (.v 3), .none⟩,
 ⟨.tmp, .move (.v 10), .none⟩,
 ⟨.tmp, .move (.v 5), .none⟩,
 ⟨.tmp, .bin .add (.t 0) (.c (.int .i64 (.ofNat 1))), .none⟩,
 ⟨.tmp, .move (.v 0), .none⟩,
 ⟨.tmp, .move (.v 4), .none⟩,
 ⟨.tmp, .loadN 7 (.v 9), .none⟩,
 ⟨.tmp, .fadr 1 (.v 1), .none⟩,
 ⟨.tmp, .loadN 7 (.t 0), .none⟩,
 ⟨.tmp, .call 171 [(.t 2), (.t 0), (.c (.bool false))], .none⟩,
 ⟨.tmp, .call 173 [(.t 9), (.t 8), (.t 6), (.t 5), (.t 4), (.t 0)], .none⟩,
 ⟨(.var 2), .alloc [.int .i64 (.ofNat 0), .int .i64 (.ofNat 0), .int .i64 (.ofNat 0), .str 0 0, .bool false, .nils, .nils, .int .i64 (.ofNat 0), .bool false], .none⟩,
 ⟨.no, .store 9 (.v 2) (.t 0), .none⟩]) (
 .reg [⟨.tmp, .fadr 0 (.v 1), .none⟩,
 ⟨.tmp, .load1 (.t 0), .none⟩,
 ⟨.tmp, .fadr 0 (.v 2), .none⟩,
 ⟨.tmp, .load1 (.t 0), .none⟩,
 ⟨.tmp, .fadr 1 (.v 2), .none⟩,
 ⟨.tmp, .loadN 7 (.t 0), .none⟩,
 ⟨.tmp, .call 172 [(.t 4), (.t 2)], .none⟩,
 ⟨.no, .againN 7 (.t 2) (.t 1), .none⟩,
 ⟨.tmp, .call 152 [(.v 6), (.t 0), (.t 1)], .none⟩])))))) (
 .reg [⟨.tmp, .move (.v 0), .none⟩,
 ⟨.tmp, .bin .add (.t 0) (.c (.int .i64 (.ofNat 1))), .none⟩,
 ⟨(.var 0), .move (.t 0), .none⟩]))
def r173_1 : DC :=
 .seq (.reg [⟨.tmp, .loadN 9 (.v 6), .none⟩,
 ⟨.no, .store 9 (.v 11) (.t 0), .none⟩]) (
 .ret)
def d173 : DF := ⟨[.some 16, .some 17, .some 18, .some 0, .some 4, .some 2, .some 13, .some 3, .some 14, .some 11, .some 1, .some 12, .some 15, .some 5],
 .seq (.reg [⟨(.var 9), .box 7 (.v 13), .none⟩,
 ⟨(.var 11), .alloc [.int .i64 (.ofNat 0), .int .i64 (.ofNat 0), .int .i64 (.ofNat 0), .str 0 0, .bool false, .nils, .nils, .int .i64 (.ofNat 0), .bool false], .none⟩]) (
 .seq (.reg [⟨(.var 6), .alloc [.int .i64 (.ofNat 0), .int .i64 (.ofNat 0), .int .i64 (.ofNat 0), .str 0 0, .bool false, .nils, .nils, .int .i64 (.ofNat 0), .bool false], .none⟩]) (
 .seq (.reg [⟨.tmp, .move (.v 3), .none⟩,
 ⟨.tmp, .nilck (.t 0), .none⟩,
 ⟨.tmp, .fadr 0 (.t 0), .none⟩,
 ⟨.tmp, .load1 (.t 0), .none⟩,
 ⟨.tmp, .move (.v 10), .none⟩,
 ⟨.tmp, .idxS 6 (.t 1) (.t 0), .none⟩,
 ⟨.tmp, .loadN 6 (.t 0), .none⟩,
 ⟨(.var 8), .alloc [.str 0 0, .nils, .bool false, .bool false, .int .i64 (.ofNat 0), .str 0 0], .none⟩,
 ⟨.no, .store 6 (.v 8) (.t 0), .none⟩]) (
 .seq (.seq (.reg [⟨.tmp, .move (.v 7), .none⟩,
 ⟨.tmp, .move (.v 4), .none⟩,
 ⟨.tmp, .bin .geq (.t 1) (.t 0), .none⟩,
 ⟨.tmp, .move (.t 0), .none⟩,
 ⟨.tmp, .move (.v 3), .some ((.t 0), false)⟩,
 ⟨.tmp, .move (.v 7), .some ((.t 1), false)⟩,
 ⟨.tmp, .fadr 1 (.v 8), .some ((.t 2), false)⟩,
 ⟨.tmp, .load1 (.t 0), .some ((.t 3), false)⟩,
 ⟨.tmp, .move (.v 5), .some ((.t 4), false)⟩,
 ⟨.tmp, .idxS 1 (.t 1) (.t 0), .some ((.t 5), false)⟩,
 ⟨.tmp, .load1 (.t 0), .some ((.t 6), false)⟩,
 ⟨.tmp, .call 174 [(.t 6), (.t 5), (.t 0)], .some ((.t 7), false)⟩,
 ⟨.tmp, .not (.t 0), .some ((.t 8), false)⟩,
 ⟨.tmp, .pick (.t 9) (.c (.bool true)) (.t 0), .none⟩]) (
 .cond (.t 0) (
 .seq (.reg [⟨.tmp, .loadN 9 (.v 6), .none⟩,
 ⟨.no, .store 9 (.v 11) (.t 0), .none⟩]) (
 .ret)) (
 .skip))) (
 .seq (.seq (.reg [⟨.tmp, .move (.v 5), .none⟩,
 ⟨.tmp, .fadr 1 (.v 8), .none⟩,
 ⟨.tmp, .load1 (.t 0), .none⟩,
 ⟨.tmp, .len false (.t 0), .none⟩,
 ⟨.tmp, .bin .sub (.t 0) (.c (.int .i64 (.ofNat 1))), .none⟩,
 ⟨.tmp, .bin .eql (.t 4) (.t 0), .none⟩]) (
 .cond (.t 0) (
 .seq (.seq (.reg [⟨.tmp, .fadr 3 (.v 8), .none⟩,
 ⟨.tmp, .load1 (.t 0), .none⟩,
 ⟨.tmp, .not (.t 0), .none⟩]) (
 .cond (.t 0) (
 .seq (.seq (.reg [⟨.tmp, .move (.v 7), .none⟩,
 ⟨.tmp, .bin .add (.t 0) (.c (.int .i64 (.ofNat 1))), .none⟩,
 ⟨.tmp, .move (.v 4), .none⟩,
 ⟨.tmp, .bin .eql (.t 1) (.t 0), .none⟩]) (
 .cond (.t 0) (
 .reg [⟨.tmp, .loadN 7 (.v 9), .none⟩,
 ⟨.tmp, .call 152 [(.v 6), (.c (.int .i64 (.ofNat 1))), (.t 0)], .none⟩]) (
 .skip))) (
 .seq (.reg [⟨.tmp, .loadN 9 (.v 6), .none⟩,
 ⟨.no, .store 9 (.v 11) (.t 0), .none⟩]) (
 .ret))) (
 .skip))) (
 .seq (.seq (.reg [⟨.tmp, .move (.v 7), .none⟩,
 ⟨.tmp, .bin .add (.t 0) (.c (.int .i64 (.ofNat 1))), .none⟩,
 ⟨.tmp, .move (.v 4), .none⟩,
 ⟨.tmp, .bin .lss (.t 1) (.t 0), .none⟩]) (
 .cond (.t 0) (
 .seq (.reg [⟨.tmp, .move (.v 3), .none⟩,
 ⟨.tmp, .move (.v 10), .none⟩,
 ⟨.tmp, .move (.v 7), .none⟩,
 ⟨.tmp, .bin .add (.t 0) (.c (.int .i64 (.ofNat 1))), .none⟩,
 ⟨.tmp, .move (.v 4), .none⟩,
 ⟨.tmp, .call 175 [(.t 4), (.t 3), (.t 1), (.t 0), (.c (.bool false))], .none⟩,
 ⟨(.var 12), .alloc [.int .i64 (.ofNat 0), .int .i64 (.ofNat 0), .int .i64 (.ofNat 0), .str 0 0, .bool false, .nils, .nils, .int .i64 (.ofNat 0), .bool false], .none⟩,
 ⟨.no, .store 9 (.v 12) (.t 0), .none⟩]) (
 .reg [⟨.tmp, .fadr 0 (.v 12), .none⟩,
 ⟨.tmp, .load1 (.t 0), .none⟩,
 ⟨.tmp, .loadN 7 (.v 9), .none⟩,
 ⟨.tmp, .fadr 1 (.v 12), .none⟩,
 ⟨.tmp, .loadN 7 (.t 0), .none⟩,
 ⟨.tmp, .call 171 [(.t 2), (.t 0), (.c (.bool false))], .none⟩,
 ⟨.no, .again1 (.t 5) (.t 4), .none⟩,
 ⟨.tmp, .call 152 [(.v 6), (.t 4), (.t 0)], .none⟩])) (
 .skip))) (
 .seq (.reg [⟨.tmp, .loadN 9 (.v 6), .none⟩,
 ⟨.no, .store 9 (.v 11) (.t 0), .none⟩]) (
 .ret)))) (
 .skip))) (
 .seq (.seq (.reg [⟨.tmp, .move (.v 7), .none⟩,
 ⟨.tmp, .bin .add (.t 0) (.c (.int .i64 (.ofNat 2))), .none⟩,
 ⟨(.var 0), .move (.t 0), .none⟩]) (
 .block 0 (
 .loop b173_0))) r173_1))))),
 [.cellN 9 (.v 11)], 14, .none⟩
/-- (*telamon/telamonref12.chart).is -/
def vm174 : List Nat := [0, 1, 6, 2]

def d174 : DF := ⟨[.some 0, .some 1, .some 6, .some 2],
 .seq (.reg [⟨(.var 2), .move (.c (.bool false)), .none⟩]) (
 .seq (.reg [⟨.tmp, .move (.v 0), .none⟩,
 ⟨.tmp, .nilck (.t 0), .none⟩,
 ⟨.tmp, .fadr 1 (.t 0), .none⟩,
 ⟨.tmp, .load1 (.t 0), .none⟩,
 ⟨.tmp, .move (.v 1), .none⟩,
 ⟨.tmp, .idxS 7 (.t 1) (.t 0), .none⟩,
 ⟨.tmp, .fadr 0 (.t 0), .none⟩,
 ⟨.tmp, .load1 (.t 0), .none⟩,
 ⟨.tmp, .bin .eql (.t 0) (.c (.int .i64 (.ofNat 2))), .none⟩,
 ⟨.tmp, .move (.t 0), .none⟩,
 ⟨.tmp, .move (.v 0), .some ((.t 0), true)⟩,
 ⟨.tmp, .nilck (.t 0), .some ((.t 1), true)⟩,
 ⟨.tmp, .fadr 1 (.t 0), .some ((.t 2), true)⟩,
 ⟨.tmp, .load1 (.t 0), .some ((.t 3), true)⟩,
 ⟨.tmp, .move (.v 1), .some ((.t 4), true)⟩,
 ⟨.tmp, .idxS 7 (.t 1) (.t 0), .some ((.t 5), true)⟩,
 ⟨.tmp, .fadr 2 (.t 0), .some ((.t 6), true)⟩,
 ⟨.tmp, .load1 (.t 0), .some ((.t 7), true)⟩,
 ⟨.tmp, .move (.v 3), .some ((.t 8), true)⟩,
 ⟨.tmp, .bin .eql (.t 1) (.t 0), .some ((.t 9), true)⟩,
 ⟨.tmp, .pick (.t 10) (.t 0) (.c (.bool false)), .none⟩,
 ⟨(.var 2), .move (.t 0), .none⟩]) (
 .ret)),
 [.opd (.v 2)], 4, .none⟩
/-- (*telamon/telamonref12.chart).operand -/
def vm175 : List Nat := [15, 13, 14, 16, 17, 0, 4, 12, 2, 3, 11, 10, 1]
def b175_0 : DC :=
 .seq (.seq (.reg [⟨.tmp, .move (.v 2), .none⟩,
 ⟨.tmp, .move (.v 5), .none⟩,
 ⟨.tmp, .nilck (.t 0), .none⟩,
 ⟨.tmp, .fadr 0 (.t 0), .none⟩,
 ⟨.tmp, .load1 (.t 0), .none⟩,
 ⟨.tmp, .len false (.t 0), .none⟩,
 ⟨.tmp, .bin .lss (.t 5) (.t 0), .none⟩]) (
 .cond (.t 0) (
 .skip) (
 .exit 0))) (
 .seq (.block 1 (
 .seq (.reg [⟨.tmp, .move (.v 5), .none⟩,
 ⟨.tmp, .nilck (.t 0), .none⟩,
 ⟨.tmp, .fadr 0 (.t 0), .none⟩,
 ⟨.tmp, .load1 (.t 0), .none⟩,
 ⟨.tmp, .move (.v 2), .none⟩,
 ⟨.tmp, .idxS 6 (.t 1) (.t 0), .none⟩,
 ⟨.tmp, .loadN 6 (.t 0), .none⟩,
 ⟨(.var 0), .alloc [.str 0 0, .nils, .bool false, .bool false, .int .i64 (.ofNat 0), .str 0 0], .none⟩,
 ⟨.no, .store 6 (.v 0) (.t 0), .none⟩]) (
 .seq (.seq (.reg [⟨.tmp, .fadr 2 (.v 0), .none⟩,
 ⟨.tmp, .load1 (.t 0), .none⟩,
 ⟨.tmp, .not (.t 0), .none⟩,
 ⟨.tmp, .move (.t 0), .none⟩,
 ⟨.tmp, .fadr 3 (.v 0), .some ((.t 0), true)⟩,
 ⟨.tmp, .load1 (.t 0), .some ((.t 1), true)⟩,
 ⟨.tmp, .not (.t 0), .some ((.t 2), true)⟩,
 ⟨.tmp, .pick (.t 3) (.t 0) (.c (.bool false)), .none⟩]) (
 .cond (.t 0) (
 .exit 1) (
 .skip))) (
 .seq (.reg [⟨.tmp, .fadr 4 (.v 0), .none⟩,
 ⟨.tmp, .load1 (.t 0), .none⟩,
 ⟨.tmp, .fadr 4 (.v 1), .none⟩,
 ⟨.tmp, .load1 (.t 0), .none⟩,
 ⟨.tmp, .bin .gtr (.t 2) (.t 0), .none⟩,
 ⟨(.var 3), .move (.t 0), .none⟩]) (
 .seq (.seq (.reg [⟨.tmp, .fadr 4 (.v 0), .none⟩,
 ⟨.tmp, .load1 (.t 0), .none⟩,
 ⟨.tmp, .fadr 4 (.v 1), .none⟩,
 ⟨.tmp, .load1 (.t 0), .none⟩,
 ⟨.tmp, .bin .eql (.t 2) (.t 0), .none⟩]) (
 .cond (.t 0) (
 .seq (.reg [⟨.tmp, .fadr 2 (.v 1), .none⟩,
 ⟨.tmp, .load1 (.t 0), .none⟩,
 ⟨.tmp, .move (.t 0), .none⟩,
 ⟨.tmp, .fadr 3 (.v 1), .some ((.t 0), true)⟩,
 ⟨.tmp, .load1 (.t 0), .some ((.t 1), true)⟩,
 ⟨.tmp, .pick (.t 2) (.t 0) (.c (.bool false)), .none⟩,
 ⟨.tmp, .move (.t 0), .none⟩,
 ⟨.tmp, .fadr 2 (.v 0), .some ((.t 0), true)⟩,
 ⟨.tmp, .load1 (.t 0), .some ((.t 1), true)⟩,
 ⟨.tmp, .pick (.t 2) (.t 0) (.c (.bool false)), .none⟩,
 ⟨.tmp, .move (.t 0), .none⟩,
 ⟨.tmp, .fadr 3 (.v 0), .some ((.t 0), true)⟩,
 ⟨.tmp, .load1 (.t 0), .some ((.t 1), true)⟩,
 ⟨.tmp, .pick (.t 2) (.t 0) (.c (.bool false)), .none⟩]) (
 .cond (.t 0) (
 .reg [⟨.tmp, .fadr 5 (.v 1), .none⟩,
 ⟨.tmp, .load1 (.t 0), .none⟩,
 ⟨.tmp, .fadr 5 (.v 0), .none⟩,
 ⟨.tmp, .load1 (.t 0), .none⟩,
 ⟨.tmp, .bin .eql (.t 2) (.t 0), .none⟩,
 ⟨.tmp, .move (.t 0), .none⟩,
 ⟨.tmp, .fadr 5 (.v 1), .some ((.t 0), true)⟩,
 ⟨.tmp, .load1 (.t 0), .some ((.t 1), true)⟩,
 ⟨.tmp, .bin .eql (.t 0) (.c (.str 1 108)), .some ((.t 2), true)⟩,
 ⟨.tmp, .move (.t 0), .some ((.t 3), true)⟩,
 ⟨.tmp, .move (.v 6), .some ((.t 0), true)⟩,
 ⟨.tmp, .pick (.t 1) (.t 0) (.c (.bool false)), .some ((.t 5), true)⟩,
 ⟨.tmp, .move (.t 0), .some ((.t 6), true)⟩,
 ⟨.tmp, .fadr 5 (.v 1), .some ((.t 0), false)⟩,
 ⟨.tmp, .load1 (.t 0), .some ((.t 1), false)⟩,
 ⟨.tmp, .bin .eql (.t 0) (.c (.str 1 114)), .some ((.t 2), false)⟩,
 ⟨.tmp, .move (.t 0), .some ((.t 3), false)⟩,
 ⟨.tmp, .move (.v 6), .some ((.t 0), true)⟩,
 ⟨.tmp, .not (.t 0), .some ((.t 1), true)⟩,
 ⟨.tmp, .pick (.t 2) (.t 0) (.c (.bool false)), .some ((.t 6), false)⟩,
 ⟨.tmp, .pick (.t 7) (.c (.bool true)) (.t 0), .some ((.t 14), true)⟩,
 ⟨.tmp, .pick (.t 15) (.t 0) (.c (.bool false)), .none⟩,
 ⟨(.var 3), .move (.t 0), .none⟩]) (
 .reg [⟨.tmp, .fadr 2 (.v 1), .none⟩,
 ⟨.tmp, .load1 (.t 0), .none⟩,
 ⟨.tmp, .fadr 2 (.v 0), .none⟩,
 ⟨.tmp, .load1 (.t 0), .none⟩,
 ⟨.tmp, .binB .eql (.t 2) (.t 0), .none⟩,
 ⟨.tmp, .move (.t 0), .none⟩,
 ⟨.tmp, .fadr 3 (.v 1), .some ((.t 0), true)⟩,
 ⟨.tmp, .load1 (.t 0), .some ((.t 1), true)⟩,
 ⟨.tmp, .fadr 3 (.v 0), .some ((.t 2), true)⟩,
 ⟨.tmp, .load1 (.t 0), .some ((.t 3), true)⟩,
 ⟨.tmp, .binB .eql (.t 2) (.t 0), .some ((.t 4), true)⟩,
 ⟨.tmp, .pick (.t 5) (.t 0) (.c (.bool false)), .none⟩,
 ⟨(.var 3), .move (.t 0), .none⟩]))) (
 .skip))) (
 .seq (.reg [⟨.tmp, .move (.v 3), .none⟩]) (
 .cond (.t 0) (
 .seq (.reg [⟨.tmp, .move (.v 5), .none⟩,
 ⟨.tmp, .move (.v 2), .none⟩,
 ⟨.tmp, .move (.v 8), .none⟩,
 ⟨.tmp, .move (.v 9), .none⟩,
 ⟨.tmp, .call 153 [(.t 3), (.t 2), (.t 1), (.t 0)], .none⟩,
 ⟨(.var 4), .alloc [.int .i64 (.ofNat 0), .int .i64 (.ofNat 0), .int .i64 (.ofNat 0), .str 0 0, .bool false, .nils, .nils, .int .i64 (.ofNat 0), .bool false], .none⟩,
 ⟨.no, .store 9 (.v 4) (.t 0), .none⟩]) (
 .reg [⟨.tmp, .fadr 0 (.v 4), .none⟩,
 ⟨.tmp, .load1 (.t 0), .none⟩,
 ⟨.tmp, .fadr 1 (.v 4), .none⟩,
 ⟨.tmp, .loadN 7 (.t 0), .none⟩,
 ⟨.tmp, .call 152 [(.v 7), (.t 2), (.t 0)], .none⟩])) (
 .skip)))))))) (
 .reg [⟨.tmp, .move (.v 2), .none⟩,
 ⟨.tmp, .bin .add (.t 0) (.c (.int .i64 (.ofNat 1))), .none⟩,
 ⟨(.var 2), .move (.t 0), .none⟩]))
def r175_1 : DC :=
 .seq (.reg [⟨.tmp, .loadN 9 (.v 7), .none⟩,
 ⟨.no, .store 9 (.v 11) (.t 0), .none⟩]) (
 .ret)
def d175 : DF := ⟨[.some 15, .some 13, .some 14, .some 16, .some 17, .some 0, .some 4, .some 12, .some 2, .some 3, .some 11, .some 10, .some 1],
 .seq (.reg [⟨(.var 11), .alloc [.int .i64 (.ofNat 0), .int .i64 (.ofNat 0), .int .i64 (.ofNat 0), .str 0 0, .bool false, .nils, .nils, .int .i64 (.ofNat 0), .bool false], .none⟩]) (
 .seq (.reg [⟨.tmp, .move (.v 5), .none⟩,
 ⟨.tmp, .move (.v 8), .none⟩,
 ⟨.tmp, .move (.v 9), .none⟩,
 ⟨.tmp, .call 151 [(.t 2), (.t 1), (.t 0)], .none⟩,
 ⟨(.var 10), .alloc [.int .i64 (.ofNat 0), .int .i64 (.ofNat 0), .int .i64 (.ofNat 0), .str 0 0, .bool false, .nils, .nils, .int .i64 (.ofNat 0), .bool false], .none⟩,
 ⟨.no, .store 9 (.v 10) (.t 0), .none⟩]) (
 .seq (.reg [⟨(.var 7), .alloc [.int .i64 (.ofNat 0), .int .i64 (.ofNat 0), .int .i64 (.ofNat 0), .str 0 0, .bool false, .nils, .nils, .int .i64 (.ofNat 0), .bool false], .none⟩]) (
 .seq (.reg [⟨.tmp, .fadr 0 (.v 10), .none⟩,
 ⟨.tmp, .load1 (.t 0), .none⟩,
 ⟨.tmp, .fadr 1 (.v 10), .none⟩,
 ⟨.tmp, .loadN 7 (.t 0), .none⟩,
 ⟨.tmp, .call 152 [(.v 7), (.t 2), (.t 0)], .none⟩]) (
 .seq (.reg [⟨.tmp, .move (.v 5), .none⟩,
 ⟨.tmp, .nilck (.t 0), .none⟩,
 ⟨.tmp, .fadr 0 (.t 0), .none⟩,
 ⟨.tmp, .load1 (.t 0), .none⟩,
 ⟨.tmp, .move (.v 12), .none⟩,
 ⟨.tmp, .idxS 6 (.t 1) (.t 0), .none⟩,
 ⟨.tmp, .loadN 6 (.t 0), .none⟩,
 ⟨(.var 1), .alloc [.str 0 0, .nils, .bool false, .bool false, .int .i64 (.ofNat 0), .str 0 0], .none⟩,
 ⟨.no, .store 6 (.v 1) (.t 0), .none⟩]) (
 .seq (.seq (.reg [⟨(.var 2), .move (.c (.int .i64 (.ofNat 0))), .none⟩]) (
 .block 0 (
 .loop b175_0))) r175_1))))),
 [.cellN 9 (.v 11)], 13, .none⟩
/-- strings.LastIndexByte -/
def vm176 : List Nat := [4, 0, 1]

def d176 : DF := ⟨[.some 4, .some 0, .some 1],
 .seq (.reg [⟨(.var 0), .move (.c (.int .i64 (.ofNat 0))), .none⟩]) (
 .seq (.reg [⟨.tmp, .move (.v 1), .none⟩,
 ⟨.tmp, .move (.v 2), .none⟩,
 ⟨.tmp, .call 185 [(.t 1), (.t 0)], .none⟩,
 ⟨(.var 0), .move (.t 0), .none⟩]) (
 .ret)),
 [.opd (.v 0)], 3, .none⟩
/-- slices.pdqsortOrdered[string] -/
def vm177 : List Nat := [1, 2, 0, 14, 11, 3, 8, 12, 10, 16, 17, 18, 9, 13, 15]
def b177_0 : DC :=
 .block 1 (
 .seq (.reg [⟨.tmp, .move (.v 1), .none⟩,
 ⟨.tmp, .move (.v 0), .none⟩,
 ⟨.tmp, .bin .sub (.t 1) (.t 0), .none⟩,
 ⟨(.var 8), .move (.t 0), .none⟩]) (
 .seq (.seq (.reg [⟨.tmp, .move (.v 8), .none⟩,
 ⟨.tmp, .bin .leq (.t 0) (.c (.int .i64 (.ofNat 12))), .none⟩]) (
 .cond (.t 0) (
 .seq (.reg [⟨.tmp, .move (.v 2), .none⟩,
 ⟨.tmp, .move (.v 0), .none⟩,
 ⟨.tmp, .move (.v 1), .none⟩,
 ⟨.tmp, .call 186 [(.t 2), (.t 1), (.t 0)], .none⟩]) (
 .ret)) (
 .skip))) (
 .seq (.seq (.reg [⟨.tmp, .move (.v 5), .none⟩,
 ⟨.tmp, .bin .eql (.t 0) (.c (.int .i64 (.ofNat 0))), .none⟩]) (
 .cond (.t 0) (
 .seq (.reg [⟨.tmp, .move (.v 2), .none⟩,
 ⟨.tmp, .move (.v 0), .none⟩,
 ⟨.tmp, .move (.v 1), .none⟩,
 ⟨.tmp, .call 187 [(.t 2), (.t 1), (.t 0)], .none⟩]) (
 .ret)) (
 .skip))) (
 .seq (.seq (.reg [⟨.tmp, .move (.v 6), .none⟩,
 ⟨.tmp, .not (.t 0), .none⟩]) (
 .cond (.t 0) (
 .seq (.reg [⟨.tmp, .move (.v 2), .none⟩,
 ⟨.tmp, .move (.v 0), .none⟩,
 ⟨.tmp, .move (.v 1), .none⟩,
 ⟨.tmp, .call 188 [(.t 2), (.t 1), (.t 0)], .none⟩]) (
 .reg [⟨.tmp, .move (.v 5), .none⟩,
 ⟨.tmp, .bin .sub (.t 0) (.c (.int .i64 (.ofNat 1))), .none⟩,
 ⟨(.var 5), .move (.t 0), .none⟩])) (
 .skip))) (
 .seq (.reg [⟨.tmp, .move (.v 2), .none⟩,
 ⟨.tmp, .move (.v 0), .none⟩,
 ⟨.tmp, .move (.v 1), .none⟩,
 ⟨.tmp, .call 189 [(.t 2), (.t 1), (.t 0)], .none⟩,
 ⟨.tmp, .move (.t 0), .none⟩,
 ⟨.tmp, .ext (.t 0) 0, .none⟩,
 ⟨.tmp, .ext (.t 1) 1, .none⟩,
 ⟨(.var 4), .move (.t 1), .none⟩,
 ⟨(.var 7), .move (.t 0), .none⟩]) (
 .seq (.seq (.reg [⟨.tmp, .move (.v 7), .none⟩,
 ⟨.tmp, .bin .eql (.t 0) (.c (.int .i64 (.ofNat 2))), .none⟩]) (
 .cond (.t 0) (
 .seq (.reg [⟨.tmp, .move (.v 2), .none⟩,
 ⟨.tmp, .move (.v 0), .none⟩,
 ⟨.tmp, .move (.v 1), .none⟩,
 ⟨.tmp, .call 190 [(.t 2), (.t 1), (.t 0)], .none⟩]) (
 .seq (.reg [⟨.tmp, .move (.v 1), .none⟩,
 ⟨.tmp, .bin .sub (.t 0) (.c (.int .i64 (.ofNat 1))), .none⟩,
 ⟨.tmp, .move (.v 4), .none⟩,
 ⟨.tmp, .move (.v 0), .none⟩,
 ⟨.tmp, .bin .sub (.t 1) (.t 0), .none⟩,
 ⟨.tmp, .bin .sub (.t 3) (.t 0), .none⟩,
 ⟨(.var 4), .move (.t 0), .none⟩]) (
 .reg [⟨(.var 7), .move (.c (.int .i64 (.ofNat 1))), .none⟩]))) (
 .skip))) (
 .seq (.seq (.reg [⟨.tmp, .move (.v 6), .none⟩,
 ⟨.tmp, .move (.t 0), .none⟩,
 ⟨.tmp, .move (.v 12), .some ((.t 0), true)⟩,
 ⟨.tmp, .pick (.t 1) (.t 0) (.c (.bool false)), .none⟩,
 ⟨.tmp, .move (.t 0), .none⟩,
 ⟨.tmp, .move (.v 7), .some ((.t 0), true)⟩,
 ⟨.tmp, .bin .eql (.t 0) (.c (.int .i64 (.ofNat 1))), .some ((.t 1), true)⟩,
 ⟨.tmp, .pick (.t 2) (.t 0) (.c (.bool false)), .none⟩]) (
 .cond (.t 0) (
 .seq (.reg [⟨.tmp, .move (.v 2), .none⟩,
 ⟨.tmp, .move (.v 0), .none⟩,
 ⟨.tmp, .move (.v 1), .none⟩,
 ⟨.tmp, .call 191 [(.t 2), (.t 1), (.t 0)], .none⟩]) (
 .cond (.t 0) (
 .ret) (
 .skip))) (
 .skip))) (
 .seq (.seq (.reg [⟨.tmp, .move (.v 0), .none⟩,
 ⟨.tmp, .bin .gtr (.t 0) (.c (.int .i64 (.ofNat 0))), .none⟩,
 ⟨.tmp, .move (.t 0), .none⟩,
 ⟨.tmp, .move (.v 2), .some ((.t 0), true)⟩,
 ⟨.tmp, .move (.v 0), .some ((.t 1), true)⟩,
 ⟨.tmp, .bin .sub (.t 0) (.c (.int .i64 (.ofNat 1))), .some ((.t 2), true)⟩,
 ⟨.tmp, .idxS 1 (.t 2) (.t 0), .some ((.t 3), true)⟩,
 ⟨.tmp, .load1 (.t 0), .some ((.t 4), true)⟩,
 ⟨.tmp, .move (.v 2), .some ((.t 5), true)⟩,
 ⟨.tmp, .move (.v 4), .some ((.t 6), true)⟩,
 ⟨.tmp, .idxS 1 (.t 1) (.t 0), .some ((.t 7), true)⟩,
 ⟨.tmp, .load1 (.t 0), .some ((.t 8), true)⟩,
 ⟨.tmp, .call 192 [(.t 4), (.t 0)], .some ((.t 9), true)⟩,
 ⟨.tmp, .not (.t 0), .some ((.t 10), true)⟩,
 ⟨.tmp, .pick (.t 11) (.t 0) (.c (.bool false)), .none⟩]) (
 .cond (.t 0) (
 .seq (.reg [⟨.tmp, .move (.v 2), .none⟩,
 ⟨.tmp, .move (.v 0), .none⟩,
 ⟨.tmp, .move (.v 1), .none⟩,
 ⟨.tmp, .move (.v 4), .none⟩,
 ⟨.tmp, .call 193 [(.t 3), (.t 2), (.t 1), (.t 0)], .none⟩,
 ⟨(.var 13), .move (.t 0), .none⟩]) (
 .seq (.reg [⟨.tmp, .move (.v 13), .none⟩,
 ⟨(.var 0), .move (.t 0), .none⟩]) (
 .exit 1))) (
 .skip))) (
 .seq (.reg [⟨.tmp, .move (.v 2), .none⟩,
 ⟨.tmp, .move (.v 0), .none⟩,
 ⟨.tmp, .move (.v 1), .none⟩,
 ⟨.tmp, .move (.v 4), .none⟩,
 ⟨.tmp, .call 194 [(.t 3), (.t 2), (.t 1), (.t 0)], .none⟩,
 ⟨.tmp, .move (.t 0), .none⟩,
 ⟨.tmp, .ext (.t 0) 0, .none⟩,
 ⟨.tmp, .ext (.t 1) 1, .none⟩,
 ⟨(.var 3), .move (.t 1), .none⟩,
 ⟨(.var 14), .move (.t 0), .none⟩]) (
 .seq (.reg [⟨.tmp, .move (.v 14), .none⟩,
 ⟨(.var 12), .move (.t 0), .none⟩]) (
 .seq (.reg [⟨.tmp, .move (.v 3), .none⟩,
 ⟨.tmp, .move (.v 0), .none⟩,
 ⟨.tmp, .bin .sub (.t 1) (.t 0), .none⟩,
 ⟨.tmp, .move (.v 1), .none⟩,
 ⟨.tmp, .move (.v 3), .none⟩,
 ⟨.tmp, .bin .sub (.t 1) (.t 0), .none⟩,
 ⟨(.var 9), .move (.t 3), .none⟩,
 ⟨(.var 10), .move (.t 0), .none⟩]) (
 .seq (.reg [⟨.tmp, .move (.v 8), .none⟩,
 ⟨.tmp, .bin .quo (.t 0) (.c (.int .i64 (.ofNat 8))), .none⟩,
 ⟨(.var 11), .move (.t 0), .none⟩]) (
 .seq (.reg [⟨.tmp, .move (.v 9), .none⟩,
 ⟨.tmp, .move (.v 10), .none⟩,
 ⟨.tmp, .bin .lss (.t 1) (.t 0), .none⟩]) (
 .cond (.t 0) (
 .seq (.reg [⟨.tmp, .move (.v 9), .none⟩,
 ⟨.tmp, .move (.v 11), .none⟩,
 ⟨.tmp, .bin .geq (.t 1) (.t 0), .none⟩,
 ⟨(.var 6), .move (.t 0), .none⟩]) (
 .seq (.reg [⟨.tmp, .move (.v 2), .none⟩,
 ⟨.tmp, .move (.v 0), .none⟩,
 ⟨.tmp, .move (.v 3), .none⟩,
 ⟨.tmp, .move (.v 5), .none⟩,
 ⟨.tmp, .call 177 [(.t 3), (.t 2), (.t 1), (.t 0)], .none⟩]) (
 .reg [⟨.tmp, .move (.v 3), .none⟩,
 ⟨.tmp, .bin .add (.t 0) (.c (.int .i64 (.ofNat 1))), .none⟩,
 ⟨(.var 0), .move (.t 0), .none⟩]))) (
 .seq (.reg [⟨.tmp, .move (.v 10), .none⟩,
 ⟨.tmp, .move (.v 11), .none⟩,
 ⟨.tmp, .bin .geq (.t 1) (.t 0), .none⟩,
 ⟨(.var 6), .move (.t 0), .none⟩]) (
 .seq (.reg [⟨.tmp, .move (.v 2), .none⟩,
 ⟨.tmp, .move (.v 3), .none⟩,
 ⟨.tmp, .bin .add (.t 0) (.c (.int .i64 (.ofNat 1))), .none⟩,
 ⟨.tmp, .move (.v 1), .none⟩,
 ⟨.tmp, .move (.v 5), .none⟩,
 ⟨.tmp, .call 177 [(.t 4), (.t 2), (.t 1), (.t 0)], .none⟩]) (
 .reg [⟨.tmp, .move (.v 3), .none⟩,
 ⟨(.var 1), .move (.t 0), .none⟩])))))))))))))))))
def d177 : DF := ⟨[.some 1, .some 2, .some 0, .some 14, .some 11, .some 3, .some 8, .some 12, .some 10, .some 16, .some 17, .some 18, .some 9, .some 13, .some 15],
 .seq (.reg [⟨(.var 6), .move (.c (.bool true)), .none⟩]) (
 .seq (.reg [⟨(.var 12), .move (.c (.bool true)), .none⟩]) (
 .block 0 (
 .loop b177_0))),
 [], 15, .none⟩
/-- math/bits.Len -/
def vm178 : List Nat := [2, 0]

def d178 : DF := ⟨[.some 2, .some 0],
 .seq (.reg [⟨(.var 0), .move (.c (.int .i64 (.ofNat 0))), .none⟩]) (
 .seq (.cond (.c (.bool false)) (
 .seq (.reg [⟨.tmp, .move (.v 1), .none⟩,
 ⟨.tmp, .conv .u32 (.t 0), .none⟩,
 ⟨.tmp, .call 195 [(.t 0)], .none⟩,
 ⟨(.var 0), .move (.t 0), .none⟩]) (
 .ret)) (
 .skip)) (
 .seq (.reg [⟨.tmp, .move (.v 1), .none⟩,
 ⟨.tmp, .call 196 [(.t 0)], .none⟩,
 ⟨(.var 0), .move (.t 0), .none⟩]) (
 .ret))),
 [.opd (.v 0)], 2, .none⟩
/-- slices.Reverse[[]*telamon/scope.module,*telamon/scope.module] -/
def vm179 : List Nat := [2, 3, 0]
def b179_0 : DC :=
 .seq (.seq (.reg [⟨.tmp, .move (.v 0), .none⟩,
 ⟨.tmp, .move (.v 1), .none⟩,
 ⟨.tmp, .bin .lss (.t 1) (.t 0), .none⟩]) (
 .cond (.t 0) (
 .skip) (
 .exit 0))) (
 .seq (.block 1 (
 .reg [⟨.tmp, .move (.v 2), .none⟩,
 ⟨.tmp, .move (.v 0), .none⟩,
 ⟨.tmp, .move (.v 2), .none⟩,
 ⟨.tmp, .move (.v 1), .none⟩,
 ⟨.tmp, .move (.v 2), .none⟩,
 ⟨.tmp, .move (.v 1), .none⟩,
 ⟨.tmp, .idxS 1 (.t 1) (.t 0), .none⟩,
 ⟨.tmp, .load1 (.t 0), .none⟩,
 ⟨.tmp, .move (.v 2), .none⟩,
 ⟨.tmp, .move (.v 0), .none⟩,
 ⟨.tmp, .idxS 1 (.t 1) (.t 0), .none⟩,
 ⟨.tmp, .load1 (.t 0), .none⟩,
 ⟨.tmp, .idxS 1 (.t 11) (.t 10), .none⟩,
 ⟨.no, .store 1 (.t 0) (.t 5), .none⟩,
 ⟨.tmp, .idxS 1 (.t 10) (.t 9), .none⟩,
 ⟨.no, .store 1 (.t 0) (.t 2), .none⟩])) (
 .reg [⟨.tmp, .move (.v 0), .none⟩,
 ⟨.tmp, .bin .add (.t 0) (.c (.int .i64 (.ofNat 1))), .none⟩,
 ⟨.tmp, .move (.v 1), .none⟩,
 ⟨.tmp, .bin .sub (.t 0) (.c (.int .i64 (.ofNat 1))), .none⟩,
 ⟨(.var 0), .move (.t 2), .none⟩,
 ⟨(.var 1), .move (.t 0), .none⟩]))
def d179 : DF := ⟨[.some 2, .some 3, .some 0],
 .seq (.reg [⟨.tmp, .move (.v 2), .none⟩,
 ⟨.tmp, .len false (.t 0), .none⟩,
 ⟨.tmp, .bin .sub (.t 0) (.c (.int .i64 (.ofNat 1))), .none⟩,
 ⟨(.var 0), .move (.c (.int .i64 (.ofNat 0))), .none⟩,
 ⟨(.var 1), .move (.t 0), .none⟩]) (
 .block 0 (
 .loop b179_0)),
 [], 3, .none⟩
/-- internal/bytealg.hashStr[string] -/
def vm181 : List Nat := [5, 7, 8, 4, 6, 0, 2, 3]
def b181_0 : DC :=
 .seq (.seq (.reg [⟨.tmp, .move (.v 0), .none⟩,
 ⟨.tmp, .move (.v 5), .none⟩,
 ⟨.tmp, .len true (.t 0), .none⟩,
 ⟨.tmp, .bin .lss (.t 2) (.t 0), .none⟩]) (
 .cond (.t 0) (
 .skip) (
 .exit 0))) (
 .seq (.block 1 (
 .reg [⟨.tmp, .move (.v 3), .none⟩,
 ⟨.tmp, .bin .mul (.t 0) (.c (.int .u32 (.ofNat 16777619))), .none⟩,
 ⟨.tmp, .move (.v 5), .none⟩,
 ⟨.tmp, .move (.v 0), .none⟩,
 ⟨.tmp, .idxStr (.t 1) (.t 0), .none⟩,
 ⟨.tmp, .conv .u32 (.t 0), .none⟩,
 ⟨.tmp, .bin .add (.t 4) (.t 0), .none⟩,
 ⟨(.var 3), .move (.t 0), .none⟩])) (
 .reg [⟨.tmp, .move (.v 0), .none⟩,
 ⟨.tmp, .bin .add (.t 0) (.c (.int .i64 (.ofNat 1))), .none⟩,
 ⟨(.var 0), .move (.t 0), .none⟩]))
def b181_1 : DC :=
 .seq (.seq (.reg [⟨.tmp, .move (.v 2), .none⟩,
 ⟨.tmp, .bin .gtr (.t 0) (.c (.int .i64 (.ofNat 0))), .none⟩]) (
 .cond (.t 0) (
 .skip) (
 .exit 2))) (
 .seq (.block 3 (
 .seq (.seq (.reg [⟨.tmp, .move (.v 2), .none⟩,
 ⟨.tmp, .bin .and (.t 0) (.c (.int .i64 (.ofNat 1))), .none⟩,
 ⟨.tmp, .bin .neq (.t 0) (.c (.int .i64 (.ofNat 0))), .none⟩]) (
 .cond (.t 0) (
 .reg [⟨.tmp, .move (.v 4), .none⟩,
 ⟨.tmp, .move (.v 1), .none⟩,
 ⟨.tmp, .bin .mul (.t 1) (.t 0), .none⟩,
 ⟨(.var 4), .move (.t 0), .none⟩]) (
 .skip))) (
 .reg [⟨.tmp, .move (.v 1), .none⟩,
 ⟨.tmp, .move (.v 1), .none⟩,
 ⟨.tmp, .bin .mul (.t 1) (.t 0), .none⟩,
 ⟨(.var 1), .move (.t 0), .none⟩]))) (
 .reg [⟨.tmp, .move (.v 2), .none⟩,
 ⟨.tmp, .bin .shr (.t 0) (.c (.int .u64 (.ofNat 1))), .none⟩,
 ⟨(.var 2), .move (.t 0), .none⟩]))
def r181_2 : DC :=
 .seq (.reg [⟨.tmp, .move (.v 3), .none⟩,
 ⟨.tmp, .move (.v 4), .none⟩,
 ⟨(.var 6), .move (.t 1), .none⟩,
 ⟨(.var 7), .move (.t 0), .none⟩]) (
 .ret)
def r181_3 : DC :=
 .seq (.reg [⟨(.var 4), .move (.c (.int .u32 (.ofNat 1))), .none⟩,
 ⟨(.var 1), .move (.c (.int .u32 (.ofNat 16777619))), .none⟩]) (
 .seq (.seq (.reg [⟨.tmp, .move (.v 5), .none⟩,
 ⟨.tmp, .len true (.t 0), .none⟩,
 ⟨(.var 2), .move (.t 0), .none⟩]) (
 .block 2 (
 .loop b181_1))) r181_2)
def d181 : DF := ⟨[.some 5, .some 7, .some 8, .some 4, .some 6, .some 0, .some 2, .some 3],
 .seq (.reg [⟨(.var 6), .move (.c (.int .u32 (.ofNat 0))), .none⟩,
 ⟨(.var 7), .move (.c (.int .u32 (.ofNat 0))), .none⟩]) (
 .seq (.reg [⟨(.var 3), .move (.c (.int .u32 (.ofNat 0))), .none⟩]) (
 .seq (.seq (.reg [⟨(.var 0), .move (.c (.int .i64 (.ofNat 0))), .none⟩]) (
 .block 0 (
 .loop b181_0))) r181_3)),
 [.opd (.v 6), .opd (.v 7)], 8, .none⟩
/-- unicode/utf8.RuneCountInString -/
def vm182 : List Nat := [2, 4, 0]
def b182_0 : DC :=
 .seq (.reg [⟨.tmp, .nxtS (.v 1), .none⟩,
 ⟨.tmp, .ext (.t 0) 0, .none⟩]) (
 .seq (.cond (.t 0) (
 .skip) (
 .exit 0)) (
 .block 1 (
 .reg [⟨.tmp, .move (.v 0), .none⟩,
 ⟨.tmp, .bin .add (.t 0) (.c (.int .i64 (.ofNat 1))), .none⟩,
 ⟨(.var 0), .move (.t 0), .none⟩])))
def r182_1 : DC :=
 .seq (.reg [⟨.tmp, .move (.v 0), .none⟩,
 ⟨(.var 0), .move (.t 0), .none⟩]) (
 .ret)
def d182 : DF := ⟨[.some 2, .some 4, .some 0],
 .seq (.reg [⟨(.var 0), .move (.c (.int .i64 (.ofNat 0))), .none⟩]) (
 .seq (.seq (.reg [⟨.tmp, .move (.v 2), .none⟩,
 ⟨(.var 1), .rngS (.t 0), .none⟩]) (
 .block 0 (
 .loop b182_0))) r182_1),
 [.opd (.v 0)], 3, .none⟩
/-- unicode/utf8.DecodeRuneInString -/
def vm183 : List Nat := [0, 2, 3]

def d183 : DF := ⟨[.some 0, .some 2, .some 3],
 .seq (.reg [⟨(.var 1), .move (.c (.int .i32 (.ofNat 0))), .none⟩,
 ⟨(.var 2), .move (.c (.int .i64 (.ofNat 0))), .none⟩]) (
 .seq (.seq (.reg [⟨.tmp, .move (.v 0), .none⟩,
 ⟨.tmp, .bin .neq (.t 0) (.c (.str 0 0)), .none⟩,
 ⟨.tmp, .move (.t 0), .none⟩,
 ⟨.tmp, .move (.v 0), .some ((.t 0), true)⟩,
 ⟨.tmp, .idxStr (.t 0) (.c (.int .i64 (.ofNat 0))), .some ((.t 1), true)⟩,
 ⟨.tmp, .bin .lss (.t 0) (.c (.int .u8 (.ofNat 128))), .some ((.t 2), true)⟩,
 ⟨.tmp, .pick (.t 3) (.t 0) (.c (.bool false)), .none⟩]) (
 .cond (.t 0) (
 .seq (.reg [⟨.tmp, .move (.v 0), .none⟩,
 ⟨.tmp, .idxStr (.t 0) (.c (.int .i64 (.ofNat 0))), .none⟩,
 ⟨.tmp, .conv .i32 (.t 0), .none⟩,
 ⟨(.var 1), .move (.t 0), .none⟩,
 ⟨(.var 2), .move (.c (.int .i64 (.ofNat 1))), .none⟩]) (
 .ret)) (
 .reg [⟨.tmp, .move (.v 0), .none⟩,
 ⟨.tmp, .call 197 [(.t 0)], .none⟩,
 ⟨.tmp, .move (.t 0), .none⟩,
 ⟨.tmp, .ext (.t 0) 0, .none⟩,
 ⟨.tmp, .ext (.t 1) 1, .none⟩,
 ⟨(.var 1), .move (.t 1), .none⟩,
 ⟨(.var 2), .move (.t 0), .none⟩]))) (
 .ret)),
 [.opd (.v 1), .opd (.v 2)], 3, .none⟩
/-- internal/bytealg.LastIndexByteString -/
def vm185 : List Nat := [5, 4, 0, 1]
def b185_0 : DC :=
 .seq (.seq (.reg [⟨.tmp, .move (.v 0), .none⟩,
 ⟨.tmp, .bin .geq (.t 0) (.c (.int .i64 (.ofNat 0))), .none⟩]) (
 .cond (.t 0) (
 .skip) (
 .exit 0))) (
 .seq (.block 1 (
 .seq (.reg [⟨.tmp, .move (.v 2), .none⟩,
 ⟨.tmp, .move (.v 0), .none⟩,
 ⟨.tmp, .idxStr (.t 1) (.t 0), .none⟩,
 ⟨.tmp, .move (.v 3), .none⟩,
 ⟨.tmp, .bin .eql (.t 1) (.t 0), .none⟩]) (
 .cond (.t 0) (
 .seq (.reg [⟨.tmp, .move (.v 0), .none⟩,
 ⟨(.var 1), .move (.t 0), .none⟩]) (
 .ret)) (
 .skip)))) (
 .reg [⟨.tmp, .move (.v 0), .none⟩,
 ⟨.tmp, .bin .sub (.t 0) (.c (.int .i64 (.ofNat 1))), .none⟩,
 ⟨(.var 0), .move (.t 0), .none⟩]))
def r185_1 : DC :=
 .seq (.reg [⟨(.var 1), .move (.c (.int .i64 (.negSucc 0))), .none⟩]) (
 .ret)
def d185 : DF := ⟨[.some 5, .some 4, .some 0, .some 1],
 .seq (.reg [⟨(.var 1), .move (.c (.int .i64 (.ofNat 0))), .none⟩]) (
 .seq (.seq (.reg [⟨.tmp, .move (.v 2), .none⟩,
 ⟨.tmp, .len true (.t 0), .none⟩,
 ⟨.tmp, .bin .sub (.t 0) (.c (.int .i64 (.ofNat 1))), .none⟩,
 ⟨(.var 0), .move (.t 0), .none⟩]) (
 .block 0 (
 .loop b185_0))) r185_1),
 [.opd (.v 1)], 4, .none⟩
/-- slices.insertionSortOrdered[string] -/
def vm186 : List Nat := [7, 0, 1, 6, 2]
def b186_0 : DC :=
 .seq (.seq (.reg [⟨.tmp, .move (.v 0), .none⟩,
 ⟨.tmp, .move (.v 2), .none⟩,
 ⟨.tmp, .bin .gtr (.t 1) (.t 0), .none⟩,
 ⟨.tmp, .move (.t 0), .none⟩,
 ⟨.tmp, .move (.v 1), .some ((.t 0), true)⟩,
 ⟨.tmp, .move (.v 0), .some ((.t 1), true)⟩,
 ⟨.tmp, .idxS 1 (.t 1) (.t 0), .some ((.t 2), true)⟩,
 ⟨.tmp, .load1 (.t 0), .some ((.t 3), true)⟩,
 ⟨.tmp, .move (.v 1), .some ((.t 4), true)⟩,
 ⟨.tmp, .move (.v 0), .some ((.t 5), true)⟩,
 ⟨.tmp, .bin .sub (.t 0) (.c (.int .i64 (.ofNat 1))), .some ((.t 6), true)⟩,
 ⟨.tmp, .idxS 1 (.t 2) (.t 0), .some ((.t 7), true)⟩,
 ⟨.tmp, .load1 (.t 0), .some ((.t 8), true)⟩,
 ⟨.tmp, .call 192 [(.t 5), (.t 0)], .some ((.t 9), true)⟩,
 ⟨.tmp, .pick (.t 10) (.t 0) (.c (.bool false)), .none⟩]) (
 .cond (.t 0) (
 .skip) (
 .exit 2))) (
 .seq (.block 3 (
 .reg [⟨.tmp, .move (.v 1), .none⟩,
 ⟨.tmp, .move (.v 0), .none⟩,
 ⟨.tmp, .move (.v 1), .none⟩,
 ⟨.tmp, .move (.v 0), .none⟩,
 ⟨.tmp, .bin .sub (.t 0) (.c (.int .i64 (.ofNat 1))), .none⟩,
 ⟨.tmp, .move (.v 1), .none⟩,
 ⟨.tmp, .move (.v 0), .none⟩,
 ⟨.tmp, .bin .sub (.t 0) (.c (.int .i64 (.ofNat 1))), .none⟩,
 ⟨.tmp, .idxS 1 (.t 2) (.t 0), .none⟩,
 ⟨.tmp, .load1 (.t 0), .none⟩,
 ⟨.tmp, .move (.v 1), .none⟩,
 ⟨.tmp, .move (.v 0), .none⟩,
 ⟨.tmp, .idxS 1 (.t 1) (.t 0), .none⟩,
 ⟨.tmp, .load1 (.t 0), .none⟩,
 ⟨.tmp, .idxS 1 (.t 13) (.t 12), .none⟩,
 ⟨.no, .store 1 (.t 0) (.t 5), .none⟩,
 ⟨.tmp, .idxS 1 (.t 12) (.t 10), .none⟩,
 ⟨.no, .store 1 (.t 0) (.t 2), .none⟩])) (
 .reg [⟨.tmp, .move (.v 0), .none⟩,
 ⟨.tmp, .bin .sub (.t 0) (.c (.int .i64 (.ofNat 1))), .none⟩,
 ⟨(.var 0), .move (.t 0), .none⟩]))
def r186_1 : DC :=
 .reg [⟨.tmp, .move (.v 3), .none⟩,
 ⟨.tmp, .bin .add (.t 0) (.c (.int .i64 (.ofNat 1))), .none⟩,
 ⟨(.var 3), .move (.t 0), .none⟩]
def b186_2 : DC :=
 .seq (.seq (.reg [⟨.tmp, .move (.v 3), .none⟩,
 ⟨.tmp, .move (.v 4), .none⟩,
 ⟨.tmp, .bin .lss (.t 1) (.t 0), .none⟩]) (
 .cond (.t 0) (
 .skip) (
 .exit 0))) (
 .seq (.block 1 (
 .seq (.reg [⟨.tmp, .move (.v 3), .none⟩,
 ⟨(.var 0), .move (.t 0), .none⟩]) (
 .block 2 (
 .loop b186_0)))) r186_1)
def d186 : DF := ⟨[.some 7, .some 0, .some 1, .some 6, .some 2],
 .seq (.reg [⟨.tmp, .move (.v 2), .none⟩,
 ⟨.tmp, .bin .add (.t 0) (.c (.int .i64 (.ofNat 1))), .none⟩,
 ⟨(.var 3), .move (.t 0), .none⟩]) (
 .block 0 (
 .loop b186_2)),
 [], 5, .none⟩
/-- slices.heapSortOrdered[string] -/
def vm187 : List Nat := [6, 10, 0, 9, 8, 7, 1, 2]
def b187_0 : DC :=
 .seq (.seq (.reg [⟨.tmp, .move (.v 3), .none⟩,
 ⟨.tmp, .bin .geq (.t 0) (.c (.int .i64 (.ofNat 0))), .none⟩]) (
 .cond (.t 0) (
 .skip) (
 .exit 0))) (
 .seq (.block 1 (
 .reg [⟨.tmp, .move (.v 2), .none⟩,
 ⟨.tmp, .move (.v 3), .none⟩,
 ⟨.tmp, .move (.v 4), .none⟩,
 ⟨.tmp, .move (.v 0), .none⟩,
 ⟨.tmp, .call 198 [(.t 3), (.t 2), (.t 1), (.t 0)], .none⟩])) (
 .reg [⟨.tmp, .move (.v 3), .none⟩,
 ⟨.tmp, .bin .sub (.t 0) (.c (.int .i64 (.ofNat 1))), .none⟩,
 ⟨(.var 3), .move (.t 0), .none⟩]))
def b187_1 : DC :=
 .seq (.seq (.reg [⟨.tmp, .move (.v 1), .none⟩,
 ⟨.tmp, .bin .geq (.t 0) (.c (.int .i64 (.ofNat 0))), .none⟩]) (
 .cond (.t 0) (
 .skip) (
 .exit 2))) (
 .seq (.block 3 (
 .seq (.reg [⟨.tmp, .move (.v 2), .none⟩,
 ⟨.tmp, .move (.v 0), .none⟩,
 ⟨.tmp, .move (.v 2), .none⟩,
 ⟨.tmp, .move (.v 0), .none⟩,
 ⟨.tmp, .move (.v 1), .none⟩,
 ⟨.tmp, .bin .add (.t 1) (.t 0), .none⟩,
 ⟨.tmp, .move (.v 2), .none⟩,
 ⟨.tmp, .move (.v 0), .none⟩,
 ⟨.tmp, .move (.v 1), .none⟩,
 ⟨.tmp, .bin .add (.t 1) (.t 0), .none⟩,
 ⟨.tmp, .idxS 1 (.t 3) (.t 0), .none⟩,
 ⟨.tmp, .load1 (.t 0), .none⟩,
 ⟨.tmp, .move (.v 2), .none⟩,
 ⟨.tmp, .move (.v 0), .none⟩,
 ⟨.tmp, .idxS 1 (.t 1) (.t 0), .none⟩,
 ⟨.tmp, .load1 (.t 0), .none⟩,
 ⟨.tmp, .idxS 1 (.t 15) (.t 14), .none⟩,
 ⟨.no, .store 1 (.t 0) (.t 5), .none⟩,
 ⟨.tmp, .idxS 1 (.t 14) (.t 11), .none⟩,
 ⟨.no, .store 1 (.t 0) (.t 2), .none⟩]) (
 .reg [⟨.tmp, .move (.v 2), .none⟩,
 ⟨.tmp, .move (.v 5), .none⟩,
 ⟨.tmp, .move (.v 1), .none⟩,
 ⟨.tmp, .move (.v 0), .none⟩,
 ⟨.tmp, .call 198 [(.t 3), (.t 2), (.t 1), (.t 0)], .none⟩]))) (
 .reg [⟨.tmp, .move (.v 1), .none⟩,
 ⟨.tmp, .bin .sub (.t 0) (.c (.int .i64 (.ofNat 1))), .none⟩,
 ⟨(.var 1), .move (.t 0), .none⟩]))
def r187_2 : DC :=
 .seq (.reg [⟨.tmp, .move (.v 4), .none⟩,
 ⟨.tmp, .bin .sub (.t 0) (.c (.int .i64 (.ofNat 1))), .none⟩,
 ⟨(.var 1), .move (.t 0), .none⟩]) (
 .block 2 (
 .loop b187_1))
def d187 : DF := ⟨[.some 6, .some 10, .some 0, .some 9, .some 8, .some 7, .some 1, .some 2],
 .seq (.reg [⟨.tmp, .move (.v 6), .none⟩,
 ⟨(.var 0), .move (.t 0), .none⟩]) (
 .seq (.reg [⟨(.var 5), .move (.c (.int .i64 (.ofNat 0))), .none⟩]) (
 .seq (.reg [⟨.tmp, .move (.v 7), .none⟩,
 ⟨.tmp, .move (.v 6), .none⟩,
 ⟨.tmp, .bin .sub (.t 1) (.t 0), .none⟩,
 ⟨(.var 4), .move (.t 0), .none⟩]) (
 .seq (.seq (.reg [⟨.tmp, .move (.v 4), .none⟩,
 ⟨.tmp, .bin .sub (.t 0) (.c (.int .i64 (.ofNat 1))), .none⟩,
 ⟨.tmp, .bin .quo (.t 0) (.c (.int .i64 (.ofNat 2))), .none⟩,
 ⟨(.var 3), .move (.t 0), .none⟩]) (
 .block 0 (
 .loop b187_0))) r187_2))),
 [], 8, .none⟩
/-- slices.breakPatternsOrdered[string] -/
def vm188 : List Nat := [10, 9, 0, 6, 1, 7, 8, 2]
def b188_0 : DC :=
 .seq (.seq (.reg [⟨.tmp, .move (.v 1), .none⟩,
 ⟨.tmp, .move (.v 4), .none⟩,
 ⟨.tmp, .move (.v 3), .none⟩,
 ⟨.tmp, .bin .quo (.t 0) (.c (.int .i64 (.ofNat 4))), .none⟩,
 ⟨.tmp, .bin .mul (.t 0) (.c (.int .i64 (.ofNat 2))), .none⟩,
 ⟨.tmp, .bin .add (.t 3) (.t 0), .none⟩,
 ⟨.tmp, .bin .add (.t 0) (.c (.int .i64 (.ofNat 1))), .none⟩,
 ⟨.tmp, .bin .leq (.t 6) (.t 0), .none⟩]) (
 .cond (.t 0) (
 .skip) (
 .exit 0))) (
 .seq (.block 1 (
 .seq (.reg [⟨.tmp, .call 200 [(.v 5)], .none⟩,
 ⟨.tmp, .move (.v 6), .none⟩,
 ⟨.tmp, .bin .sub (.t 0) (.c (.int .u64 (.ofNat 1))), .none⟩,
 ⟨.tmp, .bin .and (.t 2) (.t 0), .none⟩,
 ⟨.tmp, .conv .i64 (.t 0), .none⟩,
 ⟨(.var 0), .move (.t 0), .none⟩]) (
 .seq (.seq (.reg [⟨.tmp, .move (.v 0), .none⟩,
 ⟨.tmp, .move (.v 3), .none⟩,
 ⟨.tmp, .bin .geq (.t 1) (.t 0), .none⟩]) (
 .cond (.t 0) (
 .reg [⟨.tmp, .move (.v 0), .none⟩,
 ⟨.tmp, .move (.v 3), .none⟩,
 ⟨.tmp, .bin .sub (.t 1) (.t 0), .none⟩,
 ⟨(.var 0), .move (.t 0), .none⟩]) (
 .skip))) (
 .reg [⟨.tmp, .move (.v 2), .none⟩,
 ⟨.tmp, .move (.v 1), .none⟩,
 ⟨.tmp, .move (.v 2), .none⟩,
 ⟨.tmp, .move (.v 4), .none⟩,
 ⟨.tmp, .move (.v 0), .none⟩,
 ⟨.tmp, .bin .add (.t 1) (.t 0), .none⟩,
 ⟨.tmp, .move (.v 2), .none⟩,
 ⟨.tmp, .move (.v 4), .none⟩,
 ⟨.tmp, .move (.v 0), .none⟩,
 ⟨.tmp, .bin .add (.t 1) (.t 0), .none⟩,
 ⟨.tmp, .idxS 1 (.t 3) (.t 0), .none⟩,
 ⟨.tmp, .load1 (.t 0), .none⟩,
 ⟨.tmp, .move (.v 2), .none⟩,
 ⟨.tmp, .move (.v 1), .none⟩,
 ⟨.tmp, .idxS 1 (.t 1) (.t 0), .none⟩,
 ⟨.tmp, .load1 (.t 0), .none⟩,
 ⟨.tmp, .idxS 1 (.t 15) (.t 14), .none⟩,
 ⟨.no, .store 1 (.t 0) (.t 5), .none⟩,
 ⟨.tmp, .idxS 1 (.t 14) (.t 11), .none⟩,
 ⟨.no, .store 1 (.t 0) (.t 2), .none⟩])))) (
 .reg [⟨.tmp, .move (.v 1), .none⟩,
 ⟨.tmp, .bin .add (.t 0) (.c (.int .i64 (.ofNat 1))), .none⟩,
 ⟨(.var 1), .move (.t 0), .none⟩]))
def d188 : DF := ⟨[.some 10, .some 9, .some 0, .some 6, .some 1, .some 7, .some 8, .some 2],
 .seq (.reg [⟨.tmp, .move (.v 7), .none⟩,
 ⟨.tmp, .move (.v 4), .none⟩,
 ⟨.tmp, .bin .sub (.t 1) (.t 0), .none⟩,
 ⟨(.var 3), .move (.t 0), .none⟩]) (
 .seq (.reg [⟨.tmp, .move (.v 3), .none⟩,
 ⟨.tmp, .bin .geq (.t 0) (.c (.int .i64 (.ofNat 8))), .none⟩]) (
 .cond (.t 0) (
 .seq (.reg [⟨.tmp, .move (.v 3), .none⟩,
 ⟨.tmp, .conv .u64 (.t 0), .none⟩,
 ⟨(.var 5), .alloc [.int .u64 (.ofNat 0)], .none⟩,
 ⟨.no, .store 1 (.v 5) (.t 0), .none⟩]) (
 .seq (.reg [⟨.tmp, .move (.v 3), .none⟩,
 ⟨.tmp, .call 199 [(.t 0)], .none⟩,
 ⟨(.var 6), .move (.t 0), .none⟩]) (
 .seq (.reg [⟨.tmp, .move (.v 4), .none⟩,
 ⟨.tmp, .move (.v 3), .none⟩,
 ⟨.tmp, .bin .quo (.t 0) (.c (.int .i64 (.ofNat 4))), .none⟩,
 ⟨.tmp, .bin .mul (.t 0) (.c (.int .i64 (.ofNat 2))), .none⟩,
 ⟨.tmp, .bin .add (.t 3) (.t 0), .none⟩,
 ⟨.tmp, .bin .sub (.t 0) (.c (.int .i64 (.ofNat 1))), .none⟩,
 ⟨(.var 1), .move (.t 0), .none⟩]) (
 .block 0 (
 .loop b188_0))))) (
 .skip))),
 [], 8, .none⟩
/-- slices.choosePivotOrdered[string] -/
def vm189 : List Nat := [11, 8, 9, 0, 1, 6, 7, 10, 12, 49, 2]

def d189 : DF := ⟨[.some 11, .some 8, .some 9, .some 0, .some 1, .some 6, .some 7, .some 10, .some 12, .some 49, .some 2],
 .seq (.reg [⟨(.var 5), .move (.c (.int .i64 (.ofNat 0))), .none⟩,
 ⟨(.var 6), .move (.c (.int .i64 (.ofNat 0))), .none⟩]) (
 .seq (.reg [⟨.tmp, .move (.v 10), .none⟩,
 ⟨.tmp, .move (.v 4), .none⟩,
 ⟨.tmp, .bin .sub (.t 1) (.t 0), .none⟩,
 ⟨(.var 1), .move (.t 0), .none⟩]) (
 .seq (.reg [⟨(.var 2), .alloc [.int .i64 (.ofNat 0)], .none⟩]) (
 .seq (.reg [⟨.tmp, .move (.v 4), .none⟩,
 ⟨.tmp, .move (.v 1), .none⟩,
 ⟨.tmp, .bin .quo (.t 0) (.c (.int .i64 (.ofNat 4))), .none⟩,
 ⟨.tmp, .bin .mul (.t 0) (.c (.int .i64 (.ofNat 1))), .none⟩,
 ⟨.tmp, .bin .add (.t 3) (.t 0), .none⟩,
 ⟨(.var 7), .move (.t 0), .none⟩]) (
 .seq (.reg [⟨.tmp, .move (.v 4), .none⟩,
 ⟨.tmp, .move (.v 1), .none⟩,
 ⟨.tmp, .bin .quo (.t 0) (.c (.int .i64 (.ofNat 4))), .none⟩,
 ⟨.tmp, .bin .mul (.t 0) (.c (.int .i64 (.ofNat 2))), .none⟩,
 ⟨.tmp, .bin .add (.t 3) (.t 0), .none⟩,
 ⟨(.var 0), .move (.t 0), .none⟩]) (
 .seq (.reg [⟨.tmp, .move (.v 4), .none⟩,
 ⟨.tmp, .move (.v 1), .none⟩,
 ⟨.tmp, .bin .quo (.t 0) (.c (.int .i64 (.ofNat 4))), .none⟩,
 ⟨.tmp, .bin .mul (.t 0) (.c (.int .i64 (.ofNat 3))), .none⟩,
 ⟨.tmp, .bin .add (.t 3) (.t 0), .none⟩,
 ⟨(.var 8), .move (.t 0), .none⟩]) (
 .seq (.seq (.reg [⟨.tmp, .move (.v 1), .none⟩,
 ⟨.tmp, .bin .geq (.t 0) (.c (.int .i64 (.ofNat 8))), .none⟩]) (
 .cond (.t 0) (
 .seq (.seq (.reg [⟨.tmp, .move (.v 1), .none⟩,
 ⟨.tmp, .bin .geq (.t 0) (.c (.int .i64 (.ofNat 50))), .none⟩]) (
 .cond (.t 0) (
 .seq (.reg [⟨.tmp, .move (.v 3), .none⟩,
 ⟨.tmp, .move (.v 7), .none⟩,
 ⟨.tmp, .call 201 [(.t 1), (.t 0), (.v 2)], .none⟩,
 ⟨(.var 7), .move (.t 0), .none⟩]) (
 .seq (.reg [⟨.tmp, .move (.v 3), .none⟩,
 ⟨.tmp, .move (.v 0), .none⟩,
 ⟨.tmp, .call 201 [(.t 1), (.t 0), (.v 2)], .none⟩,
 ⟨(.var 0), .move (.t 0), .none⟩]) (
 .reg [⟨.tmp, .move (.v 3), .none⟩,
 ⟨.tmp, .move (.v 8), .none⟩,
 ⟨.tmp, .call 201 [(.t 1), (.t 0), (.v 2)], .none⟩,
 ⟨(.var 8), .move (.t 0), .none⟩]))) (
 .skip))) (
 .reg [⟨.tmp, .move (.v 3), .none⟩,
 ⟨.tmp, .move (.v 7), .none⟩,
 ⟨.tmp, .move (.v 0), .none⟩,
 ⟨.tmp, .move (.v 8), .none⟩,
 ⟨.tmp, .call 202 [(.t 3), (.t 2), (.t 1), (.t 0), (.v 2)], .none⟩,
 ⟨(.var 0), .move (.t 0), .none⟩])) (
 .skip))) (
 .seq (.reg [⟨(.var 9), .load1 (.v 2), .none⟩]) (
 .block 0 (
 .seq (.reg [⟨.tmp, .bin .eql (.v 9) (.c (.int .i64 (.ofNat 0))), .none⟩,
 ⟨.tmp, .move (.t 0), .none⟩]) (
 .cond (.t 0) (
 .seq (.reg [⟨.tmp, .move (.v 0), .none⟩,
 ⟨(.var 5), .move (.t 0), .none⟩,
 ⟨(.var 6), .move (.c (.int .i64 (.ofNat 1))), .none⟩]) (
 .ret)) (
 .seq (.reg [⟨.tmp, .bin .eql (.v 9) (.c (.int .i64 (.ofNat 12))), .none⟩,
 ⟨.tmp, .move (.t 0), .none⟩]) (
 .cond (.t 0) (
 .seq (.reg [⟨.tmp, .move (.v 0), .none⟩,
 ⟨(.var 5), .move (.t 0), .none⟩,
 ⟨(.var 6), .move (.c (.int .i64 (.ofNat 2))), .none⟩]) (
 .ret)) (
 .seq (.reg [⟨.tmp, .move (.v 0), .none⟩,
 ⟨(.var 5), .move (.t 0), .none⟩,
 ⟨(.var 6), .move (.c (.int .i64 (.ofNat 0))), .none⟩]) (
 .ret)))))))))))))),
 [.opd (.v 5), .opd (.v 6)], 11, .none⟩
/-- slices.reverseRangeOrdered[string] -/
def vm190 : List Nat := [6, 7, 0, 1, 2]
def b190_0 : DC :=
 .seq (.seq (.reg [⟨.tmp, .move (.v 0), .none⟩,
 ⟨.tmp, .move (.v 1), .none⟩,
 ⟨.tmp, .bin .lss (.t 1) (.t 0), .none⟩]) (
 .cond (.t 0) (
 .skip) (
 .exit 0))) (
 .block 1 (
 .seq (.reg [⟨.tmp, .move (.v 2), .none⟩,
 ⟨.tmp, .move (.v 0), .none⟩,
 ⟨.tmp, .move (.v 2), .none⟩,
 ⟨.tmp, .move (.v 1), .none⟩,
 ⟨.tmp, .move (.v 2), .none⟩,
 ⟨.tmp, .move (.v 1), .none⟩,
 ⟨.tmp, .idxS 1 (.t 1) (.t 0), .none⟩,
 ⟨.tmp, .load1 (.t 0), .none⟩,
 ⟨.tmp, .move (.v 2), .none⟩,
 ⟨.tmp, .move (.v 0), .none⟩,
 ⟨.tmp, .idxS 1 (.t 1) (.t 0), .none⟩,
 ⟨.tmp, .load1 (.t 0), .none⟩,
 ⟨.tmp, .idxS 1 (.t 11) (.t 10), .none⟩,
 ⟨.no, .store 1 (.t 0) (.t 5), .none⟩,
 ⟨.tmp, .idxS 1 (.t 10) (.t 9), .none⟩,
 ⟨.no, .store 1 (.t 0) (.t 2), .none⟩]) (
 .seq (.reg [⟨.tmp, .move (.v 0), .none⟩,
 ⟨.tmp, .bin .add (.t 0) (.c (.int .i64 (.ofNat 1))), .none⟩,
 ⟨(.var 0), .move (.t 0), .none⟩]) (
 .reg [⟨.tmp, .move (.v 1), .none⟩,
 ⟨.tmp, .bin .sub (.t 0) (.c (.int .i64 (.ofNat 1))), .none⟩,
 ⟨(.var 1), .move (.t 0), .none⟩]))))
def d190 : DF := ⟨[.some 6, .some 7, .some 0, .some 1, .some 2],
 .seq (.reg [⟨.tmp, .move (.v 3), .none⟩,
 ⟨(.var 0), .move (.t 0), .none⟩]) (
 .seq (.reg [⟨.tmp, .move (.v 4), .none⟩,
 ⟨.tmp, .bin .sub (.t 0) (.c (.int .i64 (.ofNat 1))), .none⟩,
 ⟨(.var 1), .move (.t 0), .none⟩]) (
 .block 0 (
 .loop b190_0))),
 [], 5, .none⟩
/-- slices.partialInsertionSortOrdered[string] -/
def vm191 : List Nat := [0, 9, 10, 7, 2, 8, 6, 1]
def b191_0 : DC :=
 .seq (.seq (.reg [⟨.tmp, .move (.v 3), .none⟩,
 ⟨.tmp, .move (.v 4), .none⟩,
 ⟨.tmp, .bin .lss (.t 1) (.t 0), .none⟩,
 ⟨.tmp, .move (.t 0), .none⟩,
 ⟨.tmp, .move (.v 0), .some ((.t 0), true)⟩,
 ⟨.tmp, .move (.v 3), .some ((.t 1), true)⟩,
 ⟨.tmp, .idxS 1 (.t 1) (.t 0), .some ((.t 2), true)⟩,
 ⟨.tmp, .load1 (.t 0), .some ((.t 3), true)⟩,
 ⟨.tmp, .move (.v 0), .some ((.t 4), true)⟩,
 ⟨.tmp, .move (.v 3), .some ((.t 5), true)⟩,
 ⟨.tmp, .bin .sub (.t 0) (.c (.int .i64 (.ofNat 1))), .some ((.t 6), true)⟩,
 ⟨.tmp, .idxS 1 (.t 2) (.t 0), .some ((.t 7), true)⟩,
 ⟨.tmp, .load1 (.t 0), .some ((.t 8), true)⟩,
 ⟨.tmp, .call 192 [(.t 5), (.t 0)], .some ((.t 9), true)⟩,
 ⟨.tmp, .not (.t 0), .some ((.t 10), true)⟩,
 ⟨.tmp, .pick (.t 11) (.t 0) (.c (.bool false)), .none⟩]) (
 .cond (.t 0) (
 .skip) (
 .exit 2))) (
 .block 3 (
 .reg [⟨.tmp, .move (.v 3), .none⟩,
 ⟨.tmp, .bin .add (.t 0) (.c (.int .i64 (.ofNat 1))), .none⟩,
 ⟨(.var 3), .move (.t 0), .none⟩]))
def b191_1 : DC :=
 .seq (.seq (.reg [⟨.tmp, .move (.v 1), .none⟩,
 ⟨.tmp, .bin .geq (.t 0) (.c (.int .i64 (.ofNat 1))), .none⟩]) (
 .cond (.t 0) (
 .skip) (
 .exit 4))) (
 .seq (.block 5 (
 .seq (.seq (.reg [⟨.tmp, .move (.v 0), .none⟩,
 ⟨.tmp, .move (.v 1), .none⟩,
 ⟨.tmp, .idxS 1 (.t 1) (.t 0), .none⟩,
 ⟨.tmp, .load1 (.t 0), .none⟩,
 ⟨.tmp, .move (.v 0), .none⟩,
 ⟨.tmp, .move (.v 1), .none⟩,
 ⟨.tmp, .bin .sub (.t 0) (.c (.int .i64 (.ofNat 1))), .none⟩,
 ⟨.tmp, .idxS 1 (.t 2) (.t 0), .none⟩,
 ⟨.tmp, .load1 (.t 0), .none⟩,
 ⟨.tmp, .call 192 [(.t 5), (.t 0)], .none⟩,
 ⟨.tmp, .not (.t 0), .none⟩]) (
 .cond (.t 0) (
 .exit 4) (
 .skip))) (
 .reg [⟨.tmp, .move (.v 0), .none⟩,
 ⟨.tmp, .move (.v 1), .none⟩,
 ⟨.tmp, .move (.v 0), .none⟩,
 ⟨.tmp, .move (.v 1), .none⟩,
 ⟨.tmp, .bin .sub (.t 0) (.c (.int .i64 (.ofNat 1))), .none⟩,
 ⟨.tmp, .move (.v 0), .none⟩,
 ⟨.tmp, .move (.v 1), .none⟩,
 ⟨.tmp, .bin .sub (.t 0) (.c (.int .i64 (.ofNat 1))), .none⟩,
 ⟨.tmp, .idxS 1 (.t 2) (.t 0), .none⟩,
 ⟨.tmp, .load1 (.t 0), .none⟩,
 ⟨.tmp, .move (.v 0), .none⟩,
 ⟨.tmp, .move (.v 1), .none⟩,
 ⟨.tmp, .idxS 1 (.t 1) (.t 0), .none⟩,
 ⟨.tmp, .load1 (.t 0), .none⟩,
 ⟨.tmp, .idxS 1 (.t 13) (.t 12), .none⟩,
 ⟨.no, .store 1 (.t 0) (.t 5), .none⟩,
 ⟨.tmp, .idxS 1 (.t 12) (.t 10), .none⟩,
 ⟨.no, .store 1 (.t 0) (.t 2), .none⟩]))) (
 .reg [⟨.tmp, .move (.v 1), .none⟩,
 ⟨.tmp, .bin .sub (.t 0) (.c (.int .i64 (.ofNat 1))), .none⟩,
 ⟨(.var 1), .move (.t 0), .none⟩]))
def b191_2 : DC :=
 .seq (.seq (.reg [⟨.tmp, .move (.v 2), .none⟩,
 ⟨.tmp, .move (.v 4), .none⟩,
 ⟨.tmp, .bin .lss (.t 1) (.t 0), .none⟩]) (
 .cond (.t 0) (
 .skip) (
 .exit 6))) (
 .seq (.block 7 (
 .seq (.seq (.reg [⟨.tmp, .move (.v 0), .none⟩,
 ⟨.tmp, .move (.v 2), .none⟩,
 ⟨.tmp, .idxS 1 (.t 1) (.t 0), .none⟩,
 ⟨.tmp, .load1 (.t 0), .none⟩,
 ⟨.tmp, .move (.v 0), .none⟩,
 ⟨.tmp, .move (.v 2), .none⟩,
 ⟨.tmp, .bin .sub (.t 0) (.c (.int .i64 (.ofNat 1))), .none⟩,
 ⟨.tmp, .idxS 1 (.t 2) (.t 0), .none⟩,
 ⟨.tmp, .load1 (.t 0), .none⟩,
 ⟨.tmp, .call 192 [(.t 5), (.t 0)], .none⟩,
 ⟨.tmp, .not (.t 0), .none⟩]) (
 .cond (.t 0) (
 .exit 6) (
 .skip))) (
 .reg [⟨.tmp, .move (.v 0), .none⟩,
 ⟨.tmp, .move (.v 2), .none⟩,
 ⟨.tmp, .move (.v 0), .none⟩,
 ⟨.tmp, .move (.v 2), .none⟩,
 ⟨.tmp, .bin .sub (.t 0) (.c (.int .i64 (.ofNat 1))), .none⟩,
 ⟨.tmp, .move (.v 0), .none⟩,
 ⟨.tmp, .move (.v 2), .none⟩,
 ⟨.tmp, .bin .sub (.t 0) (.c (.int .i64 (.ofNat 1))), .none⟩,
 ⟨.tmp, .idxS 1 (.t 2) (.t 0), .none⟩,
 ⟨.tmp, .load1 (.t 0), .none⟩,
 ⟨.tmp, .move (.v 0), .none⟩,
 ⟨.tmp, .move (.v 2), .none⟩,
 ⟨.tmp, .idxS 1 (.t 1) (.t 0), .none⟩,
 ⟨.tmp, .load1 (.t 0), .none⟩,
 ⟨.tmp, .idxS 1 (.t 13) (.t 12), .none⟩,
 ⟨.no, .store 1 (.t 0) (.t 5), .none⟩,
 ⟨.tmp, .idxS 1 (.t 12) (.t 10), .none⟩,
 ⟨.no, .store 1 (.t 0) (.t 2), .none⟩]))) (
 .reg [⟨.tmp, .move (.v 2), .none⟩,
 ⟨.tmp, .bin .add (.t 0) (.c (.int .i64 (.ofNat 1))), .none⟩,
 ⟨(.var 2), .move (.t 0), .none⟩]))
def r191_3 : DC :=
 .seq (.reg [⟨.tmp, .move (.v 4), .none⟩,
 ⟨.tmp, .move (.v 3), .none⟩,
 ⟨.tmp, .bin .sub (.t 1) (.t 0), .none⟩,
 ⟨.tmp, .bin .geq (.t 0) (.c (.int .i64 (.ofNat 2))), .none⟩]) (
 .cond (.t 0) (
 .seq (.reg [⟨.tmp, .move (.v 3), .none⟩,
 ⟨.tmp, .bin .add (.t 0) (.c (.int .i64 (.ofNat 1))), .none⟩,
 ⟨(.var 2), .move (.t 0), .none⟩]) (
 .block 6 (
 .loop b191_2))) (
 .skip))
def r191_4 : DC :=
 .seq (.seq (.reg [⟨.tmp, .move (.v 3), .none⟩,
 ⟨.tmp, .move (.v 4), .none⟩,
 ⟨.tmp, .bin .eql (.t 1) (.t 0), .none⟩]) (
 .cond (.t 0) (
 .seq (.reg [⟨(.var 6), .move (.c (.bool true)), .none⟩]) (
 .ret)) (
 .skip))) (
 .seq (.seq (.reg [⟨.tmp, .move (.v 4), .none⟩,
 ⟨.tmp, .move (.v 7), .none⟩,
 ⟨.tmp, .bin .sub (.t 1) (.t 0), .none⟩,
 ⟨.tmp, .bin .lss (.t 0) (.c (.int .i64 (.ofNat 50))), .none⟩]) (
 .cond (.t 0) (
 .seq (.reg [⟨(.var 6), .move (.c (.bool false)), .none⟩]) (
 .ret)) (
 .skip))) (
 .seq (.reg [⟨.tmp, .move (.v 0), .none⟩,
 ⟨.tmp, .move (.v 3), .none⟩,
 ⟨.tmp, .move (.v 0), .none⟩,
 ⟨.tmp, .move (.v 3), .none⟩,
 ⟨.tmp, .bin .sub (.t 0) (.c (.int .i64 (.ofNat 1))), .none⟩,
 ⟨.tmp, .move (.v 0), .none⟩,
 ⟨.tmp, .move (.v 3), .none⟩,
 ⟨.tmp, .bin .sub (.t 0) (.c (.int .i64 (.ofNat 1))), .none⟩,
 ⟨.tmp, .idxS 1 (.t 2) (.t 0), .none⟩,
 ⟨.tmp, .load1 (.t 0), .none⟩,
 ⟨.tmp, .move (.v 0), .none⟩,
 ⟨.tmp, .move (.v 3), .none⟩,
 ⟨.tmp, .idxS 1 (.t 1) (.t 0), .none⟩,
 ⟨.tmp, .load1 (.t 0), .none⟩,
 ⟨.tmp, .idxS 1 (.t 13) (.t 12), .none⟩,
 ⟨.no, .store 1 (.t 0) (.t 5), .none⟩,
 ⟨.tmp, .idxS 1 (.t 12) (.t 10), .none⟩,
 ⟨.no, .store 1 (.t 0) (.t 2), .none⟩]) (
 .seq (.seq (.reg [⟨.tmp, .move (.v 3), .none⟩,
 ⟨.tmp, .move (.v 7), .none⟩,
 ⟨.tmp, .bin .sub (.t 1) (.t 0), .none⟩,
 ⟨.tmp, .bin .geq (.t 0) (.c (.int .i64 (.ofNat 2))), .none⟩]) (
 .cond (.t 0) (
 .seq (.reg [⟨.tmp, .move (.v 3), .none⟩,
 ⟨.tmp, .bin .sub (.t 0) (.c (.int .i64 (.ofNat 1))), .none⟩,
 ⟨(.var 1), .move (.t 0), .none⟩]) (
 .block 4 (
 .loop b191_1))) (
 .skip))) r191_3)))
def r191_5 : DC :=
 .reg [⟨.tmp, .move (.v 5), .none⟩,
 ⟨.tmp, .bin .add (.t 0) (.c (.int .i64 (.ofNat 1))), .none⟩,
 ⟨(.var 5), .move (.t 0), .none⟩]
def b191_6 : DC :=
 .seq (.seq (.reg [⟨.tmp, .move (.v 5), .none⟩,
 ⟨.tmp, .bin .lss (.t 0) (.c (.int .i64 (.ofNat 5))), .none⟩]) (
 .cond (.t 0) (
 .skip) (
 .exit 0))) (
 .seq (.block 1 (
 .seq (.block 2 (
 .loop b191_0)) r191_4)) r191_5)
def r191_7 : DC :=
 .seq (.reg [⟨(.var 6), .move (.c (.bool false)), .none⟩]) (
 .ret)
def d191 : DF := ⟨[.some 0, .some 9, .some 10, .some 7, .some 2, .some 8, .some 6, .some 1],
 .seq (.reg [⟨(.var 6), .move (.c (.bool false)), .none⟩]) (
 .seq (.reg [⟨.tmp, .move (.v 7), .none⟩,
 ⟨.tmp, .bin .add (.t 0) (.c (.int .i64 (.ofNat 1))), .none⟩,
 ⟨(.var 3), .move (.t 0), .none⟩]) (
 .seq (.seq (.reg [⟨(.var 5), .move (.c (.int .i64 (.ofNat 0))), .none⟩]) (
 .block 0 (
 .loop b191_6))) r191_7)),
 [.opd (.v 6)], 8, .none⟩
/-- cmp.Less[string] -/
def vm192 : List Nat := [0, 1, 4]

def d192 : DF := ⟨[.some 0, .some 1, .some 4],
 .seq (.reg [⟨(.var 2), .move (.c (.bool false)), .none⟩]) (
 .seq (.reg [⟨.tmp, .move (.v 0), .none⟩,
 ⟨.tmp, .call 203 [(.t 0)], .none⟩,
 ⟨.tmp, .move (.t 0), .none⟩,
 ⟨.tmp, .move (.v 1), .some ((.t 0), true)⟩,
 ⟨.tmp, .call 203 [(.t 0)], .some ((.t 1), true)⟩,
 ⟨.tmp, .not (.t 0), .some ((.t 2), true)⟩,
 ⟨.tmp, .pick (.t 3) (.t 0) (.c (.bool false)), .none⟩,
 ⟨.tmp, .move (.t 0), .none⟩,
 ⟨.tmp, .move (.v 0), .some ((.t 0), false)⟩,
 ⟨.tmp, .move (.v 1), .some ((.t 1), false)⟩,
 ⟨.tmp, .bin .lss (.t 1) (.t 0), .some ((.t 2), false)⟩,
 ⟨.tmp, .pick (.t 3) (.c (.bool true)) (.t 0), .none⟩,
 ⟨(.var 2), .move (.t 0), .none⟩]) (
 .ret)),
 [.opd (.v 2)], 3, .none⟩
/-- slices.partitionEqualOrdered[string] -/
def vm193 : List Nat := [9, 10, 0, 1, 3, 8, 2]
def b193_0 : DC :=
 .seq (.seq (.reg [⟨.tmp, .move (.v 0), .none⟩,
 ⟨.tmp, .move (.v 1), .none⟩,
 ⟨.tmp, .bin .leq (.t 1) (.t 0), .none⟩,
 ⟨.tmp, .move (.t 0), .none⟩,
 ⟨.tmp, .move (.v 2), .some ((.t 0), true)⟩,
 ⟨.tmp, .move (.v 3), .some ((.t 1), true)⟩,
 ⟨.tmp, .idxS 1 (.t 1) (.t 0), .some ((.t 2), true)⟩,
 ⟨.tmp, .load1 (.t 0), .some ((.t 3), true)⟩,
 ⟨.tmp, .move (.v 2), .some ((.t 4), true)⟩,
 ⟨.tmp, .move (.v 0), .some ((.t 5), true)⟩,
 ⟨.tmp, .idxS 1 (.t 1) (.t 0), .some ((.t 6), true)⟩,
 ⟨.tmp, .load1 (.t 0), .some ((.t 7), true)⟩,
 ⟨.tmp, .call 192 [(.t 4), (.t 0)], .some ((.t 8), true)⟩,
 ⟨.tmp, .not (.t 0), .some ((.t 9), true)⟩,
 ⟨.tmp, .pick (.t 10) (.t 0) (.c (.bool false)), .none⟩]) (
 .cond (.t 0) (
 .skip) (
 .exit 2))) (
 .block 3 (
 .reg [⟨.tmp, .move (.v 0), .none⟩,
 ⟨.tmp, .bin .add (.t 0) (.c (.int .i64 (.ofNat 1))), .none⟩,
 ⟨(.var 0), .move (.t 0), .none⟩]))
def b193_1 : DC :=
 .seq (.seq (.reg [⟨.tmp, .move (.v 0), .none⟩,
 ⟨.tmp, .move (.v 1), .none⟩,
 ⟨.tmp, .bin .leq (.t 1) (.t 0), .none⟩,
 ⟨.tmp, .move (.t 0), .none⟩,
 ⟨.tmp, .move (.v 2), .some ((.t 0), true)⟩,
 ⟨.tmp, .move (.v 3), .some ((.t 1), true)⟩,
 ⟨.tmp, .idxS 1 (.t 1) (.t 0), .some ((.t 2), true)⟩,
 ⟨.tmp, .load1 (.t 0), .some ((.t 3), true)⟩,
 ⟨.tmp, .move (.v 2), .some ((.t 4), true)⟩,
 ⟨.tmp, .move (.v 1), .some ((.t 5), true)⟩,
 ⟨.tmp, .idxS 1 (.t 1) (.t 0), .some ((.t 6), true)⟩,
 ⟨.tmp, .load1 (.t 0), .some ((.t 7), true)⟩,
 ⟨.tmp, .call 192 [(.t 4), (.t 0)], .some ((.t 8), true)⟩,
 ⟨.tmp, .pick (.t 9) (.t 0) (.c (.bool false)), .none⟩]) (
 .cond (.t 0) (
 .skip) (
 .exit 4))) (
 .block 5 (
 .reg [⟨.tmp, .move (.v 1), .none⟩,
 ⟨.tmp, .bin .sub (.t 0) (.c (.int .i64 (.ofNat 1))), .none⟩,
 ⟨(.var 1), .move (.t 0), .none⟩]))
def r193_2 : DC :=
 .seq (.seq (.reg [⟨.tmp, .move (.v 0), .none⟩,
 ⟨.tmp, .move (.v 1), .none⟩,
 ⟨.tmp, .bin .gtr (.t 1) (.t 0), .none⟩]) (
 .cond (.t 0) (
 .exit 0) (
 .skip))) (
 .seq (.reg [⟨.tmp, .move (.v 2), .none⟩,
 ⟨.tmp, .move (.v 0), .none⟩,
 ⟨.tmp, .move (.v 2), .none⟩,
 ⟨.tmp, .move (.v 1), .none⟩,
 ⟨.tmp, .move (.v 2), .none⟩,
 ⟨.tmp, .move (.v 1), .none⟩,
 ⟨.tmp, .idxS 1 (.t 1) (.t 0), .none⟩,
 ⟨.tmp, .load1 (.t 0), .none⟩,
 ⟨.tmp, .move (.v 2), .none⟩,
 ⟨.tmp, .move (.v 0), .none⟩,
 ⟨.tmp, .idxS 1 (.t 1) (.t 0), .none⟩,
 ⟨.tmp, .load1 (.t 0), .none⟩,
 ⟨.tmp, .idxS 1 (.t 11) (.t 10), .none⟩,
 ⟨.no, .store 1 (.t 0) (.t 5), .none⟩,
 ⟨.tmp, .idxS 1 (.t 10) (.t 9), .none⟩,
 ⟨.no, .store 1 (.t 0) (.t 2), .none⟩]) (
 .seq (.reg [⟨.tmp, .move (.v 0), .none⟩,
 ⟨.tmp, .bin .add (.t 0) (.c (.int .i64 (.ofNat 1))), .none⟩,
 ⟨(.var 0), .move (.t 0), .none⟩]) (
 .reg [⟨.tmp, .move (.v 1), .none⟩,
 ⟨.tmp, .bin .sub (.t 0) (.c (.int .i64 (.ofNat 1))), .none⟩,
 ⟨(.var 1), .move (.t 0), .none⟩])))
def r193_3 : DC :=
 .seq (.block 4 (
 .loop b193_1)) r193_2
def b193_4 : DC :=
 .block 1 (
 .seq (.block 2 (
 .loop b193_0)) r193_3)
def r193_5 : DC :=
 .seq (.reg [⟨.tmp, .move (.v 0), .none⟩,
 ⟨(.var 5), .move (.t 0), .none⟩]) (
 .ret)
def d193 : DF := ⟨[.some 9, .some 10, .some 0, .some 1, .some 3, .some 8, .some 2],
 .seq (.reg [⟨(.var 5), .move (.c (.int .i64 (.ofNat 0))), .none⟩]) (
 .seq (.reg [⟨.tmp, .move (.v 2), .none⟩,
 ⟨.tmp, .move (.v 3), .none⟩,
 ⟨.tmp, .move (.v 2), .none⟩,
 ⟨.tmp, .move (.v 4), .none⟩,
 ⟨.tmp, .move (.v 2), .none⟩,
 ⟨.tmp, .move (.v 4), .none⟩,
 ⟨.tmp, .idxS 1 (.t 1) (.t 0), .none⟩,
 ⟨.tmp, .load1 (.t 0), .none⟩,
 ⟨.tmp, .move (.v 2), .none⟩,
 ⟨.tmp, .move (.v 3), .none⟩,
 ⟨.tmp, .idxS 1 (.t 1) (.t 0), .none⟩,
 ⟨.tmp, .load1 (.t 0), .none⟩,
 ⟨.tmp, .idxS 1 (.t 11) (.t 10), .none⟩,
 ⟨.no, .store 1 (.t 0) (.t 5), .none⟩,
 ⟨.tmp, .idxS 1 (.t 10) (.t 9), .none⟩,
 ⟨.no, .store 1 (.t 0) (.t 2), .none⟩]) (
 .seq (.reg [⟨.tmp, .move (.v 3), .none⟩,
 ⟨.tmp, .bin .add (.t 0) (.c (.int .i64 (.ofNat 1))), .none⟩,
 ⟨.tmp, .move (.v 6), .none⟩,
 ⟨.tmp, .bin .sub (.t 0) (.c (.int .i64 (.ofNat 1))), .none⟩,
 ⟨(.var 0), .move (.t 2), .none⟩,
 ⟨(.var 1), .move (.t 0), .none⟩]) (
 .seq (.block 0 (
 .loop b193_4)) r193_5))),
 [.opd (.v 5)], 7, .none⟩
/-- slices.partitionOrdered[string] -/
def vm194 : List Nat := [11, 10, 0, 1, 8, 9, 3, 2]
def b194_0 : DC :=
 .seq (.seq (.reg [⟨.tmp, .move (.v 1), .none⟩,
 ⟨.tmp, .move (.v 0), .none⟩,
 ⟨.tmp, .bin .leq (.t 1) (.t 0), .none⟩,
 ⟨.tmp, .move (.t 0), .none⟩,
 ⟨.tmp, .move (.v 2), .some ((.t 0), true)⟩,
 ⟨.tmp, .move (.v 1), .some ((.t 1), true)⟩,
 ⟨.tmp, .idxS 1 (.t 1) (.t 0), .some ((.t 2), true)⟩,
 ⟨.tmp, .load1 (.t 0), .some ((.t 3), true)⟩,
 ⟨.tmp, .move (.v 2), .some ((.t 4), true)⟩,
 ⟨.tmp, .move (.v 3), .some ((.t 5), true)⟩,
 ⟨.tmp, .idxS 1 (.t 1) (.t 0), .some ((.t 6), true)⟩,
 ⟨.tmp, .load1 (.t 0), .some ((.t 7), true)⟩,
 ⟨.tmp, .call 192 [(.t 4), (.t 0)], .some ((.t 8), true)⟩,
 ⟨.tmp, .pick (.t 9) (.t 0) (.c (.bool false)), .none⟩]) (
 .cond (.t 0) (
 .skip) (
 .exit 0))) (
 .block 1 (
 .reg [⟨.tmp, .move (.v 1), .none⟩,
 ⟨.tmp, .bin .add (.t 0) (.c (.int .i64 (.ofNat 1))), .none⟩,
 ⟨(.var 1), .move (.t 0), .none⟩]))
def b194_1 : DC :=
 .seq (.seq (.reg [⟨.tmp, .move (.v 1), .none⟩,
 ⟨.tmp, .move (.v 0), .none⟩,
 ⟨.tmp, .bin .leq (.t 1) (.t 0), .none⟩,
 ⟨.tmp, .move (.t 0), .none⟩,
 ⟨.tmp, .move (.v 2), .some ((.t 0), true)⟩,
 ⟨.tmp, .move (.v 0), .some ((.t 1), true)⟩,
 ⟨.tmp, .idxS 1 (.t 1) (.t 0), .some ((.t 2), true)⟩,
 ⟨.tmp, .load1 (.t 0), .some ((.t 3), true)⟩,
 ⟨.tmp, .move (.v 2), .some ((.t 4), true)⟩,
 ⟨.tmp, .move (.v 3), .some ((.t 5), true)⟩,
 ⟨.tmp, .idxS 1 (.t 1) (.t 0), .some ((.t 6), true)⟩,
 ⟨.tmp, .load1 (.t 0), .some ((.t 7), true)⟩,
 ⟨.tmp, .call 192 [(.t 4), (.t 0)], .some ((.t 8), true)⟩,
 ⟨.tmp, .not (.t 0), .some ((.t 9), true)⟩,
 ⟨.tmp, .pick (.t 10) (.t 0) (.c (.bool false)), .none⟩]) (
 .cond (.t 0) (
 .skip) (
 .exit 2))) (
 .block 3 (
 .reg [⟨.tmp, .move (.v 0), .none⟩,
 ⟨.tmp, .bin .sub (.t 0) (.c (.int .i64 (.ofNat 1))), .none⟩,
 ⟨(.var 0), .move (.t 0), .none⟩]))
def b194_2 : DC :=
 .seq (.seq (.reg [⟨.tmp, .move (.v 1), .none⟩,
 ⟨.tmp, .move (.v 0), .none⟩,
 ⟨.tmp, .bin .leq (.t 1) (.t 0), .none⟩,
 ⟨.tmp, .move (.t 0), .none⟩,
 ⟨.tmp, .move (.v 2), .some ((.t 0), true)⟩,
 ⟨.tmp, .move (.v 1), .some ((.t 1), true)⟩,
 ⟨.tmp, .idxS 1 (.t 1) (.t 0), .some ((.t 2), true)⟩,
 ⟨.tmp, .load1 (.t 0), .some ((.t 3), true)⟩,
 ⟨.tmp, .move (.v 2), .some ((.t 4), true)⟩,
 ⟨.tmp, .move (.v 3), .some ((.t 5), true)⟩,
 ⟨.tmp, .idxS 1 (.t 1) (.t 0), .some ((.t 6), true)⟩,
 ⟨.tmp, .load1 (.t 0), .some ((.t 7), true)⟩,
 ⟨.tmp, .call 192 [(.t 4), (.t 0)], .some ((.t 8), true)⟩,
 ⟨.tmp, .pick (.t 9) (.t 0) (.c (.bool false)), .none⟩]) (
 .cond (.t 0) (
 .skip) (
 .exit 6))) (
 .block 7 (
 .reg [⟨.tmp, .move (.v 1), .none⟩,
 ⟨.tmp, .bin .add (.t 0) (.c (.int .i64 (.ofNat 1))), .none⟩,
 ⟨(.var 1), .move (.t 0), .none⟩]))
def b194_3 : DC :=
 .seq (.seq (.reg [⟨.tmp, .move (.v 1), .none⟩,
 ⟨.tmp, .move (.v 0), .none⟩,
 ⟨.tmp, .bin .leq (.t 1) (.t 0), .none⟩,
 ⟨.tmp, .move (.t 0), .none⟩,
 ⟨.tmp, .move (.v 2), .some ((.t 0), true)⟩,
 ⟨.tmp, .move (.v 0), .some ((.t 1), true)⟩,
 ⟨.tmp, .idxS 1 (.t 1) (.t 0), .some ((.t 2), true)⟩,
 ⟨.tmp, .load1 (.t 0), .some ((.t 3), true)⟩,
 ⟨.tmp, .move (.v 2), .some ((.t 4), true)⟩,
 ⟨.tmp, .move (.v 3), .some ((.t 5), true)⟩,
 ⟨.tmp, .idxS 1 (.t 1) (.t 0), .some ((.t 6), true)⟩,
 ⟨.tmp, .load1 (.t 0), .some ((.t 7), true)⟩,
 ⟨.tmp, .call 192 [(.t 4), (.t 0)], .some ((.t 8), true)⟩,
 ⟨.tmp, .not (.t 0), .some ((.t 9), true)⟩,
 ⟨.tmp, .pick (.t 10) (.t 0) (.c (.bool false)), .none⟩]) (
 .cond (.t 0) (
 .skip) (
 .exit 8))) (
 .block 9 (
 .reg [⟨.tmp, .move (.v 0), .none⟩,
 ⟨.tmp, .bin .sub (.t 0) (.c (.int .i64 (.ofNat 1))), .none⟩,
 ⟨(.var 0), .move (.t 0), .none⟩]))
def r194_4 : DC :=
 .seq (.seq (.reg [⟨.tmp, .move (.v 1), .none⟩,
 ⟨.tmp, .move (.v 0), .none⟩,
 ⟨.tmp, .bin .gtr (.t 1) (.t 0), .none⟩]) (
 .cond (.t 0) (
 .exit 4) (
 .skip))) (
 .seq (.reg [⟨.tmp, .move (.v 2), .none⟩,
 ⟨.tmp, .move (.v 1), .none⟩,
 ⟨.tmp, .move (.v 2), .none⟩,
 ⟨.tmp, .move (.v 0), .none⟩,
 ⟨.tmp, .move (.v 2), .none⟩,
 ⟨.tmp, .move (.v 0), .none⟩,
 ⟨.tmp, .idxS 1 (.t 1) (.t 0), .none⟩,
 ⟨.tmp, .load1 (.t 0), .none⟩,
 ⟨.tmp, .move (.v 2), .none⟩,
 ⟨.tmp, .move (.v 1), .none⟩,
 ⟨.tmp, .idxS 1 (.t 1) (.t 0), .none⟩,
 ⟨.tmp, .load1 (.t 0), .none⟩,
 ⟨.tmp, .idxS 1 (.t 11) (.t 10), .none⟩,
 ⟨.no, .store 1 (.t 0) (.t 5), .none⟩,
 ⟨.tmp, .idxS 1 (.t 10) (.t 9), .none⟩,
 ⟨.no, .store 1 (.t 0) (.t 2), .none⟩]) (
 .seq (.reg [⟨.tmp, .move (.v 1), .none⟩,
 ⟨.tmp, .bin .add (.t 0) (.c (.int .i64 (.ofNat 1))), .none⟩,
 ⟨(.var 1), .move (.t 0), .none⟩]) (
 .reg [⟨.tmp, .move (.v 0), .none⟩,
 ⟨.tmp, .bin .sub (.t 0) (.c (.int .i64 (.ofNat 1))), .none⟩,
 ⟨(.var 0), .move (.t 0), .none⟩])))
def r194_5 : DC :=
 .seq (.block 8 (
 .loop b194_3)) r194_4
def b194_6 : DC :=
 .block 5 (
 .seq (.block 6 (
 .loop b194_2)) r194_5)
def r194_7 : DC :=
 .seq (.reg [⟨.tmp, .move (.v 2), .none⟩,
 ⟨.tmp, .move (.v 0), .none⟩,
 ⟨.tmp, .move (.v 2), .none⟩,
 ⟨.tmp, .move (.v 3), .none⟩,
 ⟨.tmp, .move (.v 2), .none⟩,
 ⟨.tmp, .move (.v 3), .none⟩,
 ⟨.tmp, .idxS 1 (.t 1) (.t 0), .none⟩,
 ⟨.tmp, .load1 (.t 0), .none⟩,
 ⟨.tmp, .move (.v 2), .none⟩,
 ⟨.tmp, .move (.v 0), .none⟩,
 ⟨.tmp, .idxS 1 (.t 1) (.t 0), .none⟩,
 ⟨.tmp, .load1 (.t 0), .none⟩,
 ⟨.tmp, .idxS 1 (.t 11) (.t 10), .none⟩,
 ⟨.no, .store 1 (.t 0) (.t 5), .none⟩,
 ⟨.tmp, .idxS 1 (.t 10) (.t 9), .none⟩,
 ⟨.no, .store 1 (.t 0) (.t 2), .none⟩]) (
 .seq (.reg [⟨.tmp, .move (.v 0), .none⟩,
 ⟨(.var 4), .move (.t 0), .none⟩,
 ⟨(.var 5), .move (.c (.bool false)), .none⟩]) (
 .ret))
def r194_8 : DC :=
 .seq (.seq (.reg [⟨.tmp, .move (.v 1), .none⟩,
 ⟨.tmp, .move (.v 0), .none⟩,
 ⟨.tmp, .bin .gtr (.t 1) (.t 0), .none⟩]) (
 .cond (.t 0) (
 .seq (.reg [⟨.tmp, .move (.v 2), .none⟩,
 ⟨.tmp, .move (.v 0), .none⟩,
 ⟨.tmp, .move (.v 2), .none⟩,
 ⟨.tmp, .move (.v 3), .none⟩,
 ⟨.tmp, .move (.v 2), .none⟩,
 ⟨.tmp, .move (.v 3), .none⟩,
 ⟨.tmp, .idxS 1 (.t 1) (.t 0), .none⟩,
 ⟨.tmp, .load1 (.t 0), .none⟩,
 ⟨.tmp, .move (.v 2), .none⟩,
 ⟨.tmp, .move (.v 0), .none⟩,
 ⟨.tmp, .idxS 1 (.t 1) (.t 0), .none⟩,
 ⟨.tmp, .load1 (.t 0), .none⟩,
 ⟨.tmp, .idxS 1 (.t 11) (.t 10), .none⟩,
 ⟨.no, .store 1 (.t 0) (.t 5), .none⟩,
 ⟨.tmp, .idxS 1 (.t 10) (.t 9), .none⟩,
 ⟨.no, .store 1 (.t 0) (.t 2), .none⟩]) (
 .seq (.reg [⟨.tmp, .move (.v 0), .none⟩,
 ⟨(.var 4), .move (.t 0), .none⟩,
 ⟨(.var 5), .move (.c (.bool true)), .none⟩]) (
 .ret))) (
 .skip))) (
 .seq (.reg [⟨.tmp, .move (.v 2), .none⟩,
 ⟨.tmp, .move (.v 1), .none⟩,
 ⟨.tmp, .move (.v 2), .none⟩,
 ⟨.tmp, .move (.v 0), .none⟩,
 ⟨.tmp, .move (.v 2), .none⟩,
 ⟨.tmp, .move (.v 0), .none⟩,
 ⟨.tmp, .idxS 1 (.t 1) (.t 0), .none⟩,
 ⟨.tmp, .load1 (.t 0), .none⟩,
 ⟨.tmp, .move (.v 2), .none⟩,
 ⟨.tmp, .move (.v 1), .none⟩,
 ⟨.tmp, .idxS 1 (.t 1) (.t 0), .none⟩,
 ⟨.tmp, .load1 (.t 0), .none⟩,
 ⟨.tmp, .idxS 1 (.t 11) (.t 10), .none⟩,
 ⟨.no, .store 1 (.t 0) (.t 5), .none⟩,
 ⟨.tmp, .idxS 1 (.t 10) (.t 9), .none⟩,
 ⟨.no, .store 1 (.t 0) (.t 2), .none⟩]) (
 .seq (.reg [⟨.tmp, .move (.v 1), .none⟩,
 ⟨.tmp, .bin .add (.t 0) (.c (.int .i64 (.ofNat 1))), .none⟩,
 ⟨(.var 1), .move (.t 0), .none⟩]) (
 .seq (.reg [⟨.tmp, .move (.v 0), .none⟩,
 ⟨.tmp, .bin .sub (.t 0) (.c (.int .i64 (.ofNat 1))), .none⟩,
 ⟨(.var 0), .move (.t 0), .none⟩]) (
 .seq (.block 4 (
 .loop b194_6)) r194_7))))
def r194_9 : DC :=
 .seq (.block 2 (
 .loop b194_1)) r194_8
def d194 : DF := ⟨[.some 11, .some 10, .some 0, .some 1, .some 8, .some 9, .some 3, .some 2],
 .seq (.reg [⟨(.var 4), .move (.c (.int .i64 (.ofNat 0))), .none⟩,
 ⟨(.var 5), .move (.c (.bool false)), .none⟩]) (
 .seq (.reg [⟨.tmp, .move (.v 2), .none⟩,
 ⟨.tmp, .move (.v 3), .none⟩,
 ⟨.tmp, .move (.v 2), .none⟩,
 ⟨.tmp, .move (.v 6), .none⟩,
 ⟨.tmp, .move (.v 2), .none⟩,
 ⟨.tmp, .move (.v 6), .none⟩,
 ⟨.tmp, .idxS 1 (.t 1) (.t 0), .none⟩,
 ⟨.tmp, .load1 (.t 0), .none⟩,
 ⟨.tmp, .move (.v 2), .none⟩,
 ⟨.tmp, .move (.v 3), .none⟩,
 ⟨.tmp, .idxS 1 (.t 1) (.t 0), .none⟩,
 ⟨.tmp, .load1 (.t 0), .none⟩,
 ⟨.tmp, .idxS 1 (.t 11) (.t 10), .none⟩,
 ⟨.no, .store 1 (.t 0) (.t 5), .none⟩,
 ⟨.tmp, .idxS 1 (.t 10) (.t 9), .none⟩,
 ⟨.no, .store 1 (.t 0) (.t 2), .none⟩]) (
 .seq (.reg [⟨.tmp, .move (.v 3), .none⟩,
 ⟨.tmp, .bin .add (.t 0) (.c (.int .i64 (.ofNat 1))), .none⟩,
 ⟨.tmp, .move (.v 7), .none⟩,
 ⟨.tmp, .bin .sub (.t 0) (.c (.int .i64 (.ofNat 1))), .none⟩,
 ⟨(.var 1), .move (.t 2), .none⟩,
 ⟨(.var 0), .move (.t 0), .none⟩]) (
 .seq (.block 0 (
 .loop b194_0)) r194_9))),
 [.opd (.v 4), .opd (.v 5)], 8, .none⟩
/-- math/bits.Len32 -/
def vm195 : List Nat := [0, 2]

def d195 : DF := ⟨[.some 0, .some 2],
 .seq (.reg [⟨(.var 1), .move (.c (.int .i64 (.ofNat 0))), .none⟩]) (
 .seq (.seq (.reg [⟨.tmp, .move (.v 0), .none⟩,
 ⟨.tmp, .bin .geq (.t 0) (.c (.int .u32 (.ofNat 65536))), .none⟩]) (
 .cond (.t 0) (
 .seq (.reg [⟨.tmp, .move (.v 0), .none⟩,
 ⟨.tmp, .bin .shr (.t 0) (.c (.int .u64 (.ofNat 16))), .none⟩,
 ⟨(.var 0), .move (.t 0), .none⟩]) (
 .reg [⟨(.var 1), .move (.c (.int .i64 (.ofNat 16))), .none⟩])) (
 .skip))) (
 .seq (.seq (.reg [⟨.tmp, .move (.v 0), .none⟩,
 ⟨.tmp, .bin .geq (.t 0) (.c (.int .u32 (.ofNat 256))), .none⟩]) (
 .cond (.t 0) (
 .seq (.reg [⟨.tmp, .move (.v 0), .none⟩,
 ⟨.tmp, .bin .shr (.t 0) (.c (.int .u64 (.ofNat 8))), .none⟩,
 ⟨(.var 0), .move (.t 0), .none⟩]) (
 .reg [⟨.tmp, .move (.v 1), .none⟩,
 ⟨.tmp, .bin .add (.t 0) (.c (.int .i64 (.ofNat 8))), .none⟩,
 ⟨(.var 1), .move (.t 0), .none⟩])) (
 .skip))) (
 .seq (.reg [⟨.tmp, .move (.v 1), .none⟩,
 ⟨.tmp, .move (.v 0), .none⟩,
 ⟨.tmp, .conv .u8 (.t 0), .none⟩,
 ⟨.tmp, .idxStr (.c (.str 256 1013866857139168856493015739252390649739422828853819106890363778118420553376247557433637691341895324351018602695588957474325319502760499485336098898398377509666851054660423406800006203933793007272033180812049178612605246075062580585469430410618860250057463399279570354286669047577758927328864388992123306212451509403152394148136105363817402562688186708175358218852349079190158732807302672745370040257219644697201681238697346923541678507645485296520536209706771857694240900605172937619415410180424934769249448772944216470541052485265558808433676546390051204254346932932316488017972311616136051587427851453983453479168)) (.t 0), .none⟩,
 ⟨.tmp, .conv .i64 (.t 0), .none⟩,
 ⟨.tmp, .bin .add (.t 4) (.t 0), .none⟩,
 ⟨(.var 1), .move (.t 0), .none⟩]) (
 .ret)))),
 [.opd (.v 1)], 2, .none⟩
/-- math/bits.Len64 -/
def vm196 : List Nat := [0, 2]

def d196 : DF := ⟨[.some 0, .some 2],
 .seq (.reg [⟨(.var 1), .move (.c (.int .i64 (.ofNat 0))), .none⟩]) (
 .seq (.seq (.reg [⟨.tmp, .move (.v 0), .none⟩,
 ⟨.tmp, .bin .geq (.t 0) (.c (.int .u64 (.ofNat 4294967296))), .none⟩]) (
 .cond (.t 0) (
 .seq (.reg [⟨.tmp, .move (.v 0), .none⟩,
 ⟨.tmp, .bin .shr (.t 0) (.c (.int .u64 (.ofNat 32))), .none⟩,
 ⟨(.var 0), .move (.t 0), .none⟩]) (
 .reg [⟨(.var 1), .move (.c (.int .i64 (.ofNat 32))), .none⟩])) (
 .skip))) (
 .seq (.seq (.reg [⟨.tmp, .move (.v 0), .none⟩,
 ⟨.tmp, .bin .geq (.t 0) (.c (.int .u64 (.ofNat 65536))), .none⟩]) (
 .cond (.t 0) (
 .seq (.reg [⟨.tmp, .move (.v 0), .none⟩,
 ⟨.tmp, .bin .shr (.t 0) (.c (.int .u64 (.ofNat 16))), .none⟩,
 ⟨(.var 0), .move (.t 0), .none⟩]) (
 .reg [⟨.tmp, .move (.v 1), .none⟩,
 ⟨.tmp, .bin .add (.t 0) (.c (.int .i64 (.ofNat 16))), .none⟩,
 ⟨(.var 1), .move (.t 0), .none⟩])) (
 .skip))) (
 .seq (.seq (.reg [⟨.tmp, .move (.v 0), .none⟩,
 ⟨.tmp, .bin .geq (.t 0) (.c (.int .u64 (.ofNat 256))), .none⟩]) (
 .cond (.t 0) (
 .seq (.reg [⟨.tmp, .move (.v 0), .none⟩,
 ⟨.tmp, .bin .shr (.t 0) (.c (.int .u64 (.ofNat 8))), .none⟩,
 ⟨(.var 0), .move (.t 0), .none⟩]) (
 .reg [⟨.tmp, .move (.v 1), .none⟩,
 ⟨.tmp, .bin .add (.t 0) (.c (.int .i64 (.ofNat 8))), .none⟩,
 ⟨(.var 1), .move (.t 0), .none⟩])) (
 .skip))) (
 .seq (.reg [⟨.tmp, .move (.v 1), .none⟩,
 ⟨.tmp, .move (.v 0), .none⟩,
 ⟨.tmp, .conv .u8 (.t 0), .none⟩,
 ⟨.tmp, .idxStr (.c (.str 256 1013866857139168856493015739252390649739422828853819106890363778118420553376247557433637691341895324351018602695588957474325319502760499485336098898398377509666851054660423406800006203933793007272033180812049178612605246075062580585469430410618860250057463399279570354286669047577758927328864388992123306212451509403152394148136105363817402562688186708175358218852349079190158732807302672745370040257219644697201681238697346923541678507645485296520536209706771857694240900605172937619415410180424934769249448772944216470541052485265558808433676546390051204254346932932316488017972311616136051587427851453983453479168)) (.t 0), .none⟩,
 ⟨.tmp, .conv .i64 (.t 0), .none⟩,
 ⟨.tmp, .bin .add (.t 4) (.t 0), .none⟩,
 ⟨(.var 1), .move (.t 0), .none⟩]) (
 .ret))))),
 [.opd (.v 1)], 2, .none⟩
/-- unicode/utf8.decodeRuneInStringSlow -/
def vm197 : List Nat := [2, 3, 0, 10, 5, 6, 11, 8, 9, 12, 4, 7]

def d197 : DF := ⟨[.some 2, .some 3, .some 0, .some 10, .some 5, .some 6, .some 11, .some 8, .some 9, .some 12, .some 4, .some 7],
 .seq (.reg [⟨(.var 0), .move (.c (.int .i32 (.ofNat 0))), .none⟩,
 ⟨(.var 1), .move (.c (.int .i64 (.ofNat 0))), .none⟩]) (
 .seq (.reg [⟨.tmp, .move (.v 2), .none⟩,
 ⟨.tmp, .len true (.t 0), .none⟩,
 ⟨(.var 10), .move (.t 0), .none⟩]) (
 .seq (.seq (.reg [⟨.tmp, .move (.v 10), .none⟩,
 ⟨.tmp, .bin .lss (.t 0) (.c (.int .i64 (.ofNat 1))), .none⟩]) (
 .cond (.t 0) (
 .seq (.reg [⟨(.var 0), .move (.c (.int .i32 (.ofNat 65533))), .none⟩,
 ⟨(.var 1), .move (.c (.int .i64 (.ofNat 0))), .none⟩]) (
 .ret)) (
 .skip))) (
 .seq (.reg [⟨.tmp, .move (.v 2), .none⟩,
 ⟨.tmp, .idxStr (.t 0) (.c (.int .i64 (.ofNat 0))), .none⟩,
 ⟨(.var 4), .move (.t 0), .none⟩]) (
 .seq (.reg [⟨.tmp, .move (.v 4), .none⟩,
 ⟨.tmp, .idxA 256 1 (.c (.gp 2 0)) (.t 0), .none⟩,
 ⟨.tmp, .load1 (.t 0), .none⟩,
 ⟨(.var 5), .move (.t 0), .none⟩]) (
 .seq (.seq (.reg [⟨.tmp, .move (.v 5), .none⟩,
 ⟨.tmp, .bin .geq (.t 0) (.c (.int .u8 (.ofNat 240))), .none⟩]) (
 .cond (.t 0) (
 .seq (.reg [⟨.tmp, .move (.v 5), .none⟩,
 ⟨.tmp, .conv .i32 (.t 0), .none⟩,
 ⟨.tmp, .bin .shl (.t 0) (.c (.int .u64 (.ofNat 31))), .none⟩,
 ⟨.tmp, .bin .shr (.t 0) (.c (.int .u64 (.ofNat 31))), .none⟩,
 ⟨(.var 11), .move (.t 0), .none⟩]) (
 .seq (.reg [⟨.tmp, .move (.v 2), .none⟩,
 ⟨.tmp, .idxStr (.t 0) (.c (.int .i64 (.ofNat 0))), .none⟩,
 ⟨.tmp, .conv .i32 (.t 0), .none⟩,
 ⟨.tmp, .move (.v 11), .none⟩,
 ⟨.tmp, .bin .andNot (.t 1) (.t 0), .none⟩,
 ⟨.tmp, .move (.v 11), .none⟩,
 ⟨.tmp, .bin .and (.c (.int .i32 (.ofNat 65533))) (.t 0), .none⟩,
 ⟨.tmp, .bin .or (.t 2) (.t 0), .none⟩,
 ⟨(.var 0), .move (.t 0), .none⟩,
 ⟨(.var 1), .move (.c (.int .i64 (.ofNat 1))), .none⟩]) (
 .ret))) (
 .skip))) (
 .seq (.reg [⟨.tmp, .move (.v 5), .none⟩,
 ⟨.tmp, .bin .and (.t 0) (.c (.int .u8 (.ofNat 7))), .none⟩,
 ⟨.tmp, .conv .i64 (.t 0), .none⟩,
 ⟨(.var 7), .move (.t 0), .none⟩]) (
 .seq (.reg [⟨.tmp, .move (.v 5), .none⟩,
 ⟨.tmp, .bin .shr (.t 0) (.c (.int .u64 (.ofNat 4))), .none⟩,
 ⟨.tmp, .idxA 16 2 (.c (.gp 3 0)) (.t 0), .none⟩,
 ⟨.tmp, .loadN 2 (.t 0), .none⟩,
 ⟨(.var 8), .alloc [.int .u8 (.ofNat 0), .int .u8 (.ofNat 0)], .none⟩,
 ⟨.no, .store 2 (.v 8) (.t 0), .none⟩]) (
 .seq (.seq (.reg [⟨.tmp, .move (.v 10), .none⟩,
 ⟨.tmp, .move (.v 7), .none⟩,
 ⟨.tmp, .bin .lss (.t 1) (.t 0), .none⟩]) (
 .cond (.t 0) (
 .seq (.reg [⟨(.var 0), .move (.c (.int .i32 (.ofNat 65533))), .none⟩,
 ⟨(.var 1), .move (.c (.int .i64 (.ofNat 1))), .none⟩]) (
 .ret)) (
 .skip))) (
 .seq (.reg [⟨.tmp, .move (.v 2), .none⟩,
 ⟨.tmp, .idxStr (.t 0) (.c (.int .i64 (.ofNat 1))), .none⟩,
 ⟨(.var 3), .move (.t 0), .none⟩]) (
 .seq (.seq (.reg [⟨.tmp, .move (.v 3), .none⟩,
 ⟨.tmp, .fadr 0 (.v 8), .none⟩,
 ⟨.tmp, .load1 (.t 0), .none⟩,
 ⟨.tmp, .bin .lss (.t 2) (.t 0), .none⟩,
 ⟨.tmp, .move (.t 0), .none⟩,
 ⟨.tmp, .fadr 1 (.v 8), .some ((.t 0), false)⟩,
 ⟨.tmp, .load1 (.t 0), .some ((.t 1), false)⟩,
 ⟨.tmp, .move (.v 3), .some ((.t 2), false)⟩,
 ⟨.tmp, .bin .lss (.t 1) (.t 0), .some ((.t 3), false)⟩,
 ⟨.tmp, .pick (.t 4) (.c (.bool true)) (.t 0), .none⟩]) (
 .cond (.t 0) (
 .seq (.reg [⟨(.var 0), .move (.c (.int .i32 (.ofNat 65533))), .none⟩,
 ⟨(.var 1), .move (.c (.int .i64 (.ofNat 1))), .none⟩]) (
 .ret)) (
 .skip))) (
 .seq (.seq (.reg [⟨.tmp, .move (.v 7), .none⟩,
 ⟨.tmp, .bin .leq (.t 0) (.c (.int .i64 (.ofNat 2))), .none⟩]) (
 .cond (.t 0) (
 .seq (.reg [⟨.tmp, .move (.v 4), .none⟩,
 ⟨.tmp, .bin .and (.t 0) (.c (.int .u8 (.ofNat 31))), .none⟩,
 ⟨.tmp, .conv .i32 (.t 0), .none⟩,
 ⟨.tmp, .bin .shl (.t 0) (.c (.int .u64 (.ofNat 6))), .none⟩,
 ⟨.tmp, .move (.v 3), .none⟩,
 ⟨.tmp, .bin .and (.t 0) (.c (.int .u8 (.ofNat 63))), .none⟩,
 ⟨.tmp, .conv .i32 (.t 0), .none⟩,
 ⟨.tmp, .bin .or (.t 3) (.t 0), .none⟩,
 ⟨(.var 0), .move (.t 0), .none⟩,
 ⟨(.var 1), .move (.c (.int .i64 (.ofNat 2))), .none⟩]) (
 .ret)) (
 .skip))) (
 .seq (.reg [⟨.tmp, .move (.v 2), .none⟩,
 ⟨.tmp, .idxStr (.t 0) (.c (.int .i64 (.ofNat 2))), .none⟩,
 ⟨(.var 6), .move (.t 0), .none⟩]) (
 .seq (.seq (.reg [⟨.tmp, .move (.v 6), .none⟩,
 ⟨.tmp, .bin .lss (.t 0) (.c (.int .u8 (.ofNat 128))), .none⟩,
 ⟨.tmp, .move (.t 0), .none⟩,
 ⟨.tmp, .move (.v 6), .some ((.t 0), false)⟩,
 ⟨.tmp, .bin .lss (.c (.int .u8 (.ofNat 191))) (.t 0), .some ((.t 1), false)⟩,
 ⟨.tmp, .pick (.t 2) (.c (.bool true)) (.t 0), .none⟩]) (
 .cond (.t 0) (
 .seq (.reg [⟨(.var 0), .move (.c (.int .i32 (.ofNat 65533))), .none⟩,
 ⟨(.var 1), .move (.c (.int .i64 (.ofNat 1))), .none⟩]) (
 .ret)) (
 .skip))) (
 .seq (.seq (.reg [⟨.tmp, .move (.v 7), .none⟩,
 ⟨.tmp, .bin .leq (.t 0) (.c (.int .i64 (.ofNat 3))), .none⟩]) (
 .cond (.t 0) (
 .seq (.reg [⟨.tmp, .move (.v 4), .none⟩,
 ⟨.tmp, .bin .and (.t 0) (.c (.int .u8 (.ofNat 15))), .none⟩,
 ⟨.tmp, .conv .i32 (.t 0), .none⟩,
 ⟨.tmp, .bin .shl (.t 0) (.c (.int .u64 (.ofNat 12))), .none⟩,
 ⟨.tmp, .move (.v 3), .none⟩,
 ⟨.tmp, .bin .and (.t 0) (.c (.int .u8 (.ofNat 63))), .none⟩,
 ⟨.tmp, .conv .i32 (.t 0), .none⟩,
 ⟨.tmp, .bin .shl (.t 0) (.c (.int .u64 (.ofNat 6))), .none⟩,
 ⟨.tmp, .bin .or (.t 4) (.t 0), .none⟩,
 ⟨.tmp, .move (.v 6), .none⟩,
 ⟨.tmp, .bin .and (.t 0) (.c (.int .u8 (.ofNat 63))), .none⟩,
 ⟨.tmp, .conv .i32 (.t 0), .none⟩,
 ⟨.tmp, .bin .or (.t 3) (.t 0), .none⟩,
 ⟨(.var 0), .move (.t 0), .none⟩,
 ⟨(.var 1), .move (.c (.int .i64 (.ofNat 3))), .none⟩]) (
 .ret)) (
 .skip))) (
 .seq (.reg [⟨.tmp, .move (.v 2), .none⟩,
 ⟨.tmp, .idxStr (.t 0) (.c (.int .i64 (.ofNat 3))), .none⟩,
 ⟨(.var 9), .move (.t 0), .none⟩]) (
 .seq (.seq (.reg [⟨.tmp, .move (.v 9), .none⟩,
 ⟨.tmp, .bin .lss (.t 0) (.c (.int .u8 (.ofNat 128))), .none⟩,
 ⟨.tmp, .move (.t 0), .none⟩,
 ⟨.tmp, .move (.v 9), .some ((.t 0), false)⟩,
 ⟨.tmp, .bin .lss (.c (.int .u8 (.ofNat 191))) (.t 0), .some ((.t 1), false)⟩,
 ⟨.tmp, .pick (.t 2) (.c (.bool true)) (.t 0), .none⟩]) (
 .cond (.t 0) (
 .seq (.reg [⟨(.var 0), .move (.c (.int .i32 (.ofNat 65533))), .none⟩,
 ⟨(.var 1), .move (.c (.int .i64 (.ofNat 1))), .none⟩]) (
 .ret)) (
 .skip))) (
 .seq (.reg [⟨.tmp, .move (.v 4), .none⟩,
 ⟨.tmp, .bin .and (.t 0) (.c (.int .u8 (.ofNat 7))), .none⟩,
 ⟨.tmp, .conv .i32 (.t 0), .none⟩,
 ⟨.tmp, .bin .shl (.t 0) (.c (.int .u64 (.ofNat 18))), .none⟩,
 ⟨.tmp, .move (.v 3), .none⟩,
 ⟨.tmp, .bin .and (.t 0) (.c (.int .u8 (.ofNat 63))), .none⟩,
 ⟨.tmp, .conv .i32 (.t 0), .none⟩,
 ⟨.tmp, .bin .shl (.t 0) (.c (.int .u64 (.ofNat 12))), .none⟩,
 ⟨.tmp, .bin .or (.t 4) (.t 0), .none⟩,
 ⟨.tmp, .move (.v 6), .none⟩,
 ⟨.tmp, .bin .and (.t 0) (.c (.int .u8 (.ofNat 63))), .none⟩,
 ⟨.tmp, .conv .i32 (.t 0), .none⟩,
 ⟨.tmp, .bin .shl (.t 0) (.c (.int .u64 (.ofNat 6))), .none⟩,
 ⟨.tmp, .bin .or (.t 4) (.t 0), .none⟩,
 ⟨.tmp, .move (.v 9), .none⟩,
 ⟨.tmp, .bin .and (.t 0) (.c (.int .u8 (.ofNat 63))), .none⟩,
 ⟨.tmp, .conv .i32 (.t 0), .none⟩,
 ⟨.tmp, .bin .or (.t 3) (.t 0), .none⟩,
 ⟨(.var 0), .move (.t 0), .none⟩,
 ⟨(.var 1), .move (.c (.int .i64 (.ofNat 4))), .none⟩]) (
 .ret)))))))))))))))))),
 [.opd (.v 0), .opd (.v 1)], 12, .none⟩
/-- slices.siftDownOrdered[string] -/
def vm198 : List Nat := [9, 0, 3, 8, 2, 1]
def b198_0 : DC :=
 .block 1 (
 .seq (.reg [⟨.tmp, .move (.v 3), .none⟩,
 ⟨.tmp, .bin .mul (.c (.int .i64 (.ofNat 2))) (.t 0), .none⟩,
 ⟨.tmp, .bin .add (.t 0) (.c (.int .i64 (.ofNat 1))), .none⟩,
 ⟨(.var 0), .move (.t 0), .none⟩]) (
 .seq (.seq (.reg [⟨.tmp, .move (.v 0), .none⟩,
 ⟨.tmp, .move (.v 4), .none⟩,
 ⟨.tmp, .bin .geq (.t 1) (.t 0), .none⟩]) (
 .cond (.t 0) (
 .exit 0) (
 .skip))) (
 .seq (.seq (.reg [⟨.tmp, .move (.v 0), .none⟩,
 ⟨.tmp, .bin .add (.t 0) (.c (.int .i64 (.ofNat 1))), .none⟩,
 ⟨.tmp, .move (.v 4), .none⟩,
 ⟨.tmp, .bin .lss (.t 1) (.t 0), .none⟩,
 ⟨.tmp, .move (.t 0), .none⟩,
 ⟨.tmp, .move (.v 1), .some ((.t 0), true)⟩,
 ⟨.tmp, .move (.v 2), .some ((.t 1), true)⟩,
 ⟨.tmp, .move (.v 0), .some ((.t 2), true)⟩,
 ⟨.tmp, .bin .add (.t 1) (.t 0), .some ((.t 3), true)⟩,
 ⟨.tmp, .idxS 1 (.t 3) (.t 0), .some ((.t 4), true)⟩,
 ⟨.tmp, .load1 (.t 0), .some ((.t 5), true)⟩,
 ⟨.tmp, .move (.v 1), .some ((.t 6), true)⟩,
 ⟨.tmp, .move (.v 2), .some ((.t 7), true)⟩,
 ⟨.tmp, .move (.v 0), .some ((.t 8), true)⟩,
 ⟨.tmp, .bin .add (.t 1) (.t 0), .some ((.t 9), true)⟩,
 ⟨.tmp, .bin .add (.t 0) (.c (.int .i64 (.ofNat 1))), .some ((.t 10), true)⟩,
 ⟨.tmp, .idxS 1 (.t 4) (.t 0), .some ((.t 11), true)⟩,
 ⟨.tmp, .load1 (.t 0), .some ((.t 12), true)⟩,
 ⟨.tmp, .call 192 [(.t 7), (.t 0)], .some ((.t 13), true)⟩,
 ⟨.tmp, .pick (.t 14) (.t 0) (.c (.bool false)), .none⟩]) (
 .cond (.t 0) (
 .reg [⟨.tmp, .move (.v 0), .none⟩,
 ⟨.tmp, .bin .add (.t 0) (.c (.int .i64 (.ofNat 1))), .none⟩,
 ⟨(.var 0), .move (.t 0), .none⟩]) (
 .skip))) (
 .seq (.seq (.reg [⟨.tmp, .move (.v 1), .none⟩,
 ⟨.tmp, .move (.v 2), .none⟩,
 ⟨.tmp, .move (.v 3), .none⟩,
 ⟨.tmp, .bin .add (.t 1) (.t 0), .none⟩,
 ⟨.tmp, .idxS 1 (.t 3) (.t 0), .none⟩,
 ⟨.tmp, .load1 (.t 0), .none⟩,
 ⟨.tmp, .move (.v 1), .none⟩,
 ⟨.tmp, .move (.v 2), .none⟩,
 ⟨.tmp, .move (.v 0), .none⟩,
 ⟨.tmp, .bin .add (.t 1) (.t 0), .none⟩,
 ⟨.tmp, .idxS 1 (.t 3) (.t 0), .none⟩,
 ⟨.tmp, .load1 (.t 0), .none⟩,
 ⟨.tmp, .call 192 [(.t 6), (.t 0)], .none⟩,
 ⟨.tmp, .not (.t 0), .none⟩]) (
 .cond (.t 0) (
 .ret) (
 .skip))) (
 .seq (.reg [⟨.tmp, .move (.v 1), .none⟩,
 ⟨.tmp, .move (.v 2), .none⟩,
 ⟨.tmp, .move (.v 3), .none⟩,
 ⟨.tmp, .bin .add (.t 1) (.t 0), .none⟩,
 ⟨.tmp, .move (.v 1), .none⟩,
 ⟨.tmp, .move (.v 2), .none⟩,
 ⟨.tmp, .move (.v 0), .none⟩,
 ⟨.tmp, .bin .add (.t 1) (.t 0), .none⟩,
 ⟨.tmp, .move (.v 1), .none⟩,
 ⟨.tmp, .move (.v 2), .none⟩,
 ⟨.tmp, .move (.v 0), .none⟩,
 ⟨.tmp, .bin .add (.t 1) (.t 0), .none⟩,
 ⟨.tmp, .idxS 1 (.t 3) (.t 0), .none⟩,
 ⟨.tmp, .load1 (.t 0), .none⟩,
 ⟨.tmp, .move (.v 1), .none⟩,
 ⟨.tmp, .move (.v 2), .none⟩,
 ⟨.tmp, .move (.v 3), .none⟩,
 ⟨.tmp, .bin .add (.t 1) (.t 0), .none⟩,
 ⟨.tmp, .idxS 1 (.t 3) (.t 0), .none⟩,
 ⟨.tmp, .load1 (.t 0), .none⟩,
 ⟨.tmp, .idxS 1 (.t 19) (.t 16), .none⟩,
 ⟨.no, .store 1 (.t 0) (.t 7), .none⟩,
 ⟨.tmp, .idxS 1 (.t 16) (.t 13), .none⟩,
 ⟨.no, .store 1 (.t 0) (.t 2), .none⟩]) (
 .reg [⟨.tmp, .move (.v 0), .none⟩,
 ⟨(.var 3), .move (.t 0), .none⟩]))))))
def d198 : DF := ⟨[.some 9, .some 0, .some 3, .some 8, .some 2, .some 1],
 .seq (.reg [⟨.tmp, .move (.v 5), .none⟩,
 ⟨(.var 3), .move (.t 0), .none⟩]) (
 .block 0 (
 .loop b198_0)),
 [], 6, .none⟩
/-- slices.nextPowerOfTwo -/
def vm199 : List Nat := [2, 0]

def d199 : DF := ⟨[.some 2, .some 0],
 .seq (.reg [⟨(.var 0), .move (.c (.int .u64 (.ofNat 0))), .none⟩]) (
 .seq (.reg [⟨.tmp, .move (.v 1), .none⟩,
 ⟨.tmp, .conv .u64 (.t 0), .none⟩,
 ⟨.tmp, .call 178 [(.t 0)], .none⟩,
 ⟨.tmp, .bin .shl (.c (.int .u64 (.ofNat 1))) (.t 0), .none⟩,
 ⟨(.var 0), .move (.t 0), .none⟩]) (
 .ret)),
 [.opd (.v 0)], 2, .none⟩
/-- (*slices.xorshift).Next -/
def vm200 : List Nat := [0, 2]

def d200 : DF := ⟨[.some 0, .some 2],
 .seq (.reg [⟨(.var 1), .move (.c (.int .u64 (.ofNat 0))), .none⟩]) (
 .seq (.reg [⟨.tmp, .move (.v 0), .none⟩,
 ⟨.tmp, .nilck (.t 0), .none⟩,
 ⟨.tmp, .load1 (.t 0), .none⟩,
 ⟨.tmp, .move (.v 0), .none⟩,
 ⟨.tmp, .nilck (.t 0), .none⟩,
 ⟨.tmp, .load1 (.t 0), .none⟩,
 ⟨.tmp, .bin .shl (.t 0) (.c (.int .u64 (.ofNat 13))), .none⟩,
 ⟨.tmp, .bin .xor (.t 4) (.t 0), .none⟩,
 ⟨.tmp, .nilck (.t 7), .none⟩,
 ⟨.no, .store 1 (.t 0) (.t 1), .none⟩]) (
 .seq (.reg [⟨.tmp, .move (.v 0), .none⟩,
 ⟨.tmp, .nilck (.t 0), .none⟩,
 ⟨.tmp, .load1 (.t 0), .none⟩,
 ⟨.tmp, .move (.v 0), .none⟩,
 ⟨.tmp, .nilck (.t 0), .none⟩,
 ⟨.tmp, .load1 (.t 0), .none⟩,
 ⟨.tmp, .bin .shr (.t 0) (.c (.int .u64 (.ofNat 7))), .none⟩,
 ⟨.tmp, .bin .xor (.t 4) (.t 0), .none⟩,
 ⟨.tmp, .nilck (.t 7), .none⟩,
 ⟨.no, .store 1 (.t 0) (.t 1), .none⟩]) (
 .seq (.reg [⟨.tmp, .move (.v 0), .none⟩,
 ⟨.tmp, .nilck (.t 0), .none⟩,
 ⟨.tmp, .load1 (.t 0), .none⟩,
 ⟨.tmp, .move (.v 0), .none⟩,
 ⟨.tmp, .nilck (.t 0), .none⟩,
 ⟨.tmp, .load1 (.t 0), .none⟩,
 ⟨.tmp, .bin .shl (.t 0) (.c (.int .u64 (.ofNat 17))), .none⟩,
 ⟨.tmp, .bin .xor (.t 4) (.t 0), .none⟩,
 ⟨.tmp, .nilck (.t 7), .none⟩,
 ⟨.no, .store 1 (.t 0) (.t 1), .none⟩]) (
 .seq (.reg [⟨.tmp, .move (.v 0), .none⟩,
 ⟨.tmp, .nilck (.t 0), .none⟩,
 ⟨.tmp, .load1 (.t 0), .none⟩,
 ⟨(.var 1), .move (.t 0), .none⟩]) (
 .ret))))),
 [.opd (.v 1)], 2, .none⟩
/-- slices.medianAdjacentOrdered[string] -/
def vm201 : List Nat := [1, 6, 0, 2]

def d201 : DF := ⟨[.some 1, .some 6, .some 0, .some 2],
 .seq (.reg [⟨(.var 1), .move (.c (.int .i64 (.ofNat 0))), .none⟩]) (
 .seq (.reg [⟨.tmp, .move (.v 2), .none⟩,
 ⟨.tmp, .move (.v 0), .none⟩,
 ⟨.tmp, .bin .sub (.t 0) (.c (.int .i64 (.ofNat 1))), .none⟩,
 ⟨.tmp, .move (.v 0), .none⟩,
 ⟨.tmp, .move (.v 0), .none⟩,
 ⟨.tmp, .bin .add (.t 0) (.c (.int .i64 (.ofNat 1))), .none⟩,
 ⟨.tmp, .move (.v 3), .none⟩,
 ⟨.tmp, .call 202 [(.t 6), (.t 4), (.t 3), (.t 1), (.t 0)], .none⟩,
 ⟨(.var 1), .move (.t 0), .none⟩]) (
 .ret)),
 [.opd (.v 1)], 4, .none⟩
/-- slices.medianOrdered[string] -/
def vm202 : List Nat := [2, 1, 0, 4, 3, 10]

def d202 : DF := ⟨[.some 2, .some 1, .some 0, .some 4, .some 3, .some 10],
 .seq (.reg [⟨(.var 5), .move (.c (.int .i64 (.ofNat 0))), .none⟩]) (
 .seq (.reg [⟨.tmp, .move (.v 2), .none⟩,
 ⟨.tmp, .move (.v 1), .none⟩,
 ⟨.tmp, .move (.v 0), .none⟩,
 ⟨.tmp, .move (.v 3), .none⟩,
 ⟨.tmp, .call 204 [(.t 3), (.t 2), (.t 1), (.t 0)], .none⟩,
 ⟨.tmp, .move (.t 0), .none⟩,
 ⟨.tmp, .ext (.t 0) 0, .none⟩,
 ⟨.tmp, .ext (.t 1) 1, .none⟩,
 ⟨(.var 1), .move (.t 1), .none⟩,
 ⟨(.var 0), .move (.t 0), .none⟩]) (
 .seq (.reg [⟨.tmp, .move (.v 2), .none⟩,
 ⟨.tmp, .move (.v 0), .none⟩,
 ⟨.tmp, .move (.v 4), .none⟩,
 ⟨.tmp, .move (.v 3), .none⟩,
 ⟨.tmp, .call 204 [(.t 3), (.t 2), (.t 1), (.t 0)], .none⟩,
 ⟨.tmp, .move (.t 0), .none⟩,
 ⟨.tmp, .ext (.t 0) 0, .none⟩,
 ⟨.tmp, .ext (.t 1) 1, .none⟩,
 ⟨(.var 0), .move (.t 1), .none⟩,
 ⟨(.var 4), .move (.t 0), .none⟩]) (
 .seq (.reg [⟨.tmp, .move (.v 2), .none⟩,
 ⟨.tmp, .move (.v 1), .none⟩,
 ⟨.tmp, .move (.v 0), .none⟩,
 ⟨.tmp, .move (.v 3), .none⟩,
 ⟨.tmp, .call 204 [(.t 3), (.t 2), (.t 1), (.t 0)], .none⟩,
 ⟨.tmp, .move (.t 0), .none⟩,
 ⟨.tmp, .ext (.t 0) 0, .none⟩,
 ⟨.tmp, .ext (.t 1) 1, .none⟩,
 ⟨(.var 1), .move (.t 1), .none⟩,
 ⟨(.var 0), .move (.t 0), .none⟩]) (
 .seq (.reg [⟨.tmp, .move (.v 0), .none⟩,
 ⟨(.var 5), .move (.t 0), .none⟩]) (
 .ret))))),
 [.opd (.v 5)], 6, .none⟩
/-- cmp.isNaN[string] -/
def vm203 : List Nat := [0, 2]

def d203 : DF := ⟨[.some 0, .some 2],
 .seq (.reg [⟨(.var 1), .move (.c (.bool false)), .none⟩]) (
 .seq (.reg [⟨.tmp, .move (.v 0), .none⟩,
 ⟨.tmp, .move (.v 0), .none⟩,
 ⟨.tmp, .bin .neq (.t 1) (.t 0), .none⟩,
 ⟨(.var 1), .move (.t 0), .none⟩]) (
 .ret)),
 [.opd (.v 1)], 2, .none⟩
/-- slices.order2Ordered[string] -/
def vm204 : List Nat := [1, 2, 8, 9, 0, 3]

def d204 : DF := ⟨[.some 1, .some 2, .some 8, .some 9, .some 0, .some 3],
 .seq (.reg [⟨(.var 2), .move (.c (.int .i64 (.ofNat 0))), .none⟩,
 ⟨(.var 3), .move (.c (.int .i64 (.ofNat 0))), .none⟩]) (
 .seq (.seq (.reg [⟨.tmp, .move (.v 4), .none⟩,
 ⟨.tmp, .move (.v 1), .none⟩,
 ⟨.tmp, .idxS 1 (.t 1) (.t 0), .none⟩,
 ⟨.tmp, .load1 (.t 0), .none⟩,
 ⟨.tmp, .move (.v 4), .none⟩,
 ⟨.tmp, .move (.v 0), .none⟩,
 ⟨.tmp, .idxS 1 (.t 1) (.t 0), .none⟩,
 ⟨.tmp, .load1 (.t 0), .none⟩,
 ⟨.tmp, .call 192 [(.t 4), (.t 0)], .none⟩]) (
 .cond (.t 0) (
 .seq (.reg [⟨.tmp, .move (.v 5), .none⟩,
 ⟨.tmp, .nilck (.t 0), .none⟩,
 ⟨.tmp, .load1 (.t 0), .none⟩,
 ⟨.tmp, .bin .add (.t 0) (.c (.int .i64 (.ofNat 1))), .none⟩,
 ⟨.tmp, .nilck (.t 3), .none⟩,
 ⟨.no, .store 1 (.t 0) (.t 1), .none⟩]) (
 .seq (.reg [⟨.tmp, .move (.v 1), .none⟩,
 ⟨.tmp, .move (.v 0), .none⟩,
 ⟨(.var 2), .move (.t 1), .none⟩,
 ⟨(.var 3), .move (.t 0), .none⟩]) (
 .ret))) (
 .skip))) (
 .seq (.reg [⟨.tmp, .move (.v 0), .none⟩,
 ⟨.tmp, .move (.v 1), .none⟩,
 ⟨(.var 2), .move (.t 1), .none⟩,
 ⟨(.var 3), .move (.t 0), .none⟩]) (
 .ret))),
 [.opd (.v 2), .opd (.v 3)], 6, .none⟩

end Dt
