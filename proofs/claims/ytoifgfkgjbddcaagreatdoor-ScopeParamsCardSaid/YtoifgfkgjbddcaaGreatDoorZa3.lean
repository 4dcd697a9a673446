/- A part of the abstract machine and of the proof that the program does what it reckons; no conditions. -/
import Derived.Test.YtoifgfkgjbddcaaGreatDoorZa2
set_option linter.all false
namespace Dt
open Go
set_option linter.all false
/-- (*telamon/telamonref12.Parser).raw -/
def vm106 : List Nat := [3, 0, 4, 2, 5, 6]
def b106_0 : DC :=
 .seq (.seq (.reg [⟨.tmp, .move (.v 2), .none⟩]) (
 .cond (.t 0) (
 .skip) (
 .exit 0))) (
 .block 1 (
 .seq (.reg [⟨.tmp, .fadr 5 (.v 0), .none⟩,
 ⟨.tmp, .load1 (.t 0), .none⟩,
 ⟨.tmp, .move (.v 1), .none⟩,
 ⟨.tmp, .call 135 [(.t 0)], .none⟩,
 ⟨.no, .again1 (.t 3) (.t 2), .none⟩,
 ⟨.tmp, .buildS 7 [[.int .i64 (.ofNat 0), .int .i64 (.ofNat 0), .str 0 0, .bool false, .nils, .nils, .int .i64 (.ofNat 0)]] [(0, (.t 0))], .none⟩,
 ⟨.tmp, .append 7 96 (.t 3) (.t 0), .none⟩,
 ⟨.tmp, .fadr 5 (.v 0), .none⟩,
 ⟨.no, .store 1 (.t 0) (.t 1), .none⟩]) (
 .reg [⟨.tmp, .move (.v 1), .none⟩,
 ⟨.tmp, .call 134 [(.t 0)], .none⟩,
 ⟨(.var 2), .move (.t 0), .none⟩])))
def r106_1 : DC :=
 .seq (.reg [⟨.tmp, .move (.v 1), .none⟩,
 ⟨.tmp, .call 130 [(.t 0), (.c (.str 1 92))], .none⟩,
 ⟨(.var 4), .move (.t 0), .none⟩]) (
 .seq (.reg [⟨.tmp, .move (.v 1), .none⟩,
 ⟨.tmp, .call 130 [(.t 0), (.c (.str 3 7628140))], .none⟩,
 ⟨(.var 5), .move (.t 0), .none⟩]) (
 .seq (.seq (.reg [⟨.tmp, .move (.v 4), .none⟩,
 ⟨.tmp, .move (.t 0), .none⟩,
 ⟨.tmp, .move (.v 5), .some ((.t 0), false)⟩,
 ⟨.tmp, .pick (.t 1) (.c (.bool true)) (.t 0), .none⟩]) (
 .cond (.t 0) (
 .reg [⟨.tmp, .fadr 5 (.v 0), .none⟩,
 ⟨.tmp, .load1 (.t 0), .none⟩,
 ⟨.tmp, .move (.v 1), .none⟩,
 ⟨.tmp, .call 99 [(.t 0)], .none⟩,
 ⟨.no, .again1 (.t 3) (.t 2), .none⟩,
 ⟨.tmp, .buildS 7 [[.int .i64 (.ofNat 0), .int .i64 (.ofNat 0), .str 0 0, .bool false, .nils, .nils, .int .i64 (.ofNat 0)]] [(0, (.t 0))], .none⟩,
 ⟨.tmp, .append 7 96 (.t 3) (.t 0), .none⟩,
 ⟨.tmp, .fadr 5 (.v 0), .none⟩,
 ⟨.no, .store 1 (.t 0) (.t 1), .none⟩]) (
 .skip))) (
 .seq (.seq (.reg [⟨.tmp, .fadr 5 (.v 0), .none⟩,
 ⟨.tmp, .load1 (.t 0), .none⟩,
 ⟨.tmp, .len false (.t 0), .none⟩,
 ⟨.tmp, .bin .eql (.t 0) (.c (.int .i64 (.ofNat 1))), .none⟩,
 ⟨.tmp, .move (.t 0), .none⟩,
 ⟨.tmp, .fadr 5 (.v 0), .some ((.t 0), true)⟩,
 ⟨.tmp, .load1 (.t 0), .some ((.t 1), true)⟩,
 ⟨.tmp, .idxS 7 (.t 0) (.c (.int .i64 (.ofNat 0))), .some ((.t 2), true)⟩,
 ⟨.tmp, .fadr 0 (.t 0), .some ((.t 3), true)⟩,
 ⟨.tmp, .load1 (.t 0), .some ((.t 4), true)⟩,
 ⟨.tmp, .bin .neq (.t 0) (.c (.int .i64 (.ofNat 13))), .some ((.t 5), true)⟩,
 ⟨.tmp, .pick (.t 6) (.t 0) (.c (.bool false)), .none⟩]) (
 .cond (.t 0) (
 .seq (.reg [⟨.tmp, .fadr 5 (.v 0), .none⟩,
 ⟨.tmp, .load1 (.t 0), .none⟩,
 ⟨.tmp, .idxS 7 (.t 0) (.c (.int .i64 (.ofNat 0))), .none⟩,
 ⟨.tmp, .loadN 7 (.t 0), .none⟩,
 ⟨.no, .store 7 (.v 3) (.t 0), .none⟩]) (
 .ret)) (
 .skip))) (
 .seq (.reg [⟨.tmp, .loadN 7 (.v 0), .none⟩,
 ⟨.no, .store 7 (.v 3) (.t 0), .none⟩]) (
 .ret)))))
def d106 : DF := ⟨[.some 3, .some 0, .some 4, .some 2, .some 5, .some 6],
 .seq (.reg [⟨(.var 3), .alloc [.int .i64 (.ofNat 0), .int .i64 (.ofNat 0), .str 0 0, .bool false, .nils, .nils, .int .i64 (.ofNat 0)], .none⟩]) (
 .seq (.reg [⟨.tmp, .move (.v 1), .none⟩,
 ⟨.tmp, .call 95 [(.t 0)], .none⟩,
 ⟨.tmp, .fld1 2 (.t 0), .none⟩,
 ⟨.tmp, .build [.int .i64 (.ofNat 0), .int .i64 (.ofNat 0), .str 0 0, .bool false, .nils, .nils, .int .i64 (.ofNat 0)] [(0, 1, (.c (.int .i64 (.ofNat 1)))), (6, 1, (.t 0))], .none⟩,
 ⟨(.var 0), .alloc [.int .i64 (.ofNat 0), .int .i64 (.ofNat 0), .str 0 0, .bool false, .nils, .nils, .int .i64 (.ofNat 0)], .none⟩,
 ⟨.no, .store 7 (.v 0) (.t 0), .none⟩]) (
 .seq (.reg [⟨.tmp, .move (.v 1), .none⟩,
 ⟨.tmp, .call 134 [(.t 0)], .none⟩,
 ⟨(.var 2), .move (.t 0), .none⟩]) (
 .seq (.seq (.reg [⟨.tmp, .move (.v 2), .none⟩,
 ⟨.tmp, .not (.t 0), .none⟩]) (
 .cond (.t 0) (
 .seq (.reg [⟨.tmp, .move (.v 1), .none⟩,
 ⟨.tmp, .call 51 [(.t 0), (.c (.int .i64 (.ofNat 41)))], .none⟩]) (
 .seq (.reg [⟨.tmp, .loadN 7 (.v 0), .none⟩,
 ⟨.no, .store 7 (.v 3) (.t 0), .none⟩]) (
 .ret))) (
 .skip))) (
 .seq (.block 0 (
 .loop b106_0)) r106_1)))),
 [.cellN 7 (.v 3)], 6, .none⟩
/-- (*telamon/telamonref12.Parser).maybe -/
def vm107 : List Nat := [5, 0, 4, 1]

def d107 : DF := ⟨[.some 5, .some 0, .some 4, .some 1],
 .seq (.reg [⟨(.var 2), .move (.c (.bool false)), .none⟩]) (
 .seq (.reg [⟨.tmp, .move (.v 1), .none⟩,
 ⟨.tmp, .move (.v 3), .none⟩,
 ⟨.tmp, .call 130 [(.t 1), (.t 0)], .none⟩,
 ⟨(.var 0), .move (.t 0), .none⟩]) (
 .seq (.seq (.reg [⟨.tmp, .move (.v 0), .none⟩]) (
 .cond (.t 0) (
 .reg [⟨.tmp, .move (.v 1), .none⟩,
 ⟨.tmp, .nilck (.t 0), .none⟩,
 ⟨.tmp, .fadr 1 (.t 0), .none⟩,
 ⟨.tmp, .load1 (.t 0), .none⟩,
 ⟨.tmp, .bin .add (.t 0) (.c (.int .i64 (.ofNat 1))), .none⟩,
 ⟨.tmp, .nilck (.t 4), .none⟩,
 ⟨.tmp, .fadr 1 (.t 0), .none⟩,
 ⟨.no, .store 1 (.t 0) (.t 2), .none⟩]) (
 .skip))) (
 .seq (.reg [⟨.tmp, .move (.v 0), .none⟩,
 ⟨(.var 2), .move (.t 0), .none⟩]) (
 .ret)))),
 [.opd (.v 2)], 4, .none⟩
/-- telamon/telamonref12.declared -/
def vm108 : List Nat := [1, 2, 4, 0]

def d108 : DF := ⟨[.some 1, .some 2, .some 4, .some 0],
 .seq (.reg [⟨(.var 0), .box 26 (.v 3), .none⟩,
 ⟨(.var 1), .move (.c (.nils)), .none⟩]) (
 .seq (.seq (.reg [⟨.tmp, .fadr 0 (.v 0), .none⟩,
 ⟨(.var 2), .load1 (.t 0), .none⟩]) (
 .block 0 (
 .seq (.reg [⟨.tmp, .bin .eql (.v 2) (.c (.int .i64 (.ofNat 1))), .none⟩,
 ⟨.tmp, .move (.t 0), .none⟩]) (
 .cond (.t 0) (
 .seq (.reg [⟨.tmp, .fadr 4 (.v 0), .none⟩,
 ⟨.tmp, .load1 (.t 0), .none⟩,
 ⟨(.var 1), .move (.t 0), .none⟩]) (
 .ret)) (
 .seq (.reg [⟨.tmp, .bin .eql (.v 2) (.c (.int .i64 (.ofNat 3))), .none⟩,
 ⟨.tmp, .move (.t 0), .none⟩]) (
 .cond (.t 0) (
 .seq (.reg [⟨.tmp, .fadr 2 (.v 0), .none⟩,
 ⟨.tmp, .load1 (.t 0), .none⟩,
 ⟨.tmp, .buildS 1 [[.str 0 0]] [(0, (.t 0))], .none⟩,
 ⟨(.var 1), .move (.t 0), .none⟩]) (
 .ret)) (
 .skip))))))) (
 .seq (.reg [⟨(.var 1), .move (.c (.nils)), .none⟩]) (
 .ret))),
 [.opd (.v 1)], 4, .none⟩
/-- telamon/telamonref12.split -/
def vm109 : List Nat := [9, 0, 8, 7, 5, 6, 2, 3, 4]
def b109_0 : DC :=
 .seq (.seq (.reg [⟨.tmp, .move (.v 0), .none⟩,
 ⟨.tmp, .move (.v 1), .none⟩,
 ⟨.tmp, .len true (.t 0), .none⟩,
 ⟨.tmp, .bin .leq (.t 2) (.t 0), .none⟩]) (
 .cond (.t 0) (
 .skip) (
 .exit 0))) (
 .seq (.block 1 (
 .seq (.seq (.reg [⟨.tmp, .move (.v 0), .none⟩,
 ⟨.tmp, .move (.v 1), .none⟩,
 ⟨.tmp, .len true (.t 0), .none⟩,
 ⟨.tmp, .bin .lss (.t 2) (.t 0), .none⟩,
 ⟨.tmp, .move (.t 0), .none⟩,
 ⟨.tmp, .move (.v 1), .some ((.t 0), true)⟩,
 ⟨.tmp, .move (.v 0), .some ((.t 1), true)⟩,
 ⟨.tmp, .idxStr (.t 1) (.t 0), .some ((.t 2), true)⟩,
 ⟨.tmp, .bin .neq (.t 0) (.c (.int .u8 (.ofNat 95))), .some ((.t 3), true)⟩,
 ⟨.tmp, .pick (.t 4) (.t 0) (.c (.bool false)), .none⟩]) (
 .cond (.t 0) (
 .exit 1) (
 .skip))) (
 .seq (.seq (.reg [⟨.tmp, .move (.v 0), .none⟩,
 ⟨.tmp, .move (.v 1), .none⟩,
 ⟨.tmp, .len true (.t 0), .none⟩,
 ⟨.tmp, .bin .lss (.t 2) (.t 0), .none⟩]) (
 .cond (.t 0) (
 .seq (.reg [⟨(.var 4), .move (.c (.bool true)), .none⟩]) (
 .seq (.reg [⟨.tmp, .move (.v 0), .none⟩,
 ⟨.tmp, .bin .add (.t 0) (.c (.int .i64 (.ofNat 1))), .none⟩,
 ⟨.tmp, .move (.v 1), .none⟩,
 ⟨.tmp, .len true (.t 0), .none⟩,
 ⟨.tmp, .bin .lss (.t 2) (.t 0), .none⟩,
 ⟨.tmp, .move (.t 0), .none⟩,
 ⟨.tmp, .move (.v 1), .some ((.t 0), true)⟩,
 ⟨.tmp, .move (.v 0), .some ((.t 1), true)⟩,
 ⟨.tmp, .bin .add (.t 0) (.c (.int .i64 (.ofNat 1))), .some ((.t 2), true)⟩,
 ⟨.tmp, .idxStr (.t 2) (.t 0), .some ((.t 3), true)⟩,
 ⟨.tmp, .bin .eql (.t 0) (.c (.int .u8 (.ofNat 95))), .some ((.t 4), true)⟩,
 ⟨.tmp, .pick (.t 5) (.t 0) (.c (.bool false)), .none⟩]) (
 .cond (.t 0) (
 .reg [⟨(.var 5), .move (.c (.bool false)), .none⟩]) (
 .skip)))) (
 .skip))) (
 .seq (.seq (.reg [⟨.tmp, .move (.v 0), .none⟩,
 ⟨.tmp, .move (.v 2), .none⟩,
 ⟨.tmp, .bin .gtr (.t 1) (.t 0), .none⟩]) (
 .cond (.t 0) (
 .reg [⟨.tmp, .move (.v 3), .none⟩,
 ⟨.tmp, .move (.v 1), .none⟩,
 ⟨.tmp, .move (.v 2), .none⟩,
 ⟨.tmp, .move (.v 0), .none⟩,
 ⟨.tmp, .slcStr (.t 2) (.some (.t 1)) (.some (.t 0)), .none⟩,
 ⟨.tmp, .buildS 1 [[.str 0 0]] [(0, (.t 0))], .none⟩,
 ⟨.tmp, .append 1 16 (.t 5) (.t 0), .none⟩,
 ⟨(.var 3), .move (.t 0), .none⟩]) (
 .skip))) (
 .reg [⟨.tmp, .move (.v 0), .none⟩,
 ⟨.tmp, .bin .add (.t 0) (.c (.int .i64 (.ofNat 1))), .none⟩,
 ⟨(.var 2), .move (.t 0), .none⟩]))))) (
 .reg [⟨.tmp, .move (.v 0), .none⟩,
 ⟨.tmp, .bin .add (.t 0) (.c (.int .i64 (.ofNat 1))), .none⟩,
 ⟨(.var 0), .move (.t 0), .none⟩]))
def r109_1 : DC :=
 .seq (.reg [⟨.tmp, .move (.v 3), .none⟩,
 ⟨.tmp, .move (.v 4), .none⟩,
 ⟨.tmp, .move (.v 5), .none⟩,
 ⟨.tmp, .move (.t 0), .none⟩,
 ⟨.tmp, .move (.v 3), .some ((.t 0), true)⟩,
 ⟨.tmp, .len false (.t 0), .some ((.t 1), true)⟩,
 ⟨.tmp, .bin .gtr (.t 0) (.c (.int .i64 (.ofNat 0))), .some ((.t 2), true)⟩,
 ⟨.tmp, .pick (.t 3) (.t 0) (.c (.bool false)), .none⟩,
 ⟨(.var 6), .move (.t 7), .none⟩,
 ⟨(.var 7), .move (.t 6), .none⟩,
 ⟨(.var 8), .move (.t 0), .none⟩]) (
 .ret)
def d109 : DF := ⟨[.some 9, .some 0, .some 8, .some 7, .some 5, .some 6, .some 2, .some 3, .some 4],
 .seq (.reg [⟨(.var 6), .move (.c (.nils)), .none⟩,
 ⟨(.var 7), .move (.c (.bool false)), .none⟩,
 ⟨(.var 8), .move (.c (.bool false)), .none⟩]) (
 .seq (.reg [⟨(.var 4), .move (.c (.bool false)), .none⟩]) (
 .seq (.reg [⟨(.var 5), .move (.c (.bool true)), .none⟩]) (
 .seq (.reg [⟨(.var 3), .move (.c (.nils)), .none⟩]) (
 .seq (.reg [⟨(.var 2), .move (.c (.int .i64 (.ofNat 0))), .none⟩]) (
 .seq (.seq (.reg [⟨(.var 0), .move (.c (.int .i64 (.ofNat 0))), .none⟩]) (
 .block 0 (
 .loop b109_0))) r109_1))))),
 [.opd (.v 6), .opd (.v 7), .opd (.v 8)], 9, .none⟩
/-- (*telamon/telamonref12.table).fail -/
def vm110 : List Nat := [0, 1, 2]

def d110 : DF := ⟨[.some 0, .some 1, .some 2],
 .seq (.reg [⟨.tmp, .move (.v 0), .none⟩,
 ⟨.tmp, .nilck (.t 0), .none⟩,
 ⟨.tmp, .fadr 4 (.t 0), .none⟩,
 ⟨.tmp, .load1 (.t 0), .none⟩,
 ⟨.tmp, .bin .eql (.t 0) (.c (.int .i64 (.ofNat 0))), .none⟩]) (
 .cond (.t 0) (
 .seq (.reg [⟨.tmp, .move (.v 0), .none⟩,
 ⟨.tmp, .move (.v 2), .none⟩,
 ⟨.tmp, .nilck (.t 1), .none⟩,
 ⟨.tmp, .fadr 4 (.t 0), .none⟩,
 ⟨.no, .store 1 (.t 0) (.t 2), .none⟩]) (
 .reg [⟨.tmp, .move (.v 0), .none⟩,
 ⟨.tmp, .move (.v 1), .none⟩,
 ⟨.tmp, .nilck (.t 1), .none⟩,
 ⟨.tmp, .fadr 5 (.t 0), .none⟩,
 ⟨.no, .store 1 (.t 0) (.t 2), .none⟩])) (
 .skip)),
 [], 3, .none⟩
/-- telamon/telamonref12.Has -/
def vm111 : List Nat := [5, 0, 4, 1]
def b111_0 : DC :=
 .seq (.seq (.reg [⟨.tmp, .move (.v 0), .none⟩,
 ⟨.tmp, .move (.v 1), .none⟩,
 ⟨.tmp, .len false (.t 0), .none⟩,
 ⟨.tmp, .bin .lss (.t 2) (.t 0), .none⟩]) (
 .cond (.t 0) (
 .skip) (
 .exit 0))) (
 .seq (.block 1 (
 .seq (.reg [⟨.tmp, .move (.v 1), .none⟩,
 ⟨.tmp, .move (.v 0), .none⟩,
 ⟨.tmp, .idxS 1 (.t 1) (.t 0), .none⟩,
 ⟨.tmp, .load1 (.t 0), .none⟩,
 ⟨.tmp, .move (.v 3), .none⟩,
 ⟨.tmp, .bin .eql (.t 1) (.t 0), .none⟩]) (
 .cond (.t 0) (
 .seq (.reg [⟨(.var 2), .move (.c (.bool true)), .none⟩]) (
 .ret)) (
 .skip)))) (
 .reg [⟨.tmp, .move (.v 0), .none⟩,
 ⟨.tmp, .bin .add (.t 0) (.c (.int .i64 (.ofNat 1))), .none⟩,
 ⟨(.var 0), .move (.t 0), .none⟩]))
def r111_1 : DC :=
 .seq (.reg [⟨(.var 2), .move (.c (.bool false)), .none⟩]) (
 .ret)
def d111 : DF := ⟨[.some 5, .some 0, .some 4, .some 1],
 .seq (.reg [⟨(.var 2), .move (.c (.bool false)), .none⟩]) (
 .seq (.seq (.reg [⟨(.var 0), .move (.c (.int .i64 (.ofNat 0))), .none⟩]) (
 .block 0 (
 .loop b111_0))) r111_1),
 [.opd (.v 2)], 4, .none⟩
/-- telamon/telamonref12.Row -/
def vm112 : List Nat := [10, 8, 9, 0, 1, 7, 11, 6, 4, 5, 12]
def b112_0 : DC :=
 .seq (.seq (.reg [⟨.tmp, .move (.v 0), .none⟩,
 ⟨.tmp, .move (.v 3), .none⟩,
 ⟨.tmp, .len false (.t 0), .none⟩,
 ⟨.tmp, .bin .lss (.t 2) (.t 0), .none⟩,
 ⟨.tmp, .move (.t 0), .none⟩,
 ⟨.tmp, .move (.v 4), .some ((.t 0), true)⟩,
 ⟨.tmp, .move (.v 1), .some ((.t 1), true)⟩,
 ⟨.tmp, .idxS 7 (.t 1) (.t 0), .some ((.t 2), true)⟩,
 ⟨.tmp, .fadr 0 (.t 0), .some ((.t 3), true)⟩,
 ⟨.tmp, .load1 (.t 0), .some ((.t 4), true)⟩,
 ⟨.tmp, .bin .eql (.t 0) (.c (.int .i64 (.ofNat 2))), .some ((.t 5), true)⟩,
 ⟨.tmp, .pick (.t 6) (.t 0) (.c (.bool false)), .none⟩]) (
 .cond (.t 0) (
 .skip) (
 .exit 2))) (
 .seq (.block 3 (
 .reg [⟨.tmp, .move (.v 2), .none⟩,
 ⟨.tmp, .move (.t 0), .none⟩,
 ⟨.tmp, .move (.v 3), .some ((.t 0), false)⟩,
 ⟨.tmp, .move (.v 0), .some ((.t 1), false)⟩,
 ⟨.tmp, .idxS 6 (.t 1) (.t 0), .some ((.t 2), false)⟩,
 ⟨.tmp, .fadr 1 (.t 0), .some ((.t 3), false)⟩,
 ⟨.tmp, .load1 (.t 0), .some ((.t 4), false)⟩,
 ⟨.tmp, .move (.v 4), .some ((.t 5), false)⟩,
 ⟨.tmp, .move (.v 1), .some ((.t 6), false)⟩,
 ⟨.tmp, .idxS 7 (.t 1) (.t 0), .some ((.t 7), false)⟩,
 ⟨.tmp, .fadr 2 (.t 0), .some ((.t 8), false)⟩,
 ⟨.tmp, .load1 (.t 0), .some ((.t 9), false)⟩,
 ⟨.tmp, .call 111 [(.t 5), (.t 0)], .some ((.t 10), false)⟩,
 ⟨.tmp, .pick (.t 11) (.c (.bool true)) (.t 0), .none⟩,
 ⟨(.var 2), .move (.t 0), .none⟩])) (
 .reg [⟨.tmp, .move (.v 0), .none⟩,
 ⟨.tmp, .bin .add (.t 0) (.c (.int .i64 (.ofNat 1))), .none⟩,
 ⟨(.var 0), .move (.t 0), .none⟩]))
def r112_1 : DC :=
 .reg [⟨.tmp, .move (.v 5), .none⟩,
 ⟨.tmp, .move (.v 5), .none⟩,
 ⟨.tmp, .nilck (.t 0), .none⟩,
 ⟨.tmp, .fadr 2 (.t 0), .none⟩,
 ⟨.tmp, .load1 (.t 0), .none⟩,
 ⟨.tmp, .move (.v 2), .none⟩,
 ⟨.tmp, .buildS 1 [[.bool false]] [(0, (.t 0))], .none⟩,
 ⟨.tmp, .append 1 1 (.t 2) (.t 0), .none⟩,
 ⟨.tmp, .nilck (.t 7), .none⟩,
 ⟨.tmp, .fadr 2 (.t 0), .none⟩,
 ⟨.no, .store 1 (.t 0) (.t 2), .none⟩]
def r112_2 : DC :=
 .reg [⟨.tmp, .move (.v 1), .none⟩,
 ⟨.tmp, .bin .add (.t 0) (.c (.int .i64 (.ofNat 1))), .none⟩,
 ⟨(.var 1), .move (.t 0), .none⟩]
def b112_3 : DC :=
 .seq (.seq (.reg [⟨.tmp, .move (.v 1), .none⟩,
 ⟨.tmp, .move (.v 7), .none⟩,
 ⟨.tmp, .bin .lss (.t 1) (.t 0), .none⟩]) (
 .cond (.t 0) (
 .skip) (
 .exit 0))) (
 .seq (.block 1 (
 .seq (.reg [⟨(.var 2), .move (.c (.bool false)), .none⟩]) (
 .seq (.seq (.reg [⟨(.var 0), .move (.c (.int .i64 (.ofNat 0))), .none⟩]) (
 .block 2 (
 .loop b112_0))) r112_1))) r112_2)
def b112_4 : DC :=
 .seq (.seq (.reg [⟨.tmp, .move (.v 6), .none⟩,
 ⟨.tmp, .move (.v 3), .none⟩,
 ⟨.tmp, .len false (.t 0), .none⟩,
 ⟨.tmp, .bin .lss (.t 2) (.t 0), .none⟩]) (
 .cond (.t 0) (
 .skip) (
 .exit 4))) (
 .seq (.block 5 (
 .reg [⟨.tmp, .move (.v 5), .none⟩,
 ⟨.tmp, .move (.v 5), .none⟩,
 ⟨.tmp, .nilck (.t 0), .none⟩,
 ⟨.tmp, .fadr 5 (.t 0), .none⟩,
 ⟨.tmp, .load1 (.t 0), .none⟩,
 ⟨.tmp, .move (.v 7), .none⟩,
 ⟨.tmp, .call 136 [(.t 0)], .none⟩,
 ⟨.no, .again1 (.t 3) (.t 2), .none⟩,
 ⟨.tmp, .buildS 1 [[.nils]] [(0, (.t 0))], .none⟩,
 ⟨.tmp, .append 1 24 (.t 3) (.t 0), .none⟩,
 ⟨.tmp, .nilck (.t 8), .none⟩,
 ⟨.tmp, .fadr 5 (.t 0), .none⟩,
 ⟨.no, .store 1 (.t 0) (.t 2), .none⟩])) (
 .reg [⟨.tmp, .move (.v 6), .none⟩,
 ⟨.tmp, .bin .add (.t 0) (.c (.int .i64 (.ofNat 1))), .none⟩,
 ⟨(.var 6), .move (.t 0), .none⟩]))
def r112_5 : DC :=
 .seq (.reg [⟨.tmp, .move (.v 5), .none⟩,
 ⟨.tmp, .move (.v 7), .none⟩,
 ⟨.tmp, .call 137 [(.t 1), (.c (.int .i64 (.ofNat 0))), (.t 0)], .none⟩,
 ⟨(.var 10), .alloc [.int .i64 (.ofNat 0), .int .i64 (.ofNat 0), .int .i64 (.ofNat 0), .str 0 0, .bool false, .nils, .nils, .int .i64 (.ofNat 0), .bool false], .none⟩,
 ⟨.no, .store 9 (.v 10) (.t 0), .none⟩]) (
 .seq (.seq (.reg [⟨.tmp, .fadr 0 (.v 10), .none⟩,
 ⟨.tmp, .load1 (.t 0), .none⟩,
 ⟨.tmp, .bin .neq (.t 0) (.c (.int .i64 (.ofNat 1))), .none⟩]) (
 .cond (.t 0) (
 .seq (.reg [⟨.tmp, .build [.int .i64 (.ofNat 0), .int .i64 (.ofNat 0), .str 0 0, .bool false, .nils, .nils, .int .i64 (.ofNat 0)] [], .none⟩,
 ⟨.no, .store 7 (.v 8) (.t 0), .none⟩,
 ⟨(.var 9), .move (.c (.int .i64 (.ofNat 43))), .none⟩]) (
 .ret)) (
 .skip))) (
 .seq (.reg [⟨.tmp, .fadr 1 (.v 10), .none⟩,
 ⟨.tmp, .loadN 7 (.t 0), .none⟩,
 ⟨.no, .store 7 (.v 8) (.t 0), .none⟩,
 ⟨(.var 9), .move (.c (.int .i64 (.ofNat 0))), .none⟩]) (
 .ret)))
def r112_6 : DC :=
 .seq (.seq (.reg [⟨(.var 6), .move (.c (.int .i64 (.ofNat 0))), .none⟩]) (
 .block 4 (
 .loop b112_4))) r112_5
def d112 : DF := ⟨[.some 10, .some 8, .some 9, .some 0, .some 1, .some 7, .some 11, .some 6, .some 4, .some 5, .some 12],
 .seq (.reg [⟨(.var 8), .alloc [.int .i64 (.ofNat 0), .int .i64 (.ofNat 0), .str 0 0, .bool false, .nils, .nils, .int .i64 (.ofNat 0)], .none⟩,
 ⟨(.var 9), .move (.c (.int .i64 (.ofNat 0))), .none⟩]) (
 .seq (.seq (.reg [⟨.tmp, .move (.v 4), .none⟩,
 ⟨.tmp, .len false (.t 0), .none⟩,
 ⟨.tmp, .bin .gtr (.t 0) (.c (.int .i64 (.ofNat 60))), .none⟩]) (
 .cond (.t 0) (
 .seq (.reg [⟨.tmp, .build [.int .i64 (.ofNat 0), .int .i64 (.ofNat 0), .str 0 0, .bool false, .nils, .nils, .int .i64 (.ofNat 0)] [], .none⟩,
 ⟨.no, .store 7 (.v 8) (.t 0), .none⟩,
 ⟨(.var 9), .move (.c (.int .i64 (.ofNat 2))), .none⟩]) (
 .ret)) (
 .skip))) (
 .seq (.reg [⟨.tmp, .move (.v 4), .none⟩,
 ⟨.tmp, .len false (.t 0), .none⟩,
 ⟨(.var 7), .move (.t 0), .none⟩]) (
 .seq (.reg [⟨.tmp, .move (.v 3), .none⟩,
 ⟨.tmp, .move (.v 4), .none⟩,
 ⟨.tmp, .move (.v 7), .none⟩,
 ⟨.tmp, .call 136 [(.t 0)], .none⟩,
 ⟨.tmp, .move (.v 7), .none⟩,
 ⟨.tmp, .call 136 [(.t 0)], .none⟩,
 ⟨.tmp, .build [.nils, .nils, .nils, .nils, .nils, .nils] [(0, 1, (.t 5)), (1, 1, (.t 4)), (3, 1, (.t 2)), (4, 1, (.t 0))], .none⟩,
 ⟨.tmp, .box 6 (.t 0), .none⟩,
 ⟨(.var 5), .move (.t 0), .none⟩]) (
 .seq (.seq (.reg [⟨(.var 1), .move (.c (.int .i64 (.ofNat 0))), .none⟩]) (
 .block 0 (
 .loop b112_3))) r112_6)))),
 [.cellN 7 (.v 8), .opd (.v 9)], 11, .none⟩
/-- telamon/raw.Levels -/
def vm113 : List Nat := [8, 5, 3, 6, 7, 2, 0]
def b113_0 : DC :=
 .seq (.reg [⟨.tmp, .bin .lss (.v 0) (.v 4), .none⟩]) (
 .seq (.cond (.t 0) (
 .skip) (
 .exit 0)) (
 .seq (.block 1 (
 .seq (.reg [⟨.tmp, .idxS 2 (.v 3) (.v 0), .none⟩,
 ⟨.tmp, .loadN 2 (.t 0), .none⟩,
 ⟨(.var 1), .alloc [.int .i64 (.ofNat 0), .nils], .none⟩,
 ⟨.no, .store 2 (.v 1) (.t 0), .none⟩]) (
 .reg [⟨.tmp, .move (.v 2), .none⟩,
 ⟨.tmp, .fadr 0 (.v 1), .none⟩,
 ⟨.tmp, .load1 (.t 0), .none⟩,
 ⟨.tmp, .fadr 1 (.v 1), .none⟩,
 ⟨.tmp, .load1 (.t 0), .none⟩,
 ⟨.tmp, .call 138 [(.t 0)], .none⟩,
 ⟨.no, .again1 (.t 4) (.t 3), .none⟩,
 ⟨.tmp, .build [.int .i64 (.ofNat 0), .nils] [(0, 1, (.t 3)), (1, 1, (.t 0))], .none⟩,
 ⟨.tmp, .buildS 2 [[.int .i64 (.ofNat 0), .nils]] [(0, (.t 0))], .none⟩,
 ⟨.tmp, .append 2 32 (.t 7) (.t 0), .none⟩,
 ⟨(.var 2), .move (.t 0), .none⟩]))) (
 .reg [⟨.tmp, .bin .add (.v 0) (.c (.int .i64 (.ofNat 1))), .none⟩,
 ⟨(.var 0), .move (.t 0), .none⟩])))
def r113_1 : DC :=
 .seq (.reg [⟨.tmp, .move (.v 2), .none⟩,
 ⟨(.var 5), .move (.t 0), .none⟩]) (
 .ret)
def d113 : DF := ⟨[.some 8, .some 5, .some 3, .some 6, .some 7, .some 2, .some 0],
 .seq (.reg [⟨(.var 5), .move (.c (.nils)), .none⟩]) (
 .seq (.reg [⟨(.var 2), .move (.c (.nils)), .none⟩]) (
 .seq (.seq (.reg [⟨(.var 3), .move (.v 6), .none⟩,
 ⟨(.var 4), .len false (.v 3), .none⟩,
 ⟨(.var 0), .move (.c (.int .i64 (.ofNat 0))), .none⟩]) (
 .block 0 (
 .loop b113_0))) r113_1)),
 [.opd (.v 5)], 7, .none⟩
/-- telamon/raw.Bind -/
def vm114 : List Nat := [6, 7, 8, 0, 1, 2, 3]

def d114 : DF := ⟨[.some 6, .some 7, .some 8, .some 0, .some 1, .some 2, .some 3],
 .seq (.reg [⟨(.var 0), .box 6 (.v 5), .none⟩,
 ⟨(.var 1), .box 6 (.v 6), .none⟩,
 ⟨(.var 2), .alloc [.int .i64 (.ofNat 0), .int .i64 (.ofNat 0), .bool false, .str 0 0, .nils, .nils], .none⟩]) (
 .seq (.reg [⟨.tmp, .move (.v 3), .none⟩,
 ⟨.tmp, .move (.v 4), .none⟩,
 ⟨.tmp, .loadN 6 (.v 0), .none⟩,
 ⟨.tmp, .loadN 6 (.v 1), .none⟩,
 ⟨.tmp, .buildS 6 [[.int .i64 (.ofNat 0), .int .i64 (.ofNat 0), .bool false, .str 0 0, .nils, .nils], [.int .i64 (.ofNat 0), .int .i64 (.ofNat 0), .bool false, .str 0 0, .nils, .nils]] [(0, (.t 1)), (1, (.t 0))], .none⟩,
 ⟨.tmp, .build [.int .i64 (.ofNat 0), .int .i64 (.ofNat 0), .bool false, .str 0 0, .nils, .nils] [(0, 1, (.t 4)), (2, 1, (.t 3)), (5, 1, (.t 0))], .none⟩,
 ⟨.no, .store 6 (.v 2) (.t 0), .none⟩]) (
 .ret)),
 [.cellN 6 (.v 2)], 7, .none⟩
/-- telamon/raw.Sort -/
def vm115 : List Nat := [1, 2, 0]

def d115 : DF := ⟨[.some 1, .some 2, .some 0],
 .seq (.reg [⟨(.var 0), .box 2 (.v 2), .none⟩,
 ⟨(.var 1), .alloc [.int .i64 (.ofNat 0), .int .i64 (.ofNat 0), .bool false, .str 0 0, .nils, .nils], .none⟩]) (
 .seq (.reg [⟨.tmp, .loadN 2 (.v 0), .none⟩,
 ⟨.tmp, .buildS 2 [[.int .i64 (.ofNat 0), .nils]] [(0, (.t 0))], .none⟩,
 ⟨.tmp, .call 113 [(.t 0)], .none⟩,
 ⟨.tmp, .build [.int .i64 (.ofNat 0), .int .i64 (.ofNat 0), .bool false, .str 0 0, .nils, .nils] [(0, 1, (.c (.int .i64 (.ofNat 2)))), (4, 1, (.t 0))], .none⟩,
 ⟨.no, .store 6 (.v 1) (.t 0), .none⟩]) (
 .ret)),
 [.cellN 6 (.v 1)], 3, .none⟩
/-- (*telamon/scope.resolver).telescope$1 -/
def vm116 : List Nat := [0, 1]

def d116 : DF := ⟨[.some 0, .some 1],
 .reg [⟨.tmp, .load1 (.v 0), .none⟩,
 ⟨.tmp, .load1 (.v 0), .none⟩,
 ⟨.tmp, .nilck (.t 0), .none⟩,
 ⟨.tmp, .fadr 0 (.t 0), .none⟩,
 ⟨.tmp, .fadr 1 (.t 0), .none⟩,
 ⟨.tmp, .load1 (.t 0), .none⟩,
 ⟨.tmp, .load1 (.v 1), .none⟩,
 ⟨.tmp, .load1 (.v 1), .none⟩,
 ⟨.tmp, .slcS 1 (.t 2) .none (.some (.t 1)) (.some (.t 0)), .none⟩,
 ⟨.tmp, .nilck (.t 8), .none⟩,
 ⟨.tmp, .fadr 0 (.t 0), .none⟩,
 ⟨.tmp, .fadr 1 (.t 0), .none⟩,
 ⟨.no, .store 1 (.t 0) (.t 3), .none⟩],
 [], 2, .none⟩
/-- (*telamon/scope.resolver).name -/
def vm117 : List Nat := [3, 4, 5, 0, 9, 6, 7, 8, 1]

def d117 : DF := ⟨[.some 3, .some 4, .some 5, .some 0, .some 9, .some 6, .some 7, .some 8, .some 1],
 .seq (.reg [⟨(.var 0), .box 7 (.v 8), .none⟩,
 ⟨(.var 1), .alloc [.int .i64 (.ofNat 0), .int .i64 (.ofNat 0), .str 0 0, .bool false, .nils, .nils, .int .i64 (.ofNat 0)], .none⟩,
 ⟨(.var 2), .move (.c (.nili)), .none⟩]) (
 .seq (.seq (.reg [⟨.tmp, .move (.v 3), .none⟩,
 ⟨.tmp, .fadr 2 (.v 0), .none⟩,
 ⟨.tmp, .load1 (.t 0), .none⟩,
 ⟨.tmp, .call 139 [(.t 2), (.t 0)], .none⟩,
 ⟨.tmp, .move (.t 0), .none⟩,
 ⟨.tmp, .ext (.t 0) 0, .none⟩,
 ⟨.tmp, .ext (.t 1) 1, .none⟩,
 ⟨(.var 5), .move (.t 1), .none⟩,
 ⟨(.var 6), .move (.t 0), .none⟩]) (
 .seq (.reg [⟨.tmp, .move (.v 6), .none⟩]) (
 .cond (.t 0) (
 .seq (.reg [⟨.tmp, .move (.v 5), .none⟩,
 ⟨.tmp, .fadr 6 (.v 0), .none⟩,
 ⟨.tmp, .load1 (.t 0), .none⟩,
 ⟨.tmp, .build [.int .i64 (.ofNat 0), .int .i64 (.ofNat 0), .str 0 0, .bool false, .nils, .nils, .int .i64 (.ofNat 0)] [(0, 1, (.c (.int .i64 (.ofNat 14)))), (1, 1, (.t 2)), (6, 1, (.t 0))], .none⟩,
 ⟨.no, .store 7 (.v 1) (.t 0), .none⟩,
 ⟨(.var 2), .move (.c (.nili)), .none⟩]) (
 .ret)) (
 .skip)))) (
 .seq (.reg [⟨.tmp, .move (.v 3), .none⟩,
 ⟨.tmp, .fadr 2 (.v 0), .none⟩,
 ⟨.tmp, .load1 (.t 0), .none⟩,
 ⟨.tmp, .fadr 6 (.v 0), .none⟩,
 ⟨.tmp, .load1 (.t 0), .none⟩,
 ⟨.tmp, .call 140 [(.t 4), (.t 2), (.t 0)], .none⟩,
 ⟨.tmp, .move (.t 0), .none⟩,
 ⟨.tmp, .ext (.t 0) 0, .none⟩,
 ⟨.tmp, .ext (.t 1) 1, .none⟩,
 ⟨(.var 7), .move (.t 1), .none⟩,
 ⟨(.var 4), .move (.t 0), .none⟩]) (
 .seq (.seq (.reg [⟨.tmp, .move (.v 4), .none⟩,
 ⟨.tmp, .binN true 0 (.t 0), .none⟩]) (
 .cond (.t 0) (
 .seq (.reg [⟨.tmp, .build [.int .i64 (.ofNat 0), .int .i64 (.ofNat 0), .str 0 0, .bool false, .nils, .nils, .int .i64 (.ofNat 0)] [], .none⟩,
 ⟨.tmp, .move (.v 4), .none⟩,
 ⟨.no, .store 7 (.v 1) (.t 1), .none⟩,
 ⟨(.var 2), .move (.t 0), .none⟩]) (
 .ret)) (
 .skip))) (
 .seq (.reg [⟨.tmp, .move (.v 3), .none⟩,
 ⟨.tmp, .move (.v 7), .none⟩,
 ⟨.tmp, .fadr 6 (.v 0), .none⟩,
 ⟨.tmp, .load1 (.t 0), .none⟩,
 ⟨.tmp, .call 141 [(.t 3), (.t 2), (.t 0)], .none⟩,
 ⟨.no, .store 7 (.v 1) (.t 0), .none⟩,
 ⟨(.var 2), .move (.c (.nili)), .none⟩]) (
 .ret))))),
 [.cellN 7 (.v 1), .opd (.v 2)], 9, .none⟩
/-- (*telamon/scope.resolver).parts -/
def vm118 : List Nat := [0, 1, 2, 3, 4, 5, 6, 7, 9, 10, 11, 12, 13, 14, 17, 18, 19, 44, 45, 47, 73, 74, 75]
def x118 : DC :=
 .seq (.reg [⟨.tmp, .load1 (.v 5), .none⟩,
 ⟨.tmp, .nilck (.t 0), .none⟩,
 ⟨.tmp, .fadr 4 (.t 0), .none⟩,
 ⟨.tmp, .load1 (.t 0), .none⟩,
 ⟨.tmp, .fadr 0 (.v 8), .none⟩,
 ⟨.tmp, .load1 (.t 0), .none⟩,
 ⟨.tmp, .fadr 1 (.v 8), .none⟩,
 ⟨.tmp, .load1 (.t 0), .none⟩,
 ⟨.tmp, .loadN 7 (.v 9), .none⟩,
 ⟨(.var 17), .build [.str 0 0, .bool false, .int .i64 (.ofNat 0), .int .i64 (.ofNat 0), .str 0 0, .bool false, .nils, .nils, .int .i64 (.ofNat 0)] [(0, 1, (.t 3)), (1, 1, (.t 1)), (2, 7, (.t 0))], .none⟩,
 ⟨(.var 18), .len false (.t 5), .none⟩,
 ⟨.tmp, .buildS 9 [[.str 0 0, .bool false, .int .i64 (.ofNat 0), .int .i64 (.ofNat 0), .str 0 0, .bool false, .nils, .nils, .int .i64 (.ofNat 0)]] [(0, (.c (.agg [.str 0 0, .bool false, .int .i64 (.ofNat 0), .int .i64 (.ofNat 0), .str 0 0, .bool false, .nils, .nils, .int .i64 (.ofNat 0)])))], .none⟩,
 ⟨(.var 19), .append 9 120 (.t 6) (.t 0), .none⟩,
 ⟨.tmp, .nilck (.t 9), .none⟩,
 ⟨.tmp, .fadr 4 (.t 0), .none⟩,
 ⟨.no, .store 1 (.t 0) (.v 19), .none⟩,
 ⟨.no, .kill (.t 2), .none⟩]) (
 .reg [⟨.tmp, .idxS 9 (.v 19) (.v 18), .none⟩,
 ⟨.no, .store 9 (.t 0) (.v 17), .none⟩])
def y118 : DC :=
 .reg [⟨.tmp, .load1 (.v 5), .none⟩,
 ⟨.tmp, .load1 (.v 5), .none⟩,
 ⟨.tmp, .nilck (.t 0), .none⟩,
 ⟨.tmp, .fadr 4 (.t 0), .none⟩,
 ⟨.tmp, .load1 (.t 0), .none⟩,
 ⟨.tmp, .fadr 0 (.v 8), .none⟩,
 ⟨.tmp, .load1 (.t 0), .none⟩,
 ⟨.tmp, .fadr 1 (.v 8), .none⟩,
 ⟨.tmp, .load1 (.t 0), .none⟩,
 ⟨.tmp, .loadN 7 (.v 9), .none⟩,
 ⟨.tmp, .build [.str 0 0, .bool false, .int .i64 (.ofNat 0), .int .i64 (.ofNat 0), .str 0 0, .bool false, .nils, .nils, .int .i64 (.ofNat 0)] [(0, 1, (.t 3)), (1, 1, (.t 1)), (2, 7, (.t 0))], .none⟩,
 ⟨.tmp, .buildS 9 [[.str 0 0, .bool false, .int .i64 (.ofNat 0), .int .i64 (.ofNat 0), .str 0 0, .bool false, .nils, .nils, .int .i64 (.ofNat 0)]] [(0, (.t 0))], .none⟩,
 ⟨.tmp, .append 9 120 (.t 7) (.t 0), .none⟩,
 ⟨.no, .again1 (.v 5) (.t 12), .none⟩,
 ⟨.tmp, .nilck (.t 12), .none⟩,
 ⟨.tmp, .fadr 4 (.t 0), .none⟩,
 ⟨.no, .store 1 (.t 0) (.t 2), .none⟩,
 ⟨.no, .kill (.t 3), .none⟩]
def b118_1 : DC :=
 .seq (.reg [⟨.tmp, .bin .lss (.v 16) (.v 15), .none⟩]) (
 .seq (.cond (.t 0) (
 .skip) (
 .exit 0)) (
 .seq (.block 1 (
 .seq (.reg [⟨.tmp, .idxS 9 (.v 14) (.v 16), .none⟩,
 ⟨.tmp, .loadN 9 (.t 0), .none⟩,
 ⟨(.var 8), .alloc [.str 0 0, .bool false, .int .i64 (.ofNat 0), .int .i64 (.ofNat 0), .str 0 0, .bool false, .nils, .nils, .int .i64 (.ofNat 0)], .none⟩,
 ⟨.no, .store 9 (.v 8) (.t 0), .none⟩]) (
 .seq (.reg [⟨.tmp, .load1 (.v 3), .none⟩,
 ⟨.tmp, .fadr 2 (.v 8), .none⟩,
 ⟨.tmp, .loadN 7 (.t 0), .none⟩,
 ⟨.tmp, .call 70 [(.t 2), (.t 0)], .none⟩,
 ⟨.tmp, .move (.t 0), .none⟩,
 ⟨.tmp, .ext (.t 0) 0, .none⟩,
 ⟨.tmp, .ext (.t 1) 1, .none⟩,
 ⟨(.var 9), .alloc [.int .i64 (.ofNat 0), .int .i64 (.ofNat 0), .str 0 0, .bool false, .nils, .nils, .int .i64 (.ofNat 0)], .none⟩,
 ⟨.no, .store 7 (.v 9) (.t 1), .none⟩,
 ⟨(.var 10), .move (.t 0), .none⟩]) (
 .seq (.seq (.reg [⟨.tmp, .move (.v 10), .none⟩,
 ⟨.tmp, .binN true 0 (.t 0), .none⟩]) (
 .cond (.t 0) (
 .seq (.reg [⟨.tmp, .move (.v 10), .none⟩,
 ⟨(.var 6), .move (.t 0), .none⟩]) (
 .ret)) (
 .skip))) (
 .seq (.condF x118 y118 [17, 18, 19] (.v 5) 4) (
 .reg [⟨.tmp, .move (.v 7), .none⟩,
 ⟨.tmp, .fadr 0 (.v 8), .none⟩,
 ⟨.tmp, .load1 (.t 0), .none⟩,
 ⟨.tmp, .buildS 1 [[.str 0 0]] [(0, (.t 0))], .none⟩,
 ⟨.tmp, .append 1 16 (.t 3) (.t 0), .none⟩,
 ⟨(.var 7), .move (.t 0), .none⟩])))))) (
 .reg [⟨.tmp, .bin .add (.v 16) (.c (.int .i64 (.ofNat 1))), .none⟩,
 ⟨(.var 16), .move (.t 0), .none⟩])))
def b118_2 : DC :=
 .seq (.reg [⟨.tmp, .bin .lss (.v 22) (.v 21), .none⟩]) (
 .seq (.cond (.t 0) (
 .skip) (
 .exit 2)) (
 .seq (.block 3 (
 .seq (.reg [⟨.tmp, .move (.v 22), .none⟩,
 ⟨.tmp, .idxS 7 (.v 20) (.v 22), .none⟩,
 ⟨.tmp, .loadN 7 (.t 0), .none⟩,
 ⟨(.var 12), .alloc [.int .i64 (.ofNat 0), .int .i64 (.ofNat 0), .str 0 0, .bool false, .nils, .nils, .int .i64 (.ofNat 0)], .none⟩,
 ⟨(.var 11), .move (.t 2), .none⟩,
 ⟨.no, .store 7 (.v 12) (.t 0), .none⟩]) (
 .seq (.seq (.reg [⟨.tmp, .fadr 0 (.v 4), .none⟩,
 ⟨.tmp, .load1 (.t 0), .none⟩,
 ⟨.tmp, .bin .eql (.t 0) (.c (.int .i64 (.ofNat 9))), .none⟩,
 ⟨.tmp, .move (.t 0), .none⟩,
 ⟨.tmp, .move (.v 11), .some ((.t 0), true)⟩,
 ⟨.tmp, .bin .eql (.t 0) (.c (.int .i64 (.ofNat 2))), .some ((.t 1), true)⟩,
 ⟨.tmp, .pick (.t 2) (.t 0) (.c (.bool false)), .none⟩]) (
 .cond (.t 0) (
 .reg [⟨.tmp, .move (.v 7), .none⟩,
 ⟨.tmp, .fadr 2 (.v 4), .none⟩,
 ⟨.tmp, .load1 (.t 0), .none⟩,
 ⟨.tmp, .buildS 1 [[.str 0 0]] [(0, (.t 0))], .none⟩,
 ⟨.tmp, .append 1 16 (.t 3) (.t 0), .none⟩,
 ⟨(.var 7), .move (.t 0), .none⟩]) (
 .skip))) (
 .seq (.reg [⟨.tmp, .load1 (.v 3), .none⟩,
 ⟨.tmp, .mkfn 142 [] [(.v 3), (.v 12), (.v 5)], .none⟩,
 ⟨.tmp, .move (.v 7), .none⟩,
 ⟨.tmp, .call 126 [(.t 2), (.t 1), (.t 0)], .none⟩,
 ⟨(.var 13), .move (.t 0), .none⟩]) (
 .seq (.reg [⟨.tmp, .move (.v 13), .none⟩,
 ⟨.tmp, .binN true 0 (.t 0), .none⟩]) (
 .cond (.t 0) (
 .seq (.reg [⟨.tmp, .move (.v 13), .none⟩,
 ⟨(.var 6), .move (.t 0), .none⟩]) (
 .ret)) (
 .skip))))))) (
 .reg [⟨.tmp, .bin .add (.v 22) (.c (.int .i64 (.ofNat 1))), .none⟩,
 ⟨(.var 22), .move (.t 0), .none⟩])))
def r118_3 : DC :=
 .seq (.reg [⟨(.var 6), .move (.c (.nili)), .none⟩]) (
 .ret)
def r118_4 : DC :=
 .seq (.seq (.reg [⟨.tmp, .fadr 5 (.v 4), .none⟩,
 ⟨(.var 20), .load1 (.t 0), .none⟩,
 ⟨(.var 21), .len false (.v 20), .none⟩,
 ⟨(.var 22), .move (.c (.int .i64 (.ofNat 0))), .none⟩]) (
 .block 2 (
 .loop b118_2))) r118_3
def d118 : DF := ⟨[.some 0, .some 1, .some 2, .some 3, .some 4, .some 5, .some 6, .some 7, .some 9, .some 10, .some 11, .some 12, .some 13, .some 14, .some 17, .some 18, .some 19, .some 44, .some 45, .some 47, .some 73, .some 74, .some 75],
 .seq (.reg [⟨(.var 3), .box 1 (.v 0), .none⟩,
 ⟨(.var 4), .box 7 (.v 1), .none⟩,
 ⟨(.var 5), .box 1 (.v 2), .none⟩,
 ⟨(.var 6), .move (.c (.nili)), .none⟩]) (
 .seq (.reg [⟨.tmp, .mkS [.str 0 0] 16 (.c (.int .i64 (.ofNat 0))) (.c (.int .i64 (.ofNat 1))), .none⟩,
 ⟨(.var 7), .move (.t 0), .none⟩]) (
 .seq (.seq (.reg [⟨.tmp, .fadr 4 (.v 4), .none⟩,
 ⟨(.var 14), .load1 (.t 0), .none⟩,
 ⟨(.var 15), .len false (.v 14), .none⟩,
 ⟨(.var 16), .move (.c (.int .i64 (.ofNat 0))), .none⟩]) (
 .block 0 (
 .loop b118_1))) r118_4)),
 [.opd (.v 6)], 23, .none⟩
/-- strings.Index -/
def vm119 : List Nat := [4, 0, 1]

def d119 : DF := ⟨[.some 4, .some 0, .some 1],
 .seq (.reg [⟨(.var 0), .move (.c (.int .i64 (.ofNat 0))), .none⟩]) (
 .seq (.reg [⟨.tmp, .move (.v 1), .none⟩,
 ⟨.tmp, .move (.v 2), .none⟩,
 ⟨.tmp, .call 143 [(.t 1), (.t 0)], .none⟩,
 ⟨(.var 0), .move (.t 0), .none⟩]) (
 .ret)),
 [.opd (.v 0)], 3, .none⟩
/-- strings.Split -/
def vm120 : List Nat := [4, 0, 1]

def d120 : DF := ⟨[.some 4, .some 0, .some 1],
 .seq (.reg [⟨(.var 0), .move (.c (.nils)), .none⟩]) (
 .seq (.reg [⟨.tmp, .move (.v 1), .none⟩,
 ⟨.tmp, .move (.v 2), .none⟩,
 ⟨.tmp, .call 144 [(.t 1), (.t 0), (.c (.int .i64 (.ofNat 0))), (.c (.int .i64 (.negSucc 0)))], .none⟩,
 ⟨(.var 0), .move (.t 0), .none⟩]) (
 .ret)),
 [.opd (.v 0)], 3, .none⟩
/-- (*telamon/scope.module).nested -/
def vm121 : List Nat := [0, 11, 8, 6, 9, 10, 2, 1]
def b121_0 : DC :=
 .seq (.reg [⟨.tmp, .bin .lss (.v 1) (.v 5), .none⟩]) (
 .seq (.cond (.t 0) (
 .skip) (
 .exit 0)) (
 .seq (.block 1 (
 .seq (.reg [⟨.tmp, .idxS 1 (.v 4) (.v 1), .none⟩,
 ⟨.tmp, .load1 (.t 0), .none⟩,
 ⟨(.var 2), .move (.t 0), .none⟩]) (
 .seq (.reg [⟨.tmp, .move (.v 0), .none⟩,
 ⟨.tmp, .nilck (.t 0), .none⟩,
 ⟨.tmp, .fadr 0 (.t 0), .none⟩,
 ⟨.tmp, .fadr 2 (.t 0), .none⟩,
 ⟨.tmp, .load1 (.t 0), .none⟩,
 ⟨.tmp, .move (.v 2), .none⟩,
 ⟨.tmp, .lkp (.nilp) 1 false (.t 1) (.t 0), .none⟩,
 ⟨(.var 0), .move (.t 0), .none⟩]) (
 .seq (.reg [⟨.tmp, .move (.v 0), .none⟩,
 ⟨.tmp, .binP .eql (.t 0) (.c (.nilp)), .none⟩,
 ⟨.tmp, .move (.t 0), .none⟩,
 ⟨.tmp, .move (.v 0), .some ((.t 0), false)⟩,
 ⟨.tmp, .move (.v 6), .some ((.t 1), false)⟩,
 ⟨.tmp, .call 145 [(.t 1), (.t 0)], .some ((.t 2), false)⟩,
 ⟨.tmp, .not (.t 0), .some ((.t 3), false)⟩,
 ⟨.tmp, .pick (.t 4) (.c (.bool true)) (.t 0), .none⟩]) (
 .cond (.t 0) (
 .seq (.reg [⟨(.var 3), .move (.c (.nilp)), .none⟩]) (
 .ret)) (
 .skip)))))) (
 .reg [⟨.tmp, .bin .add (.v 1) (.c (.int .i64 (.ofNat 1))), .none⟩,
 ⟨(.var 1), .move (.t 0), .none⟩])))
def r121_1 : DC :=
 .seq (.reg [⟨.tmp, .move (.v 0), .none⟩,
 ⟨(.var 3), .move (.t 0), .none⟩]) (
 .ret)
def d121 : DF := ⟨[.some 0, .some 11, .some 8, .some 6, .some 9, .some 10, .some 2, .some 1],
 .seq (.reg [⟨(.var 3), .move (.c (.nilp)), .none⟩]) (
 .seq (.seq (.reg [⟨(.var 4), .move (.v 7), .none⟩,
 ⟨(.var 5), .len false (.v 4), .none⟩,
 ⟨(.var 1), .move (.c (.int .i64 (.ofNat 0))), .none⟩]) (
 .block 0 (
 .loop b121_0))) r121_1),
 [.opd (.v 3)], 8, .none⟩
/-- slices.Index[[]string,string] -/
def vm122 : List Nat := [8, 5, 4, 0, 7, 1]
def b122_0 : DC :=
 .seq (.reg [⟨.tmp, .bin .lss (.v 0) (.v 4), .none⟩]) (
 .seq (.cond (.t 0) (
 .skip) (
 .exit 0)) (
 .seq (.block 1 (
 .seq (.reg [⟨.tmp, .move (.v 0), .none⟩,
 ⟨(.var 1), .move (.t 0), .none⟩]) (
 .seq (.reg [⟨.tmp, .move (.v 5), .none⟩,
 ⟨.tmp, .move (.v 3), .none⟩,
 ⟨.tmp, .move (.v 1), .none⟩,
 ⟨.tmp, .idxS 1 (.t 1) (.t 0), .none⟩,
 ⟨.tmp, .load1 (.t 0), .none⟩,
 ⟨.tmp, .bin .eql (.t 4) (.t 0), .none⟩]) (
 .cond (.t 0) (
 .seq (.reg [⟨.tmp, .move (.v 1), .none⟩,
 ⟨(.var 2), .move (.t 0), .none⟩]) (
 .ret)) (
 .skip))))) (
 .reg [⟨.tmp, .bin .add (.v 0) (.c (.int .i64 (.ofNat 1))), .none⟩,
 ⟨(.var 0), .move (.t 0), .none⟩])))
def r122_1 : DC :=
 .seq (.reg [⟨(.var 2), .move (.c (.int .i64 (.negSucc 0))), .none⟩]) (
 .ret)
def d122 : DF := ⟨[.some 8, .some 5, .some 4, .some 0, .some 7, .some 1],
 .seq (.reg [⟨(.var 2), .move (.c (.int .i64 (.ofNat 0))), .none⟩]) (
 .seq (.seq (.reg [⟨.tmp, .move (.v 3), .none⟩,
 ⟨(.var 4), .len false (.t 0), .none⟩,
 ⟨(.var 0), .move (.c (.int .i64 (.ofNat 0))), .none⟩]) (
 .block 0 (
 .loop b122_0))) r122_1),
 [.opd (.v 2)], 6, .none⟩
/-- (*telamon/scope.pattern).row -/
def vm123 : List Nat := [5, 11, 8, 9, 10, 12, 0, 3, 1, 2]

def d123 : DF := ⟨[.some 5, .some 11, .some 8, .some 9, .some 10, .some 12, .some 0, .some 3, .some 1, .some 2],
 .seq (.reg [⟨(.var 0), .box 7 (.v 8), .none⟩,
 ⟨(.var 2), .alloc [.int .i64 (.ofNat 0), .int .i64 (.ofNat 0), .str 0 0, .bool false, .nils, .nils, .int .i64 (.ofNat 0)], .none⟩,
 ⟨(.var 3), .move (.c (.nili)), .none⟩]) (
 .seq (.seq (.reg [⟨.tmp, .fadr 0 (.v 0), .none⟩,
 ⟨.tmp, .load1 (.t 0), .none⟩,
 ⟨.tmp, .bin .neq (.t 0) (.c (.int .i64 (.ofNat 5))), .none⟩]) (
 .cond (.t 0) (
 .seq (.reg [⟨.tmp, .move (.v 7), .none⟩,
 ⟨.tmp, .loadN 7 (.v 0), .none⟩,
 ⟨.tmp, .callv (.t 1) [(.t 0)], .none⟩,
 ⟨.tmp, .ext (.t 0) 0, .none⟩,
 ⟨.tmp, .ext (.t 1) 1, .none⟩,
 ⟨.no, .store 7 (.v 2) (.t 1), .none⟩,
 ⟨(.var 3), .move (.t 0), .none⟩]) (
 .ret)) (
 .skip))) (
 .seq (.reg [⟨.tmp, .move (.v 6), .none⟩,
 ⟨.tmp, .fadr 5 (.v 0), .none⟩,
 ⟨.tmp, .load1 (.t 0), .none⟩,
 ⟨.tmp, .idxS 7 (.t 0) (.c (.int .i64 (.ofNat 0))), .none⟩,
 ⟨.tmp, .loadN 7 (.t 0), .none⟩,
 ⟨.tmp, .move (.v 9), .none⟩,
 ⟨.tmp, .move (.v 7), .none⟩,
 ⟨.tmp, .call 123 [(.t 6), (.t 2), (.t 1), (.t 0)], .none⟩,
 ⟨.tmp, .move (.t 0), .none⟩,
 ⟨.tmp, .ext (.t 0) 0, .none⟩,
 ⟨.tmp, .ext (.t 1) 1, .none⟩,
 ⟨(.var 4), .alloc [.int .i64 (.ofNat 0), .int .i64 (.ofNat 0), .str 0 0, .bool false, .nils, .nils, .int .i64 (.ofNat 0)], .none⟩,
 ⟨.no, .store 7 (.v 4) (.t 1), .none⟩,
 ⟨(.var 1), .move (.t 0), .none⟩]) (
 .seq (.seq (.reg [⟨.tmp, .move (.v 1), .none⟩,
 ⟨.tmp, .binN true 0 (.t 0), .none⟩]) (
 .cond (.t 0) (
 .seq (.reg [⟨.tmp, .build [.int .i64 (.ofNat 0), .int .i64 (.ofNat 0), .str 0 0, .bool false, .nils, .nils, .int .i64 (.ofNat 0)] [], .none⟩,
 ⟨.tmp, .move (.v 1), .none⟩,
 ⟨.no, .store 7 (.v 2) (.t 1), .none⟩,
 ⟨(.var 3), .move (.t 0), .none⟩]) (
 .ret)) (
 .skip))) (
 .seq (.reg [⟨.tmp, .move (.v 6), .none⟩,
 ⟨.tmp, .fadr 5 (.v 0), .none⟩,
 ⟨.tmp, .load1 (.t 0), .none⟩,
 ⟨.tmp, .idxS 7 (.t 0) (.c (.int .i64 (.ofNat 1))), .none⟩,
 ⟨.tmp, .loadN 7 (.t 0), .none⟩,
 ⟨.tmp, .call 146 [(.t 4), (.t 0)], .none⟩,
 ⟨.tmp, .move (.t 0), .none⟩,
 ⟨.tmp, .ext (.t 0) 0, .none⟩,
 ⟨.tmp, .ext (.t 1) 1, .none⟩,
 ⟨(.var 5), .alloc [.int .i64 (.ofNat 0), .int .i64 (.ofNat 0), .str 0 0, .bool false, .nils, .nils, .int .i64 (.ofNat 0)], .none⟩,
 ⟨.no, .store 7 (.v 5) (.t 1), .none⟩,
 ⟨(.var 1), .move (.t 0), .none⟩]) (
 .seq (.seq (.reg [⟨.tmp, .move (.v 1), .none⟩,
 ⟨.tmp, .binN true 0 (.t 0), .none⟩]) (
 .cond (.t 0) (
 .seq (.reg [⟨.tmp, .build [.int .i64 (.ofNat 0), .int .i64 (.ofNat 0), .str 0 0, .bool false, .nils, .nils, .int .i64 (.ofNat 0)] [], .none⟩,
 ⟨.tmp, .move (.v 1), .none⟩,
 ⟨.no, .store 7 (.v 2) (.t 1), .none⟩,
 ⟨(.var 3), .move (.t 0), .none⟩]) (
 .ret)) (
 .skip))) (
 .seq (.reg [⟨.tmp, .fadr 3 (.v 0), .none⟩,
 ⟨.tmp, .load1 (.t 0), .none⟩,
 ⟨.tmp, .loadN 7 (.v 4), .none⟩,
 ⟨.tmp, .loadN 7 (.v 5), .none⟩,
 ⟨.tmp, .buildS 7 [[.int .i64 (.ofNat 0), .int .i64 (.ofNat 0), .str 0 0, .bool false, .nils, .nils, .int .i64 (.ofNat 0)], [.int .i64 (.ofNat 0), .int .i64 (.ofNat 0), .str 0 0, .bool false, .nils, .nils, .int .i64 (.ofNat 0)]] [(0, (.t 1)), (1, (.t 0))], .none⟩,
 ⟨.tmp, .fadr 6 (.v 0), .none⟩,
 ⟨.tmp, .load1 (.t 0), .none⟩,
 ⟨.tmp, .build [.int .i64 (.ofNat 0), .int .i64 (.ofNat 0), .str 0 0, .bool false, .nils, .nils, .int .i64 (.ofNat 0)] [(0, 1, (.c (.int .i64 (.ofNat 5)))), (3, 1, (.t 5)), (5, 1, (.t 2)), (6, 1, (.t 0))], .none⟩,
 ⟨.no, .store 7 (.v 2) (.t 0), .none⟩,
 ⟨(.var 3), .move (.c (.nili)), .none⟩]) (
 .ret))))))),
 [.cellN 7 (.v 2), .opd (.v 3)], 10, .none⟩
/-- (*telamon/scope.resolver).clause$1 -/
def vm124 : List Nat := [2, 3, 4, 0, 1]

def d124 : DF := ⟨[.some 2, .some 3, .some 4, .some 0, .some 1],
 .seq (.reg [⟨(.var 0), .box 7 (.v 3), .none⟩,
 ⟨(.var 1), .alloc [.int .i64 (.ofNat 0), .int .i64 (.ofNat 0), .str 0 0, .bool false, .nils, .nils, .int .i64 (.ofNat 0)], .none⟩,
 ⟨(.var 2), .move (.c (.nili)), .none⟩]) (
 .seq (.reg [⟨.tmp, .load1 (.v 4), .none⟩,
 ⟨.tmp, .fadr 6 (.v 0), .none⟩,
 ⟨.tmp, .load1 (.t 0), .none⟩,
 ⟨.tmp, .build [.int .i64 (.ofNat 0), .int .i64 (.ofNat 0), .str 0 0, .bool false, .nils, .nils, .int .i64 (.ofNat 0)] [(0, 1, (.c (.int .i64 (.ofNat 2)))), (2, 1, (.t 2)), (6, 1, (.t 0))], .none⟩,
 ⟨.no, .store 7 (.v 1) (.t 0), .none⟩,
 ⟨(.var 2), .move (.c (.nili)), .none⟩]) (
 .ret)),
 [.cellN 7 (.v 1), .opd (.v 2)], 5, .none⟩
/-- telamon/scope.numbered -/
def vm125 : List Nat := [20, 7, 5, 18, 1, 19, 2, 4, 0]
def b125_0 : DC :=
 .seq (.reg [⟨.tmp, .bin .lss (.v 0) (.v 5), .none⟩]) (
 .seq (.cond (.t 0) (
 .skip) (
 .exit 0)) (
 .seq (.block 1 (
 .seq (.reg [⟨.tmp, .idxS 7 (.v 3) (.v 0), .none⟩,
 ⟨.tmp, .loadN 7 (.t 0), .none⟩,
 ⟨(.var 1), .alloc [.int .i64 (.ofNat 0), .int .i64 (.ofNat 0), .str 0 0, .bool false, .nils, .nils, .int .i64 (.ofNat 0)], .none⟩,
 ⟨.no, .store 7 (.v 1) (.t 0), .none⟩]) (
 .reg [⟨.tmp, .move (.v 2), .none⟩,
 ⟨.tmp, .loadN 7 (.v 1), .none⟩,
 ⟨.tmp, .move (.v 4), .none⟩,
 ⟨.tmp, .call 125 [(.t 1), (.t 0)], .none⟩,
 ⟨.tmp, .buildS 7 [[.int .i64 (.ofNat 0), .int .i64 (.ofNat 0), .str 0 0, .bool false, .nils, .nils, .int .i64 (.ofNat 0)]] [(0, (.t 0))], .none⟩,
 ⟨.tmp, .append 7 96 (.t 4) (.t 0), .none⟩,
 ⟨(.var 2), .move (.t 0), .none⟩]))) (
 .reg [⟨.tmp, .bin .add (.v 0) (.c (.int .i64 (.ofNat 1))), .none⟩,
 ⟨(.var 0), .move (.t 0), .none⟩])))
def r125_1 : DC :=
 .seq (.reg [⟨.tmp, .move (.v 2), .none⟩,
 ⟨.tmp, .fadr 5 (.v 6), .none⟩,
 ⟨.no, .store 1 (.t 0) (.t 1), .none⟩]) (
 .seq (.reg [⟨.tmp, .loadN 7 (.v 6), .none⟩,
 ⟨.no, .store 7 (.v 7) (.t 0), .none⟩]) (
 .ret))
def d125 : DF := ⟨[.some 20, .some 7, .some 5, .some 18, .some 1, .some 19, .some 2, .some 4, .some 0],
 .seq (.reg [⟨(.var 6), .box 7 (.v 8), .none⟩,
 ⟨(.var 7), .alloc [.int .i64 (.ofNat 0), .int .i64 (.ofNat 0), .str 0 0, .bool false, .nils, .nils, .int .i64 (.ofNat 0)], .none⟩]) (
 .seq (.seq (.reg [⟨.tmp, .fadr 0 (.v 6), .none⟩,
 ⟨.tmp, .load1 (.t 0), .none⟩,
 ⟨.tmp, .bin .eql (.t 0) (.c (.int .i64 (.ofNat 14))), .none⟩]) (
 .cond (.t 0) (
 .reg [⟨.tmp, .move (.v 4), .none⟩,
 ⟨.tmp, .bin .sub (.t 0) (.c (.int .i64 (.ofNat 1))), .none⟩,
 ⟨.tmp, .fadr 1 (.v 6), .none⟩,
 ⟨.tmp, .load1 (.t 0), .none⟩,
 ⟨.tmp, .bin .sub (.t 2) (.t 0), .none⟩,
 ⟨.tmp, .fadr 1 (.v 6), .none⟩,
 ⟨.no, .store 1 (.t 0) (.t 1), .none⟩]) (
 .skip))) (
 .seq (.reg [⟨(.var 2), .move (.c (.nils)), .none⟩]) (
 .seq (.seq (.reg [⟨.tmp, .fadr 5 (.v 6), .none⟩,
 ⟨(.var 3), .load1 (.t 0), .none⟩,
 ⟨(.var 5), .len false (.v 3), .none⟩,
 ⟨(.var 0), .move (.c (.int .i64 (.ofNat 0))), .none⟩]) (
 .block 0 (
 .loop b125_0))) r125_1))),
 [.cellN 7 (.v 7)], 9, .none⟩
/-- (*telamon/scope.resolver).under -/
def vm126 : List Nat := [0, 7, 6, 8, 1, 2]

def d126 : DF := ⟨[.some 0, .some 7, .some 6, .some 8, .some 1, .some 2],
 .seq (.reg [⟨(.var 2), .move (.c (.nili)), .none⟩]) (
 .seq (.reg [⟨.tmp, .move (.v 0), .none⟩,
 ⟨.tmp, .nilck (.t 0), .none⟩,
 ⟨.tmp, .fadr 0 (.t 0), .none⟩,
 ⟨.tmp, .fadr 1 (.t 0), .none⟩,
 ⟨.tmp, .load1 (.t 0), .none⟩,
 ⟨.tmp, .len false (.t 0), .none⟩,
 ⟨(.var 1), .move (.t 0), .none⟩]) (
 .seq (.reg [⟨.tmp, .move (.v 0), .none⟩,
 ⟨.tmp, .move (.v 0), .none⟩,
 ⟨.tmp, .nilck (.t 0), .none⟩,
 ⟨.tmp, .fadr 0 (.t 0), .none⟩,
 ⟨.tmp, .fadr 1 (.t 0), .none⟩,
 ⟨.tmp, .load1 (.t 0), .none⟩,
 ⟨.tmp, .move (.v 1), .none⟩,
 ⟨.tmp, .move (.v 1), .none⟩,
 ⟨.tmp, .slcS 1 (.t 2) .none (.some (.t 1)) (.some (.t 0)), .none⟩,
 ⟨.tmp, .move (.v 5), .none⟩,
 ⟨.tmp, .append 1 16 (.t 1) (.t 0), .none⟩,
 ⟨.tmp, .nilck (.t 10), .none⟩,
 ⟨.tmp, .fadr 0 (.t 0), .none⟩,
 ⟨.tmp, .fadr 1 (.t 0), .none⟩,
 ⟨.no, .store 1 (.t 0) (.t 3), .none⟩]) (
 .seq (.reg [⟨.tmp, .move (.v 4), .none⟩,
 ⟨.tmp, .callv (.t 0) [], .none⟩,
 ⟨(.var 3), .move (.t 0), .none⟩]) (
 .seq (.reg [⟨.tmp, .move (.v 0), .none⟩,
 ⟨.tmp, .move (.v 0), .none⟩,
 ⟨.tmp, .nilck (.t 0), .none⟩,
 ⟨.tmp, .fadr 0 (.t 0), .none⟩,
 ⟨.tmp, .fadr 1 (.t 0), .none⟩,
 ⟨.tmp, .load1 (.t 0), .none⟩,
 ⟨.tmp, .move (.v 1), .none⟩,
 ⟨.tmp, .move (.v 1), .none⟩,
 ⟨.tmp, .slcS 1 (.t 2) .none (.some (.t 1)) (.some (.t 0)), .none⟩,
 ⟨.tmp, .nilck (.t 8), .none⟩,
 ⟨.tmp, .fadr 0 (.t 0), .none⟩,
 ⟨.tmp, .fadr 1 (.t 0), .none⟩,
 ⟨.no, .store 1 (.t 0) (.t 3), .none⟩]) (
 .seq (.reg [⟨.tmp, .move (.v 3), .none⟩,
 ⟨(.var 2), .move (.t 0), .none⟩]) (
 .ret)))))),
 [.opd (.v 2)], 6, .none⟩
/-- (*telamon/scope.resolver).clause$2 -/
def vm127 : List Nat := [3, 0, 1, 2]

def d127 : DF := ⟨[.some 3, .some 0, .some 1, .some 2],
 .seq (.reg [⟨(.var 0), .move (.c (.nili)), .none⟩]) (
 .seq (.reg [⟨.tmp, .load1 (.v 1), .none⟩,
 ⟨.tmp, .fadr 6 (.v 2), .none⟩,
 ⟨.tmp, .loadN 7 (.t 0), .none⟩,
 ⟨.tmp, .call 70 [(.t 2), (.t 0)], .none⟩,
 ⟨.tmp, .move (.t 0), .none⟩,
 ⟨.tmp, .ext (.t 0) 0, .none⟩,
 ⟨.tmp, .ext (.t 1) 1, .none⟩,
 ⟨.tmp, .fadr 6 (.v 3), .none⟩,
 ⟨.no, .store 7 (.t 0) (.t 2), .none⟩,
 ⟨(.var 0), .move (.t 1), .none⟩]) (
 .seq (.reg [⟨.tmp, .move (.v 0), .none⟩,
 ⟨(.var 0), .move (.t 0), .none⟩]) (
 .ret))),
 [.opd (.v 0)], 4, .none⟩
/-- (*telamon/telamonref12.Parser).bound -/
def vm128 : List Nat := [0, 2, 3, 4]

def d128 : DF := ⟨[.some 0, .some 2, .some 3, .some 4],
 .seq (.reg [⟨(.var 1), .move (.c (.bool false)), .none⟩]) (
 .seq (.reg [⟨.tmp, .move (.v 0), .none⟩,
 ⟨.tmp, .call 130 [(.t 0), (.c (.str 1 40))], .none⟩,
 ⟨(.var 2), .move (.t 0), .none⟩]) (
 .seq (.reg [⟨.tmp, .move (.v 0), .none⟩,
 ⟨.tmp, .call 130 [(.t 0), (.c (.str 1 123))], .none⟩,
 ⟨(.var 3), .move (.t 0), .none⟩]) (
 .seq (.seq (.reg [⟨.tmp, .move (.v 2), .none⟩,
 ⟨.tmp, .not (.t 0), .none⟩,
 ⟨.tmp, .move (.t 0), .none⟩,
 ⟨.tmp, .move (.v 3), .some ((.t 0), true)⟩,
 ⟨.tmp, .not (.t 0), .some ((.t 1), true)⟩,
 ⟨.tmp, .pick (.t 2) (.t 0) (.c (.bool false)), .none⟩]) (
 .cond (.t 0) (
 .seq (.reg [⟨(.var 1), .move (.c (.bool false)), .none⟩]) (
 .ret)) (
 .skip))) (
 .seq (.reg [⟨.tmp, .move (.v 0), .none⟩,
 ⟨.tmp, .call 104 [(.t 0), (.c (.int .i64 (.ofNat 1))), (.c (.bool true))], .none⟩,
 ⟨(.var 1), .move (.t 0), .none⟩]) (
 .ret))))),
 [.opd (.v 1)], 4, .none⟩
/-- (*telamon/telamonref12.Parser).bind -/
def vm129 : List Nat := [0, 4, 7, 5, 3, 6, 2]
def b129_0 : DC :=
 .seq (.seq (.reg [⟨.tmp, .move (.v 0), .none⟩,
 ⟨.tmp, .nilck (.t 0), .none⟩,
 ⟨.tmp, .fadr 2 (.t 0), .none⟩,
 ⟨.tmp, .load1 (.t 0), .none⟩,
 ⟨.tmp, .bin .eql (.t 0) (.c (.int .i64 (.ofNat 0))), .none⟩]) (
 .cond (.t 0) (
 .skip) (
 .exit 0))) (
 .block 1 (
 .seq (.reg [⟨.tmp, .move (.v 0), .none⟩,
 ⟨.tmp, .call 130 [(.t 0), (.c (.str 1 95))], .none⟩,
 ⟨(.var 3), .move (.t 0), .none⟩]) (
 .seq (.seq (.reg [⟨.tmp, .move (.v 3), .none⟩,
 ⟨.tmp, .not (.t 0), .none⟩,
 ⟨.tmp, .move (.t 0), .none⟩,
 ⟨.tmp, .move (.v 0), .some ((.t 0), true)⟩,
 ⟨.tmp, .call 95 [(.t 0)], .some ((.t 1), true)⟩,
 ⟨.tmp, .fld1 0 (.t 0), .some ((.t 2), true)⟩,
 ⟨.tmp, .bin .neq (.t 0) (.c (.int .i64 (.ofNat 1))), .some ((.t 3), true)⟩,
 ⟨.tmp, .pick (.t 4) (.t 0) (.c (.bool false)), .none⟩]) (
 .cond (.t 0) (
 .exit 0) (
 .skip))) (
 .reg [⟨.tmp, .move (.v 1), .none⟩,
 ⟨.tmp, .move (.v 0), .none⟩,
 ⟨.tmp, .call 147 [(.t 0)], .none⟩,
 ⟨.tmp, .move (.v 4), .none⟩,
 ⟨.tmp, .build [.str 0 0, .bool false, .int .i64 (.ofNat 0), .int .i64 (.ofNat 0), .str 0 0, .bool false, .nils, .nils, .int .i64 (.ofNat 0)] [(0, 1, (.t 1)), (1, 1, (.t 0))], .none⟩,
 ⟨.tmp, .buildS 9 [[.str 0 0, .bool false, .int .i64 (.ofNat 0), .int .i64 (.ofNat 0), .str 0 0, .bool false, .nils, .nils, .int .i64 (.ofNat 0)]] [(0, (.t 0))], .none⟩,
 ⟨.tmp, .append 9 120 (.t 5) (.t 0), .none⟩,
 ⟨(.var 1), .move (.t 0), .none⟩]))))
def b129_1 : DC :=
 .seq (.seq (.reg [⟨.tmp, .move (.v 2), .none⟩,
 ⟨.tmp, .move (.v 1), .none⟩,
 ⟨.tmp, .len false (.t 0), .none⟩,
 ⟨.tmp, .bin .lss (.t 2) (.t 0), .none⟩]) (
 .cond (.t 0) (
 .skip) (
 .exit 2))) (
 .seq (.block 3 (
 .reg [⟨.tmp, .move (.v 1), .none⟩,
 ⟨.tmp, .move (.v 2), .none⟩,
 ⟨.tmp, .loadN 7 (.v 5), .none⟩,
 ⟨.tmp, .idxS 9 (.t 2) (.t 1), .none⟩,
 ⟨.tmp, .fadr 2 (.t 0), .none⟩,
 ⟨.no, .store 7 (.t 0) (.t 2), .none⟩])) (
 .reg [⟨.tmp, .move (.v 2), .none⟩,
 ⟨.tmp, .bin .add (.t 0) (.c (.int .i64 (.ofNat 1))), .none⟩,
 ⟨(.var 2), .move (.t 0), .none⟩]))
def r129_2 : DC :=
 .seq (.reg [⟨.tmp, .move (.v 1), .none⟩,
 ⟨(.var 6), .move (.t 0), .none⟩]) (
 .ret)
def r129_3 : DC :=
 .seq (.reg [⟨.tmp, .move (.v 0), .none⟩,
 ⟨.tmp, .call 98 [(.t 0), (.c (.str 1 58))], .none⟩]) (
 .seq (.reg [⟨.tmp, .move (.v 0), .none⟩,
 ⟨.tmp, .call 99 [(.t 0)], .none⟩,
 ⟨(.var 5), .alloc [.int .i64 (.ofNat 0), .int .i64 (.ofNat 0), .str 0 0, .bool false, .nils, .nils, .int .i64 (.ofNat 0)], .none⟩,
 ⟨.no, .store 7 (.v 5) (.t 0), .none⟩]) (
 .seq (.seq (.reg [⟨.tmp, .move (.v 4), .none⟩]) (
 .cond (.t 0) (
 .reg [⟨.tmp, .move (.v 0), .none⟩,
 ⟨.tmp, .call 98 [(.t 0), (.c (.str 1 125))], .none⟩]) (
 .reg [⟨.tmp, .move (.v 0), .none⟩,
 ⟨.tmp, .call 98 [(.t 0), (.c (.str 1 41))], .none⟩]))) (
 .seq (.seq (.reg [⟨(.var 2), .move (.c (.int .i64 (.ofNat 0))), .none⟩]) (
 .block 2 (
 .loop b129_1))) r129_2)))
def d129 : DF := ⟨[.some 0, .some 4, .some 7, .some 5, .some 3, .some 6, .some 2],
 .seq (.reg [⟨(.var 6), .move (.c (.nils)), .none⟩]) (
 .seq (.reg [⟨.tmp, .move (.v 0), .none⟩,
 ⟨.tmp, .call 130 [(.t 0), (.c (.str 1 123))], .none⟩,
 ⟨(.var 4), .move (.t 0), .none⟩]) (
 .seq (.seq (.reg [⟨.tmp, .move (.v 4), .none⟩]) (
 .cond (.t 0) (
 .reg [⟨.tmp, .move (.v 0), .none⟩,
 ⟨.tmp, .call 98 [(.t 0), (.c (.str 1 123))], .none⟩]) (
 .reg [⟨.tmp, .move (.v 0), .none⟩,
 ⟨.tmp, .call 98 [(.t 0), (.c (.str 1 40))], .none⟩]))) (
 .seq (.reg [⟨(.var 1), .move (.c (.nils)), .none⟩]) (
 .seq (.reg [⟨.tmp, .move (.v 1), .none⟩,
 ⟨.tmp, .move (.v 0), .none⟩,
 ⟨.tmp, .call 147 [(.t 0)], .none⟩,
 ⟨.tmp, .move (.v 4), .none⟩,
 ⟨.tmp, .build [.str 0 0, .bool false, .int .i64 (.ofNat 0), .int .i64 (.ofNat 0), .str 0 0, .bool false, .nils, .nils, .int .i64 (.ofNat 0)] [(0, 1, (.t 1)), (1, 1, (.t 0))], .none⟩,
 ⟨.tmp, .buildS 9 [[.str 0 0, .bool false, .int .i64 (.ofNat 0), .int .i64 (.ofNat 0), .str 0 0, .bool false, .nils, .nils, .int .i64 (.ofNat 0)]] [(0, (.t 0))], .none⟩,
 ⟨.tmp, .append 9 120 (.t 5) (.t 0), .none⟩,
 ⟨(.var 1), .move (.t 0), .none⟩]) (
 .seq (.block 0 (
 .loop b129_0)) r129_3))))),
 [.opd (.v 6)], 7, .none⟩
/-- (*telamon/telamonref12.Parser).is -/
def vm130 : List Nat := [5, 0, 4, 1]

def d130 : DF := ⟨[.some 5, .some 0, .some 4, .some 1],
 .seq (.reg [⟨(.var 2), .move (.c (.bool false)), .none⟩]) (
 .seq (.reg [⟨.tmp, .move (.v 1), .none⟩,
 ⟨.tmp, .call 95 [(.t 0)], .none⟩,
 ⟨(.var 0), .alloc [.int .i64 (.ofNat 0), .str 0 0, .int .i64 (.ofNat 0), .int .i64 (.ofNat 0), .int .i64 (.ofNat 0)], .none⟩,
 ⟨.no, .store 5 (.v 0) (.t 0), .none⟩]) (
 .seq (.reg [⟨.tmp, .move (.v 1), .none⟩,
 ⟨.tmp, .nilck (.t 0), .none⟩,
 ⟨.tmp, .fadr 2 (.t 0), .none⟩,
 ⟨.tmp, .load1 (.t 0), .none⟩,
 ⟨.tmp, .bin .eql (.t 0) (.c (.int .i64 (.ofNat 0))), .none⟩,
 ⟨.tmp, .move (.t 0), .none⟩,
 ⟨.tmp, .fadr 0 (.v 0), .some ((.t 0), true)⟩,
 ⟨.tmp, .load1 (.t 0), .some ((.t 1), true)⟩,
 ⟨.tmp, .bin .eql (.t 0) (.c (.int .i64 (.ofNat 2))), .some ((.t 2), true)⟩,
 ⟨.tmp, .pick (.t 3) (.t 0) (.c (.bool false)), .none⟩,
 ⟨.tmp, .move (.t 0), .none⟩,
 ⟨.tmp, .fadr 1 (.v 0), .some ((.t 0), true)⟩,
 ⟨.tmp, .load1 (.t 0), .some ((.t 1), true)⟩,
 ⟨.tmp, .move (.v 3), .some ((.t 2), true)⟩,
 ⟨.tmp, .bin .eql (.t 1) (.t 0), .some ((.t 3), true)⟩,
 ⟨.tmp, .pick (.t 4) (.t 0) (.c (.bool false)), .none⟩,
 ⟨(.var 2), .move (.t 0), .none⟩]) (
 .ret))),
 [.opd (.v 2)], 4, .none⟩
/-- (*telamon/telamonref12.Parser).whole -/
def vm131 : List Nat := [0, 5, 6, 2, 3, 9, 12, 11, 4, 7, 8, 10, 13, 14]
def b131_0 : DC :=
 .seq (.seq (.reg [⟨.tmp, .move (.v 0), .none⟩,
 ⟨.tmp, .nilck (.t 0), .none⟩,
 ⟨.tmp, .fadr 2 (.t 0), .none⟩,
 ⟨.tmp, .load1 (.t 0), .none⟩,
 ⟨.tmp, .bin .eql (.t 0) (.c (.int .i64 (.ofNat 0))), .none⟩]) (
 .cond (.t 0) (
 .skip) (
 .exit 0))) (
 .block 1 (
 .seq (.reg [⟨.tmp, .move (.v 0), .none⟩,
 ⟨.tmp, .call 130 [(.t 0), (.c (.str 2 15917))], .none⟩,
 ⟨(.var 2), .move (.t 0), .none⟩]) (
 .seq (.seq (.reg [⟨.tmp, .move (.v 2), .none⟩,
 ⟨.tmp, .move (.t 0), .none⟩,
 ⟨.tmp, .move (.v 1), .some ((.t 0), true)⟩,
 ⟨.tmp, .len false (.t 0), .some ((.t 1), true)⟩,
 ⟨.tmp, .bin .gtr (.t 0) (.c (.int .i64 (.ofNat 0))), .some ((.t 2), true)⟩,
 ⟨.tmp, .pick (.t 3) (.t 0) (.c (.bool false)), .none⟩]) (
 .cond (.t 0) (
 .exit 0) (
 .skip))) (
 .reg [⟨.tmp, .move (.v 1), .none⟩,
 ⟨.tmp, .move (.v 0), .none⟩,
 ⟨.tmp, .call 148 [(.t 0)], .none⟩,
 ⟨.tmp, .append 9 120 (.t 2) (.t 0), .none⟩,
 ⟨(.var 1), .move (.t 0), .none⟩]))))
def r131_1 : DC :=
 .seq (.reg [⟨.tmp, .move (.v 0), .none⟩,
 ⟨.tmp, .call 98 [(.t 0), (.c (.str 2 15917))], .none⟩]) (
 .seq (.reg [⟨.tmp, .move (.v 1), .none⟩,
 ⟨.tmp, .move (.v 0), .none⟩,
 ⟨.tmp, .call 99 [(.t 0)], .none⟩,
 ⟨.tmp, .move (.v 4), .none⟩,
 ⟨.tmp, .call 149 [(.c (.int .i64 (.ofNat 6))), (.t 3), (.t 1), (.t 0)], .none⟩,
 ⟨.no, .store 7 (.v 3) (.t 0), .none⟩]) (
 .ret))
def r131_2 : DC :=
 .seq (.reg [⟨.tmp, .move (.v 0), .none⟩,
 ⟨.tmp, .call 130 [(.t 0), (.c (.str 3 7628140))], .none⟩,
 ⟨(.var 9), .move (.t 0), .none⟩]) (
 .seq (.seq (.reg [⟨.tmp, .move (.v 9), .none⟩]) (
 .cond (.t 0) (
 .seq (.reg [⟨.tmp, .move (.v 0), .none⟩,
 ⟨.tmp, .call 150 [(.t 0)], .none⟩,
 ⟨.no, .store 7 (.v 3) (.t 0), .none⟩]) (
 .ret)) (
 .skip))) (
 .seq (.reg [⟨.tmp, .move (.v 0), .none⟩,
 ⟨.tmp, .call 128 [(.t 0)], .none⟩,
 ⟨(.var 10), .move (.t 0), .none⟩]) (
 .seq (.seq (.reg [⟨.tmp, .move (.v 10), .none⟩]) (
 .cond (.t 0) (
 .seq (.reg [⟨.tmp, .move (.v 0), .none⟩,
 ⟨.tmp, .call 129 [(.t 0)], .none⟩,
 ⟨(.var 5), .move (.t 0), .none⟩]) (
 .seq (.reg [⟨.tmp, .move (.v 0), .none⟩,
 ⟨.tmp, .call 107 [(.t 0), (.c (.str 2 10794))], .none⟩,
 ⟨(.var 11), .move (.t 0), .none⟩]) (
 .seq (.seq (.reg [⟨.tmp, .move (.v 11), .none⟩]) (
 .cond (.t 0) (
 .seq (.reg [⟨.tmp, .move (.v 5), .none⟩,
 ⟨.tmp, .move (.v 0), .none⟩,
 ⟨.tmp, .call 99 [(.t 0)], .none⟩,
 ⟨.tmp, .move (.v 4), .none⟩,
 ⟨.tmp, .call 149 [(.c (.int .i64 (.ofNat 8))), (.t 3), (.t 1), (.t 0)], .none⟩,
 ⟨.no, .store 7 (.v 3) (.t 0), .none⟩]) (
 .ret)) (
 .skip))) (
 .seq (.reg [⟨.tmp, .move (.v 5), .none⟩,
 ⟨.tmp, .move (.v 0), .none⟩,
 ⟨.tmp, .call 97 [(.t 0)], .none⟩,
 ⟨.tmp, .append 9 120 (.t 2) (.t 0), .none⟩,
 ⟨(.var 5), .move (.t 0), .none⟩]) (
 .seq (.reg [⟨.tmp, .move (.v 0), .none⟩,
 ⟨.tmp, .call 98 [(.t 0), (.c (.str 2 15917))], .none⟩]) (
 .seq (.reg [⟨.tmp, .move (.v 5), .none⟩,
 ⟨.tmp, .move (.v 0), .none⟩,
 ⟨.tmp, .call 99 [(.t 0)], .none⟩,
 ⟨.tmp, .move (.v 4), .none⟩,
 ⟨.tmp, .call 149 [(.c (.int .i64 (.ofNat 7))), (.t 3), (.t 1), (.t 0)], .none⟩,
 ⟨.no, .store 7 (.v 3) (.t 0), .none⟩]) (
 .ret))))))) (
 .skip))) (
 .seq (.reg [⟨.tmp, .move (.v 0), .none⟩,
 ⟨.tmp, .call 106 [(.t 0)], .none⟩,
 ⟨(.var 7), .alloc [.int .i64 (.ofNat 0), .int .i64 (.ofNat 0), .str 0 0, .bool false, .nils, .nils, .int .i64 (.ofNat 0)], .none⟩,
 ⟨.no, .store 7 (.v 7) (.t 0), .none⟩]) (
 .seq (.reg [⟨(.var 6), .move (.c (.int .i64 (.ofNat 0))), .none⟩]) (
 .seq (.reg [⟨.tmp, .move (.v 0), .none⟩,
 ⟨.tmp, .call 130 [(.t 0), (.c (.str 2 15917))], .none⟩,
 ⟨(.var 12), .move (.t 0), .none⟩]) (
 .seq (.reg [⟨.tmp, .move (.v 0), .none⟩,
 ⟨.tmp, .call 130 [(.t 0), (.c (.str 2 10794))], .none⟩,
 ⟨(.var 13), .move (.t 0), .none⟩]) (
 .seq (.seq (.reg [⟨.tmp, .move (.v 12), .none⟩]) (
 .cond (.t 0) (
 .reg [⟨(.var 6), .move (.c (.int .i64 (.ofNat 7))), .none⟩]) (
 .skip))) (
 .seq (.seq (.reg [⟨.tmp, .move (.v 13), .none⟩]) (
 .cond (.t 0) (
 .reg [⟨(.var 6), .move (.c (.int .i64 (.ofNat 8))), .none⟩]) (
 .skip))) (
 .seq (.seq (.reg [⟨.tmp, .move (.v 6), .none⟩,
 ⟨.tmp, .bin .eql (.t 0) (.c (.int .i64 (.ofNat 0))), .none⟩]) (
 .cond (.t 0) (
 .seq (.reg [⟨.tmp, .loadN 7 (.v 7), .none⟩,
 ⟨.no, .store 7 (.v 3) (.t 0), .none⟩]) (
 .ret)) (
 .skip))) (
 .seq (.reg [⟨.tmp, .move (.v 0), .none⟩,
 ⟨.tmp, .nilck (.t 0), .none⟩,
 ⟨.tmp, .fadr 1 (.t 0), .none⟩,
 ⟨.tmp, .load1 (.t 0), .none⟩,
 ⟨.tmp, .bin .add (.t 0) (.c (.int .i64 (.ofNat 1))), .none⟩,
 ⟨.tmp, .nilck (.t 4), .none⟩,
 ⟨.tmp, .fadr 1 (.t 0), .none⟩,
 ⟨.no, .store 1 (.t 0) (.t 2), .none⟩]) (
 .seq (.reg [⟨.tmp, .move (.v 6), .none⟩,
 ⟨.tmp, .loadN 7 (.v 7), .none⟩,
 ⟨.tmp, .build [.str 0 0, .bool false, .int .i64 (.ofNat 0), .int .i64 (.ofNat 0), .str 0 0, .bool false, .nils, .nils, .int .i64 (.ofNat 0)] [(0, 1, (.c (.str 1 95))), (2, 7, (.t 0))], .none⟩,
 ⟨.tmp, .buildS 9 [[.str 0 0, .bool false, .int .i64 (.ofNat 0), .int .i64 (.ofNat 0), .str 0 0, .bool false, .nils, .nils, .int .i64 (.ofNat 0)]] [(0, (.t 0))], .none⟩,
 ⟨.tmp, .move (.v 0), .none⟩,
 ⟨.tmp, .move (.v 4), .none⟩,
 ⟨.tmp, .call 99 [(.t 1)], .none⟩,
 ⟨.no, .againN 7 (.v 7) (.t 5), .none⟩,
 ⟨.tmp, .call 149 [(.t 6), (.t 3), (.t 0), (.t 1)], .none⟩,
 ⟨.no, .store 7 (.v 3) (.t 0), .none⟩]) (
 .ret)))))))))))))
def d131 : DF := ⟨[.some 0, .some 5, .some 6, .some 2, .some 3, .some 9, .some 12, .some 11, .some 4, .some 7, .some 8, .some 10, .some 13, .some 14],
 .seq (.reg [⟨(.var 3), .alloc [.int .i64 (.ofNat 0), .int .i64 (.ofNat 0), .str 0 0, .bool false, .nils, .nils, .int .i64 (.ofNat 0)], .none⟩]) (
 .seq (.reg [⟨.tmp, .move (.v 0), .none⟩,
 ⟨.tmp, .call 95 [(.t 0)], .none⟩,
 ⟨.tmp, .fld1 2 (.t 0), .none⟩,
 ⟨(.var 4), .move (.t 0), .none⟩]) (
 .seq (.reg [⟨.tmp, .move (.v 0), .none⟩,
 ⟨.tmp, .call 107 [(.t 0), (.c (.str 1 92))], .none⟩,
 ⟨(.var 8), .move (.t 0), .none⟩]) (
 .seq (.seq (.reg [⟨.tmp, .move (.v 8), .none⟩]) (
 .cond (.t 0) (
 .seq (.reg [⟨(.var 1), .move (.c (.nils)), .none⟩]) (
 .seq (.block 0 (
 .loop b131_0)) r131_1)) (
 .skip))) r131_2))),
 [.cellN 7 (.v 3)], 14, .none⟩
/-- (*telamon/telamonref12.Parser).list -/
def vm132 : List Nat := [0, 3, 5, 4, 2]
def b132_0 : DC :=
 .seq (.seq (.reg [⟨.tmp, .move (.v 3), .none⟩,
 ⟨.tmp, .not (.t 0), .none⟩,
 ⟨.tmp, .move (.t 0), .none⟩,
 ⟨.tmp, .move (.v 0), .some ((.t 0), true)⟩,
 ⟨.tmp, .nilck (.t 0), .some ((.t 1), true)⟩,
 ⟨.tmp, .fadr 2 (.t 0), .some ((.t 2), true)⟩,
 ⟨.tmp, .load1 (.t 0), .some ((.t 3), true)⟩,
 ⟨.tmp, .bin .eql (.t 0) (.c (.int .i64 (.ofNat 0))), .some ((.t 4), true)⟩,
 ⟨.tmp, .pick (.t 5) (.t 0) (.c (.bool false)), .none⟩]) (
 .cond (.t 0) (
 .skip) (
 .exit 0))) (
 .block 1 (
 .seq (.reg [⟨.tmp, .move (.v 1), .none⟩,
 ⟨.tmp, .move (.v 0), .none⟩,
 ⟨.tmp, .call 96 [(.t 0)], .none⟩,
 ⟨.tmp, .buildS 1 [[.str 0 0]] [(0, (.t 0))], .none⟩,
 ⟨.tmp, .append 1 16 (.t 3) (.t 0), .none⟩,
 ⟨(.var 1), .move (.t 0), .none⟩]) (
 .seq (.reg [⟨.tmp, .move (.v 0), .none⟩,
 ⟨.tmp, .call 50 [(.t 0), (.c (.int .i64 (.ofNat 6)))], .none⟩,
 ⟨(.var 2), .move (.t 0), .none⟩]) (
 .seq (.seq (.reg [⟨.tmp, .move (.v 2), .none⟩,
 ⟨.tmp, .not (.t 0), .none⟩]) (
 .cond (.t 0) (
 .exit 0) (
 .skip))) (
 .reg [⟨.tmp, .move (.v 0), .none⟩,
 ⟨.tmp, .nilck (.t 0), .none⟩,
 ⟨.tmp, .fadr 1 (.t 0), .none⟩,
 ⟨.tmp, .load1 (.t 0), .none⟩,
 ⟨.tmp, .bin .add (.t 0) (.c (.int .i64 (.ofNat 1))), .none⟩,
 ⟨.tmp, .nilck (.t 4), .none⟩,
 ⟨.tmp, .fadr 1 (.t 0), .none⟩,
 ⟨.no, .store 1 (.t 0) (.t 2), .none⟩])))))
def r132_1 : DC :=
 .seq (.reg [⟨.tmp, .move (.v 0), .none⟩,
 ⟨.tmp, .call 98 [(.t 0), (.c (.str 1 41))], .none⟩]) (
 .seq (.reg [⟨.tmp, .move (.v 1), .none⟩,
 ⟨(.var 4), .move (.t 0), .none⟩]) (
 .ret))
def d132 : DF := ⟨[.some 0, .some 3, .some 5, .some 4, .some 2],
 .seq (.reg [⟨(.var 4), .move (.c (.nils)), .none⟩]) (
 .seq (.reg [⟨(.var 1), .move (.c (.nils)), .none⟩]) (
 .seq (.reg [⟨.tmp, .move (.v 0), .none⟩,
 ⟨.tmp, .call 98 [(.t 0), (.c (.str 1 40))], .none⟩]) (
 .seq (.reg [⟨.tmp, .move (.v 0), .none⟩,
 ⟨.tmp, .call 130 [(.t 0), (.c (.str 1 41))], .none⟩,
 ⟨(.var 3), .move (.t 0), .none⟩]) (
 .seq (.block 0 (
 .loop b132_0)) r132_1)))),
 [.opd (.v 4)], 5, .none⟩
/-- (*telamon/telamonref12.Parser).look -/
def vm133 : List Nat := [0, 4, 1]

def d133 : DF := ⟨[.some 0, .some 4, .some 1],
 .seq (.reg [⟨(.var 1), .alloc [.int .i64 (.ofNat 0), .str 0 0, .int .i64 (.ofNat 0), .int .i64 (.ofNat 0), .int .i64 (.ofNat 0)], .none⟩]) (
 .seq (.seq (.reg [⟨.tmp, .move (.v 0), .none⟩,
 ⟨.tmp, .nilck (.t 0), .none⟩,
 ⟨.tmp, .fadr 1 (.t 0), .none⟩,
 ⟨.tmp, .load1 (.t 0), .none⟩,
 ⟨.tmp, .move (.v 2), .none⟩,
 ⟨.tmp, .bin .add (.t 1) (.t 0), .none⟩,
 ⟨.tmp, .move (.v 0), .none⟩,
 ⟨.tmp, .nilck (.t 0), .none⟩,
 ⟨.tmp, .fadr 0 (.t 0), .none⟩,
 ⟨.tmp, .load1 (.t 0), .none⟩,
 ⟨.tmp, .len false (.t 0), .none⟩,
 ⟨.tmp, .bin .lss (.t 5) (.t 0), .none⟩]) (
 .cond (.t 0) (
 .seq (.reg [⟨.tmp, .move (.v 0), .none⟩,
 ⟨.tmp, .nilck (.t 0), .none⟩,
 ⟨.tmp, .fadr 0 (.t 0), .none⟩,
 ⟨.tmp, .load1 (.t 0), .none⟩,
 ⟨.tmp, .move (.v 0), .none⟩,
 ⟨.tmp, .nilck (.t 0), .none⟩,
 ⟨.tmp, .fadr 1 (.t 0), .none⟩,
 ⟨.tmp, .load1 (.t 0), .none⟩,
 ⟨.tmp, .move (.v 2), .none⟩,
 ⟨.tmp, .bin .add (.t 1) (.t 0), .none⟩,
 ⟨.tmp, .idxS 5 (.t 6) (.t 0), .none⟩,
 ⟨.tmp, .loadN 5 (.t 0), .none⟩,
 ⟨.no, .store 5 (.v 1) (.t 0), .none⟩]) (
 .ret)) (
 .skip))) (
 .seq (.reg [⟨.tmp, .move (.v 0), .none⟩,
 ⟨.tmp, .nilck (.t 0), .none⟩,
 ⟨.tmp, .fadr 0 (.t 0), .none⟩,
 ⟨.tmp, .load1 (.t 0), .none⟩,
 ⟨.tmp, .move (.v 0), .none⟩,
 ⟨.tmp, .nilck (.t 0), .none⟩,
 ⟨.tmp, .fadr 0 (.t 0), .none⟩,
 ⟨.tmp, .load1 (.t 0), .none⟩,
 ⟨.tmp, .len false (.t 0), .none⟩,
 ⟨.tmp, .bin .sub (.t 0) (.c (.int .i64 (.ofNat 1))), .none⟩,
 ⟨.tmp, .idxS 5 (.t 6) (.t 0), .none⟩,
 ⟨.tmp, .loadN 5 (.t 0), .none⟩,
 ⟨.no, .store 5 (.v 1) (.t 0), .none⟩]) (
 .ret))),
 [.cellN 5 (.v 1)], 3, .none⟩
/-- (*telamon/telamonref12.Parser).begins -/
def vm134 : List Nat := [19, 18, 2, 3, 0]

def d134 : DF := ⟨[.some 19, .some 18, .some 2, .some 3, .some 0],
 .seq (.reg [⟨(.var 2), .move (.c (.bool false)), .none⟩]) (
 .seq (.reg [⟨.tmp, .move (.v 4), .none⟩,
 ⟨.tmp, .call 95 [(.t 0)], .none⟩,
 ⟨(.var 3), .alloc [.int .i64 (.ofNat 0), .str 0 0, .int .i64 (.ofNat 0), .int .i64 (.ofNat 0), .int .i64 (.ofNat 0)], .none⟩,
 ⟨.no, .store 5 (.v 3) (.t 0), .none⟩]) (
 .seq (.seq (.reg [⟨.tmp, .move (.v 4), .none⟩,
 ⟨.tmp, .nilck (.t 0), .none⟩,
 ⟨.tmp, .fadr 2 (.t 0), .none⟩,
 ⟨.tmp, .load1 (.t 0), .none⟩,
 ⟨.tmp, .bin .neq (.t 0) (.c (.int .i64 (.ofNat 0))), .none⟩]) (
 .cond (.t 0) (
 .seq (.reg [⟨(.var 2), .move (.c (.bool false)), .none⟩]) (
 .ret)) (
 .skip))) (
 .seq (.seq (.reg [⟨.tmp, .fadr 0 (.v 3), .none⟩,
 ⟨.tmp, .load1 (.t 0), .none⟩,
 ⟨.tmp, .bin .eql (.t 0) (.c (.int .i64 (.ofNat 1))), .none⟩]) (
 .cond (.t 0) (
 .seq (.reg [⟨(.var 2), .move (.c (.bool true)), .none⟩]) (
 .ret)) (
 .skip))) (
 .seq (.seq (.reg [⟨.tmp, .fadr 0 (.v 3), .none⟩,
 ⟨.tmp, .load1 (.t 0), .none⟩,
 ⟨.tmp, .bin .neq (.t 0) (.c (.int .i64 (.ofNat 2))), .none⟩]) (
 .cond (.t 0) (
 .seq (.reg [⟨(.var 2), .move (.c (.bool false)), .none⟩]) (
 .ret)) (
 .skip))) (
 .seq (.seq (.reg [⟨.tmp, .fadr 1 (.v 3), .none⟩,
 ⟨(.var 1), .load1 (.t 0), .none⟩]) (
 .block 0 (
 .seq (.seq (.reg [⟨.tmp, .bin .eql (.v 1) (.c (.str 1 95)), .none⟩,
 ⟨(.var 0), .move (.t 0), .none⟩]) (
 .cond (.v 0) (
 .skip) (
 .seq (.reg [⟨.tmp, .bin .eql (.v 1) (.c (.str 3 7628115)), .none⟩,
 ⟨(.var 0), .move (.t 0), .none⟩]) (
 .cond (.v 0) (
 .skip) (
 .seq (.reg [⟨.tmp, .bin .eql (.v 1) (.c (.str 1 40)), .none⟩,
 ⟨(.var 0), .move (.t 0), .none⟩]) (
 .cond (.v 0) (
 .skip) (
 .seq (.reg [⟨.tmp, .bin .eql (.v 1) (.c (.str 1 123)), .none⟩,
 ⟨(.var 0), .move (.t 0), .none⟩]) (
 .cond (.v 0) (
 .skip) (
 .seq (.reg [⟨.tmp, .bin .eql (.v 1) (.c (.str 3 7631718)), .none⟩,
 ⟨(.var 0), .move (.t 0), .none⟩]) (
 .cond (.v 0) (
 .skip) (
 .reg [⟨.tmp, .bin .eql (.v 1) (.c (.str 3 6581875)), .none⟩,
 ⟨(.var 0), .move (.t 0), .none⟩]))))))))))) (
 .cond (.v 0) (
 .seq (.reg [⟨(.var 2), .move (.c (.bool true)), .none⟩]) (
 .ret)) (
 .skip))))) (
 .seq (.reg [⟨(.var 2), .move (.c (.bool false)), .none⟩]) (
 .ret))))))),
 [.opd (.v 2)], 5, .none⟩
/-- (*telamon/telamonref12.Parser).part -/
def vm135 : List Nat := [12, 0, 9, 11, 4, 10, 3, 2, 41, 120, 5, 6, 7, 8]
def b135_0 : DC :=
 .seq (.seq (.reg [⟨.tmp, .move (.v 1), .none⟩,
 ⟨.tmp, .nilck (.t 0), .none⟩,
 ⟨.tmp, .fadr 2 (.t 0), .none⟩,
 ⟨.tmp, .load1 (.t 0), .none⟩,
 ⟨.tmp, .bin .eql (.t 0) (.c (.int .i64 (.ofNat 0))), .none⟩]) (
 .cond (.t 0) (
 .skip) (
 .exit 1))) (
 .block 2 (
 .seq (.reg [⟨.tmp, .move (.v 1), .none⟩,
 ⟨.tmp, .call 107 [(.t 0), (.c (.str 1 44))], .none⟩,
 ⟨(.var 5), .move (.t 0), .none⟩]) (
 .seq (.seq (.reg [⟨.tmp, .move (.v 5), .none⟩,
 ⟨.tmp, .not (.t 0), .none⟩]) (
 .cond (.t 0) (
 .exit 1) (
 .skip))) (
 .reg [⟨.tmp, .move (.v 2), .none⟩,
 ⟨.tmp, .move (.v 1), .none⟩,
 ⟨.tmp, .call 99 [(.t 0)], .none⟩,
 ⟨.tmp, .buildS 7 [[.int .i64 (.ofNat 0), .int .i64 (.ofNat 0), .str 0 0, .bool false, .nils, .nils, .int .i64 (.ofNat 0)]] [(0, (.t 0))], .none⟩,
 ⟨.tmp, .append 7 96 (.t 3) (.t 0), .none⟩,
 ⟨(.var 2), .move (.t 0), .none⟩]))))
def b135_1 : DC :=
 .seq (.seq (.reg [⟨.tmp, .move (.v 0), .none⟩,
 ⟨.tmp, .bin .geq (.t 0) (.c (.int .i64 (.ofNat 0))), .none⟩]) (
 .cond (.t 0) (
 .skip) (
 .exit 3))) (
 .seq (.block 4 (
 .reg [⟨.tmp, .move (.v 2), .none⟩,
 ⟨.tmp, .move (.v 0), .none⟩,
 ⟨.tmp, .idxS 7 (.t 1) (.t 0), .none⟩,
 ⟨.tmp, .loadN 7 (.t 0), .none⟩,
 ⟨.tmp, .loadN 7 (.v 3), .none⟩,
 ⟨.tmp, .buildS 7 [[.int .i64 (.ofNat 0), .int .i64 (.ofNat 0), .str 0 0, .bool false, .nils, .nils, .int .i64 (.ofNat 0)], [.int .i64 (.ofNat 0), .int .i64 (.ofNat 0), .str 0 0, .bool false, .nils, .nils, .int .i64 (.ofNat 0)]] [(0, (.t 1)), (1, (.t 0))], .none⟩,
 ⟨.tmp, .move (.v 2), .none⟩,
 ⟨.tmp, .move (.v 0), .none⟩,
 ⟨.tmp, .idxS 7 (.t 1) (.t 0), .none⟩,
 ⟨.tmp, .fadr 6 (.t 0), .none⟩,
 ⟨.tmp, .load1 (.t 0), .none⟩,
 ⟨.tmp, .build [.int .i64 (.ofNat 0), .int .i64 (.ofNat 0), .str 0 0, .bool false, .nils, .nils, .int .i64 (.ofNat 0)] [(0, 1, (.c (.int .i64 (.ofNat 10)))), (5, 1, (.t 5)), (6, 1, (.t 0))], .none⟩,
 ⟨.no, .store 7 (.v 3) (.t 0), .none⟩])) (
 .reg [⟨.tmp, .move (.v 0), .none⟩,
 ⟨.tmp, .bin .sub (.t 0) (.c (.int .i64 (.ofNat 1))), .none⟩,
 ⟨(.var 0), .move (.t 0), .none⟩]))
def r135_2 : DC :=
 .seq (.seq (.reg [⟨.tmp, .move (.v 2), .none⟩,
 ⟨.tmp, .len false (.t 0), .none⟩,
 ⟨.tmp, .bin .gtr (.t 0) (.c (.int .i64 (.ofNat 1))), .none⟩]) (
 .cond (.t 0) (
 .reg [⟨.tmp, .fadr 2 (.v 6), .none⟩,
 ⟨.tmp, .load1 (.t 0), .none⟩,
 ⟨.tmp, .fadr 6 (.v 3), .none⟩,
 ⟨.no, .store 1 (.t 0) (.t 1), .none⟩]) (
 .skip))) (
 .seq (.reg [⟨.tmp, .loadN 7 (.v 3), .none⟩,
 ⟨.no, .store 7 (.v 7) (.t 0), .none⟩]) (
 .ret))
def r135_3 : DC :=
 .seq (.reg [⟨.tmp, .move (.v 1), .none⟩,
 ⟨.tmp, .call 98 [(.t 0), (.c (.str 1 41))], .none⟩]) (
 .seq (.reg [⟨.tmp, .move (.v 2), .none⟩,
 ⟨.tmp, .move (.v 2), .none⟩,
 ⟨.tmp, .len false (.t 0), .none⟩,
 ⟨.tmp, .bin .sub (.t 0) (.c (.int .i64 (.ofNat 1))), .none⟩,
 ⟨.tmp, .idxS 7 (.t 3) (.t 0), .none⟩,
 ⟨.tmp, .loadN 7 (.t 0), .none⟩,
 ⟨(.var 3), .alloc [.int .i64 (.ofNat 0), .int .i64 (.ofNat 0), .str 0 0, .bool false, .nils, .nils, .int .i64 (.ofNat 0)], .none⟩,
 ⟨.no, .store 7 (.v 3) (.t 0), .none⟩]) (
 .seq (.seq (.reg [⟨.tmp, .move (.v 2), .none⟩,
 ⟨.tmp, .len false (.t 0), .none⟩,
 ⟨.tmp, .bin .sub (.t 0) (.c (.int .i64 (.ofNat 2))), .none⟩,
 ⟨(.var 0), .move (.t 0), .none⟩]) (
 .block 3 (
 .loop b135_1))) r135_2))
def r135_4 : DC :=
 .seq (.reg [⟨.tmp, .loadN 7 (.v 4), .none⟩,
 ⟨.no, .store 7 (.v 7) (.t 0), .none⟩]) (
 .ret)
def d135 : DF := ⟨[.some 12, .some 0, .some 9, .some 11, .some 4, .some 10, .some 3, .some 2, .some 41, .some 120, .some 5, .some 6, .some 7, .some 8],
 .seq (.reg [⟨(.var 7), .alloc [.int .i64 (.ofNat 0), .int .i64 (.ofNat 0), .str 0 0, .bool false, .nils, .nils, .int .i64 (.ofNat 0)], .none⟩]) (
 .seq (.reg [⟨.tmp, .move (.v 1), .none⟩,
 ⟨.tmp, .call 95 [(.t 0)], .none⟩,
 ⟨(.var 6), .alloc [.int .i64 (.ofNat 0), .str 0 0, .int .i64 (.ofNat 0), .int .i64 (.ofNat 0), .int .i64 (.ofNat 0)], .none⟩,
 ⟨.no, .store 5 (.v 6) (.t 0), .none⟩]) (
 .seq (.reg [⟨.tmp, .fadr 2 (.v 6), .none⟩,
 ⟨.tmp, .load1 (.t 0), .none⟩,
 ⟨.tmp, .build [.int .i64 (.ofNat 0), .int .i64 (.ofNat 0), .str 0 0, .bool false, .nils, .nils, .int .i64 (.ofNat 0)] [(6, 1, (.t 0))], .none⟩,
 ⟨(.var 4), .alloc [.int .i64 (.ofNat 0), .int .i64 (.ofNat 0), .str 0 0, .bool false, .nils, .nils, .int .i64 (.ofNat 0)], .none⟩,
 ⟨.no, .store 7 (.v 4) (.t 0), .none⟩]) (
 .seq (.seq (.reg [⟨.tmp, .fadr 0 (.v 6), .none⟩,
 ⟨.tmp, .load1 (.t 0), .none⟩,
 ⟨.tmp, .bin .eql (.t 0) (.c (.int .i64 (.ofNat 1))), .none⟩]) (
 .cond (.t 0) (
 .seq (.reg [⟨.tmp, .move (.v 1), .none⟩,
 ⟨.tmp, .nilck (.t 0), .none⟩,
 ⟨.tmp, .fadr 1 (.t 0), .none⟩,
 ⟨.tmp, .load1 (.t 0), .none⟩,
 ⟨.tmp, .bin .add (.t 0) (.c (.int .i64 (.ofNat 1))), .none⟩,
 ⟨.tmp, .nilck (.t 4), .none⟩,
 ⟨.tmp, .fadr 1 (.t 0), .none⟩,
 ⟨.no, .store 1 (.t 0) (.t 2), .none⟩]) (
 .seq (.reg [⟨.tmp, .fadr 0 (.v 4), .none⟩,
 ⟨.no, .store 1 (.t 0) (.c (.int .i64 (.ofNat 2))), .none⟩]) (
 .seq (.reg [⟨.tmp, .fadr 1 (.v 6), .none⟩,
 ⟨.tmp, .load1 (.t 0), .none⟩,
 ⟨.tmp, .fadr 2 (.v 4), .none⟩,
 ⟨.no, .store 1 (.t 0) (.t 1), .none⟩]) (
 .seq (.reg [⟨.tmp, .loadN 7 (.v 4), .none⟩,
 ⟨.no, .store 7 (.v 7) (.t 0), .none⟩]) (
 .ret))))) (
 .skip))) (
 .seq (.reg [⟨.tmp, .move (.v 1), .none⟩,
 ⟨.tmp, .nilck (.t 0), .none⟩,
 ⟨.tmp, .fadr 1 (.t 0), .none⟩,
 ⟨.tmp, .load1 (.t 0), .none⟩,
 ⟨.tmp, .bin .add (.t 0) (.c (.int .i64 (.ofNat 1))), .none⟩,
 ⟨.tmp, .nilck (.t 4), .none⟩,
 ⟨.tmp, .fadr 1 (.t 0), .none⟩,
 ⟨.no, .store 1 (.t 0) (.t 2), .none⟩]) (
 .seq (.seq (.reg [⟨.tmp, .fadr 1 (.v 6), .none⟩,
 ⟨(.var 8), .load1 (.t 0), .none⟩]) (
 .block 0 (
 .seq (.reg [⟨.tmp, .bin .eql (.v 8) (.c (.str 1 95)), .none⟩,
 ⟨.tmp, .move (.t 0), .none⟩]) (
 .cond (.t 0) (
 .reg [⟨.tmp, .fadr 0 (.v 4), .none⟩,
 ⟨.no, .store 1 (.t 0) (.c (.int .i64 (.ofNat 4))), .none⟩]) (
 .seq (.reg [⟨.tmp, .bin .eql (.v 8) (.c (.str 3 7628115)), .none⟩,
 ⟨.tmp, .move (.t 0), .none⟩]) (
 .cond (.t 0) (
 .seq (.reg [⟨.tmp, .fadr 0 (.v 4), .none⟩,
 ⟨.no, .store 1 (.t 0) (.c (.int .i64 (.ofNat 3))), .none⟩]) (
 .seq (.reg [⟨.tmp, .fadr 1 (.v 4), .none⟩,
 ⟨.no, .store 1 (.t 0) (.c (.int .i64 (.negSucc 0))), .none⟩]) (
 .seq (.reg [⟨.tmp, .move (.v 1), .none⟩,
 ⟨.tmp, .call 50 [(.t 0), (.c (.int .i64 (.ofNat 3)))], .none⟩,
 ⟨(.var 10), .move (.t 0), .none⟩]) (
 .seq (.reg [⟨.tmp, .move (.v 10), .none⟩]) (
 .cond (.t 0) (
 .seq (.reg [⟨.tmp, .move (.v 1), .none⟩,
 ⟨.tmp, .call 95 [(.t 0)], .none⟩,
 ⟨.tmp, .fld1 1 (.t 0), .none⟩,
 ⟨.tmp, .call 103 [(.t 0)], .none⟩,
 ⟨.tmp, .fadr 1 (.v 4), .none⟩,
 ⟨.no, .store 1 (.t 0) (.t 1), .none⟩]) (
 .reg [⟨.tmp, .move (.v 1), .none⟩,
 ⟨.tmp, .nilck (.t 0), .none⟩,
 ⟨.tmp, .fadr 1 (.t 0), .none⟩,
 ⟨.tmp, .load1 (.t 0), .none⟩,
 ⟨.tmp, .bin .add (.t 0) (.c (.int .i64 (.ofNat 1))), .none⟩,
 ⟨.tmp, .nilck (.t 4), .none⟩,
 ⟨.tmp, .fadr 1 (.t 0), .none⟩,
 ⟨.no, .store 1 (.t 0) (.t 2), .none⟩])) (
 .skip)))))) (
 .seq (.seq (.reg [⟨.tmp, .bin .eql (.v 8) (.c (.str 3 7631718)), .none⟩,
 ⟨(.var 9), .move (.t 0), .none⟩]) (
 .cond (.v 9) (
 .skip) (
 .reg [⟨.tmp, .bin .eql (.v 8) (.c (.str 3 6581875)), .none⟩,
 ⟨(.var 9), .move (.t 0), .none⟩]))) (
 .cond (.v 9) (
 .seq (.reg [⟨.tmp, .fadr 0 (.v 4), .none⟩,
 ⟨.no, .store 1 (.t 0) (.c (.int .i64 (.ofNat 11))), .none⟩]) (
 .seq (.seq (.reg [⟨.tmp, .fadr 1 (.v 6), .none⟩,
 ⟨.tmp, .load1 (.t 0), .none⟩,
 ⟨.tmp, .bin .eql (.t 0) (.c (.str 3 6581875)), .none⟩]) (
 .cond (.t 0) (
 .reg [⟨.tmp, .fadr 0 (.v 4), .none⟩,
 ⟨.no, .store 1 (.t 0) (.c (.int .i64 (.ofNat 12))), .none⟩]) (
 .skip))) (
 .seq (.reg [⟨.tmp, .move (.v 1), .none⟩,
 ⟨.tmp, .call 101 [(.t 0)], .none⟩,
 ⟨(.var 11), .move (.t 0), .none⟩]) (
 .seq (.seq (.reg [⟨.tmp, .move (.v 11), .none⟩,
 ⟨.tmp, .not (.t 0), .none⟩]) (
 .cond (.t 0) (
 .seq (.reg [⟨.tmp, .loadN 7 (.v 4), .none⟩,
 ⟨.no, .store 7 (.v 7) (.t 0), .none⟩]) (
 .ret)) (
 .skip))) (
 .seq (.reg [⟨.tmp, .move (.v 1), .none⟩,
 ⟨.tmp, .call 134 [(.t 0)], .none⟩,
 ⟨(.var 12), .move (.t 0), .none⟩]) (
 .seq (.seq (.reg [⟨.tmp, .move (.v 12), .none⟩,
 ⟨.tmp, .not (.t 0), .none⟩]) (
 .cond (.t 0) (
 .seq (.reg [⟨.tmp, .move (.v 1), .none⟩,
 ⟨.tmp, .call 51 [(.t 0), (.c (.int .i64 (.ofNat 41)))], .none⟩]) (
 .seq (.reg [⟨.tmp, .loadN 7 (.v 4), .none⟩,
 ⟨.no, .store 7 (.v 7) (.t 0), .none⟩]) (
 .ret))) (
 .skip))) (
 .seq (.reg [⟨.tmp, .move (.v 1), .none⟩,
 ⟨.tmp, .call 135 [(.t 0)], .none⟩,
 ⟨.tmp, .buildS 7 [[.int .i64 (.ofNat 0), .int .i64 (.ofNat 0), .str 0 0, .bool false, .nils, .nils, .int .i64 (.ofNat 0)]] [(0, (.t 0))], .none⟩,
 ⟨.tmp, .fadr 5 (.v 4), .none⟩,
 ⟨.no, .store 1 (.t 0) (.t 1), .none⟩]) (
 .reg [⟨.tmp, .move (.v 1), .none⟩,
 ⟨.tmp, .nilck (.t 0), .none⟩,
 ⟨.tmp, .fadr 4 (.t 0), .none⟩,
 ⟨.tmp, .load1 (.t 0), .none⟩,
 ⟨.tmp, .bin .sub (.t 0) (.c (.int .i64 (.ofNat 1))), .none⟩,
 ⟨.tmp, .nilck (.t 4), .none⟩,
 ⟨.tmp, .fadr 4 (.t 0), .none⟩,
 ⟨.no, .store 1 (.t 0) (.t 2), .none⟩])))))))) (
 .seq (.reg [⟨.tmp, .bin .eql (.v 8) (.c (.str 1 123)), .none⟩,
 ⟨.tmp, .move (.t 0), .none⟩]) (
 .cond (.t 0) (
 .seq (.reg [⟨.tmp, .fadr 0 (.v 4), .none⟩,
 ⟨.no, .store 1 (.t 0) (.c (.int .i64 (.ofNat 13))), .none⟩]) (
 .seq (.reg [⟨.tmp, .move (.v 1), .none⟩,
 ⟨.tmp, .call 99 [(.t 0)], .none⟩,
 ⟨.tmp, .buildS 7 [[.int .i64 (.ofNat 0), .int .i64 (.ofNat 0), .str 0 0, .bool false, .nils, .nils, .int .i64 (.ofNat 0)]] [(0, (.t 0))], .none⟩,
 ⟨.tmp, .fadr 5 (.v 4), .none⟩,
 ⟨.no, .store 1 (.t 0) (.t 1), .none⟩]) (
 .reg [⟨.tmp, .move (.v 1), .none⟩,
 ⟨.tmp, .call 98 [(.t 0), (.c (.str 1 125))], .none⟩]))) (
 .seq (.reg [⟨.tmp, .move (.v 1), .none⟩,
 ⟨.tmp, .call 107 [(.t 0), (.c (.str 1 41))], .none⟩,
 ⟨(.var 13), .move (.t 0), .none⟩]) (
 .seq (.seq (.reg [⟨.tmp, .move (.v 13), .none⟩]) (
 .cond (.t 0) (
 .seq (.reg [⟨.tmp, .fadr 0 (.v 4), .none⟩,
 ⟨.no, .store 1 (.t 0) (.c (.int .i64 (.ofNat 15))), .none⟩]) (
 .seq (.reg [⟨.tmp, .loadN 7 (.v 4), .none⟩,
 ⟨.no, .store 7 (.v 7) (.t 0), .none⟩]) (
 .ret))) (
 .skip))) (
 .seq (.reg [⟨.tmp, .move (.v 1), .none⟩,
 ⟨.tmp, .call 99 [(.t 0)], .none⟩,
 ⟨.tmp, .buildS 7 [[.int .i64 (.ofNat 0), .int .i64 (.ofNat 0), .str 0 0, .bool false, .nils, .nils, .int .i64 (.ofNat 0)]] [(0, (.t 0))], .none⟩,
 ⟨(.var 2), .move (.t 0), .none⟩]) (
 .seq (.block 1 (
 .loop b135_0)) r135_3)))))))))))))) r135_4))))),
 [.cellN 7 (.v 7)], 14, .none⟩
/-- telamon/telamonref12.grid -/
def vm136 : List Nat := [4, 3, 0, 2]
def b136_0 : DC :=
 .seq (.seq (.reg [⟨.tmp, .move (.v 0), .none⟩,
 ⟨.tmp, .move (.v 2), .none⟩,
 ⟨.tmp, .bin .leq (.t 1) (.t 0), .none⟩]) (
 .cond (.t 0) (
 .skip) (
 .exit 0))) (
 .seq (.block 1 (
 .reg [⟨.tmp, .move (.v 1), .none⟩,
 ⟨.tmp, .move (.v 2), .none⟩,
 ⟨.tmp, .bin .add (.t 0) (.c (.int .i64 (.ofNat 1))), .none⟩,
 ⟨.tmp, .mkS [.int .i64 (.ofNat 0), .int .i64 (.ofNat 0), .int .i64 (.ofNat 0), .str 0 0, .bool false, .nils, .nils, .int .i64 (.ofNat 0), .bool false] 112 (.t 0) (.t 0), .none⟩,
 ⟨.tmp, .buildS 1 [[.nils]] [(0, (.t 0))], .none⟩,
 ⟨.tmp, .append 1 24 (.t 4) (.t 0), .none⟩,
 ⟨(.var 1), .move (.t 0), .none⟩])) (
 .reg [⟨.tmp, .move (.v 0), .none⟩,
 ⟨.tmp, .bin .add (.t 0) (.c (.int .i64 (.ofNat 1))), .none⟩,
 ⟨(.var 0), .move (.t 0), .none⟩]))
def r136_1 : DC :=
 .seq (.reg [⟨.tmp, .move (.v 1), .none⟩,
 ⟨(.var 3), .move (.t 0), .none⟩]) (
 .ret)
def d136 : DF := ⟨[.some 4, .some 3, .some 0, .some 2],
 .seq (.reg [⟨(.var 3), .move (.c (.nils)), .none⟩]) (
 .seq (.reg [⟨(.var 1), .move (.c (.nils)), .none⟩]) (
 .seq (.seq (.reg [⟨(.var 0), .move (.c (.int .i64 (.ofNat 0))), .none⟩]) (
 .block 0 (
 .loop b136_0))) r136_1)),
 [.opd (.v 3)], 4, .none⟩
/-- (*telamon/telamonref12.chart).form -/
def vm137 : List Nat := [9, 0, 10, 8, 1, 2, 7, 6]
def b137_0 : DC :=
 .seq (.seq (.reg [⟨.tmp, .move (.v 0), .none⟩,
 ⟨.tmp, .move (.v 1), .none⟩,
 ⟨.tmp, .nilck (.t 0), .none⟩,
 ⟨.tmp, .fadr 0 (.t 0), .none⟩,
 ⟨.tmp, .load1 (.t 0), .none⟩,
 ⟨.tmp, .len false (.t 0), .none⟩,
 ⟨.tmp, .bin .lss (.t 5) (.t 0), .none⟩]) (
 .cond (.t 0) (
 .skip) (
 .exit 0))) (
 .seq (.block 1 (
 .seq (.reg [⟨.tmp, .move (.v 1), .none⟩,
 ⟨.tmp, .nilck (.t 0), .none⟩,
 ⟨.tmp, .fadr 0 (.t 0), .none⟩,
 ⟨.tmp, .load1 (.t 0), .none⟩,
 ⟨.tmp, .move (.v 0), .none⟩,
 ⟨.tmp, .idxS 6 (.t 1) (.t 0), .none⟩,
 ⟨.tmp, .fadr 2 (.t 0), .none⟩,
 ⟨.tmp, .load1 (.t 0), .none⟩,
 ⟨.tmp, .move (.t 0), .none⟩,
 ⟨.tmp, .move (.v 1), .some ((.t 0), false)⟩,
 ⟨.tmp, .nilck (.t 0), .some ((.t 1), false)⟩,
 ⟨.tmp, .fadr 0 (.t 0), .some ((.t 2), false)⟩,
 ⟨.tmp, .load1 (.t 0), .some ((.t 3), false)⟩,
 ⟨.tmp, .move (.v 0), .some ((.t 4), false)⟩,
 ⟨.tmp, .idxS 6 (.t 1) (.t 0), .some ((.t 5), false)⟩,
 ⟨.tmp, .fadr 3 (.t 0), .some ((.t 6), false)⟩,
 ⟨.tmp, .load1 (.t 0), .some ((.t 7), false)⟩,
 ⟨.tmp, .pick (.t 8) (.c (.bool true)) (.t 0), .none⟩]) (
 .cond (.t 0) (
 .seq (.reg [⟨.tmp, .move (.v 1), .none⟩,
 ⟨.tmp, .move (.v 0), .none⟩,
 ⟨.tmp, .move (.v 4), .none⟩,
 ⟨.tmp, .move (.v 5), .none⟩,
 ⟨.tmp, .call 153 [(.t 3), (.t 2), (.t 1), (.t 0)], .none⟩,
 ⟨(.var 2), .alloc [.int .i64 (.ofNat 0), .int .i64 (.ofNat 0), .int .i64 (.ofNat 0), .str 0 0, .bool false, .nils, .nils, .int .i64 (.ofNat 0), .bool false], .none⟩,
 ⟨.no, .store 9 (.v 2) (.t 0), .none⟩]) (
 .reg [⟨.tmp, .fadr 0 (.v 2), .none⟩,
 ⟨.tmp, .load1 (.t 0), .none⟩,
 ⟨.tmp, .fadr 1 (.v 2), .none⟩,
 ⟨.tmp, .loadN 7 (.t 0), .none⟩,
 ⟨.tmp, .call 152 [(.v 3), (.t 2), (.t 0)], .none⟩])) (
 .skip)))) (
 .reg [⟨.tmp, .move (.v 0), .none⟩,
 ⟨.tmp, .bin .add (.t 0) (.c (.int .i64 (.ofNat 1))), .none⟩,
 ⟨(.var 0), .move (.t 0), .none⟩]))
def r137_1 : DC :=
 .seq (.reg [⟨.tmp, .loadN 9 (.v 3), .none⟩,
 ⟨.no, .store 9 (.v 7) (.t 0), .none⟩]) (
 .ret)
def d137 : DF := ⟨[.some 9, .some 0, .some 10, .some 8, .some 1, .some 2, .some 7, .some 6],
 .seq (.reg [⟨(.var 7), .alloc [.int .i64 (.ofNat 0), .int .i64 (.ofNat 0), .int .i64 (.ofNat 0), .str 0 0, .bool false, .nils, .nils, .int .i64 (.ofNat 0), .bool false], .none⟩]) (
 .seq (.reg [⟨.tmp, .move (.v 1), .none⟩,
 ⟨.tmp, .move (.v 4), .none⟩,
 ⟨.tmp, .move (.v 5), .none⟩,
 ⟨.tmp, .call 151 [(.t 2), (.t 1), (.t 0)], .none⟩,
 ⟨(.var 6), .alloc [.int .i64 (.ofNat 0), .int .i64 (.ofNat 0), .int .i64 (.ofNat 0), .str 0 0, .bool false, .nils, .nils, .int .i64 (.ofNat 0), .bool false], .none⟩,
 ⟨.no, .store 9 (.v 6) (.t 0), .none⟩]) (
 .seq (.reg [⟨(.var 3), .alloc [.int .i64 (.ofNat 0), .int .i64 (.ofNat 0), .int .i64 (.ofNat 0), .str 0 0, .bool false, .nils, .nils, .int .i64 (.ofNat 0), .bool false], .none⟩]) (
 .seq (.reg [⟨.tmp, .fadr 0 (.v 6), .none⟩,
 ⟨.tmp, .load1 (.t 0), .none⟩,
 ⟨.tmp, .fadr 1 (.v 6), .none⟩,
 ⟨.tmp, .loadN 7 (.t 0), .none⟩,
 ⟨.tmp, .call 152 [(.v 3), (.t 2), (.t 0)], .none⟩]) (
 .seq (.seq (.reg [⟨(.var 0), .move (.c (.int .i64 (.ofNat 0))), .none⟩]) (
 .block 0 (
 .loop b137_0))) r137_1)))),
 [.cellN 9 (.v 7)], 8, .none⟩
/-- slices.Clone[[]telamon/api.LVar,telamon/api.LVar] -/
def vm138 : List Nat := [2, 0]

def d138 : DF := ⟨[.some 2, .some 0],
 .seq (.reg [⟨(.var 0), .move (.c (.nils)), .none⟩]) (
 .seq (.seq (.reg [⟨.tmp, .move (.v 1), .none⟩,
 ⟨.tmp, .binN false 1 (.t 0), .none⟩]) (
 .cond (.t 0) (
 .seq (.reg [⟨(.var 0), .move (.c (.nils)), .none⟩]) (
 .ret)) (
 .skip))) (
 .seq (.reg [⟨.tmp, .buildS 2 [] [], .none⟩,
 ⟨.tmp, .move (.v 1), .none⟩,
 ⟨.tmp, .append 2 16 (.t 1) (.t 0), .none⟩,
 ⟨(.var 0), .move (.t 0), .none⟩]) (
 .ret))),
 [.opd (.v 0)], 2, .none⟩
/-- (*telamon/scope.resolver).local -/
def vm139 : List Nat := [7, 3, 2, 4, 5, 6, 0, 1]
def b139_0 : DC :=
 .seq (.seq (.reg [⟨.tmp, .move (.v 0), .none⟩,
 ⟨.tmp, .bin .geq (.t 0) (.c (.int .i64 (.ofNat 0))), .none⟩,
 ⟨.tmp, .move (.t 0), .none⟩,
 ⟨.tmp, .load1 (.v 1), .some ((.t 0), true)⟩,
 ⟨.tmp, .bin .neq (.t 0) (.c (.str 1 95)), .some ((.t 1), true)⟩,
 ⟨.tmp, .pick (.t 2) (.t 0) (.c (.bool false)), .none⟩,
 ⟨.tmp, .move (.t 0), .none⟩,
 ⟨.tmp, .load1 (.v 1), .some ((.t 0), true)⟩,
 ⟨.tmp, .call 155 [(.t 0)], .some ((.t 1), true)⟩,
 ⟨.tmp, .not (.t 0), .some ((.t 2), true)⟩,
 ⟨.tmp, .pick (.t 3) (.t 0) (.c (.bool false)), .none⟩]) (
 .cond (.t 0) (
 .skip) (
 .exit 0))) (
 .seq (.block 1 (
 .seq (.reg [⟨.tmp, .move (.v 5), .none⟩,
 ⟨.tmp, .move (.v 0), .none⟩,
 ⟨.tmp, .callv (.t 1) [(.t 0)], .none⟩]) (
 .cond (.t 0) (
 .seq (.reg [⟨.tmp, .load1 (.v 2), .none⟩,
 ⟨.tmp, .nilck (.t 0), .none⟩,
 ⟨.tmp, .fadr 0 (.t 0), .none⟩,
 ⟨.tmp, .fadr 1 (.t 0), .none⟩,
 ⟨.tmp, .load1 (.t 0), .none⟩,
 ⟨.tmp, .len false (.t 0), .none⟩,
 ⟨.tmp, .bin .sub (.t 0) (.c (.int .i64 (.ofNat 1))), .none⟩,
 ⟨.tmp, .move (.v 0), .none⟩,
 ⟨.tmp, .bin .sub (.t 1) (.t 0), .none⟩,
 ⟨(.var 3), .move (.t 0), .none⟩,
 ⟨(.var 4), .move (.c (.bool true)), .none⟩]) (
 .ret)) (
 .skip)))) (
 .reg [⟨.tmp, .move (.v 0), .none⟩,
 ⟨.tmp, .bin .sub (.t 0) (.c (.int .i64 (.ofNat 1))), .none⟩,
 ⟨(.var 0), .move (.t 0), .none⟩]))
def r139_1 : DC :=
 .seq (.reg [⟨(.var 3), .move (.c (.int .i64 (.ofNat 0))), .none⟩,
 ⟨(.var 4), .move (.c (.bool false)), .none⟩]) (
 .ret)
def d139 : DF := ⟨[.some 7, .some 3, .some 2, .some 4, .some 5, .some 6, .some 0, .some 1],
 .seq (.reg [⟨(.var 2), .box 1 (.v 6), .none⟩,
 ⟨(.var 1), .box 1 (.v 7), .none⟩,
 ⟨(.var 3), .move (.c (.int .i64 (.ofNat 0))), .none⟩,
 ⟨(.var 4), .move (.c (.bool false)), .none⟩]) (
 .seq (.reg [⟨.tmp, .mkfn 154 [] [(.v 2), (.v 1)], .none⟩,
 ⟨(.var 5), .move (.t 0), .none⟩]) (
 .seq (.seq (.reg [⟨.tmp, .load1 (.v 2), .none⟩,
 ⟨.tmp, .nilck (.t 0), .none⟩,
 ⟨.tmp, .fadr 0 (.t 0), .none⟩,
 ⟨.tmp, .fadr 1 (.t 0), .none⟩,
 ⟨.tmp, .load1 (.t 0), .none⟩,
 ⟨.tmp, .len false (.t 0), .none⟩,
 ⟨.tmp, .bin .sub (.t 0) (.c (.int .i64 (.ofNat 1))), .none⟩,
 ⟨(.var 0), .move (.t 0), .none⟩]) (
 .block 0 (
 .loop b139_0))) r139_1)),
 [.opd (.v 3), .opd (.v 4)], 8, .none⟩
/-- (*telamon/scope.resolver).find -/
def vm140 : List Nat := [9, 8, 54, 1, 6, 7, 2, 0, 10, 11]
def b140_0 : DC :=
 .seq (.seq (.reg [⟨.tmp, .move (.v 1), .none⟩,
 ⟨.tmp, .binP .neq (.t 0) (.c (.nilp)), .none⟩]) (
 .cond (.t 0) (
 .skip) (
 .exit 0))) (
 .seq (.block 1 (
 .seq (.reg [⟨.tmp, .move (.v 1), .none⟩,
 ⟨.tmp, .nilck (.t 0), .none⟩,
 ⟨.tmp, .fadr 0 (.t 0), .none⟩,
 ⟨.tmp, .fadr 0 (.t 0), .none⟩,
 ⟨.tmp, .load1 (.t 0), .none⟩,
 ⟨.tmp, .move (.v 3), .none⟩,
 ⟨.tmp, .build [.str 0 0, .bool false] [(0, 1, (.t 0)), (1, 1, (.c (.bool false)))], .none⟩,
 ⟨.tmp, .lkp (.nils) 3 false (.t 2) (.t 0), .none⟩,
 ⟨.tmp, .move (.v 1), .none⟩,
 ⟨.tmp, .nilck (.t 0), .none⟩,
 ⟨.tmp, .fadr 0 (.t 0), .none⟩,
 ⟨.tmp, .fadr 0 (.t 0), .none⟩,
 ⟨.tmp, .load1 (.t 0), .none⟩,
 ⟨.tmp, .move (.v 3), .none⟩,
 ⟨.tmp, .build [.str 0 0, .bool false] [(0, 1, (.t 0)), (1, 1, (.c (.bool true)))], .none⟩,
 ⟨.tmp, .lkp (.nils) 3 false (.t 2) (.t 0), .none⟩,
 ⟨.tmp, .call 85 [(.t 8)], .none⟩,
 ⟨.no, .againL (.nils) 3 false (.t 4) (.t 2) (.t 1), .none⟩,
 ⟨.no, .again1 (.t 5) (.t 4), .none⟩,
 ⟨.tmp, .append 1 16 (.t 0) (.t 1), .none⟩,
 ⟨(.var 0), .move (.t 0), .none⟩]) (
 .seq (.reg [⟨.tmp, .move (.v 0), .none⟩,
 ⟨.tmp, .call 157 [(.t 0)], .none⟩]) (
 .seq (.seq (.reg [⟨.tmp, .move (.v 0), .none⟩,
 ⟨.tmp, .call 158 [(.t 0)], .none⟩,
 ⟨(.var 0), .move (.t 0), .none⟩]) (
 .seq (.reg [⟨.tmp, .move (.v 0), .none⟩,
 ⟨(.var 2), .len false (.t 0), .none⟩]) (
 .block 2 (
 .seq (.reg [⟨.tmp, .bin .eql (.v 2) (.c (.int .i64 (.ofNat 0))), .none⟩,
 ⟨.tmp, .move (.t 0), .none⟩]) (
 .cond (.t 0) (
 .exit 1) (
 .seq (.reg [⟨.tmp, .bin .eql (.v 2) (.c (.int .i64 (.ofNat 1))), .none⟩,
 ⟨.tmp, .move (.t 0), .none⟩]) (
 .cond (.t 0) (
 .seq (.reg [⟨.tmp, .move (.v 0), .none⟩,
 ⟨.tmp, .idxS 1 (.t 0) (.c (.int .i64 (.ofNat 0))), .none⟩,
 ⟨.tmp, .load1 (.t 0), .none⟩,
 ⟨(.var 4), .move (.t 0), .none⟩,
 ⟨(.var 5), .move (.c (.nili)), .none⟩]) (
 .ret)) (
 .skip)))))))) (
 .seq (.reg [⟨.tmp, .move (.v 6), .none⟩,
 ⟨.tmp, .call 64 [(.t 0), (.c (.int .i64 (.ofNat 45)))], .none⟩,
 ⟨(.var 4), .move (.c (.str 0 0)), .none⟩,
 ⟨(.var 5), .move (.t 0), .none⟩]) (
 .ret)))))) (
 .reg [⟨.tmp, .move (.v 1), .none⟩,
 ⟨.tmp, .nilck (.t 0), .none⟩,
 ⟨.tmp, .fadr 4 (.t 0), .none⟩,
 ⟨.tmp, .load1 (.t 0), .none⟩,
 ⟨(.var 1), .move (.t 0), .none⟩]))
def r140_1 : DC :=
 .seq (.seq (.reg [⟨.tmp, .move (.v 7), .none⟩,
 ⟨.tmp, .nilck (.t 0), .none⟩,
 ⟨.tmp, .fadr 2 (.t 0), .none⟩,
 ⟨.tmp, .load1 (.t 0), .none⟩,
 ⟨.tmp, .move (.v 3), .none⟩,
 ⟨.tmp, .lkp (.agg [.nilp, .bool false]) 1 true (.t 1) (.t 0), .none⟩,
 ⟨.tmp, .move (.t 0), .none⟩,
 ⟨.tmp, .ext (.t 0) 0, .none⟩,
 ⟨.tmp, .ext (.t 1) 1, .none⟩,
 ⟨(.var 8), .alloc [.nilp, .bool false], .none⟩,
 ⟨.no, .store 2 (.v 8) (.t 1), .none⟩,
 ⟨(.var 9), .move (.t 0), .none⟩]) (
 .seq (.reg [⟨.tmp, .move (.v 9), .none⟩,
 ⟨.tmp, .move (.t 0), .none⟩,
 ⟨.tmp, .fadr 0 (.v 8), .some ((.t 0), true)⟩,
 ⟨.tmp, .load1 (.t 0), .some ((.t 1), true)⟩,
 ⟨.tmp, .binP .eql (.t 0) (.c (.nilp)), .some ((.t 2), true)⟩,
 ⟨.tmp, .pick (.t 3) (.t 0) (.c (.bool false)), .none⟩]) (
 .cond (.t 0) (
 .seq (.reg [⟨.tmp, .move (.v 3), .none⟩,
 ⟨(.var 4), .move (.t 0), .none⟩,
 ⟨(.var 5), .move (.c (.nili)), .none⟩]) (
 .ret)) (
 .skip)))) (
 .seq (.reg [⟨.tmp, .move (.v 6), .none⟩,
 ⟨.tmp, .call 64 [(.t 0), (.c (.int .i64 (.ofNat 44)))], .none⟩,
 ⟨(.var 4), .move (.c (.str 0 0)), .none⟩,
 ⟨(.var 5), .move (.t 0), .none⟩]) (
 .ret))
def d140 : DF := ⟨[.some 9, .some 8, .some 54, .some 1, .some 6, .some 7, .some 2, .some 0, .some 10, .some 11],
 .seq (.reg [⟨(.var 4), .move (.c (.str 0 0)), .none⟩,
 ⟨(.var 5), .move (.c (.nili)), .none⟩]) (
 .seq (.seq (.reg [⟨.tmp, .move (.v 3), .none⟩,
 ⟨.tmp, .call 76 [(.t 0), (.c (.str 1 46))], .none⟩]) (
 .cond (.t 0) (
 .seq (.reg [⟨.tmp, .move (.v 7), .none⟩,
 ⟨.tmp, .move (.v 3), .none⟩,
 ⟨.tmp, .move (.v 6), .none⟩,
 ⟨.tmp, .call 156 [(.t 2), (.t 1), (.t 0)], .none⟩,
 ⟨.tmp, .ext (.t 0) 0, .none⟩,
 ⟨.tmp, .ext (.t 1) 1, .none⟩,
 ⟨(.var 4), .move (.t 1), .none⟩,
 ⟨(.var 5), .move (.t 0), .none⟩]) (
 .ret)) (
 .skip))) (
 .seq (.seq (.reg [⟨.tmp, .move (.v 7), .none⟩,
 ⟨.tmp, .nilck (.t 0), .none⟩,
 ⟨.tmp, .fadr 0 (.t 0), .none⟩,
 ⟨.tmp, .fadr 0 (.t 0), .none⟩,
 ⟨.tmp, .load1 (.t 0), .none⟩,
 ⟨(.var 1), .move (.t 0), .none⟩]) (
 .block 0 (
 .loop b140_0))) r140_1)),
 [.opd (.v 4), .opd (.v 5)], 10, .none⟩
/-- (*telamon/scope.resolver).used -/
def vm141 : List Nat := [40, 12, 13, 7, 2, 11, 10, 38, 39, 0, 31, 29, 30, 8, 6, 1]
def b141_0 : DC :=
 .seq (.reg [⟨.tmp, .bin .lss (.v 0) (.v 8), .none⟩]) (
 .seq (.cond (.t 0) (
 .skip) (
 .exit 2)) (
 .seq (.block 3 (
 .seq (.reg [⟨.tmp, .move (.v 0), .none⟩,
 ⟨.tmp, .idxS 9 (.v 7) (.v 0), .none⟩,
 ⟨.tmp, .loadN 9 (.t 0), .none⟩,
 ⟨(.var 1), .alloc [.str 0 0, .bool false, .int .i64 (.ofNat 0), .int .i64 (.ofNat 0), .str 0 0, .bool false, .nils, .nils, .int .i64 (.ofNat 0)], .none⟩,
 ⟨(.var 5), .move (.t 2), .none⟩,
 ⟨.no, .store 9 (.v 1) (.t 0), .none⟩]) (
 .seq (.reg [⟨.tmp, .move (.v 9), .none⟩,
 ⟨.tmp, .nilck (.t 0), .none⟩,
 ⟨.tmp, .fadr 0 (.t 0), .none⟩,
 ⟨.tmp, .fadr 1 (.t 0), .none⟩,
 ⟨.tmp, .load1 (.t 0), .none⟩,
 ⟨.tmp, .len false (.t 0), .none⟩,
 ⟨.tmp, .bin .sub (.t 0) (.c (.int .i64 (.ofNat 1))), .none⟩,
 ⟨.tmp, .move (.v 6), .none⟩,
 ⟨.tmp, .nilck (.t 0), .none⟩,
 ⟨.tmp, .fadr 6 (.t 0), .none⟩,
 ⟨.tmp, .load1 (.t 0), .none⟩,
 ⟨.tmp, .bin .sub (.t 4) (.t 0), .none⟩,
 ⟨.tmp, .move (.v 5), .none⟩,
 ⟨.tmp, .bin .sub (.t 1) (.t 0), .none⟩,
 ⟨.tmp, .move (.v 4), .none⟩,
 ⟨.tmp, .build [.int .i64 (.ofNat 0), .int .i64 (.ofNat 0), .str 0 0, .bool false, .nils, .nils, .int .i64 (.ofNat 0)] [(0, 1, (.c (.int .i64 (.ofNat 14)))), (1, 1, (.t 1)), (6, 1, (.t 0))], .none⟩,
 ⟨(.var 2), .alloc [.int .i64 (.ofNat 0), .int .i64 (.ofNat 0), .str 0 0, .bool false, .nils, .nils, .int .i64 (.ofNat 0)], .none⟩,
 ⟨.no, .store 7 (.v 2) (.t 0), .none⟩]) (
 .reg [⟨.tmp, .fadr 1 (.v 1), .none⟩,
 ⟨.tmp, .load1 (.t 0), .none⟩,
 ⟨.tmp, .loadN 7 (.v 3), .none⟩,
 ⟨.tmp, .loadN 7 (.v 2), .none⟩,
 ⟨.tmp, .buildS 7 [[.int .i64 (.ofNat 0), .int .i64 (.ofNat 0), .str 0 0, .bool false, .nils, .nils, .int .i64 (.ofNat 0)], [.int .i64 (.ofNat 0), .int .i64 (.ofNat 0), .str 0 0, .bool false, .nils, .nils, .int .i64 (.ofNat 0)]] [(0, (.t 1)), (1, (.t 0))], .none⟩,
 ⟨.tmp, .move (.v 4), .none⟩,
 ⟨.tmp, .build [.int .i64 (.ofNat 0), .int .i64 (.ofNat 0), .str 0 0, .bool false, .nils, .nils, .int .i64 (.ofNat 0)] [(0, 1, (.c (.int .i64 (.ofNat 5)))), (3, 1, (.t 4)), (5, 1, (.t 1)), (6, 1, (.t 0))], .none⟩,
 ⟨.no, .store 7 (.v 3) (.t 0), .none⟩])))) (
 .reg [⟨.tmp, .bin .add (.v 0) (.c (.int .i64 (.ofNat 1))), .none⟩,
 ⟨(.var 0), .move (.t 0), .none⟩])))
def r141_1 : DC :=
 .reg [⟨.tmp, .bin .add (.v 10) (.c (.int .i64 (.ofNat 1))), .none⟩,
 ⟨(.var 10), .move (.t 0), .none⟩]
def b141_2 : DC :=
 .seq (.reg [⟨.tmp, .bin .lss (.v 10) (.v 12), .none⟩]) (
 .seq (.cond (.t 0) (
 .skip) (
 .exit 0)) (
 .seq (.block 1 (
 .seq (.reg [⟨.tmp, .idxS 1 (.v 11) (.v 10), .none⟩,
 ⟨.tmp, .load1 (.t 0), .none⟩,
 ⟨(.var 6), .move (.t 0), .none⟩]) (
 .seq (.reg [⟨.tmp, .move (.v 6), .none⟩,
 ⟨.tmp, .nilck (.t 0), .none⟩,
 ⟨.tmp, .fadr 5 (.t 0), .none⟩,
 ⟨(.var 7), .load1 (.t 0), .none⟩,
 ⟨(.var 8), .len false (.v 7), .none⟩,
 ⟨(.var 0), .move (.c (.int .i64 (.ofNat 0))), .none⟩]) (
 .block 2 (
 .loop b141_0))))) r141_1))
def r141_3 : DC :=
 .seq (.reg [⟨.tmp, .loadN 7 (.v 3), .none⟩,
 ⟨.no, .store 7 (.v 14) (.t 0), .none⟩]) (
 .ret)
def d141 : DF := ⟨[.some 40, .some 12, .some 13, .some 7, .some 2, .some 11, .some 10, .some 38, .some 39, .some 0, .some 31, .some 29, .some 30, .some 8, .some 6, .some 1],
 .seq (.reg [⟨(.var 14), .alloc [.int .i64 (.ofNat 0), .int .i64 (.ofNat 0), .str 0 0, .bool false, .nils, .nils, .int .i64 (.ofNat 0)], .none⟩]) (
 .seq (.reg [⟨.tmp, .move (.v 15), .none⟩,
 ⟨.tmp, .move (.v 4), .none⟩,
 ⟨.tmp, .build [.int .i64 (.ofNat 0), .int .i64 (.ofNat 0), .str 0 0, .bool false, .nils, .nils, .int .i64 (.ofNat 0)] [(0, 1, (.c (.int .i64 (.ofNat 2)))), (2, 1, (.t 1)), (6, 1, (.t 0))], .none⟩,
 ⟨(.var 3), .alloc [.int .i64 (.ofNat 0), .int .i64 (.ofNat 0), .str 0 0, .bool false, .nils, .nils, .int .i64 (.ofNat 0)], .none⟩,
 ⟨.no, .store 7 (.v 3) (.t 0), .none⟩]) (
 .seq (.reg [⟨.tmp, .move (.v 9), .none⟩,
 ⟨.tmp, .nilck (.t 0), .none⟩,
 ⟨.tmp, .fadr 2 (.t 0), .none⟩,
 ⟨.tmp, .load1 (.t 0), .none⟩,
 ⟨.tmp, .move (.v 15), .none⟩,
 ⟨.tmp, .lkp (.agg [.nilp, .bool false]) 1 false (.t 1) (.t 0), .none⟩,
 ⟨(.var 13), .alloc [.nilp, .bool false], .none⟩,
 ⟨.no, .store 2 (.v 13) (.t 0), .none⟩]) (
 .seq (.seq (.reg [⟨.tmp, .fadr 1 (.v 13), .none⟩,
 ⟨.tmp, .load1 (.t 0), .none⟩]) (
 .cond (.t 0) (
 .seq (.reg [⟨.tmp, .loadN 7 (.v 3), .none⟩,
 ⟨.no, .store 7 (.v 14) (.t 0), .none⟩]) (
 .ret)) (
 .skip))) (
 .seq (.seq (.reg [⟨.tmp, .move (.v 9), .none⟩,
 ⟨.tmp, .fadr 0 (.v 13), .none⟩,
 ⟨.tmp, .load1 (.t 0), .none⟩,
 ⟨(.var 11), .call 159 [(.t 2), (.t 0)], .none⟩,
 ⟨(.var 12), .len false (.v 11), .none⟩,
 ⟨(.var 10), .move (.c (.int .i64 (.ofNat 0))), .none⟩]) (
 .block 0 (
 .loop b141_2))) r141_3)))),
 [.cellN 7 (.v 14)], 16, .none⟩
/-- (*telamon/scope.resolver).parts$1 -/
def vm142 : List Nat := [0, 1, 2, 3, 4, 5, 18, 19, 21]
def x142 : DC :=
 .seq (.reg [⟨.tmp, .load1 (.v 2), .none⟩,
 ⟨.tmp, .nilck (.t 0), .none⟩,
 ⟨.tmp, .fadr 5 (.t 0), .none⟩,
 ⟨.tmp, .load1 (.t 0), .none⟩,
 ⟨(.var 6), .loadN 7 (.v 4), .none⟩,
 ⟨(.var 7), .len false (.t 0), .none⟩,
 ⟨.tmp, .buildS 7 [[.int .i64 (.ofNat 0), .int .i64 (.ofNat 0), .str 0 0, .bool false, .nils, .nils, .int .i64 (.ofNat 0)]] [(0, (.c (.agg [.int .i64 (.ofNat 0), .int .i64 (.ofNat 0), .str 0 0, .bool false, .nils, .nils, .int .i64 (.ofNat 0)])))], .none⟩,
 ⟨(.var 8), .append 7 96 (.t 1) (.t 0), .none⟩,
 ⟨.tmp, .nilck (.t 4), .none⟩,
 ⟨.tmp, .fadr 5 (.t 0), .none⟩,
 ⟨.no, .store 1 (.t 0) (.v 8), .none⟩,
 ⟨.no, .kill (.t 2), .none⟩]) (
 .reg [⟨.tmp, .idxS 7 (.v 8) (.v 7), .none⟩,
 ⟨.no, .store 7 (.t 0) (.v 6), .none⟩])
def y142 : DC :=
 .reg [⟨.tmp, .load1 (.v 2), .none⟩,
 ⟨.tmp, .load1 (.v 2), .none⟩,
 ⟨.tmp, .nilck (.t 0), .none⟩,
 ⟨.tmp, .fadr 5 (.t 0), .none⟩,
 ⟨.tmp, .load1 (.t 0), .none⟩,
 ⟨.tmp, .loadN 7 (.v 4), .none⟩,
 ⟨.tmp, .buildS 7 [[.int .i64 (.ofNat 0), .int .i64 (.ofNat 0), .str 0 0, .bool false, .nils, .nils, .int .i64 (.ofNat 0)]] [(0, (.t 0))], .none⟩,
 ⟨.tmp, .append 7 96 (.t 2) (.t 0), .none⟩,
 ⟨.no, .again1 (.v 2) (.t 7), .none⟩,
 ⟨.tmp, .nilck (.t 7), .none⟩,
 ⟨.tmp, .fadr 5 (.t 0), .none⟩,
 ⟨.no, .store 1 (.t 0) (.t 2), .none⟩,
 ⟨.no, .kill (.t 3), .none⟩]
def d142 : DF := ⟨[.some 0, .some 1, .some 2, .some 3, .some 4, .some 5, .some 18, .some 19, .some 21],
 .seq (.reg [⟨(.var 3), .move (.c (.nili)), .none⟩]) (
 .seq (.reg [⟨.tmp, .load1 (.v 0), .none⟩,
 ⟨.tmp, .loadN 7 (.v 1), .none⟩,
 ⟨.tmp, .call 70 [(.t 1), (.t 0)], .none⟩,
 ⟨.tmp, .move (.t 0), .none⟩,
 ⟨.tmp, .ext (.t 0) 0, .none⟩,
 ⟨.tmp, .ext (.t 1) 1, .none⟩,
 ⟨(.var 4), .alloc [.int .i64 (.ofNat 0), .int .i64 (.ofNat 0), .str 0 0, .bool false, .nils, .nils, .int .i64 (.ofNat 0)], .none⟩,
 ⟨.no, .store 7 (.v 4) (.t 1), .none⟩,
 ⟨(.var 5), .move (.t 0), .none⟩]) (
 .seq (.condF x142 y142 [6, 7, 8] (.v 2) 5) (
 .seq (.reg [⟨.tmp, .move (.v 5), .none⟩,
 ⟨(.var 3), .move (.t 0), .none⟩]) (
 .ret)))),
 [.opd (.v 3)], 9, .none⟩
/-- internal/stringslite.Index -/
def vm143 : List Nat := [8, 0, 4, 10, 1, 5, 9, 11, 12, 13, 6, 7]
def b143_0 : DC :=
 .seq (.seq (.reg [⟨.tmp, .move (.v 0), .none⟩,
 ⟨.tmp, .move (.v 6), .none⟩,
 ⟨.tmp, .bin .lss (.t 1) (.t 0), .none⟩]) (
 .cond (.t 0) (
 .skip) (
 .exit 1))) (
 .block 2 (
 .seq (.seq (.reg [⟨.tmp, .move (.v 1), .none⟩,
 ⟨.tmp, .move (.v 0), .none⟩,
 ⟨.tmp, .idxStr (.t 1) (.t 0), .none⟩,
 ⟨.tmp, .move (.v 10), .none⟩,
 ⟨.tmp, .bin .neq (.t 1) (.t 0), .none⟩]) (
 .cond (.t 0) (
 .seq (.reg [⟨.tmp, .move (.v 1), .none⟩,
 ⟨.tmp, .move (.v 0), .none⟩,
 ⟨.tmp, .bin .add (.t 0) (.c (.int .i64 (.ofNat 1))), .none⟩,
 ⟨.tmp, .move (.v 6), .none⟩,
 ⟨.tmp, .slcStr (.t 3) (.some (.t 1)) (.some (.t 0)), .none⟩,
 ⟨.tmp, .move (.v 10), .none⟩,
 ⟨.tmp, .call 160 [(.t 1), (.t 0)], .none⟩,
 ⟨(.var 7), .move (.t 0), .none⟩]) (
 .seq (.seq (.reg [⟨.tmp, .move (.v 7), .none⟩,
 ⟨.tmp, .bin .lss (.t 0) (.c (.int .i64 (.ofNat 0))), .none⟩]) (
 .cond (.t 0) (
 .seq (.reg [⟨(.var 2), .move (.c (.int .i64 (.negSucc 0))), .none⟩]) (
 .ret)) (
 .skip))) (
 .reg [⟨.tmp, .move (.v 0), .none⟩,
 ⟨.tmp, .move (.v 7), .none⟩,
 ⟨.tmp, .bin .add (.t 0) (.c (.int .i64 (.ofNat 1))), .none⟩,
 ⟨.tmp, .bin .add (.t 2) (.t 0), .none⟩,
 ⟨(.var 0), .move (.t 0), .none⟩]))) (
 .skip))) (
 .seq (.seq (.reg [⟨.tmp, .move (.v 1), .none⟩,
 ⟨.tmp, .move (.v 0), .none⟩,
 ⟨.tmp, .bin .add (.t 0) (.c (.int .i64 (.ofNat 1))), .none⟩,
 ⟨.tmp, .idxStr (.t 2) (.t 0), .none⟩,
 ⟨.tmp, .move (.v 11), .none⟩,
 ⟨.tmp, .bin .eql (.t 1) (.t 0), .none⟩,
 ⟨.tmp, .move (.t 0), .none⟩,
 ⟨.tmp, .move (.v 1), .some ((.t 0), true)⟩,
 ⟨.tmp, .move (.v 0), .some ((.t 1), true)⟩,
 ⟨.tmp, .move (.v 0), .some ((.t 2), true)⟩,
 ⟨.tmp, .move (.v 5), .some ((.t 3), true)⟩,
 ⟨.tmp, .bin .add (.t 1) (.t 0), .some ((.t 4), true)⟩,
 ⟨.tmp, .slcStr (.t 4) (.some (.t 3)) (.some (.t 0)), .some ((.t 5), true)⟩,
 ⟨.tmp, .move (.v 4), .some ((.t 6), true)⟩,
 ⟨.tmp, .bin .eql (.t 1) (.t 0), .some ((.t 7), true)⟩,
 ⟨.tmp, .pick (.t 8) (.t 0) (.c (.bool false)), .none⟩]) (
 .cond (.t 0) (
 .seq (.reg [⟨.tmp, .move (.v 0), .none⟩,
 ⟨(.var 2), .move (.t 0), .none⟩]) (
 .ret)) (
 .skip))) (
 .seq (.reg [⟨.tmp, .move (.v 0), .none⟩,
 ⟨.tmp, .bin .add (.t 0) (.c (.int .i64 (.ofNat 1))), .none⟩,
 ⟨(.var 0), .move (.t 0), .none⟩]) (
 .seq (.reg [⟨.tmp, .move (.v 3), .none⟩,
 ⟨.tmp, .bin .add (.t 0) (.c (.int .i64 (.ofNat 1))), .none⟩,
 ⟨(.var 3), .move (.t 0), .none⟩]) (
 .seq (.reg [⟨.tmp, .move (.v 5), .none⟩,
 ⟨.tmp, .load1 (.c (.gp 1 0)), .none⟩,
 ⟨.tmp, .bin .leq (.t 1) (.t 0), .none⟩,
 ⟨.tmp, .move (.t 0), .none⟩,
 ⟨.tmp, .move (.v 3), .some ((.t 0), true)⟩,
 ⟨.tmp, .move (.v 0), .some ((.t 1), true)⟩,
 ⟨.tmp, .call 162 [(.t 0)], .some ((.t 2), true)⟩,
 ⟨.tmp, .bin .gtr (.t 2) (.t 0), .some ((.t 3), true)⟩,
 ⟨.tmp, .pick (.t 4) (.t 0) (.c (.bool false)), .none⟩]) (
 .cond (.t 0) (
 .seq (.reg [⟨.tmp, .move (.v 1), .none⟩,
 ⟨.tmp, .move (.v 0), .none⟩,
 ⟨.tmp, .slcStr (.t 1) (.some (.t 0)) .none, .none⟩,
 ⟨.tmp, .move (.v 4), .none⟩,
 ⟨.tmp, .call 161 [(.t 1), (.t 0)], .none⟩,
 ⟨(.var 8), .move (.t 0), .none⟩]) (
 .seq (.seq (.reg [⟨.tmp, .move (.v 8), .none⟩,
 ⟨.tmp, .bin .geq (.t 0) (.c (.int .i64 (.ofNat 0))), .none⟩]) (
 .cond (.t 0) (
 .seq (.reg [⟨.tmp, .move (.v 8), .none⟩,
 ⟨.tmp, .move (.v 0), .none⟩,
 ⟨.tmp, .bin .add (.t 1) (.t 0), .none⟩,
 ⟨(.var 2), .move (.t 0), .none⟩]) (
 .ret)) (
 .skip))) (
 .seq (.reg [⟨(.var 2), .move (.c (.int .i64 (.negSucc 0))), .none⟩]) (
 .ret)))) (
 .seq (.reg [⟨.tmp, .move (.v 5), .none⟩,
 ⟨.tmp, .load1 (.c (.gp 1 0)), .none⟩,
 ⟨.tmp, .bin .gtr (.t 1) (.t 0), .none⟩,
 ⟨.tmp, .move (.t 0), .none⟩,
 ⟨.tmp, .move (.v 3), .some ((.t 0), true)⟩,
 ⟨.tmp, .move (.v 0), .some ((.t 1), true)⟩,
 ⟨.tmp, .bin .shr (.t 0) (.c (.int .u64 (.ofNat 4))), .some ((.t 2), true)⟩,
 ⟨.tmp, .bin .add (.c (.int .i64 (.ofNat 4))) (.t 0), .some ((.t 3), true)⟩,
 ⟨.tmp, .bin .geq (.t 3) (.t 0), .some ((.t 4), true)⟩,
 ⟨.tmp, .pick (.t 5) (.t 0) (.c (.bool false)), .none⟩,
 ⟨.tmp, .move (.t 0), .none⟩,
 ⟨.tmp, .move (.v 0), .some ((.t 0), true)⟩,
 ⟨.tmp, .move (.v 6), .some ((.t 1), true)⟩,
 ⟨.tmp, .bin .lss (.t 1) (.t 0), .some ((.t 2), true)⟩,
 ⟨.tmp, .pick (.t 3) (.t 0) (.c (.bool false)), .none⟩]) (
 .cond (.t 0) (
 .seq (.reg [⟨.tmp, .move (.v 1), .none⟩,
 ⟨.tmp, .move (.v 0), .none⟩,
 ⟨.tmp, .slcStr (.t 1) (.some (.t 0)) .none, .none⟩,
 ⟨.tmp, .move (.v 4), .none⟩,
 ⟨.tmp, .call 163 [(.t 1), (.t 0)], .none⟩,
 ⟨(.var 9), .move (.t 0), .none⟩]) (
 .seq (.seq (.reg [⟨.tmp, .move (.v 9), .none⟩,
 ⟨.tmp, .bin .lss (.t 0) (.c (.int .i64 (.ofNat 0))), .none⟩]) (
 .cond (.t 0) (
 .seq (.reg [⟨(.var 2), .move (.c (.int .i64 (.negSucc 0))), .none⟩]) (
 .ret)) (
 .skip))) (
 .seq (.reg [⟨.tmp, .move (.v 0), .none⟩,
 ⟨.tmp, .move (.v 9), .none⟩,
 ⟨.tmp, .bin .add (.t 1) (.t 0), .none⟩,
 ⟨(.var 2), .move (.t 0), .none⟩]) (
 .ret)))) (
 .skip))))))))))
def r143_1 : DC :=
 .seq (.reg [⟨(.var 2), .move (.c (.int .i64 (.negSucc 0))), .none⟩]) (
 .ret)
def d143 : DF := ⟨[.some 8, .some 0, .some 4, .some 10, .some 1, .some 5, .some 9, .some 11, .some 12, .some 13, .some 6, .some 7],
 .seq (.reg [⟨(.var 2), .move (.c (.int .i64 (.ofNat 0))), .none⟩]) (
 .seq (.reg [⟨.tmp, .move (.v 4), .none⟩,
 ⟨.tmp, .len true (.t 0), .none⟩,
 ⟨(.var 5), .move (.t 0), .none⟩]) (
 .seq (.block 0 (
 .seq (.reg [⟨.tmp, .move (.v 5), .none⟩,
 ⟨.tmp, .bin .eql (.t 0) (.c (.int .i64 (.ofNat 0))), .none⟩,
 ⟨.tmp, .move (.t 0), .none⟩,
 ⟨.tmp, .move (.v 4), .some ((.t 0), false)⟩,
 ⟨.tmp, .move (.v 1), .some ((.t 1), false)⟩,
 ⟨.tmp, .bin .eql (.t 1) (.t 0), .some ((.t 2), false)⟩,
 ⟨.tmp, .pick (.t 3) (.c (.bool true)) (.t 0), .none⟩,
 ⟨.tmp, .move (.t 0), .none⟩]) (
 .cond (.t 0) (
 .seq (.reg [⟨(.var 2), .move (.c (.int .i64 (.ofNat 0))), .none⟩]) (
 .ret)) (
 .seq (.reg [⟨.tmp, .move (.v 5), .none⟩,
 ⟨.tmp, .bin .eql (.t 0) (.c (.int .i64 (.ofNat 1))), .none⟩,
 ⟨.tmp, .move (.t 0), .none⟩]) (
 .cond (.t 0) (
 .seq (.reg [⟨.tmp, .move (.v 1), .none⟩,
 ⟨.tmp, .move (.v 4), .none⟩,
 ⟨.tmp, .idxStr (.t 0) (.c (.int .i64 (.ofNat 0))), .none⟩,
 ⟨.tmp, .call 160 [(.t 2), (.t 0)], .none⟩,
 ⟨(.var 2), .move (.t 0), .none⟩]) (
 .ret)) (
 .seq (.reg [⟨.tmp, .move (.v 5), .none⟩,
 ⟨.tmp, .move (.v 1), .none⟩,
 ⟨.tmp, .len true (.t 0), .none⟩,
 ⟨.tmp, .bin .geq (.t 2) (.t 0), .none⟩,
 ⟨.tmp, .move (.t 0), .none⟩]) (
 .cond (.t 0) (
 .seq (.reg [⟨(.var 2), .move (.c (.int .i64 (.negSucc 0))), .none⟩]) (
 .ret)) (
 .seq (.reg [⟨.tmp, .move (.v 5), .none⟩,
 ⟨.tmp, .load1 (.c (.gp 1 0)), .none⟩,
 ⟨.tmp, .bin .leq (.t 1) (.t 0), .none⟩,
 ⟨.tmp, .move (.t 0), .none⟩,
 ⟨.tmp, .move (.v 1), .some ((.t 0), true)⟩,
 ⟨.tmp, .len true (.t 0), .some ((.t 1), true)⟩,
 ⟨.tmp, .bin .leq (.t 0) (.c (.int .i64 (.ofNat 64))), .some ((.t 2), true)⟩,
 ⟨.tmp, .pick (.t 3) (.t 0) (.c (.bool false)), .none⟩,
 ⟨.tmp, .move (.t 0), .none⟩]) (
 .cond (.t 0) (
 .seq (.reg [⟨.tmp, .move (.v 1), .none⟩,
 ⟨.tmp, .move (.v 4), .none⟩,
 ⟨.tmp, .call 161 [(.t 1), (.t 0)], .none⟩,
 ⟨(.var 2), .move (.t 0), .none⟩]) (
 .ret)) (
 .skip)))))))))) (
 .seq (.reg [⟨.tmp, .move (.v 4), .none⟩,
 ⟨.tmp, .idxStr (.t 0) (.c (.int .i64 (.ofNat 0))), .none⟩,
 ⟨(.var 10), .move (.t 0), .none⟩]) (
 .seq (.reg [⟨.tmp, .move (.v 4), .none⟩,
 ⟨.tmp, .idxStr (.t 0) (.c (.int .i64 (.ofNat 1))), .none⟩,
 ⟨(.var 11), .move (.t 0), .none⟩]) (
 .seq (.reg [⟨(.var 0), .move (.c (.int .i64 (.ofNat 0))), .none⟩]) (
 .seq (.reg [⟨.tmp, .move (.v 1), .none⟩,
 ⟨.tmp, .len true (.t 0), .none⟩,
 ⟨.tmp, .move (.v 5), .none⟩,
 ⟨.tmp, .bin .sub (.t 1) (.t 0), .none⟩,
 ⟨.tmp, .bin .add (.t 0) (.c (.int .i64 (.ofNat 1))), .none⟩,
 ⟨(.var 6), .move (.t 0), .none⟩]) (
 .seq (.reg [⟨(.var 3), .move (.c (.int .i64 (.ofNat 0))), .none⟩]) (
 .seq (.block 1 (
 .loop b143_0)) r143_1)))))))),
 [.opd (.v 2)], 12, .none⟩
/-- strings.genSplit -/
def vm144 : List Nat := [0, 10, 11, 1, 3, 9, 2, 8]
def b144_0 : DC :=
 .seq (.seq (.reg [⟨.tmp, .move (.v 1), .none⟩,
 ⟨.tmp, .move (.v 4), .none⟩,
 ⟨.tmp, .bin .lss (.t 1) (.t 0), .none⟩]) (
 .cond (.t 0) (
 .skip) (
 .exit 0))) (
 .block 1 (
 .seq (.reg [⟨.tmp, .move (.v 0), .none⟩,
 ⟨.tmp, .move (.v 3), .none⟩,
 ⟨.tmp, .call 119 [(.t 1), (.t 0)], .none⟩,
 ⟨(.var 2), .move (.t 0), .none⟩]) (
 .seq (.seq (.reg [⟨.tmp, .move (.v 2), .none⟩,
 ⟨.tmp, .bin .lss (.t 0) (.c (.int .i64 (.ofNat 0))), .none⟩]) (
 .cond (.t 0) (
 .exit 0) (
 .skip))) (
 .seq (.reg [⟨.tmp, .move (.v 5), .none⟩,
 ⟨.tmp, .move (.v 1), .none⟩,
 ⟨.tmp, .move (.v 0), .none⟩,
 ⟨.tmp, .move (.v 2), .none⟩,
 ⟨.tmp, .move (.v 6), .none⟩,
 ⟨.tmp, .bin .add (.t 1) (.t 0), .none⟩,
 ⟨.tmp, .slcStr (.t 3) .none (.some (.t 0)), .none⟩,
 ⟨.tmp, .idxS 1 (.t 6) (.t 5), .none⟩,
 ⟨.no, .store 1 (.t 0) (.t 1), .none⟩]) (
 .seq (.reg [⟨.tmp, .move (.v 0), .none⟩,
 ⟨.tmp, .move (.v 2), .none⟩,
 ⟨.tmp, .move (.v 3), .none⟩,
 ⟨.tmp, .len true (.t 0), .none⟩,
 ⟨.tmp, .bin .add (.t 2) (.t 0), .none⟩,
 ⟨.tmp, .slcStr (.t 4) (.some (.t 0)) .none, .none⟩,
 ⟨(.var 0), .move (.t 0), .none⟩]) (
 .reg [⟨.tmp, .move (.v 1), .none⟩,
 ⟨.tmp, .bin .add (.t 0) (.c (.int .i64 (.ofNat 1))), .none⟩,
 ⟨(.var 1), .move (.t 0), .none⟩]))))))
def r144_1 : DC :=
 .seq (.reg [⟨.tmp, .move (.v 5), .none⟩,
 ⟨.tmp, .move (.v 1), .none⟩,
 ⟨.tmp, .move (.v 0), .none⟩,
 ⟨.tmp, .idxS 1 (.t 2) (.t 1), .none⟩,
 ⟨.no, .store 1 (.t 0) (.t 1), .none⟩]) (
 .seq (.reg [⟨.tmp, .move (.v 5), .none⟩,
 ⟨.tmp, .move (.v 1), .none⟩,
 ⟨.tmp, .bin .add (.t 0) (.c (.int .i64 (.ofNat 1))), .none⟩,
 ⟨.tmp, .slcS 1 (.t 2) .none (.some (.t 0)) .none, .none⟩,
 ⟨(.var 7), .move (.t 0), .none⟩]) (
 .ret))
def d144 : DF := ⟨[.some 0, .some 10, .some 11, .some 1, .some 3, .some 9, .some 2, .some 8],
 .seq (.reg [⟨(.var 7), .move (.c (.nils)), .none⟩]) (
 .seq (.seq (.reg [⟨.tmp, .move (.v 4), .none⟩,
 ⟨.tmp, .bin .eql (.t 0) (.c (.int .i64 (.ofNat 0))), .none⟩]) (
 .cond (.t 0) (
 .seq (.reg [⟨(.var 7), .move (.c (.nils)), .none⟩]) (
 .ret)) (
 .skip))) (
 .seq (.seq (.reg [⟨.tmp, .move (.v 3), .none⟩,
 ⟨.tmp, .bin .eql (.t 0) (.c (.str 0 0)), .none⟩]) (
 .cond (.t 0) (
 .seq (.reg [⟨.tmp, .move (.v 0), .none⟩,
 ⟨.tmp, .move (.v 4), .none⟩,
 ⟨.tmp, .call 164 [(.t 1), (.t 0)], .none⟩,
 ⟨(.var 7), .move (.t 0), .none⟩]) (
 .ret)) (
 .skip))) (
 .seq (.seq (.reg [⟨.tmp, .move (.v 4), .none⟩,
 ⟨.tmp, .bin .lss (.t 0) (.c (.int .i64 (.ofNat 0))), .none⟩]) (
 .cond (.t 0) (
 .reg [⟨.tmp, .move (.v 0), .none⟩,
 ⟨.tmp, .move (.v 3), .none⟩,
 ⟨.tmp, .call 165 [(.t 1), (.t 0)], .none⟩,
 ⟨.tmp, .bin .add (.t 0) (.c (.int .i64 (.ofNat 1))), .none⟩,
 ⟨(.var 4), .move (.t 0), .none⟩]) (
 .skip))) (
 .seq (.reg [⟨.tmp, .move (.v 4), .none⟩,
 ⟨.tmp, .move (.v 0), .none⟩,
 ⟨.tmp, .len true (.t 0), .none⟩,
 ⟨.tmp, .bin .add (.t 0) (.c (.int .i64 (.ofNat 1))), .none⟩,
 ⟨.tmp, .minI (.t 3) (.t 0), .none⟩,
 ⟨(.var 4), .move (.t 0), .none⟩]) (
 .seq (.reg [⟨.tmp, .move (.v 4), .none⟩,
 ⟨.tmp, .mkS [.str 0 0] 16 (.t 0) (.t 0), .none⟩,
 ⟨(.var 5), .move (.t 0), .none⟩]) (
 .seq (.reg [⟨.tmp, .move (.v 4), .none⟩,
 ⟨.tmp, .bin .sub (.t 0) (.c (.int .i64 (.ofNat 1))), .none⟩,
 ⟨(.var 4), .move (.t 0), .none⟩]) (
 .seq (.reg [⟨(.var 1), .move (.c (.int .i64 (.ofNat 0))), .none⟩]) (
 .seq (.block 0 (
 .loop b144_0)) r144_1)))))))),
 [.opd (.v 7)], 8, .none⟩
/-- (*telamon/scope.module).sees -/
def vm145 : List Nat := [0, 4, 1]

def d145 : DF := ⟨[.some 0, .some 4, .some 1],
 .seq (.reg [⟨(.var 1), .move (.c (.bool false)), .none⟩]) (
 .seq (.reg [⟨.tmp, .move (.v 0), .none⟩,
 ⟨.tmp, .nilck (.t 0), .none⟩,
 ⟨.tmp, .fadr 7 (.t 0), .none⟩,
 ⟨.tmp, .load1 (.t 0), .none⟩,
 ⟨.tmp, .not (.t 0), .none⟩,
 ⟨.tmp, .move (.t 0), .none⟩,
 ⟨.tmp, .move (.v 2), .some ((.t 0), false)⟩,
 ⟨.tmp, .move (.v 0), .some ((.t 1), false)⟩,
 ⟨.tmp, .nilck (.t 0), .some ((.t 2), false)⟩,
 ⟨.tmp, .fadr 4 (.t 0), .some ((.t 3), false)⟩,
 ⟨.tmp, .load1 (.t 0), .some ((.t 4), false)⟩,
 ⟨.tmp, .call 166 [(.t 4), (.t 0)], .some ((.t 5), false)⟩,
 ⟨.tmp, .pick (.t 6) (.c (.bool true)) (.t 0), .none⟩,
 ⟨(.var 1), .move (.t 0), .none⟩]) (
 .ret)),
 [.opd (.v 1)], 3, .none⟩
/-- (*telamon/scope.pattern).one -/
def vm146 : List Nat := [3, 4, 5, 2, 10, 6, 8, 7, 0, 1]

def d146 : DF := ⟨[.some 3, .some 4, .some 5, .some 2, .some 10, .some 6, .some 8, .some 7, .some 0, .some 1],
 .seq (.reg [⟨(.var 3), .box 1 (.v 8), .none⟩,
 ⟨(.var 0), .box 7 (.v 9), .none⟩,
 ⟨(.var 1), .alloc [.int .i64 (.ofNat 0), .int .i64 (.ofNat 0), .str 0 0, .bool false, .nils, .nils, .int .i64 (.ofNat 0)], .none⟩,
 ⟨(.var 2), .move (.c (.nili)), .none⟩]) (
 .seq (.seq (.reg [⟨.tmp, .fadr 0 (.v 0), .none⟩,
 ⟨(.var 4), .load1 (.t 0), .none⟩]) (
 .block 0 (
 .seq (.reg [⟨.tmp, .bin .eql (.v 4) (.c (.int .i64 (.ofNat 4))), .none⟩,
 ⟨.tmp, .move (.t 0), .none⟩]) (
 .cond (.t 0) (
 .seq (.reg [⟨.tmp, .load1 (.v 3), .none⟩,
 ⟨.tmp, .fadr 6 (.v 0), .none⟩,
 ⟨.tmp, .load1 (.t 0), .none⟩,
 ⟨.tmp, .call 167 [(.t 2), (.c (.str 1 95)), (.t 0)], .none⟩,
 ⟨.tmp, .ext (.t 0) 0, .none⟩,
 ⟨.tmp, .ext (.t 1) 1, .none⟩,
 ⟨.no, .store 7 (.v 1) (.t 1), .none⟩,
 ⟨(.var 2), .move (.t 0), .none⟩]) (
 .ret)) (
 .seq (.reg [⟨.tmp, .bin .eql (.v 4) (.c (.int .i64 (.ofNat 15))), .none⟩,
 ⟨.tmp, .move (.t 0), .none⟩]) (
 .cond (.t 0) (
 .seq (.reg [⟨.tmp, .fadr 6 (.v 0), .none⟩,
 ⟨.tmp, .load1 (.t 0), .none⟩,
 ⟨.tmp, .build [.int .i64 (.ofNat 0), .int .i64 (.ofNat 0), .str 0 0, .bool false, .nils, .nils, .int .i64 (.ofNat 0)] [(0, 1, (.c (.int .i64 (.ofNat 15)))), (6, 1, (.t 0))], .none⟩,
 ⟨.no, .store 7 (.v 1) (.t 0), .none⟩,
 ⟨(.var 2), .move (.c (.nili)), .none⟩]) (
 .ret)) (
 .seq (.reg [⟨.tmp, .bin .eql (.v 4) (.c (.int .i64 (.ofNat 2))), .none⟩,
 ⟨.tmp, .move (.t 0), .none⟩]) (
 .cond (.t 0) (
 .seq (.reg [⟨.tmp, .load1 (.v 3), .none⟩,
 ⟨.tmp, .loadN 7 (.v 0), .none⟩,
 ⟨.tmp, .call 168 [(.t 1), (.t 0)], .none⟩,
 ⟨.tmp, .move (.t 0), .none⟩,
 ⟨.tmp, .ext (.t 0) 0, .none⟩,
 ⟨.tmp, .ext (.t 1) 1, .none⟩,
 ⟨.tmp, .ext (.t 2) 2, .none⟩,
 ⟨(.var 5), .alloc [.int .i64 (.ofNat 0), .int .i64 (.ofNat 0), .str 0 0, .bool false, .nils, .nils, .int .i64 (.ofNat 0)], .none⟩,
 ⟨.no, .store 7 (.v 5) (.t 2), .none⟩,
 ⟨(.var 7), .move (.t 1), .none⟩,
 ⟨(.var 6), .move (.t 0), .none⟩]) (
 .seq (.seq (.reg [⟨.tmp, .move (.v 6), .none⟩,
 ⟨.tmp, .binN true 0 (.t 0), .none⟩,
 ⟨.tmp, .move (.t 0), .none⟩,
 ⟨.tmp, .move (.v 7), .some ((.t 0), false)⟩,
 ⟨.tmp, .pick (.t 1) (.c (.bool true)) (.t 0), .none⟩]) (
 .cond (.t 0) (
 .seq (.reg [⟨.tmp, .loadN 7 (.v 5), .none⟩,
 ⟨.tmp, .move (.v 6), .none⟩,
 ⟨.no, .store 7 (.v 1) (.t 1), .none⟩,
 ⟨(.var 2), .move (.t 0), .none⟩]) (
 .ret)) (
 .skip))) (
 .seq (.reg [⟨.tmp, .fadr 2 (.v 0), .none⟩,
 ⟨.tmp, .load1 (.t 0), .none⟩,
 ⟨.tmp, .call 155 [(.t 0)], .none⟩,
 ⟨.tmp, .not (.t 0), .none⟩]) (
 .cond (.t 0) (
 .seq (.reg [⟨.tmp, .load1 (.v 3), .none⟩,
 ⟨.tmp, .fadr 2 (.v 0), .none⟩,
 ⟨.tmp, .load1 (.t 0), .none⟩,
 ⟨.tmp, .fadr 6 (.v 0), .none⟩,
 ⟨.tmp, .load1 (.t 0), .none⟩,
 ⟨.tmp, .call 167 [(.t 4), (.t 2), (.t 0)], .none⟩,
 ⟨.tmp, .ext (.t 0) 0, .none⟩,
 ⟨.tmp, .ext (.t 1) 1, .none⟩,
 ⟨.no, .store 7 (.v 1) (.t 1), .none⟩,
 ⟨(.var 2), .move (.t 0), .none⟩]) (
 .ret)) (
 .skip))))) (
 .seq (.reg [⟨.tmp, .bin .eql (.v 4) (.c (.int .i64 (.ofNat 5))), .none⟩,
 ⟨.tmp, .move (.t 0), .none⟩]) (
 .cond (.t 0) (
 .seq (.seq (.reg [⟨.tmp, .loadN 7 (.v 0), .none⟩,
 ⟨.tmp, .call 83 [(.t 0)], .none⟩,
 ⟨.tmp, .bin .eql (.t 0) (.c (.str 0 0)), .none⟩]) (
 .cond (.t 0) (
 .exit 0) (
 .skip))) (
 .seq (.reg [⟨.tmp, .load1 (.v 3), .none⟩,
 ⟨.tmp, .loadN 7 (.v 0), .none⟩,
 ⟨.tmp, .fadr 6 (.v 0), .none⟩,
 ⟨.tmp, .load1 (.t 0), .none⟩,
 ⟨.tmp, .mkfn 169 [] [(.v 3), (.v 0)], .none⟩,
 ⟨.tmp, .call 123 [(.t 4), (.t 3), (.t 1), (.t 0)], .none⟩,
 ⟨.tmp, .ext (.t 0) 0, .none⟩,
 ⟨.tmp, .ext (.t 1) 1, .none⟩,
 ⟨.no, .store 7 (.v 1) (.t 1), .none⟩,
 ⟨(.var 2), .move (.t 0), .none⟩]) (
 .ret))) (
 .skip))))))))))) (
 .seq (.reg [⟨.tmp, .build [.int .i64 (.ofNat 0), .int .i64 (.ofNat 0), .str 0 0, .bool false, .nils, .nils, .int .i64 (.ofNat 0)] [], .none⟩,
 ⟨.tmp, .fadr 6 (.v 0), .none⟩,
 ⟨.tmp, .load1 (.t 0), .none⟩,
 ⟨.tmp, .call 64 [(.t 0), (.c (.int .i64 (.ofNat 53)))], .none⟩,
 ⟨.no, .store 7 (.v 1) (.t 3), .none⟩,
 ⟨(.var 2), .move (.t 0), .none⟩]) (
 .ret))),
 [.cellN 7 (.v 1), .opd (.v 2)], 10, .none⟩
/-- (*telamon/telamonref12.Parser).label -/
def vm147 : List Nat := [2, 0, 3]

def d147 : DF := ⟨[.some 2, .some 0, .some 3],
 .seq (.reg [⟨(.var 0), .move (.c (.str 0 0)), .none⟩]) (
 .seq (.reg [⟨.tmp, .move (.v 1), .none⟩,
 ⟨.tmp, .call 107 [(.t 0), (.c (.str 1 95))], .none⟩,
 ⟨(.var 2), .move (.t 0), .none⟩]) (
 .seq (.seq (.reg [⟨.tmp, .move (.v 2), .none⟩]) (
 .cond (.t 0) (
 .seq (.reg [⟨(.var 0), .move (.c (.str 1 95)), .none⟩]) (
 .ret)) (
 .skip))) (
 .seq (.reg [⟨.tmp, .move (.v 1), .none⟩,
 ⟨.tmp, .call 96 [(.t 0)], .none⟩,
 ⟨(.var 0), .move (.t 0), .none⟩]) (
 .ret)))),
 [.opd (.v 0)], 3, .none⟩
/-- (*telamon/telamonref12.Parser).lbind -/
def vm148 : List Nat := [0, 2, 3, 4, 5]

def d148 : DF := ⟨[.some 0, .some 2, .some 3, .some 4, .some 5],
 .seq (.reg [⟨(.var 1), .move (.c (.nils)), .none⟩]) (
 .seq (.reg [⟨.tmp, .move (.v 0), .none⟩,
 ⟨.tmp, .call 128 [(.t 0)], .none⟩,
 ⟨(.var 2), .move (.t 0), .none⟩]) (
 .seq (.seq (.reg [⟨.tmp, .move (.v 2), .none⟩]) (
 .cond (.t 0) (
 .seq (.reg [⟨.tmp, .move (.v 0), .none⟩,
 ⟨.tmp, .call 129 [(.t 0)], .none⟩,
 ⟨(.var 1), .move (.t 0), .none⟩]) (
 .ret)) (
 .skip))) (
 .seq (.reg [⟨.tmp, .move (.v 0), .none⟩,
 ⟨.tmp, .call 107 [(.t 0), (.c (.str 1 123))], .none⟩,
 ⟨(.var 3), .move (.t 0), .none⟩]) (
 .seq (.seq (.reg [⟨.tmp, .move (.v 3), .none⟩]) (
 .cond (.t 0) (
 .seq (.reg [⟨.tmp, .move (.v 0), .none⟩,
 ⟨.tmp, .call 147 [(.t 0)], .none⟩,
 ⟨(.var 4), .move (.t 0), .none⟩]) (
 .seq (.reg [⟨.tmp, .move (.v 0), .none⟩,
 ⟨.tmp, .call 98 [(.t 0), (.c (.str 1 125))], .none⟩]) (
 .seq (.reg [⟨.tmp, .move (.v 4), .none⟩,
 ⟨.tmp, .build [.str 0 0, .bool false, .int .i64 (.ofNat 0), .int .i64 (.ofNat 0), .str 0 0, .bool false, .nils, .nils, .int .i64 (.ofNat 0)] [(0, 1, (.t 0)), (1, 1, (.c (.bool true)))], .none⟩,
 ⟨.tmp, .buildS 9 [[.str 0 0, .bool false, .int .i64 (.ofNat 0), .int .i64 (.ofNat 0), .str 0 0, .bool false, .nils, .nils, .int .i64 (.ofNat 0)]] [(0, (.t 0))], .none⟩,
 ⟨(.var 1), .move (.t 0), .none⟩]) (
 .ret)))) (
 .skip))) (
 .seq (.reg [⟨.tmp, .move (.v 0), .none⟩,
 ⟨.tmp, .call 147 [(.t 0)], .none⟩,
 ⟨.tmp, .build [.str 0 0, .bool false, .int .i64 (.ofNat 0), .int .i64 (.ofNat 0), .str 0 0, .bool false, .nils, .nils, .int .i64 (.ofNat 0)] [(0, 1, (.t 0))], .none⟩,
 ⟨.tmp, .buildS 9 [[.str 0 0, .bool false, .int .i64 (.ofNat 0), .int .i64 (.ofNat 0), .str 0 0, .bool false, .nils, .nils, .int .i64 (.ofNat 0)]] [(0, (.t 0))], .none⟩,
 ⟨(.var 1), .move (.t 0), .none⟩]) (
 .ret)))))),
 [.opd (.v 1)], 5, .none⟩
/-- telamon/telamonref12.around -/
def vm149 : List Nat := [9, 6, 1, 0, 3, 8, 2]
def b149_0 : DC :=
 .seq (.seq (.reg [⟨.tmp, .move (.v 0), .none⟩,
 ⟨.tmp, .bin .geq (.t 0) (.c (.int .i64 (.ofNat 0))), .none⟩]) (
 .cond (.t 0) (
 .skip) (
 .exit 0))) (
 .seq (.block 1 (
 .reg [⟨.tmp, .move (.v 3), .none⟩,
 ⟨.tmp, .move (.v 2), .none⟩,
 ⟨.tmp, .move (.v 0), .none⟩,
 ⟨.tmp, .idxS 9 (.t 1) (.t 0), .none⟩,
 ⟨.tmp, .loadN 9 (.t 0), .none⟩,
 ⟨.tmp, .buildS 9 [[.str 0 0, .bool false, .int .i64 (.ofNat 0), .int .i64 (.ofNat 0), .str 0 0, .bool false, .nils, .nils, .int .i64 (.ofNat 0)]] [(0, (.t 0))], .none⟩,
 ⟨.tmp, .loadN 7 (.v 1), .none⟩,
 ⟨.tmp, .buildS 7 [[.int .i64 (.ofNat 0), .int .i64 (.ofNat 0), .str 0 0, .bool false, .nils, .nils, .int .i64 (.ofNat 0)]] [(0, (.t 0))], .none⟩,
 ⟨.tmp, .move (.v 4), .none⟩,
 ⟨.tmp, .build [.int .i64 (.ofNat 0), .int .i64 (.ofNat 0), .str 0 0, .bool false, .nils, .nils, .int .i64 (.ofNat 0)] [(0, 1, (.t 8)), (4, 1, (.t 3)), (5, 1, (.t 1)), (6, 1, (.t 0))], .none⟩,
 ⟨.no, .store 7 (.v 1) (.t 0), .none⟩])) (
 .reg [⟨.tmp, .move (.v 0), .none⟩,
 ⟨.tmp, .bin .sub (.t 0) (.c (.int .i64 (.ofNat 1))), .none⟩,
 ⟨(.var 0), .move (.t 0), .none⟩]))
def r149_1 : DC :=
 .seq (.reg [⟨.tmp, .loadN 7 (.v 1), .none⟩,
 ⟨.no, .store 7 (.v 5) (.t 0), .none⟩]) (
 .ret)
def d149 : DF := ⟨[.some 9, .some 6, .some 1, .some 0, .some 3, .some 8, .some 2],
 .seq (.reg [⟨(.var 1), .box 7 (.v 6), .none⟩,
 ⟨(.var 5), .alloc [.int .i64 (.ofNat 0), .int .i64 (.ofNat 0), .str 0 0, .bool false, .nils, .nils, .int .i64 (.ofNat 0)], .none⟩]) (
 .seq (.seq (.reg [⟨.tmp, .move (.v 2), .none⟩,
 ⟨.tmp, .len false (.t 0), .none⟩,
 ⟨.tmp, .bin .sub (.t 0) (.c (.int .i64 (.ofNat 1))), .none⟩,
 ⟨(.var 0), .move (.t 0), .none⟩]) (
 .block 0 (
 .loop b149_0))) r149_1),
 [.cellN 7 (.v 5)], 7, .none⟩
/-- (*telamon/telamonref12.Parser).let -/
def vm150 : List Nat := [0, 5, 4, 8, 7, 6, 3, 2]
def b150_0 : DC :=
 .seq (.seq (.reg [⟨.tmp, .move (.v 0), .none⟩,
 ⟨.tmp, .nilck (.t 0), .none⟩,
 ⟨.tmp, .fadr 2 (.t 0), .none⟩,
 ⟨.tmp, .load1 (.t 0), .none⟩,
 ⟨.tmp, .bin .eql (.t 0) (.c (.int .i64 (.ofNat 0))), .none⟩]) (
 .cond (.t 0) (
 .skip) (
 .exit 0))) (
 .block 1 (
 .seq (.reg [⟨.tmp, .move (.v 6), .none⟩,
 ⟨.tmp, .build [.int .i64 (.ofNat 0), .int .i64 (.ofNat 0), .str 0 0, .bool false, .nils, .nils, .int .i64 (.ofNat 0)] [(0, 1, (.c (.int .i64 (.ofNat 9)))), (6, 1, (.t 0))], .none⟩,
 ⟨(.var 1), .alloc [.int .i64 (.ofNat 0), .int .i64 (.ofNat 0), .str 0 0, .bool false, .nils, .nils, .int .i64 (.ofNat 0)], .none⟩,
 ⟨.no, .store 7 (.v 1) (.t 0), .none⟩]) (
 .seq (.seq (.reg [⟨.tmp, .move (.v 2), .none⟩,
 ⟨.tmp, .len false (.t 0), .none⟩,
 ⟨.tmp, .bin .gtr (.t 0) (.c (.int .i64 (.ofNat 0))), .none⟩]) (
 .cond (.t 0) (
 .reg [⟨.tmp, .move (.v 0), .none⟩,
 ⟨.tmp, .call 95 [(.t 0)], .none⟩,
 ⟨.tmp, .fld1 2 (.t 0), .none⟩,
 ⟨.tmp, .fadr 6 (.v 1), .none⟩,
 ⟨.no, .store 1 (.t 0) (.t 1), .none⟩]) (
 .skip))) (
 .seq (.reg [⟨.tmp, .move (.v 0), .none⟩,
 ⟨.tmp, .call 96 [(.t 0)], .none⟩,
 ⟨.tmp, .fadr 2 (.v 1), .none⟩,
 ⟨.no, .store 1 (.t 0) (.t 1), .none⟩]) (
 .seq (.reg [⟨.tmp, .move (.v 0), .none⟩,
 ⟨.tmp, .call 98 [(.t 0), (.c (.str 1 58))], .none⟩]) (
 .seq (.reg [⟨.tmp, .move (.v 0), .none⟩,
 ⟨.tmp, .call 99 [(.t 0)], .none⟩,
 ⟨.tmp, .buildS 7 [[.int .i64 (.ofNat 0), .int .i64 (.ofNat 0), .str 0 0, .bool false, .nils, .nils, .int .i64 (.ofNat 0)]] [(0, (.t 0))], .none⟩,
 ⟨.tmp, .fadr 5 (.v 1), .none⟩,
 ⟨.no, .store 1 (.t 0) (.t 1), .none⟩]) (
 .seq (.reg [⟨.tmp, .move (.v 0), .none⟩,
 ⟨.tmp, .call 98 [(.t 0), (.c (.str 1 61))], .none⟩]) (
 .seq (.reg [⟨.tmp, .fadr 5 (.v 1), .none⟩,
 ⟨.tmp, .load1 (.t 0), .none⟩,
 ⟨.tmp, .move (.v 0), .none⟩,
 ⟨.tmp, .call 99 [(.t 0)], .none⟩,
 ⟨.no, .again1 (.t 3) (.t 2), .none⟩,
 ⟨.tmp, .buildS 7 [[.int .i64 (.ofNat 0), .int .i64 (.ofNat 0), .str 0 0, .bool false, .nils, .nils, .int .i64 (.ofNat 0)]] [(0, (.t 0))], .none⟩,
 ⟨.tmp, .append 7 96 (.t 3) (.t 0), .none⟩,
 ⟨.tmp, .fadr 5 (.v 1), .none⟩,
 ⟨.no, .store 1 (.t 0) (.t 1), .none⟩]) (
 .seq (.reg [⟨.tmp, .move (.v 2), .none⟩,
 ⟨.tmp, .loadN 7 (.v 1), .none⟩,
 ⟨.tmp, .buildS 7 [[.int .i64 (.ofNat 0), .int .i64 (.ofNat 0), .str 0 0, .bool false, .nils, .nils, .int .i64 (.ofNat 0)]] [(0, (.t 0))], .none⟩,
 ⟨.tmp, .append 7 96 (.t 2) (.t 0), .none⟩,
 ⟨(.var 2), .move (.t 0), .none⟩]) (
 .seq (.reg [⟨.tmp, .move (.v 0), .none⟩,
 ⟨.tmp, .call 50 [(.t 0), (.c (.int .i64 (.ofNat 6)))], .none⟩,
 ⟨(.var 5), .move (.t 0), .none⟩]) (
 .seq (.seq (.reg [⟨.tmp, .move (.v 5), .none⟩,
 ⟨.tmp, .not (.t 0), .none⟩]) (
 .cond (.t 0) (
 .exit 0) (
 .skip))) (
 .reg [⟨.tmp, .move (.v 0), .none⟩,
 ⟨.tmp, .nilck (.t 0), .none⟩,
 ⟨.tmp, .fadr 1 (.t 0), .none⟩,
 ⟨.tmp, .load1 (.t 0), .none⟩,
 ⟨.tmp, .bin .add (.t 0) (.c (.int .i64 (.ofNat 1))), .none⟩,
 ⟨.tmp, .nilck (.t 4), .none⟩,
 ⟨.tmp, .fadr 1 (.t 0), .none⟩,
 ⟨.no, .store 1 (.t 0) (.t 2), .none⟩]))))))))))))
def b150_1 : DC :=
 .seq (.seq (.reg [⟨.tmp, .move (.v 3), .none⟩,
 ⟨.tmp, .bin .geq (.t 0) (.c (.int .i64 (.ofNat 0))), .none⟩]) (
 .cond (.t 0) (
 .skip) (
 .exit 2))) (
 .seq (.block 3 (
 .seq (.reg [⟨.tmp, .move (.v 2), .none⟩,
 ⟨.tmp, .move (.v 3), .none⟩,
 ⟨.tmp, .idxS 7 (.t 1) (.t 0), .none⟩,
 ⟨.tmp, .fadr 5 (.t 0), .none⟩,
 ⟨.tmp, .load1 (.t 0), .none⟩,
 ⟨.tmp, .loadN 7 (.v 4), .none⟩,
 ⟨.tmp, .len false (.t 1), .none⟩,
 ⟨.tmp, .buildS 7 [[.int .i64 (.ofNat 0), .int .i64 (.ofNat 0), .str 0 0, .bool false, .nils, .nils, .int .i64 (.ofNat 0)]] [(0, (.c (.agg [.int .i64 (.ofNat 0), .int .i64 (.ofNat 0), .str 0 0, .bool false, .nils, .nils, .int .i64 (.ofNat 0)])))], .none⟩,
 ⟨.tmp, .append 7 96 (.t 3) (.t 0), .none⟩,
 ⟨.tmp, .idxS 7 (.t 0) (.t 2), .none⟩,
 ⟨.tmp, .idxS 7 (.t 9) (.t 8), .none⟩,
 ⟨.tmp, .fadr 5 (.t 0), .none⟩,
 ⟨.no, .store2 7 (.t 2) (.t 6) 1 (.t 0) (.t 3), .none⟩]) (
 .reg [⟨.tmp, .move (.v 2), .none⟩,
 ⟨.tmp, .move (.v 3), .none⟩,
 ⟨.tmp, .idxS 7 (.t 1) (.t 0), .none⟩,
 ⟨.tmp, .loadN 7 (.t 0), .none⟩,
 ⟨.no, .store 7 (.v 4) (.t 0), .none⟩]))) (
 .reg [⟨.tmp, .move (.v 3), .none⟩,
 ⟨.tmp, .bin .sub (.t 0) (.c (.int .i64 (.ofNat 1))), .none⟩,
 ⟨(.var 3), .move (.t 0), .none⟩]))
def r150_2 : DC :=
 .seq (.reg [⟨.tmp, .loadN 7 (.v 4), .none⟩,
 ⟨.no, .store 7 (.v 7) (.t 0), .none⟩]) (
 .ret)
def r150_3 : DC :=
 .seq (.reg [⟨.tmp, .move (.v 0), .none⟩,
 ⟨.tmp, .call 24 [(.t 0), (.c (.int .i64 (.ofNat 5)))], .none⟩]) (
 .seq (.reg [⟨.tmp, .move (.v 0), .none⟩,
 ⟨.tmp, .call 98 [(.t 0), (.c (.str 2 28265))], .none⟩]) (
 .seq (.reg [⟨.tmp, .move (.v 0), .none⟩,
 ⟨.tmp, .call 99 [(.t 0)], .none⟩,
 ⟨(.var 4), .alloc [.int .i64 (.ofNat 0), .int .i64 (.ofNat 0), .str 0 0, .bool false, .nils, .nils, .int .i64 (.ofNat 0)], .none⟩,
 ⟨.no, .store 7 (.v 4) (.t 0), .none⟩]) (
 .seq (.seq (.reg [⟨.tmp, .move (.v 2), .none⟩,
 ⟨.tmp, .len false (.t 0), .none⟩,
 ⟨.tmp, .bin .sub (.t 0) (.c (.int .i64 (.ofNat 1))), .none⟩,
 ⟨(.var 3), .move (.t 0), .none⟩]) (
 .block 2 (
 .loop b150_1))) r150_2)))
def d150 : DF := ⟨[.some 0, .some 5, .some 4, .some 8, .some 7, .some 6, .some 3, .some 2],
 .seq (.reg [⟨(.var 7), .alloc [.int .i64 (.ofNat 0), .int .i64 (.ofNat 0), .str 0 0, .bool false, .nils, .nils, .int .i64 (.ofNat 0)], .none⟩]) (
 .seq (.reg [⟨.tmp, .move (.v 0), .none⟩,
 ⟨.tmp, .call 95 [(.t 0)], .none⟩,
 ⟨.tmp, .fld1 2 (.t 0), .none⟩,
 ⟨(.var 6), .move (.t 0), .none⟩]) (
 .seq (.reg [⟨.tmp, .move (.v 0), .none⟩,
 ⟨.tmp, .nilck (.t 0), .none⟩,
 ⟨.tmp, .fadr 1 (.t 0), .none⟩,
 ⟨.tmp, .load1 (.t 0), .none⟩,
 ⟨.tmp, .bin .add (.t 0) (.c (.int .i64 (.ofNat 1))), .none⟩,
 ⟨.tmp, .nilck (.t 4), .none⟩,
 ⟨.tmp, .fadr 1 (.t 0), .none⟩,
 ⟨.no, .store 1 (.t 0) (.t 2), .none⟩]) (
 .seq (.reg [⟨.tmp, .move (.v 0), .none⟩,
 ⟨.tmp, .call 24 [(.t 0), (.c (.int .i64 (.ofNat 4)))], .none⟩]) (
 .seq (.reg [⟨(.var 2), .move (.c (.nils)), .none⟩]) (
 .seq (.block 0 (
 .loop b150_0)) r150_3))))),
 [.cellN 7 (.v 7)], 8, .none⟩
/-- (*telamon/telamonref12.chart).rowOf -/
def vm151 : List Nat := [9, 10, 0, 11, 2, 8, 1, 7, 6]
def b151_0 : DC :=
 .seq (.seq (.reg [⟨.tmp, .move (.v 0), .none⟩,
 ⟨.tmp, .move (.v 4), .none⟩,
 ⟨.tmp, .bin .lss (.t 1) (.t 0), .none⟩]) (
 .cond (.t 0) (
 .skip) (
 .exit 0))) (
 .seq (.block 1 (
 .seq (.reg [⟨.tmp, .move (.v 2), .none⟩,
 ⟨.tmp, .move (.v 6), .none⟩,
 ⟨.tmp, .move (.v 0), .none⟩,
 ⟨.tmp, .call 151 [(.t 2), (.t 1), (.t 0)], .none⟩,
 ⟨(.var 1), .alloc [.int .i64 (.ofNat 0), .int .i64 (.ofNat 0), .int .i64 (.ofNat 0), .str 0 0, .bool false, .nils, .nils, .int .i64 (.ofNat 0), .bool false], .none⟩,
 ⟨.no, .store 9 (.v 1) (.t 0), .none⟩]) (
 .seq (.seq (.reg [⟨.tmp, .fadr 0 (.v 1), .none⟩,
 ⟨.tmp, .load1 (.t 0), .none⟩,
 ⟨.tmp, .bin .eql (.t 0) (.c (.int .i64 (.ofNat 0))), .none⟩]) (
 .cond (.t 0) (
 .exit 1) (
 .skip))) (
 .seq (.seq (.reg [⟨.tmp, .move (.v 4), .none⟩,
 ⟨.tmp, .move (.v 0), .none⟩,
 ⟨.tmp, .bin .add (.t 0) (.c (.int .i64 (.ofNat 1))), .none⟩,
 ⟨.tmp, .bin .eql (.t 2) (.t 0), .none⟩,
 ⟨.tmp, .move (.t 0), .none⟩,
 ⟨.tmp, .move (.v 2), .some ((.t 0), true)⟩,
 ⟨.tmp, .nilck (.t 0), .some ((.t 1), true)⟩,
 ⟨.tmp, .fadr 1 (.t 0), .some ((.t 2), true)⟩,
 ⟨.tmp, .load1 (.t 0), .some ((.t 3), true)⟩,
 ⟨.tmp, .move (.v 0), .some ((.t 4), true)⟩,
 ⟨.tmp, .idxS 7 (.t 1) (.t 0), .some ((.t 5), true)⟩,
 ⟨.tmp, .fadr 0 (.t 0), .some ((.t 6), true)⟩,
 ⟨.tmp, .load1 (.t 0), .some ((.t 7), true)⟩,
 ⟨.tmp, .bin .eql (.t 0) (.c (.int .i64 (.ofNat 13))), .some ((.t 8), true)⟩,
 ⟨.tmp, .pick (.t 9) (.t 0) (.c (.bool false)), .none⟩]) (
 .cond (.t 0) (
 .seq (.reg [⟨.tmp, .fadr 0 (.v 1), .none⟩,
 ⟨.tmp, .load1 (.t 0), .none⟩,
 ⟨.tmp, .fadr 1 (.v 1), .none⟩,
 ⟨.tmp, .loadN 7 (.t 0), .none⟩,
 ⟨.tmp, .move (.v 2), .none⟩,
 ⟨.tmp, .nilck (.t 0), .none⟩,
 ⟨.tmp, .fadr 1 (.t 0), .none⟩,
 ⟨.tmp, .load1 (.t 0), .none⟩,
 ⟨.tmp, .move (.v 0), .none⟩,
 ⟨.tmp, .idxS 7 (.t 1) (.t 0), .none⟩,
 ⟨.tmp, .fadr 5 (.t 0), .none⟩,
 ⟨.tmp, .load1 (.t 0), .none⟩,
 ⟨.tmp, .idxS 7 (.t 0) (.c (.int .i64 (.ofNat 0))), .none⟩,
 ⟨.tmp, .loadN 7 (.t 0), .none⟩,
 ⟨.tmp, .call 171 [(.t 10), (.t 0), (.c (.bool true))], .none⟩,
 ⟨.no, .again1 (.t 14) (.t 13), .none⟩,
 ⟨.tmp, .call 152 [(.v 5), (.t 13), (.t 0)], .none⟩]) (
 .exit 1)) (
 .skip))) (
 .seq (.reg [⟨.tmp, .move (.v 2), .none⟩,
 ⟨.tmp, .move (.v 0), .none⟩,
 ⟨.tmp, .move (.v 4), .none⟩,
 ⟨.tmp, .call 170 [(.t 2), (.t 1), (.t 0)], .none⟩,
 ⟨(.var 3), .alloc [.int .i64 (.ofNat 0), .int .i64 (.ofNat 0), .int .i64 (.ofNat 0), .str 0 0, .bool false, .nils, .nils, .int .i64 (.ofNat 0), .bool false], .none⟩,
 ⟨.no, .store 9 (.v 3) (.t 0), .none⟩]) (
 .reg [⟨.tmp, .fadr 0 (.v 1), .none⟩,
 ⟨.tmp, .load1 (.t 0), .none⟩,
 ⟨.tmp, .fadr 0 (.v 3), .none⟩,
 ⟨.tmp, .load1 (.t 0), .none⟩,
 ⟨.tmp, .fadr 1 (.v 1), .none⟩,
 ⟨.tmp, .loadN 7 (.t 0), .none⟩,
 ⟨.tmp, .fadr 1 (.v 3), .none⟩,
 ⟨.tmp, .loadN 7 (.t 0), .none⟩,
 ⟨.tmp, .call 172 [(.t 6), (.t 4)], .none⟩,
 ⟨.no, .againN 7 (.t 2) (.t 1), .none⟩,
 ⟨.no, .againN 7 (.t 4) (.t 3), .none⟩,
 ⟨.tmp, .call 171 [(.t 3), (.t 1), (.c (.bool false))], .none⟩,
 ⟨.tmp, .call 152 [(.v 5), (.t 1), (.t 0)], .none⟩])))))) (
 .reg [⟨.tmp, .move (.v 0), .none⟩,
 ⟨.tmp, .bin .add (.t 0) (.c (.int .i64 (.ofNat 1))), .none⟩,
 ⟨(.var 0), .move (.t 0), .none⟩]))
def r151_1 : DC :=
 .seq (.reg [⟨.tmp, .fadr 8 (.v 5), .none⟩,
 ⟨.no, .store 1 (.t 0) (.c (.bool true)), .none⟩]) (
 .seq (.reg [⟨.tmp, .move (.v 2), .none⟩,
 ⟨.tmp, .nilck (.t 0), .none⟩,
 ⟨.tmp, .fadr 3 (.t 0), .none⟩,
 ⟨.tmp, .load1 (.t 0), .none⟩,
 ⟨.tmp, .move (.v 6), .none⟩,
 ⟨.tmp, .idxS 1 (.t 1) (.t 0), .none⟩,
 ⟨.tmp, .load1 (.t 0), .none⟩,
 ⟨.tmp, .move (.v 4), .none⟩,
 ⟨.tmp, .loadN 9 (.v 5), .none⟩,
 ⟨.tmp, .idxS 9 (.t 2) (.t 1), .none⟩,
 ⟨.no, .store 9 (.t 0) (.t 1), .none⟩]) (
 .seq (.reg [⟨.tmp, .loadN 9 (.v 5), .none⟩,
 ⟨.no, .store 9 (.v 8) (.t 0), .none⟩]) (
 .ret)))
def d151 : DF := ⟨[.some 9, .some 10, .some 0, .some 11, .some 2, .some 8, .some 1, .some 7, .some 6],
 .seq (.reg [⟨(.var 8), .alloc [.int .i64 (.ofNat 0), .int .i64 (.ofNat 0), .int .i64 (.ofNat 0), .str 0 0, .bool false, .nils, .nils, .int .i64 (.ofNat 0), .bool false], .none⟩]) (
 .seq (.seq (.reg [⟨.tmp, .move (.v 2), .none⟩,
 ⟨.tmp, .nilck (.t 0), .none⟩,
 ⟨.tmp, .fadr 3 (.t 0), .none⟩,
 ⟨.tmp, .load1 (.t 0), .none⟩,
 ⟨.tmp, .move (.v 6), .none⟩,
 ⟨.tmp, .idxS 1 (.t 1) (.t 0), .none⟩,
 ⟨.tmp, .load1 (.t 0), .none⟩,
 ⟨.tmp, .move (.v 4), .none⟩,
 ⟨.tmp, .idxS 9 (.t 1) (.t 0), .none⟩,
 ⟨.tmp, .fadr 8 (.t 0), .none⟩,
 ⟨.tmp, .load1 (.t 0), .none⟩]) (
 .cond (.t 0) (
 .seq (.reg [⟨.tmp, .move (.v 2), .none⟩,
 ⟨.tmp, .nilck (.t 0), .none⟩,
 ⟨.tmp, .fadr 3 (.t 0), .none⟩,
 ⟨.tmp, .load1 (.t 0), .none⟩,
 ⟨.tmp, .move (.v 6), .none⟩,
 ⟨.tmp, .idxS 1 (.t 1) (.t 0), .none⟩,
 ⟨.tmp, .load1 (.t 0), .none⟩,
 ⟨.tmp, .move (.v 4), .none⟩,
 ⟨.tmp, .idxS 9 (.t 1) (.t 0), .none⟩,
 ⟨.tmp, .loadN 9 (.t 0), .none⟩,
 ⟨.no, .store 9 (.v 8) (.t 0), .none⟩]) (
 .ret)) (
 .skip))) (
 .seq (.reg [⟨.tmp, .move (.v 2), .none⟩,
 ⟨.tmp, .move (.v 6), .none⟩,
 ⟨.tmp, .move (.v 4), .none⟩,
 ⟨.tmp, .call 170 [(.t 2), (.t 1), (.t 0)], .none⟩,
 ⟨(.var 7), .alloc [.int .i64 (.ofNat 0), .int .i64 (.ofNat 0), .int .i64 (.ofNat 0), .str 0 0, .bool false, .nils, .nils, .int .i64 (.ofNat 0), .bool false], .none⟩,
 ⟨.no, .store 9 (.v 7) (.t 0), .none⟩]) (
 .seq (.reg [⟨(.var 5), .alloc [.int .i64 (.ofNat 0), .int .i64 (.ofNat 0), .int .i64 (.ofNat 0), .str 0 0, .bool false, .nils, .nils, .int .i64 (.ofNat 0), .bool false], .none⟩]) (
 .seq (.reg [⟨.tmp, .fadr 0 (.v 7), .none⟩,
 ⟨.tmp, .load1 (.t 0), .none⟩,
 ⟨.tmp, .fadr 1 (.v 7), .none⟩,
 ⟨.tmp, .loadN 7 (.t 0), .none⟩,
 ⟨.tmp, .call 152 [(.v 5), (.t 2), (.t 0)], .none⟩]) (
 .seq (.seq (.reg [⟨.tmp, .move (.v 6), .none⟩,
 ⟨.tmp, .bin .add (.t 0) (.c (.int .i64 (.ofNat 1))), .none⟩,
 ⟨(.var 0), .move (.t 0), .none⟩]) (
 .block 0 (
 .loop b151_0))) r151_1))))),
 [.cellN 9 (.v 8)], 9, .none⟩
/-- (*telamon/telamonref12.Way).add -/
def vm152 : List Nat := [0, 1, 5, 2]

def d152 : DF := ⟨[.some 0, .some 1, .some 5, .some 2],
 .seq (.reg [⟨(.var 2), .box 7 (.v 3), .none⟩]) (
 .seq (.seq (.reg [⟨.tmp, .move (.v 1), .none⟩,
 ⟨.tmp, .bin .eql (.t 0) (.c (.int .i64 (.ofNat 0))), .none⟩]) (
 .cond (.t 0) (
 .ret) (
 .skip))) (
 .seq (.seq (.reg [⟨.tmp, .move (.v 0), .none⟩,
 ⟨.tmp, .nilck (.t 0), .none⟩,
 ⟨.tmp, .fadr 0 (.t 0), .none⟩,
 ⟨.tmp, .load1 (.t 0), .none⟩,
 ⟨.tmp, .bin .eql (.t 0) (.c (.int .i64 (.ofNat 0))), .none⟩]) (
 .cond (.t 0) (
 .reg [⟨.tmp, .move (.v 0), .none⟩,
 ⟨.tmp, .loadN 7 (.v 2), .none⟩,
 ⟨.tmp, .nilck (.t 1), .none⟩,
 ⟨.tmp, .fadr 1 (.t 0), .none⟩,
 ⟨.no, .store 7 (.t 0) (.t 2), .none⟩]) (
 .skip))) (
 .seq (.reg [⟨.tmp, .move (.v 0), .none⟩,
 ⟨.tmp, .move (.v 0), .none⟩,
 ⟨.tmp, .nilck (.t 0), .none⟩,
 ⟨.tmp, .fadr 0 (.t 0), .none⟩,
 ⟨.tmp, .load1 (.t 0), .none⟩,
 ⟨.tmp, .move (.v 1), .none⟩,
 ⟨.tmp, .bin .add (.t 1) (.t 0), .none⟩,
 ⟨.tmp, .nilck (.t 6), .none⟩,
 ⟨.tmp, .fadr 0 (.t 0), .none⟩,
 ⟨.no, .store 1 (.t 0) (.t 2), .none⟩]) (
 .seq (.reg [⟨.tmp, .move (.v 0), .none⟩,
 ⟨.tmp, .nilck (.t 0), .none⟩,
 ⟨.tmp, .fadr 0 (.t 0), .none⟩,
 ⟨.tmp, .load1 (.t 0), .none⟩,
 ⟨.tmp, .bin .gtr (.t 0) (.c (.int .i64 (.ofNat 2))), .none⟩]) (
 .cond (.t 0) (
 .reg [⟨.tmp, .move (.v 0), .none⟩,
 ⟨.tmp, .nilck (.t 0), .none⟩,
 ⟨.tmp, .fadr 0 (.t 0), .none⟩,
 ⟨.no, .store 1 (.t 0) (.c (.int .i64 (.ofNat 2))), .none⟩]) (
 .skip)))))),
 [], 4, .none⟩
/-- (*telamon/telamonref12.chart).opOf -/
def vm153 : List Nat := [13, 14, 15, 0, 1, 3, 2, 9, 10, 11, 12, 8]
def b153_0 : DC :=
 .seq (.seq (.reg [⟨.tmp, .move (.v 0), .none⟩,
 ⟨.tmp, .move (.v 5), .none⟩,
 ⟨.tmp, .bin .lss (.t 1) (.t 0), .none⟩]) (
 .cond (.t 0) (
 .skip) (
 .exit 0))) (
 .seq (.block 1 (
 .seq (.seq (.reg [⟨.tmp, .move (.v 3), .none⟩,
 ⟨.tmp, .move (.v 0), .none⟩,
 ⟨.tmp, .fadr 1 (.v 8), .none⟩,
 ⟨.tmp, .load1 (.t 0), .none⟩,
 ⟨.tmp, .idxS 1 (.t 0) (.c (.int .i64 (.ofNat 0))), .none⟩,
 ⟨.tmp, .load1 (.t 0), .none⟩,
 ⟨.tmp, .call 174 [(.t 5), (.t 4), (.t 0)], .none⟩,
 ⟨.tmp, .not (.t 0), .none⟩]) (
 .cond (.t 0) (
 .exit 1) (
 .skip))) (
 .seq (.reg [⟨.tmp, .move (.v 3), .none⟩,
 ⟨.tmp, .move (.v 4), .none⟩,
 ⟨.tmp, .move (.v 6), .none⟩,
 ⟨.tmp, .move (.v 0), .none⟩,
 ⟨.tmp, .call 175 [(.t 3), (.t 2), (.t 1), (.t 0), (.c (.bool true))], .none⟩,
 ⟨(.var 1), .alloc [.int .i64 (.ofNat 0), .int .i64 (.ofNat 0), .int .i64 (.ofNat 0), .str 0 0, .bool false, .nils, .nils, .int .i64 (.ofNat 0), .bool false], .none⟩,
 ⟨.no, .store 9 (.v 1) (.t 0), .none⟩]) (
 .seq (.seq (.reg [⟨.tmp, .fadr 0 (.v 1), .none⟩,
 ⟨.tmp, .load1 (.t 0), .none⟩,
 ⟨.tmp, .bin .eql (.t 0) (.c (.int .i64 (.ofNat 0))), .none⟩]) (
 .cond (.t 0) (
 .exit 1) (
 .skip))) (
 .seq (.reg [⟨.tmp, .move (.v 3), .none⟩,
 ⟨.tmp, .move (.v 4), .none⟩,
 ⟨.tmp, .move (.v 0), .none⟩,
 ⟨.tmp, .move (.v 5), .none⟩,
 ⟨.tmp, .loadN 7 (.v 9), .none⟩,
 ⟨.tmp, .fadr 1 (.v 1), .none⟩,
 ⟨.tmp, .loadN 7 (.t 0), .none⟩,
 ⟨.tmp, .call 171 [(.t 2), (.t 0), (.c (.bool false))], .none⟩,
 ⟨.tmp, .call 173 [(.t 7), (.t 6), (.c (.int .i64 (.ofNat 0))), (.t 5), (.t 4), (.t 0)], .none⟩,
 ⟨(.var 2), .alloc [.int .i64 (.ofNat 0), .int .i64 (.ofNat 0), .int .i64 (.ofNat 0), .str 0 0, .bool false, .nils, .nils, .int .i64 (.ofNat 0), .bool false], .none⟩,
 ⟨.no, .store 9 (.v 2) (.t 0), .none⟩]) (
 .reg [⟨.tmp, .fadr 0 (.v 1), .none⟩,
 ⟨.tmp, .load1 (.t 0), .none⟩,
 ⟨.tmp, .fadr 0 (.v 2), .none⟩,
 ⟨.tmp, .load1 (.t 0), .none⟩,
 ⟨.tmp, .fadr 1 (.v 2), .none⟩,
 ⟨.tmp, .loadN 7 (.t 0), .none⟩,
 ⟨.tmp, .call 172 [(.t 4), (.t 2)], .none⟩,
 ⟨.no, .againN 7 (.t 2) (.t 1), .none⟩,
 ⟨.tmp, .call 152 [(.v 7), (.t 0), (.t 1)], .none⟩])))))) (
 .reg [⟨.tmp, .move (.v 0), .none⟩,
 ⟨.tmp, .bin .add (.t 0) (.c (.int .i64 (.ofNat 1))), .none⟩,
 ⟨(.var 0), .move (.t 0), .none⟩]))
def r153_1 : DC :=
 .seq (.reg [⟨.tmp, .fadr 8 (.v 7), .none⟩,
 ⟨.no, .store 1 (.t 0) (.c (.bool true)), .none⟩]) (
 .seq (.reg [⟨.tmp, .move (.v 3), .none⟩,
 ⟨.tmp, .nilck (.t 0), .none⟩,
 ⟨.tmp, .fadr 5 (.t 0), .none⟩,
 ⟨.tmp, .load1 (.t 0), .none⟩,
 ⟨.tmp, .move (.v 4), .none⟩,
 ⟨.tmp, .idxS 1 (.t 1) (.t 0), .none⟩,
 ⟨.tmp, .load1 (.t 0), .none⟩,
 ⟨.tmp, .move (.v 6), .none⟩,
 ⟨.tmp, .idxS 1 (.t 1) (.t 0), .none⟩,
 ⟨.tmp, .load1 (.t 0), .none⟩,
 ⟨.tmp, .move (.v 5), .none⟩,
 ⟨.tmp, .loadN 9 (.v 7), .none⟩,
 ⟨.tmp, .idxS 9 (.t 2) (.t 1), .none⟩,
 ⟨.no, .store 9 (.t 0) (.t 1), .none⟩]) (
 .seq (.reg [⟨.tmp, .loadN 9 (.v 7), .none⟩,
 ⟨.no, .store 9 (.v 11) (.t 0), .none⟩]) (
 .ret)))
def d153 : DF := ⟨[.some 13, .some 14, .some 15, .some 0, .some 1, .some 3, .some 2, .some 9, .some 10, .some 11, .some 12, .some 8],
 .seq (.reg [⟨(.var 11), .alloc [.int .i64 (.ofNat 0), .int .i64 (.ofNat 0), .int .i64 (.ofNat 0), .str 0 0, .bool false, .nils, .nils, .int .i64 (.ofNat 0), .bool false], .none⟩]) (
 .seq (.seq (.reg [⟨.tmp, .move (.v 3), .none⟩,
 ⟨.tmp, .nilck (.t 0), .none⟩,
 ⟨.tmp, .fadr 5 (.t 0), .none⟩,
 ⟨.tmp, .load1 (.t 0), .none⟩,
 ⟨.tmp, .move (.v 4), .none⟩,
 ⟨.tmp, .idxS 1 (.t 1) (.t 0), .none⟩,
 ⟨.tmp, .load1 (.t 0), .none⟩,
 ⟨.tmp, .move (.v 6), .none⟩,
 ⟨.tmp, .idxS 1 (.t 1) (.t 0), .none⟩,
 ⟨.tmp, .load1 (.t 0), .none⟩,
 ⟨.tmp, .move (.v 5), .none⟩,
 ⟨.tmp, .idxS 9 (.t 1) (.t 0), .none⟩,
 ⟨.tmp, .fadr 8 (.t 0), .none⟩,
 ⟨.tmp, .load1 (.t 0), .none⟩]) (
 .cond (.t 0) (
 .seq (.reg [⟨.tmp, .move (.v 3), .none⟩,
 ⟨.tmp, .nilck (.t 0), .none⟩,
 ⟨.tmp, .fadr 5 (.t 0), .none⟩,
 ⟨.tmp, .load1 (.t 0), .none⟩,
 ⟨.tmp, .move (.v 4), .none⟩,
 ⟨.tmp, .idxS 1 (.t 1) (.t 0), .none⟩,
 ⟨.tmp, .load1 (.t 0), .none⟩,
 ⟨.tmp, .move (.v 6), .none⟩,
 ⟨.tmp, .idxS 1 (.t 1) (.t 0), .none⟩,
 ⟨.tmp, .load1 (.t 0), .none⟩,
 ⟨.tmp, .move (.v 5), .none⟩,
 ⟨.tmp, .idxS 9 (.t 1) (.t 0), .none⟩,
 ⟨.tmp, .loadN 9 (.t 0), .none⟩,
 ⟨.no, .store 9 (.v 11) (.t 0), .none⟩]) (
 .ret)) (
 .skip))) (
 .seq (.reg [⟨.tmp, .move (.v 3), .none⟩,
 ⟨.tmp, .nilck (.t 0), .none⟩,
 ⟨.tmp, .fadr 5 (.t 0), .none⟩,
 ⟨.tmp, .load1 (.t 0), .none⟩,
 ⟨.tmp, .move (.v 4), .none⟩,
 ⟨.tmp, .idxS 1 (.t 1) (.t 0), .none⟩,
 ⟨.tmp, .load1 (.t 0), .none⟩,
 ⟨.tmp, .move (.v 6), .none⟩,
 ⟨.tmp, .idxS 1 (.t 1) (.t 0), .none⟩,
 ⟨.tmp, .load1 (.t 0), .none⟩,
 ⟨.tmp, .move (.v 5), .none⟩,
 ⟨.tmp, .idxS 9 (.t 1) (.t 0), .none⟩,
 ⟨.tmp, .fadr 8 (.t 0), .none⟩,
 ⟨.no, .store 1 (.t 0) (.c (.bool true)), .none⟩]) (
 .seq (.reg [⟨(.var 7), .alloc [.int .i64 (.ofNat 0), .int .i64 (.ofNat 0), .int .i64 (.ofNat 0), .str 0 0, .bool false, .nils, .nils, .int .i64 (.ofNat 0), .bool false], .none⟩]) (
 .seq (.reg [⟨.tmp, .move (.v 3), .none⟩,
 ⟨.tmp, .nilck (.t 0), .none⟩,
 ⟨.tmp, .fadr 0 (.t 0), .none⟩,
 ⟨.tmp, .load1 (.t 0), .none⟩,
 ⟨.tmp, .move (.v 4), .none⟩,
 ⟨.tmp, .idxS 6 (.t 1) (.t 0), .none⟩,
 ⟨.tmp, .loadN 6 (.t 0), .none⟩,
 ⟨(.var 8), .alloc [.str 0 0, .nils, .bool false, .bool false, .int .i64 (.ofNat 0), .str 0 0], .none⟩,
 ⟨.no, .store 6 (.v 8) (.t 0), .none⟩]) (
 .seq (.reg [⟨.tmp, .fadr 0 (.v 8), .none⟩,
 ⟨.tmp, .load1 (.t 0), .none⟩,
 ⟨.tmp, .move (.v 3), .none⟩,
 ⟨.tmp, .nilck (.t 0), .none⟩,
 ⟨.tmp, .fadr 1 (.t 0), .none⟩,
 ⟨.tmp, .load1 (.t 0), .none⟩,
 ⟨.tmp, .move (.v 6), .none⟩,
 ⟨.tmp, .idxS 7 (.t 1) (.t 0), .none⟩,
 ⟨.tmp, .fadr 6 (.t 0), .none⟩,
 ⟨.tmp, .load1 (.t 0), .none⟩,
 ⟨.tmp, .build [.int .i64 (.ofNat 0), .int .i64 (.ofNat 0), .str 0 0, .bool false, .nils, .nils, .int .i64 (.ofNat 0)] [(0, 1, (.c (.int .i64 (.ofNat 2)))), (2, 1, (.t 8)), (6, 1, (.t 0))], .none⟩,
 ⟨(.var 9), .alloc [.int .i64 (.ofNat 0), .int .i64 (.ofNat 0), .str 0 0, .bool false, .nils, .nils, .int .i64 (.ofNat 0)], .none⟩,
 ⟨.no, .store 7 (.v 9) (.t 0), .none⟩]) (
 .seq (.seq (.reg [⟨.tmp, .fadr 2 (.v 8), .none⟩,
 ⟨.tmp, .load1 (.t 0), .none⟩,
 ⟨.tmp, .not (.t 0), .none⟩]) (
 .cond (.t 0) (
 .seq (.reg [⟨.tmp, .move (.v 3), .none⟩,
 ⟨.tmp, .move (.v 4), .none⟩,
 ⟨.tmp, .move (.v 6), .none⟩,
 ⟨.tmp, .move (.v 5), .none⟩,
 ⟨.tmp, .loadN 7 (.v 9), .none⟩,
 ⟨.tmp, .call 173 [(.t 4), (.t 3), (.c (.int .i64 (.ofNat 0))), (.t 2), (.t 1), (.t 0)], .none⟩,
 ⟨(.var 10), .alloc [.int .i64 (.ofNat 0), .int .i64 (.ofNat 0), .int .i64 (.ofNat 0), .str 0 0, .bool false, .nils, .nils, .int .i64 (.ofNat 0), .bool false], .none⟩,
 ⟨.no, .store 9 (.v 10) (.t 0), .none⟩]) (
 .reg [⟨.tmp, .fadr 0 (.v 10), .none⟩,
 ⟨.tmp, .load1 (.t 0), .none⟩,
 ⟨.tmp, .fadr 1 (.v 10), .none⟩,
 ⟨.tmp, .loadN 7 (.t 0), .none⟩,
 ⟨.tmp, .call 152 [(.v 7), (.t 2), (.t 0)], .none⟩])) (
 .seq (.reg [⟨.tmp, .move (.v 6), .none⟩,
 ⟨.tmp, .bin .add (.t 0) (.c (.int .i64 (.ofNat 1))), .none⟩,
 ⟨(.var 0), .move (.t 0), .none⟩]) (
 .block 0 (
 .loop b153_0))))) r153_1)))))),
 [.cellN 9 (.v 11)], 12, .none⟩
/-- (*telamon/scope.resolver).local$1 -/
def vm154 : List Nat := [4, 0, 1, 2]

def d154 : DF := ⟨[.some 4, .some 0, .some 1, .some 2],
 .seq (.reg [⟨(.var 0), .move (.c (.bool false)), .none⟩]) (
 .seq (.reg [⟨.tmp, .load1 (.v 2), .none⟩,
 ⟨.tmp, .nilck (.t 0), .none⟩,
 ⟨.tmp, .fadr 0 (.t 0), .none⟩,
 ⟨.tmp, .fadr 1 (.t 0), .none⟩,
 ⟨.tmp, .load1 (.t 0), .none⟩,
 ⟨.tmp, .move (.v 1), .none⟩,
 ⟨.tmp, .idxS 1 (.t 1) (.t 0), .none⟩,
 ⟨.tmp, .load1 (.t 0), .none⟩,
 ⟨.tmp, .load1 (.v 3), .none⟩,
 ⟨.tmp, .bin .eql (.t 1) (.t 0), .none⟩,
 ⟨(.var 0), .move (.t 0), .none⟩]) (
 .ret)),
 [.opd (.v 0)], 4, .none⟩
/-- telamon/scope.dots -/
def vm155 : List Nat := [7, 4, 2, 6, 0]
def b155_0 : DC :=
 .seq (.reg [⟨(.var 0), .nxtS (.v 3), .none⟩,
 ⟨.tmp, .ext (.v 0) 0, .none⟩]) (
 .seq (.cond (.t 0) (
 .skip) (
 .exit 0)) (
 .block 1 (
 .seq (.reg [⟨.tmp, .ext (.v 0) 2, .none⟩,
 ⟨(.var 1), .move (.t 0), .none⟩]) (
 .seq (.reg [⟨.tmp, .move (.v 1), .none⟩,
 ⟨.tmp, .bin .eql (.t 0) (.c (.int .i32 (.ofNat 46))), .none⟩]) (
 .cond (.t 0) (
 .seq (.reg [⟨(.var 2), .move (.c (.bool true)), .none⟩]) (
 .ret)) (
 .skip))))))
def r155_1 : DC :=
 .seq (.reg [⟨(.var 2), .move (.c (.bool false)), .none⟩]) (
 .ret)
def d155 : DF := ⟨[.some 7, .some 4, .some 2, .some 6, .some 0],
 .seq (.reg [⟨(.var 2), .move (.c (.bool false)), .none⟩]) (
 .seq (.seq (.reg [⟨.tmp, .move (.v 4), .none⟩,
 ⟨(.var 3), .rngS (.t 0), .none⟩]) (
 .block 0 (
 .loop b155_0))) r155_1),
 [.opd (.v 2)], 5, .none⟩
/-- (*telamon/scope.resolver).dotted -/
def vm156 : List Nat := [9, 6, 7, 10, 1, 8, 0, 2]

def d156 : DF := ⟨[.some 9, .some 6, .some 7, .some 10, .some 1, .some 8, .some 0, .some 2],
 .seq (.reg [⟨(.var 1), .move (.c (.str 0 0)), .none⟩,
 ⟨(.var 2), .move (.c (.nili)), .none⟩]) (
 .seq (.reg [⟨.tmp, .move (.v 4), .none⟩,
 ⟨.tmp, .call 176 [(.t 0), (.c (.int .u8 (.ofNat 46)))], .none⟩,
 ⟨(.var 5), .move (.t 0), .none⟩]) (
 .seq (.reg [⟨.tmp, .move (.v 6), .none⟩,
 ⟨.tmp, .move (.v 4), .none⟩,
 ⟨.tmp, .move (.v 5), .none⟩,
 ⟨.tmp, .slcStr (.t 1) .none (.some (.t 0)), .none⟩,
 ⟨.tmp, .call 78 [(.t 3), (.t 0)], .none⟩,
 ⟨(.var 0), .move (.t 0), .none⟩]) (
 .seq (.seq (.reg [⟨.tmp, .move (.v 0), .none⟩,
 ⟨.tmp, .binP .eql (.t 0) (.c (.nilp)), .none⟩]) (
 .cond (.t 0) (
 .seq (.reg [⟨.tmp, .move (.v 7), .none⟩,
 ⟨.tmp, .call 64 [(.t 0), (.c (.int .i64 (.ofNat 44)))], .none⟩,
 ⟨(.var 1), .move (.c (.str 0 0)), .none⟩,
 ⟨(.var 2), .move (.t 0), .none⟩]) (
 .ret)) (
 .skip))) (
 .seq (.reg [⟨.tmp, .move (.v 4), .none⟩,
 ⟨.tmp, .move (.v 5), .none⟩,
 ⟨.tmp, .bin .add (.t 0) (.c (.int .i64 (.ofNat 1))), .none⟩,
 ⟨.tmp, .slcStr (.t 2) (.some (.t 0)) .none, .none⟩,
 ⟨(.var 3), .move (.t 0), .none⟩]) (
 .seq (.seq (.reg [⟨.tmp, .move (.v 0), .none⟩,
 ⟨.tmp, .nilck (.t 0), .none⟩,
 ⟨.tmp, .fadr 0 (.t 0), .none⟩,
 ⟨.tmp, .fadr 0 (.t 0), .none⟩,
 ⟨.tmp, .load1 (.t 0), .none⟩,
 ⟨.tmp, .move (.v 3), .none⟩,
 ⟨.tmp, .build [.str 0 0, .bool false] [(0, 1, (.t 0)), (1, 1, (.c (.bool false)))], .none⟩,
 ⟨.tmp, .lkp (.nils) 3 false (.t 2) (.t 0), .none⟩,
 ⟨.tmp, .len false (.t 0), .none⟩,
 ⟨.tmp, .bin .eql (.t 0) (.c (.int .i64 (.ofNat 0))), .none⟩,
 ⟨.tmp, .move (.t 0), .none⟩,
 ⟨.tmp, .move (.v 0), .some ((.t 0), false)⟩,
 ⟨.tmp, .nilck (.t 0), .some ((.t 1), false)⟩,
 ⟨.tmp, .fadr 0 (.t 0), .some ((.t 2), false)⟩,
 ⟨.tmp, .fadr 1 (.t 0), .some ((.t 3), false)⟩,
 ⟨.tmp, .load1 (.t 0), .some ((.t 4), false)⟩,
 ⟨.tmp, .move (.v 3), .some ((.t 5), false)⟩,
 ⟨.tmp, .lkp (.int .i64 (.ofNat 0)) 1 false (.t 1) (.t 0), .some ((.t 6), false)⟩,
 ⟨.tmp, .bin .neq (.t 0) (.c (.int .i64 (.ofNat 0))), .some ((.t 7), false)⟩,
 ⟨.tmp, .move (.t 0), .some ((.t 8), false)⟩,
 ⟨.tmp, .move (.v 6), .some ((.t 0), true)⟩,
 ⟨.tmp, .nilck (.t 0), .some ((.t 1), true)⟩,
 ⟨.tmp, .fadr 0 (.t 0), .some ((.t 2), true)⟩,
 ⟨.tmp, .fadr 0 (.t 0), .some ((.t 3), true)⟩,
 ⟨.tmp, .load1 (.t 0), .some ((.t 4), true)⟩,
 ⟨.tmp, .move (.v 0), .some ((.t 5), true)⟩,
 ⟨.tmp, .call 166 [(.t 1), (.t 0)], .some ((.t 6), true)⟩,
 ⟨.tmp, .not (.t 0), .some ((.t 7), true)⟩,
 ⟨.tmp, .pick (.t 8) (.t 0) (.c (.bool false)), .some ((.t 17), false)⟩,
 ⟨.tmp, .pick (.t 18) (.c (.bool true)) (.t 0), .none⟩]) (
 .cond (.t 0) (
 .seq (.reg [⟨.tmp, .move (.v 7), .none⟩,
 ⟨.tmp, .call 64 [(.t 0), (.c (.int .i64 (.ofNat 44)))], .none⟩,
 ⟨(.var 1), .move (.c (.str 0 0)), .none⟩,
 ⟨(.var 2), .move (.t 0), .none⟩]) (
 .ret)) (
 .skip))) (
 .seq (.reg [⟨.tmp, .move (.v 0), .none⟩,
 ⟨.tmp, .move (.v 3), .none⟩,
 ⟨.tmp, .call 67 [(.t 1), (.t 0)], .none⟩,
 ⟨(.var 1), .move (.t 0), .none⟩,
 ⟨(.var 2), .move (.c (.nili)), .none⟩]) (
 .ret))))))),
 [.opd (.v 1), .opd (.v 2)], 8, .none⟩
/-- slices.Sort[[]string,string] -/
def vm157 : List Nat := [2, 0]

def d157 : DF := ⟨[.some 2, .some 0],
 .seq (.reg [⟨.tmp, .move (.v 1), .none⟩,
 ⟨.tmp, .len false (.t 0), .none⟩,
 ⟨(.var 0), .move (.t 0), .none⟩]) (
 .reg [⟨.tmp, .move (.v 1), .none⟩,
 ⟨.tmp, .move (.v 0), .none⟩,
 ⟨.tmp, .move (.v 0), .none⟩,
 ⟨.tmp, .conv .u64 (.t 0), .none⟩,
 ⟨.tmp, .call 178 [(.t 0)], .none⟩,
 ⟨.tmp, .call 177 [(.t 4), (.c (.int .i64 (.ofNat 0))), (.t 3), (.t 0)], .none⟩]),
 [], 2, .none⟩
/-- slices.Compact[[]string,string] -/
def vm158 : List Nat := [5, 4, 3, 0, 2]
def b158_0 : DC :=
 .seq (.seq (.reg [⟨.tmp, .move (.v 0), .none⟩,
 ⟨.tmp, .move (.v 1), .none⟩,
 ⟨.tmp, .len false (.t 0), .none⟩,
 ⟨.tmp, .bin .lss (.t 2) (.t 0), .none⟩]) (
 .cond (.t 0) (
 .skip) (
 .exit 2))) (
 .seq (.block 3 (
 .seq (.reg [⟨.tmp, .move (.v 1), .none⟩,
 ⟨.tmp, .move (.v 0), .none⟩,
 ⟨.tmp, .idxS 1 (.t 1) (.t 0), .none⟩,
 ⟨.tmp, .load1 (.t 0), .none⟩,
 ⟨.tmp, .move (.v 1), .none⟩,
 ⟨.tmp, .move (.v 0), .none⟩,
 ⟨.tmp, .bin .sub (.t 0) (.c (.int .i64 (.ofNat 1))), .none⟩,
 ⟨.tmp, .idxS 1 (.t 2) (.t 0), .none⟩,
 ⟨.tmp, .load1 (.t 0), .none⟩,
 ⟨.tmp, .bin .neq (.t 5) (.t 0), .none⟩]) (
 .cond (.t 0) (
 .seq (.reg [⟨.tmp, .move (.v 3), .none⟩,
 ⟨.tmp, .move (.v 2), .none⟩,
 ⟨.tmp, .move (.v 1), .none⟩,
 ⟨.tmp, .move (.v 0), .none⟩,
 ⟨.tmp, .idxS 1 (.t 1) (.t 0), .none⟩,
 ⟨.tmp, .load1 (.t 0), .none⟩,
 ⟨.tmp, .idxS 1 (.t 5) (.t 4), .none⟩,
 ⟨.no, .store 1 (.t 0) (.t 1), .none⟩]) (
 .reg [⟨.tmp, .move (.v 2), .none⟩,
 ⟨.tmp, .bin .add (.t 0) (.c (.int .i64 (.ofNat 1))), .none⟩,
 ⟨(.var 2), .move (.t 0), .none⟩])) (
 .skip)))) (
 .reg [⟨.tmp, .move (.v 0), .none⟩,
 ⟨.tmp, .bin .add (.t 0) (.c (.int .i64 (.ofNat 1))), .none⟩,
 ⟨(.var 0), .move (.t 0), .none⟩]))
def r158_1 : DC :=
 .seq (.reg [⟨.tmp, .move (.v 3), .none⟩,
 ⟨.tmp, .move (.v 2), .none⟩,
 ⟨.tmp, .slcS 1 (.t 1) (.some (.t 0)) .none .none, .none⟩,
 ⟨.no, .die, .none⟩]) (
 .seq (.reg [⟨.tmp, .move (.v 3), .none⟩,
 ⟨.tmp, .move (.v 2), .none⟩,
 ⟨.tmp, .slcS 1 (.t 1) .none (.some (.t 0)) .none, .none⟩,
 ⟨(.var 4), .move (.t 0), .none⟩]) (
 .ret))
def r158_2 : DC :=
 .reg [⟨.tmp, .move (.v 2), .none⟩,
 ⟨.tmp, .bin .add (.t 0) (.c (.int .i64 (.ofNat 1))), .none⟩,
 ⟨(.var 2), .move (.t 0), .none⟩]
def b158_3 : DC :=
 .seq (.seq (.reg [⟨.tmp, .move (.v 2), .none⟩,
 ⟨.tmp, .move (.v 3), .none⟩,
 ⟨.tmp, .len false (.t 0), .none⟩,
 ⟨.tmp, .bin .lss (.t 2) (.t 0), .none⟩]) (
 .cond (.t 0) (
 .skip) (
 .exit 0))) (
 .seq (.block 1 (
 .seq (.reg [⟨.tmp, .move (.v 3), .none⟩,
 ⟨.tmp, .move (.v 2), .none⟩,
 ⟨.tmp, .idxS 1 (.t 1) (.t 0), .none⟩,
 ⟨.tmp, .load1 (.t 0), .none⟩,
 ⟨.tmp, .move (.v 3), .none⟩,
 ⟨.tmp, .move (.v 2), .none⟩,
 ⟨.tmp, .bin .sub (.t 0) (.c (.int .i64 (.ofNat 1))), .none⟩,
 ⟨.tmp, .idxS 1 (.t 2) (.t 0), .none⟩,
 ⟨.tmp, .load1 (.t 0), .none⟩,
 ⟨.tmp, .bin .eql (.t 5) (.t 0), .none⟩]) (
 .cond (.t 0) (
 .seq (.reg [⟨.tmp, .move (.v 3), .none⟩,
 ⟨.tmp, .move (.v 2), .none⟩,
 ⟨.tmp, .slcS 1 (.t 1) (.some (.t 0)) .none .none, .none⟩,
 ⟨(.var 1), .move (.t 0), .none⟩]) (
 .seq (.seq (.reg [⟨(.var 0), .move (.c (.int .i64 (.ofNat 1))), .none⟩]) (
 .block 2 (
 .loop b158_0))) r158_1)) (
 .skip)))) r158_2)
def r158_4 : DC :=
 .seq (.reg [⟨.tmp, .move (.v 3), .none⟩,
 ⟨(.var 4), .move (.t 0), .none⟩]) (
 .ret)
def d158 : DF := ⟨[.some 5, .some 4, .some 3, .some 0, .some 2],
 .seq (.reg [⟨(.var 4), .move (.c (.nils)), .none⟩]) (
 .seq (.seq (.reg [⟨.tmp, .move (.v 3), .none⟩,
 ⟨.tmp, .len false (.t 0), .none⟩,
 ⟨.tmp, .bin .lss (.t 0) (.c (.int .i64 (.ofNat 2))), .none⟩]) (
 .cond (.t 0) (
 .seq (.reg [⟨.tmp, .move (.v 3), .none⟩,
 ⟨(.var 4), .move (.t 0), .none⟩]) (
 .ret)) (
 .skip))) (
 .seq (.seq (.reg [⟨(.var 2), .move (.c (.int .i64 (.ofNat 1))), .none⟩]) (
 .block 0 (
 .loop b158_3))) r158_4)),
 [.opd (.v 4)], 5, .none⟩
/-- (*telamon/scope.resolver).shared -/
def vm159 : List Nat := [1, 5, 0, 4]
def b159_0 : DC :=
 .seq (.seq (.reg [⟨.tmp, .move (.v 0), .none⟩,
 ⟨.tmp, .binP .neq (.t 0) (.c (.nilp)), .none⟩]) (
 .cond (.t 0) (
 .skip) (
 .exit 0))) (
 .seq (.block 1 (
 .seq (.reg [⟨.tmp, .move (.v 2), .none⟩,
 ⟨.tmp, .nilck (.t 0), .none⟩,
 ⟨.tmp, .fadr 0 (.t 0), .none⟩,
 ⟨.tmp, .fadr 0 (.t 0), .none⟩,
 ⟨.tmp, .load1 (.t 0), .none⟩,
 ⟨.tmp, .move (.v 0), .none⟩,
 ⟨.tmp, .call 166 [(.t 1), (.t 0)], .none⟩]) (
 .cond (.t 0) (
 .reg [⟨.tmp, .move (.v 1), .none⟩,
 ⟨.tmp, .move (.v 0), .none⟩,
 ⟨.tmp, .buildS 1 [[.nilp]] [(0, (.t 0))], .none⟩,
 ⟨.tmp, .append 1 8 (.t 2) (.t 0), .none⟩,
 ⟨(.var 1), .move (.t 0), .none⟩]) (
 .skip)))) (
 .reg [⟨.tmp, .move (.v 0), .none⟩,
 ⟨.tmp, .nilck (.t 0), .none⟩,
 ⟨.tmp, .fadr 4 (.t 0), .none⟩,
 ⟨.tmp, .load1 (.t 0), .none⟩,
 ⟨(.var 0), .move (.t 0), .none⟩]))
def r159_1 : DC :=
 .seq (.reg [⟨.tmp, .move (.v 1), .none⟩,
 ⟨.tmp, .call 179 [(.t 0)], .none⟩]) (
 .seq (.reg [⟨.tmp, .move (.v 1), .none⟩,
 ⟨(.var 3), .move (.t 0), .none⟩]) (
 .ret))
def d159 : DF := ⟨[.some 1, .some 5, .some 0, .some 4],
 .seq (.reg [⟨(.var 3), .move (.c (.nils)), .none⟩]) (
 .seq (.reg [⟨(.var 1), .move (.c (.nils)), .none⟩]) (
 .seq (.block 0 (
 .loop b159_0)) r159_1)),
 [.opd (.v 3)], 4, .none⟩
/-- internal/stringslite.IndexByte -/
def vm160 : List Nat := [4, 0, 1]

def d160 : DF := ⟨[.some 4, .some 0, .some 1],
 .seq (.reg [⟨(.var 0), .move (.c (.int .i64 (.ofNat 0))), .none⟩]) (
 .seq (.reg [⟨.tmp, .move (.v 1), .none⟩,
 ⟨.tmp, .move (.v 2), .none⟩,
 ⟨.tmp, .call 180 [(.t 1), (.t 0)], .none⟩,
 ⟨(.var 0), .move (.t 0), .none⟩]) (
 .ret)),
 [.opd (.v 0)], 3, .none⟩
/-- internal/bytealg.Cutover -/
def vm162 : List Nat := [2, 0]

def d162 : DF := ⟨[.some 2, .some 0],
 .seq (.reg [⟨(.var 0), .move (.c (.int .i64 (.ofNat 0))), .none⟩]) (
 .seq (.reg [⟨.tmp, .move (.v 1), .none⟩,
 ⟨.tmp, .bin .add (.t 0) (.c (.int .i64 (.ofNat 16))), .none⟩,
 ⟨.tmp, .bin .quo (.t 0) (.c (.int .i64 (.ofNat 8))), .none⟩,
 ⟨(.var 0), .move (.t 0), .none⟩]) (
 .ret)),
 [.opd (.v 0)], 2, .none⟩
/-- internal/bytealg.IndexRabinKarp[string] -/
def vm163 : List Nat := [8, 10, 0, 7, 9, 1, 4, 5, 6]
def b163_0 : DC :=
 .seq (.seq (.reg [⟨.tmp, .move (.v 4), .none⟩,
 ⟨.tmp, .move (.v 3), .none⟩,
 ⟨.tmp, .bin .lss (.t 1) (.t 0), .none⟩]) (
 .cond (.t 0) (
 .skip) (
 .exit 0))) (
 .seq (.block 1 (
 .reg [⟨.tmp, .move (.v 0), .none⟩,
 ⟨.tmp, .bin .mul (.t 0) (.c (.int .u32 (.ofNat 16777619))), .none⟩,
 ⟨.tmp, .move (.v 2), .none⟩,
 ⟨.tmp, .move (.v 4), .none⟩,
 ⟨.tmp, .idxStr (.t 1) (.t 0), .none⟩,
 ⟨.tmp, .conv .u32 (.t 0), .none⟩,
 ⟨.tmp, .bin .add (.t 4) (.t 0), .none⟩,
 ⟨(.var 0), .move (.t 0), .none⟩])) (
 .reg [⟨.tmp, .move (.v 4), .none⟩,
 ⟨.tmp, .bin .add (.t 0) (.c (.int .i64 (.ofNat 1))), .none⟩,
 ⟨(.var 4), .move (.t 0), .none⟩]))
def b163_1 : DC :=
 .seq (.seq (.reg [⟨.tmp, .move (.v 1), .none⟩,
 ⟨.tmp, .move (.v 2), .none⟩,
 ⟨.tmp, .len true (.t 0), .none⟩,
 ⟨.tmp, .bin .lss (.t 2) (.t 0), .none⟩]) (
 .cond (.t 0) (
 .skip) (
 .exit 2))) (
 .block 3 (
 .seq (.reg [⟨.tmp, .move (.v 0), .none⟩,
 ⟨.tmp, .bin .mul (.t 0) (.c (.int .u32 (.ofNat 16777619))), .none⟩,
 ⟨(.var 0), .move (.t 0), .none⟩]) (
 .seq (.reg [⟨.tmp, .move (.v 0), .none⟩,
 ⟨.tmp, .move (.v 2), .none⟩,
 ⟨.tmp, .move (.v 1), .none⟩,
 ⟨.tmp, .idxStr (.t 1) (.t 0), .none⟩,
 ⟨.tmp, .conv .u32 (.t 0), .none⟩,
 ⟨.tmp, .bin .add (.t 4) (.t 0), .none⟩,
 ⟨(.var 0), .move (.t 0), .none⟩]) (
 .seq (.reg [⟨.tmp, .move (.v 0), .none⟩,
 ⟨.tmp, .move (.v 8), .none⟩,
 ⟨.tmp, .move (.v 2), .none⟩,
 ⟨.tmp, .move (.v 1), .none⟩,
 ⟨.tmp, .move (.v 3), .none⟩,
 ⟨.tmp, .bin .sub (.t 1) (.t 0), .none⟩,
 ⟨.tmp, .idxStr (.t 3) (.t 0), .none⟩,
 ⟨.tmp, .conv .u32 (.t 0), .none⟩,
 ⟨.tmp, .bin .mul (.t 6) (.t 0), .none⟩,
 ⟨.tmp, .bin .sub (.t 8) (.t 0), .none⟩,
 ⟨(.var 0), .move (.t 0), .none⟩]) (
 .seq (.reg [⟨.tmp, .move (.v 1), .none⟩,
 ⟨.tmp, .bin .add (.t 0) (.c (.int .i64 (.ofNat 1))), .none⟩,
 ⟨(.var 1), .move (.t 0), .none⟩]) (
 .seq (.reg [⟨.tmp, .move (.v 0), .none⟩,
 ⟨.tmp, .move (.v 7), .none⟩,
 ⟨.tmp, .bin .eql (.t 1) (.t 0), .none⟩,
 ⟨.tmp, .move (.t 0), .none⟩,
 ⟨.tmp, .move (.v 2), .some ((.t 0), true)⟩,
 ⟨.tmp, .move (.v 1), .some ((.t 1), true)⟩,
 ⟨.tmp, .move (.v 3), .some ((.t 2), true)⟩,
 ⟨.tmp, .bin .sub (.t 1) (.t 0), .some ((.t 3), true)⟩,
 ⟨.tmp, .move (.v 1), .some ((.t 4), true)⟩,
 ⟨.tmp, .slcStr (.t 4) (.some (.t 1)) (.some (.t 0)), .some ((.t 5), true)⟩,
 ⟨.tmp, .move (.v 5), .some ((.t 6), true)⟩,
 ⟨.tmp, .bin .eql (.t 1) (.t 0), .some ((.t 7), true)⟩,
 ⟨.tmp, .pick (.t 8) (.t 0) (.c (.bool false)), .none⟩]) (
 .cond (.t 0) (
 .seq (.reg [⟨.tmp, .move (.v 1), .none⟩,
 ⟨.tmp, .move (.v 3), .none⟩,
 ⟨.tmp, .bin .sub (.t 1) (.t 0), .none⟩,
 ⟨(.var 6), .move (.t 0), .none⟩]) (
 .ret)) (
 .skip))))))))
def r163_2 : DC :=
 .seq (.reg [⟨(.var 6), .move (.c (.int .i64 (.negSucc 0))), .none⟩]) (
 .ret)
def r163_3 : DC :=
 .seq (.seq (.reg [⟨.tmp, .move (.v 0), .none⟩,
 ⟨.tmp, .move (.v 7), .none⟩,
 ⟨.tmp, .bin .eql (.t 1) (.t 0), .none⟩,
 ⟨.tmp, .move (.t 0), .none⟩,
 ⟨.tmp, .move (.v 2), .some ((.t 0), true)⟩,
 ⟨.tmp, .move (.v 3), .some ((.t 1), true)⟩,
 ⟨.tmp, .slcStr (.t 1) .none (.some (.t 0)), .some ((.t 2), true)⟩,
 ⟨.tmp, .move (.v 5), .some ((.t 3), true)⟩,
 ⟨.tmp, .bin .eql (.t 1) (.t 0), .some ((.t 4), true)⟩,
 ⟨.tmp, .pick (.t 5) (.t 0) (.c (.bool false)), .none⟩]) (
 .cond (.t 0) (
 .seq (.reg [⟨(.var 6), .move (.c (.int .i64 (.ofNat 0))), .none⟩]) (
 .ret)) (
 .skip))) (
 .seq (.seq (.reg [⟨.tmp, .move (.v 3), .none⟩,
 ⟨(.var 1), .move (.t 0), .none⟩]) (
 .block 2 (
 .loop b163_1))) r163_2)
def d163 : DF := ⟨[.some 8, .some 10, .some 0, .some 7, .some 9, .some 1, .some 4, .some 5, .some 6],
 .seq (.reg [⟨(.var 6), .move (.c (.int .i64 (.ofNat 0))), .none⟩]) (
 .seq (.reg [⟨.tmp, .move (.v 5), .none⟩,
 ⟨.tmp, .call 181 [(.t 0)], .none⟩,
 ⟨.tmp, .move (.t 0), .none⟩,
 ⟨.tmp, .ext (.t 0) 0, .none⟩,
 ⟨.tmp, .ext (.t 1) 1, .none⟩,
 ⟨(.var 7), .move (.t 1), .none⟩,
 ⟨(.var 8), .move (.t 0), .none⟩]) (
 .seq (.reg [⟨.tmp, .move (.v 5), .none⟩,
 ⟨.tmp, .len true (.t 0), .none⟩,
 ⟨(.var 3), .move (.t 0), .none⟩]) (
 .seq (.reg [⟨(.var 0), .move (.c (.int .u32 (.ofNat 0))), .none⟩]) (
 .seq (.seq (.reg [⟨(.var 4), .move (.c (.int .i64 (.ofNat 0))), .none⟩]) (
 .block 0 (
 .loop b163_0))) r163_3)))),
 [.opd (.v 6)], 9, .none⟩
/-- strings.explode -/
def vm164 : List Nat := [0, 7, 9, 1, 6, 5, 4]
def b164_0 : DC :=
 .seq (.seq (.reg [⟨.tmp, .move (.v 1), .none⟩,
 ⟨.tmp, .move (.v 3), .none⟩,
 ⟨.tmp, .bin .sub (.t 0) (.c (.int .i64 (.ofNat 1))), .none⟩,
 ⟨.tmp, .bin .lss (.t 2) (.t 0), .none⟩]) (
 .cond (.t 0) (
 .skip) (
 .exit 0))) (
 .seq (.block 1 (
 .seq (.reg [⟨.tmp, .move (.v 0), .none⟩,
 ⟨.tmp, .call 183 [(.t 0)], .none⟩,
 ⟨.tmp, .move (.t 0), .none⟩,
 ⟨.tmp, .ext (.t 0) 0, .none⟩,
 ⟨.tmp, .ext (.t 1) 1, .none⟩,
 ⟨.tmp, .move (.t 1), .none⟩,
 ⟨(.var 2), .move (.t 1), .none⟩]) (
 .seq (.reg [⟨.tmp, .move (.v 4), .none⟩,
 ⟨.tmp, .move (.v 1), .none⟩,
 ⟨.tmp, .move (.v 0), .none⟩,
 ⟨.tmp, .move (.v 2), .none⟩,
 ⟨.tmp, .slcStr (.t 1) .none (.some (.t 0)), .none⟩,
 ⟨.tmp, .idxS 1 (.t 4) (.t 3), .none⟩,
 ⟨.no, .store 1 (.t 0) (.t 1), .none⟩]) (
 .reg [⟨.tmp, .move (.v 0), .none⟩,
 ⟨.tmp, .move (.v 2), .none⟩,
 ⟨.tmp, .slcStr (.t 1) (.some (.t 0)) .none, .none⟩,
 ⟨(.var 0), .move (.t 0), .none⟩])))) (
 .reg [⟨.tmp, .move (.v 1), .none⟩,
 ⟨.tmp, .bin .add (.t 0) (.c (.int .i64 (.ofNat 1))), .none⟩,
 ⟨(.var 1), .move (.t 0), .none⟩]))
def r164_1 : DC :=
 .seq (.seq (.reg [⟨.tmp, .move (.v 3), .none⟩,
 ⟨.tmp, .bin .gtr (.t 0) (.c (.int .i64 (.ofNat 0))), .none⟩]) (
 .cond (.t 0) (
 .reg [⟨.tmp, .move (.v 4), .none⟩,
 ⟨.tmp, .move (.v 3), .none⟩,
 ⟨.tmp, .bin .sub (.t 0) (.c (.int .i64 (.ofNat 1))), .none⟩,
 ⟨.tmp, .move (.v 0), .none⟩,
 ⟨.tmp, .idxS 1 (.t 3) (.t 1), .none⟩,
 ⟨.no, .store 1 (.t 0) (.t 1), .none⟩]) (
 .skip))) (
 .seq (.reg [⟨.tmp, .move (.v 4), .none⟩,
 ⟨(.var 6), .move (.t 0), .none⟩]) (
 .ret))
def d164 : DF := ⟨[.some 0, .some 7, .some 9, .some 1, .some 6, .some 5, .some 4],
 .seq (.reg [⟨(.var 6), .move (.c (.nils)), .none⟩]) (
 .seq (.reg [⟨.tmp, .move (.v 0), .none⟩,
 ⟨.tmp, .call 182 [(.t 0)], .none⟩,
 ⟨(.var 5), .move (.t 0), .none⟩]) (
 .seq (.seq (.reg [⟨.tmp, .move (.v 3), .none⟩,
 ⟨.tmp, .bin .lss (.t 0) (.c (.int .i64 (.ofNat 0))), .none⟩,
 ⟨.tmp, .move (.t 0), .none⟩,
 ⟨.tmp, .move (.v 3), .some ((.t 0), false)⟩,
 ⟨.tmp, .move (.v 5), .some ((.t 1), false)⟩,
 ⟨.tmp, .bin .gtr (.t 1) (.t 0), .some ((.t 2), false)⟩,
 ⟨.tmp, .pick (.t 3) (.c (.bool true)) (.t 0), .none⟩]) (
 .cond (.t 0) (
 .reg [⟨.tmp, .move (.v 5), .none⟩,
 ⟨(.var 3), .move (.t 0), .none⟩]) (
 .skip))) (
 .seq (.reg [⟨.tmp, .move (.v 3), .none⟩,
 ⟨.tmp, .mkS [.str 0 0] 16 (.t 0) (.t 0), .none⟩,
 ⟨(.var 4), .move (.t 0), .none⟩]) (
 .seq (.seq (.reg [⟨(.var 1), .move (.c (.int .i64 (.ofNat 0))), .none⟩]) (
 .block 0 (
 .loop b164_0))) r164_1)))),
 [.opd (.v 6)], 7, .none⟩
/-- strings.Count -/
def vm165 : List Nat := [0, 5, 6, 1, 4]
def b165_0 : DC :=
 .block 1 (
 .seq (.reg [⟨.tmp, .move (.v 0), .none⟩,
 ⟨.tmp, .move (.v 3), .none⟩,
 ⟨.tmp, .call 119 [(.t 1), (.t 0)], .none⟩,
 ⟨(.var 2), .move (.t 0), .none⟩]) (
 .seq (.seq (.reg [⟨.tmp, .move (.v 2), .none⟩,
 ⟨.tmp, .bin .eql (.t 0) (.c (.int .i64 (.negSucc 0))), .none⟩]) (
 .cond (.t 0) (
 .seq (.reg [⟨.tmp, .move (.v 1), .none⟩,
 ⟨(.var 4), .move (.t 0), .none⟩]) (
 .ret)) (
 .skip))) (
 .seq (.reg [⟨.tmp, .move (.v 1), .none⟩,
 ⟨.tmp, .bin .add (.t 0) (.c (.int .i64 (.ofNat 1))), .none⟩,
 ⟨(.var 1), .move (.t 0), .none⟩]) (
 .reg [⟨.tmp, .move (.v 0), .none⟩,
 ⟨.tmp, .move (.v 2), .none⟩,
 ⟨.tmp, .move (.v 3), .none⟩,
 ⟨.tmp, .len true (.t 0), .none⟩,
 ⟨.tmp, .bin .add (.t 2) (.t 0), .none⟩,
 ⟨.tmp, .slcStr (.t 4) (.some (.t 0)) .none, .none⟩,
 ⟨(.var 0), .move (.t 0), .none⟩]))))
def d165 : DF := ⟨[.some 0, .some 5, .some 6, .some 1, .some 4],
 .seq (.reg [⟨(.var 4), .move (.c (.int .i64 (.ofNat 0))), .none⟩]) (
 .seq (.seq (.reg [⟨.tmp, .move (.v 3), .none⟩,
 ⟨.tmp, .len true (.t 0), .none⟩,
 ⟨.tmp, .bin .eql (.t 0) (.c (.int .i64 (.ofNat 0))), .none⟩]) (
 .cond (.t 0) (
 .seq (.reg [⟨.tmp, .move (.v 0), .none⟩,
 ⟨.tmp, .call 182 [(.t 0)], .none⟩,
 ⟨.tmp, .bin .add (.t 0) (.c (.int .i64 (.ofNat 1))), .none⟩,
 ⟨(.var 4), .move (.t 0), .none⟩]) (
 .ret)) (
 .skip))) (
 .seq (.seq (.reg [⟨.tmp, .move (.v 3), .none⟩,
 ⟨.tmp, .len true (.t 0), .none⟩,
 ⟨.tmp, .bin .eql (.t 0) (.c (.int .i64 (.ofNat 1))), .none⟩]) (
 .cond (.t 0) (
 .seq (.reg [⟨.tmp, .move (.v 0), .none⟩,
 ⟨.tmp, .move (.v 3), .none⟩,
 ⟨.tmp, .idxStr (.t 0) (.c (.int .i64 (.ofNat 0))), .none⟩,
 ⟨.tmp, .call 184 [(.t 2), (.t 0)], .none⟩,
 ⟨(.var 4), .move (.t 0), .none⟩]) (
 .ret)) (
 .skip))) (
 .seq (.reg [⟨(.var 1), .move (.c (.int .i64 (.ofNat 0))), .none⟩]) (
 .block 0 (
 .loop b165_0))))),
 [.opd (.v 4)], 5, .none⟩

end Dt
