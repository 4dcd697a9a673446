/- A part of the abstract machine and of the proof that the program does what it reckons; no conditions. -/
import Derived.Test.YtoifgfkgjbddcaaGreatDoorZa1
set_option linter.all false
namespace Dt
open Go
set_option linter.all false
/-- (*telamon/telamonref12.lexer).pass -/
def vm42 : List Nat := [0, 3, 2]

def d42 : DF := ⟨[.some 0, .some 3, .some 2],
 .seq (.reg [⟨.tmp, .move (.v 0), .none⟩,
 ⟨.tmp, .nilck (.t 0), .none⟩,
 ⟨.tmp, .fadr 0 (.t 0), .none⟩,
 ⟨.tmp, .load1 (.t 0), .none⟩,
 ⟨.tmp, .move (.v 0), .none⟩,
 ⟨.tmp, .nilck (.t 0), .none⟩,
 ⟨.tmp, .fadr 1 (.t 0), .none⟩,
 ⟨.tmp, .load1 (.t 0), .none⟩,
 ⟨.tmp, .call 92 [(.t 4), (.t 0)], .none⟩,
 ⟨(.var 2), .move (.t 0), .none⟩]) (
 .seq (.seq (.reg [⟨.tmp, .move (.v 2), .none⟩,
 ⟨.tmp, .bin .eql (.t 0) (.c (.int .i64 (.ofNat 0))), .none⟩]) (
 .cond (.t 0) (
 .seq (.reg [⟨.tmp, .move (.v 0), .none⟩,
 ⟨.tmp, .nilck (.t 0), .none⟩,
 ⟨.tmp, .fadr 4 (.t 0), .none⟩,
 ⟨.no, .store 1 (.t 0) (.c (.int .i64 (.ofNat 40))), .none⟩]) (
 .ret)) (
 .skip))) (
 .seq (.reg [⟨.tmp, .move (.v 0), .none⟩,
 ⟨.tmp, .nilck (.t 0), .none⟩,
 ⟨.tmp, .fadr 0 (.t 0), .none⟩,
 ⟨.tmp, .load1 (.t 0), .none⟩,
 ⟨.tmp, .move (.v 0), .none⟩,
 ⟨.tmp, .nilck (.t 0), .none⟩,
 ⟨.tmp, .fadr 1 (.t 0), .none⟩,
 ⟨.tmp, .load1 (.t 0), .none⟩,
 ⟨.tmp, .idxStr (.t 4) (.t 0), .none⟩,
 ⟨(.var 1), .move (.t 0), .none⟩]) (
 .seq (.seq (.reg [⟨.tmp, .move (.v 1), .none⟩,
 ⟨.tmp, .bin .lss (.t 0) (.c (.int .u8 (.ofNat 32))), .none⟩,
 ⟨.tmp, .move (.t 0), .none⟩,
 ⟨.tmp, .move (.v 1), .some ((.t 0), true)⟩,
 ⟨.tmp, .bin .neq (.t 0) (.c (.int .u8 (.ofNat 10))), .some ((.t 1), true)⟩,
 ⟨.tmp, .pick (.t 2) (.t 0) (.c (.bool false)), .none⟩,
 ⟨.tmp, .move (.t 0), .none⟩,
 ⟨.tmp, .move (.v 1), .some ((.t 0), false)⟩,
 ⟨.tmp, .bin .eql (.t 0) (.c (.int .u8 (.ofNat 127))), .some ((.t 1), false)⟩,
 ⟨.tmp, .pick (.t 2) (.c (.bool true)) (.t 0), .none⟩]) (
 .cond (.t 0) (
 .seq (.reg [⟨.tmp, .move (.v 0), .none⟩,
 ⟨.tmp, .nilck (.t 0), .none⟩,
 ⟨.tmp, .fadr 4 (.t 0), .none⟩,
 ⟨.no, .store 1 (.t 0) (.c (.int .i64 (.ofNat 41))), .none⟩]) (
 .ret)) (
 .skip))) (
 .seq (.reg [⟨.tmp, .move (.v 0), .none⟩,
 ⟨.tmp, .move (.v 0), .none⟩,
 ⟨.tmp, .nilck (.t 0), .none⟩,
 ⟨.tmp, .fadr 1 (.t 0), .none⟩,
 ⟨.tmp, .load1 (.t 0), .none⟩,
 ⟨.tmp, .move (.v 2), .none⟩,
 ⟨.tmp, .bin .add (.t 1) (.t 0), .none⟩,
 ⟨.tmp, .nilck (.t 6), .none⟩,
 ⟨.tmp, .fadr 1 (.t 0), .none⟩,
 ⟨.no, .store 1 (.t 0) (.t 2), .none⟩]) (
 .seq (.reg [⟨.tmp, .move (.v 0), .none⟩,
 ⟨.tmp, .nilck (.t 0), .none⟩,
 ⟨.tmp, .fadr 3 (.t 0), .none⟩,
 ⟨.tmp, .load1 (.t 0), .none⟩,
 ⟨.tmp, .bin .add (.t 0) (.c (.int .i64 (.ofNat 1))), .none⟩,
 ⟨.tmp, .nilck (.t 4), .none⟩,
 ⟨.tmp, .fadr 3 (.t 0), .none⟩,
 ⟨.no, .store 1 (.t 0) (.t 2), .none⟩]) (
 .seq (.reg [⟨.tmp, .move (.v 1), .none⟩,
 ⟨.tmp, .bin .eql (.t 0) (.c (.int .u8 (.ofNat 10))), .none⟩]) (
 .cond (.t 0) (
 .seq (.reg [⟨.tmp, .move (.v 0), .none⟩,
 ⟨.tmp, .nilck (.t 0), .none⟩,
 ⟨.tmp, .fadr 2 (.t 0), .none⟩,
 ⟨.tmp, .load1 (.t 0), .none⟩,
 ⟨.tmp, .bin .add (.t 0) (.c (.int .i64 (.ofNat 1))), .none⟩,
 ⟨.tmp, .nilck (.t 4), .none⟩,
 ⟨.tmp, .fadr 2 (.t 0), .none⟩,
 ⟨.no, .store 1 (.t 0) (.t 2), .none⟩]) (
 .reg [⟨.tmp, .move (.v 0), .none⟩,
 ⟨.tmp, .nilck (.t 0), .none⟩,
 ⟨.tmp, .fadr 3 (.t 0), .none⟩,
 ⟨.no, .store 1 (.t 0) (.c (.int .i64 (.ofNat 1))), .none⟩])) (
 .skip)))))))),
 [], 3, .none⟩
/-- telamon/telamonref12.delim -/
def vm43 : List Nat := [0, 2]

def d43 : DF := ⟨[.some 0, .some 2],
 .seq (.reg [⟨(.var 1), .move (.c (.bool false)), .none⟩]) (
 .seq (.reg [⟨.tmp, .move (.v 0), .none⟩,
 ⟨.tmp, .bin .eql (.t 0) (.c (.int .u8 (.ofNat 40))), .none⟩,
 ⟨.tmp, .move (.t 0), .none⟩,
 ⟨.tmp, .move (.v 0), .some ((.t 0), false)⟩,
 ⟨.tmp, .bin .eql (.t 0) (.c (.int .u8 (.ofNat 41))), .some ((.t 1), false)⟩,
 ⟨.tmp, .pick (.t 2) (.c (.bool true)) (.t 0), .none⟩,
 ⟨.tmp, .move (.t 0), .none⟩,
 ⟨.tmp, .move (.v 0), .some ((.t 0), false)⟩,
 ⟨.tmp, .bin .eql (.t 0) (.c (.int .u8 (.ofNat 123))), .some ((.t 1), false)⟩,
 ⟨.tmp, .pick (.t 2) (.c (.bool true)) (.t 0), .none⟩,
 ⟨.tmp, .move (.t 0), .none⟩,
 ⟨.tmp, .move (.v 0), .some ((.t 0), false)⟩,
 ⟨.tmp, .bin .eql (.t 0) (.c (.int .u8 (.ofNat 125))), .some ((.t 1), false)⟩,
 ⟨.tmp, .pick (.t 2) (.c (.bool true)) (.t 0), .none⟩,
 ⟨.tmp, .move (.t 0), .none⟩,
 ⟨.tmp, .move (.v 0), .some ((.t 0), false)⟩,
 ⟨.tmp, .bin .eql (.t 0) (.c (.int .u8 (.ofNat 59))), .some ((.t 1), false)⟩,
 ⟨.tmp, .pick (.t 2) (.c (.bool true)) (.t 0), .none⟩,
 ⟨.tmp, .move (.t 0), .none⟩,
 ⟨.tmp, .move (.v 0), .some ((.t 0), false)⟩,
 ⟨.tmp, .bin .eql (.t 0) (.c (.int .u8 (.ofNat 44))), .some ((.t 1), false)⟩,
 ⟨.tmp, .pick (.t 2) (.c (.bool true)) (.t 0), .none⟩,
 ⟨(.var 1), .move (.t 0), .none⟩]) (
 .ret)),
 [.opd (.v 1)], 2, .none⟩
/-- telamon/telamonref12.kind -/
def vm44 : List Nat := [4, 1, 0, 5, 6, 7]

def d44 : DF := ⟨[.some 4, .some 1, .some 0, .some 5, .some 6, .some 7],
 .seq (.reg [⟨(.var 0), .move (.c (.int .i64 (.ofNat 0))), .none⟩]) (
 .seq (.seq (.reg [⟨.tmp, .move (.v 2), .none⟩,
 ⟨.tmp, .nilck (.t 0), .none⟩,
 ⟨.tmp, .fadr 0 (.t 0), .none⟩,
 ⟨.tmp, .load1 (.t 0), .none⟩,
 ⟨.tmp, .bin .eql (.t 0) (.c (.int .i64 (.ofNat 2))), .none⟩]) (
 .cond (.t 0) (
 .seq (.reg [⟨(.var 0), .move (.c (.int .i64 (.ofNat 0))), .none⟩]) (
 .ret)) (
 .skip))) (
 .seq (.reg [⟨.tmp, .move (.v 1), .none⟩,
 ⟨.tmp, .call 14 [(.t 0)], .none⟩,
 ⟨(.var 3), .move (.t 0), .none⟩]) (
 .seq (.seq (.reg [⟨.tmp, .move (.v 3), .none⟩]) (
 .cond (.t 0) (
 .seq (.reg [⟨.tmp, .move (.v 2), .none⟩,
 ⟨.tmp, .nilck (.t 0), .none⟩,
 ⟨.tmp, .fadr 0 (.t 0), .none⟩,
 ⟨.no, .store 1 (.t 0) (.c (.int .i64 (.ofNat 2))), .none⟩]) (
 .seq (.seq (.reg [⟨.tmp, .move (.v 1), .none⟩,
 ⟨.tmp, .bin .eql (.t 0) (.c (.str 3 9602786)), .none⟩]) (
 .cond (.t 0) (
 .reg [⟨.tmp, .move (.v 2), .none⟩,
 ⟨.tmp, .nilck (.t 0), .none⟩,
 ⟨.tmp, .fadr 1 (.t 0), .none⟩,
 ⟨.no, .store 1 (.t 0) (.c (.str 2 15917)), .none⟩]) (
 .skip))) (
 .seq (.seq (.reg [⟨.tmp, .move (.v 1), .none⟩,
 ⟨.tmp, .bin .eql (.t 0) (.c (.str 2 48078)), .none⟩]) (
 .cond (.t 0) (
 .reg [⟨.tmp, .move (.v 2), .none⟩,
 ⟨.tmp, .nilck (.t 0), .none⟩,
 ⟨.tmp, .fadr 1 (.t 0), .none⟩,
 ⟨.no, .store 1 (.t 0) (.c (.str 1 92)), .none⟩]) (
 .skip))) (
 .seq (.reg [⟨(.var 0), .move (.c (.int .i64 (.ofNat 0))), .none⟩]) (
 .ret))))) (
 .skip))) (
 .seq (.reg [⟨.tmp, .move (.v 1), .none⟩,
 ⟨.tmp, .call 93 [(.t 0)], .none⟩,
 ⟨(.var 4), .move (.t 0), .none⟩]) (
 .seq (.seq (.reg [⟨.tmp, .move (.v 4), .none⟩]) (
 .cond (.t 0) (
 .seq (.reg [⟨.tmp, .move (.v 2), .none⟩,
 ⟨.tmp, .nilck (.t 0), .none⟩,
 ⟨.tmp, .fadr 0 (.t 0), .none⟩,
 ⟨.no, .store 1 (.t 0) (.c (.int .i64 (.ofNat 3))), .none⟩]) (
 .seq (.seq (.reg [⟨.tmp, .move (.v 1), .none⟩,
 ⟨.tmp, .len true (.t 0), .none⟩,
 ⟨.tmp, .bin .gtr (.t 0) (.c (.int .i64 (.ofNat 9))), .none⟩]) (
 .cond (.t 0) (
 .seq (.reg [⟨(.var 0), .move (.c (.int .i64 (.ofNat 41))), .none⟩]) (
 .ret)) (
 .skip))) (
 .seq (.reg [⟨(.var 0), .move (.c (.int .i64 (.ofNat 0))), .none⟩]) (
 .ret)))) (
 .skip))) (
 .seq (.reg [⟨.tmp, .move (.v 2), .none⟩,
 ⟨.tmp, .nilck (.t 0), .none⟩,
 ⟨.tmp, .fadr 0 (.t 0), .none⟩,
 ⟨.no, .store 1 (.t 0) (.c (.int .i64 (.ofNat 1))), .none⟩]) (
 .seq (.seq (.reg [⟨.tmp, .move (.v 1), .none⟩,
 ⟨.tmp, .len true (.t 0), .none⟩,
 ⟨.tmp, .bin .gtr (.t 0) (.c (.int .i64 (.ofNat 60))), .none⟩]) (
 .cond (.t 0) (
 .seq (.reg [⟨(.var 0), .move (.c (.int .i64 (.ofNat 2))), .none⟩]) (
 .ret)) (
 .skip))) (
 .seq (.reg [⟨.tmp, .move (.v 1), .none⟩,
 ⟨.tmp, .call 94 [(.t 0)], .none⟩,
 ⟨(.var 5), .move (.t 0), .none⟩]) (
 .seq (.seq (.reg [⟨.tmp, .move (.v 5), .none⟩]) (
 .cond (.t 0) (
 .seq (.reg [⟨(.var 0), .move (.c (.int .i64 (.ofNat 41))), .none⟩]) (
 .ret)) (
 .skip))) (
 .seq (.reg [⟨(.var 0), .move (.c (.int .i64 (.ofNat 0))), .none⟩]) (
 .ret))))))))))),
 [.opd (.v 0)], 6, .none⟩
/-- (*telamon/telamonref12.layer).put -/
def vm45 : List Nat := [0, 6, 8, 1, 2, 3]

def d45 : DF := ⟨[.some 0, .some 6, .some 8, .some 1, .some 2, .some 3],
 .seq (.reg [⟨(.var 1), .box 5 (.v 4), .none⟩]) (
 .seq (.seq (.reg [⟨.tmp, .move (.v 0), .none⟩,
 ⟨.tmp, .nilck (.t 0), .none⟩,
 ⟨.tmp, .fadr 2 (.t 0), .none⟩,
 ⟨.tmp, .load1 (.t 0), .none⟩,
 ⟨.tmp, .bin .neq (.t 0) (.c (.int .i64 (.ofNat 0))), .none⟩]) (
 .cond (.t 0) (
 .ret) (
 .skip))) (
 .seq (.seq (.reg [⟨.tmp, .move (.v 0), .none⟩,
 ⟨.tmp, .nilck (.t 0), .none⟩,
 ⟨.tmp, .fadr 0 (.t 0), .none⟩,
 ⟨.tmp, .load1 (.t 0), .none⟩,
 ⟨.tmp, .len false (.t 0), .none⟩,
 ⟨.tmp, .bin .geq (.t 0) (.c (.int .i64 (.ofNat 60000))), .none⟩]) (
 .cond (.t 0) (
 .seq (.reg [⟨.tmp, .move (.v 0), .none⟩,
 ⟨.tmp, .nilck (.t 0), .none⟩,
 ⟨.tmp, .fadr 2 (.t 0), .none⟩,
 ⟨.no, .store 1 (.t 0) (.c (.int .i64 (.ofNat 2))), .none⟩]) (
 .seq (.reg [⟨.tmp, .move (.v 0), .none⟩,
 ⟨.tmp, .fadr 2 (.v 1), .none⟩,
 ⟨.tmp, .load1 (.t 0), .none⟩,
 ⟨.tmp, .nilck (.t 2), .none⟩,
 ⟨.tmp, .fadr 3 (.t 0), .none⟩,
 ⟨.no, .store 1 (.t 0) (.t 2), .none⟩]) (
 .ret))) (
 .skip))) (
 .seq (.reg [⟨.tmp, .move (.v 3), .none⟩,
 ⟨.tmp, .fadr 2 (.v 1), .none⟩,
 ⟨.tmp, .load1 (.t 0), .none⟩,
 ⟨.tmp, .fadr 3 (.v 1), .none⟩,
 ⟨.tmp, .load1 (.t 0), .none⟩,
 ⟨.tmp, .fadr 4 (.v 1), .none⟩,
 ⟨.tmp, .load1 (.t 0), .none⟩,
 ⟨.tmp, .build [.int .i64 (.ofNat 0), .str 0 0, .int .i64 (.ofNat 0), .int .i64 (.ofNat 0), .int .i64 (.ofNat 0)] [(0, 1, (.t 6)), (2, 1, (.t 4)), (3, 1, (.t 2)), (4, 1, (.t 0))], .none⟩,
 ⟨(.var 2), .alloc [.int .i64 (.ofNat 0), .str 0 0, .int .i64 (.ofNat 0), .int .i64 (.ofNat 0), .int .i64 (.ofNat 0)], .none⟩,
 ⟨.no, .store 5 (.v 2) (.t 0), .none⟩]) (
 .seq (.seq (.reg [⟨.tmp, .move (.v 5), .none⟩]) (
 .cond (.t 0) (
 .reg [⟨.tmp, .fadr 1 (.v 1), .none⟩,
 ⟨.tmp, .load1 (.t 0), .none⟩,
 ⟨.tmp, .fadr 1 (.v 2), .none⟩,
 ⟨.no, .store 1 (.t 0) (.t 1), .none⟩]) (
 .skip))) (
 .reg [⟨.tmp, .move (.v 0), .none⟩,
 ⟨.tmp, .move (.v 0), .none⟩,
 ⟨.tmp, .nilck (.t 0), .none⟩,
 ⟨.tmp, .fadr 0 (.t 0), .none⟩,
 ⟨.tmp, .load1 (.t 0), .none⟩,
 ⟨.tmp, .loadN 5 (.v 2), .none⟩,
 ⟨.tmp, .buildS 5 [[.int .i64 (.ofNat 0), .str 0 0, .int .i64 (.ofNat 0), .int .i64 (.ofNat 0), .int .i64 (.ofNat 0)]] [(0, (.t 0))], .none⟩,
 ⟨.tmp, .append 5 48 (.t 2) (.t 0), .none⟩,
 ⟨.tmp, .nilck (.t 7), .none⟩,
 ⟨.tmp, .fadr 0 (.t 0), .none⟩,
 ⟨.no, .store 1 (.t 0) (.t 2), .none⟩]))))),
 [], 6, .none⟩
/-- (*telamon/telamonref12.layer).push -/
def vm46 : List Nat := [0, 4, 5, 1, 2]

def d46 : DF := ⟨[.some 0, .some 4, .some 5, .some 1, .some 2],
 .seq (.reg [⟨(.var 1), .box 4 (.v 3), .none⟩,
 ⟨(.var 2), .box 5 (.v 4), .none⟩]) (
 .seq (.seq (.reg [⟨.tmp, .move (.v 0), .none⟩,
 ⟨.tmp, .nilck (.t 0), .none⟩,
 ⟨.tmp, .fadr 1 (.t 0), .none⟩,
 ⟨.tmp, .load1 (.t 0), .none⟩,
 ⟨.tmp, .len false (.t 0), .none⟩,
 ⟨.tmp, .bin .geq (.t 0) (.c (.int .i64 (.ofNat 60))), .none⟩,
 ⟨.tmp, .move (.t 0), .none⟩,
 ⟨.tmp, .move (.v 0), .some ((.t 0), true)⟩,
 ⟨.tmp, .nilck (.t 0), .some ((.t 1), true)⟩,
 ⟨.tmp, .fadr 2 (.t 0), .some ((.t 2), true)⟩,
 ⟨.tmp, .load1 (.t 0), .some ((.t 3), true)⟩,
 ⟨.tmp, .bin .eql (.t 0) (.c (.int .i64 (.ofNat 0))), .some ((.t 4), true)⟩,
 ⟨.tmp, .pick (.t 5) (.t 0) (.c (.bool false)), .none⟩]) (
 .cond (.t 0) (
 .seq (.reg [⟨.tmp, .move (.v 0), .none⟩,
 ⟨.tmp, .nilck (.t 0), .none⟩,
 ⟨.tmp, .fadr 2 (.t 0), .none⟩,
 ⟨.no, .store 1 (.t 0) (.c (.int .i64 (.ofNat 2))), .none⟩]) (
 .seq (.reg [⟨.tmp, .move (.v 0), .none⟩,
 ⟨.tmp, .fadr 2 (.v 2), .none⟩,
 ⟨.tmp, .load1 (.t 0), .none⟩,
 ⟨.tmp, .nilck (.t 2), .none⟩,
 ⟨.tmp, .fadr 3 (.t 0), .none⟩,
 ⟨.no, .store 1 (.t 0) (.t 2), .none⟩]) (
 .ret))) (
 .skip))) (
 .reg [⟨.tmp, .move (.v 0), .none⟩,
 ⟨.tmp, .move (.v 0), .none⟩,
 ⟨.tmp, .nilck (.t 0), .none⟩,
 ⟨.tmp, .fadr 1 (.t 0), .none⟩,
 ⟨.tmp, .load1 (.t 0), .none⟩,
 ⟨.tmp, .loadN 4 (.v 1), .none⟩,
 ⟨.tmp, .buildS 4 [[.int .i64 (.ofNat 0), .bool false, .int .i64 (.ofNat 0), .bool false]] [(0, (.t 0))], .none⟩,
 ⟨.tmp, .append 4 32 (.t 2) (.t 0), .none⟩,
 ⟨.tmp, .nilck (.t 7), .none⟩,
 ⟨.tmp, .fadr 1 (.t 0), .none⟩,
 ⟨.no, .store 1 (.t 0) (.t 2), .none⟩])),
 [], 5, .none⟩
/-- (*telamon/telamonref12.layer).pop -/
def vm47 : List Nat := [0, 4, 1, 2]

def d47 : DF := ⟨[.some 0, .some 4, .some 1, .some 2],
 .seq (.reg [⟨(.var 1), .box 5 (.v 2), .none⟩]) (
 .seq (.reg [⟨.tmp, .move (.v 0), .none⟩,
 ⟨.tmp, .loadN 5 (.v 1), .none⟩,
 ⟨.tmp, .move (.v 3), .none⟩,
 ⟨.tmp, .call 45 [(.t 2), (.c (.int .i64 (.ofNat 5))), (.t 1), (.t 0)], .none⟩]) (
 .reg [⟨.tmp, .move (.v 0), .none⟩,
 ⟨.tmp, .move (.v 0), .none⟩,
 ⟨.tmp, .nilck (.t 0), .none⟩,
 ⟨.tmp, .fadr 1 (.t 0), .none⟩,
 ⟨.tmp, .load1 (.t 0), .none⟩,
 ⟨.tmp, .move (.v 0), .none⟩,
 ⟨.tmp, .nilck (.t 0), .none⟩,
 ⟨.tmp, .fadr 1 (.t 0), .none⟩,
 ⟨.tmp, .load1 (.t 0), .none⟩,
 ⟨.tmp, .len false (.t 0), .none⟩,
 ⟨.tmp, .bin .sub (.t 0) (.c (.int .i64 (.ofNat 1))), .none⟩,
 ⟨.tmp, .slcS 4 (.t 6) .none (.some (.t 0)) .none, .none⟩,
 ⟨.tmp, .nilck (.t 11), .none⟩,
 ⟨.tmp, .fadr 1 (.t 0), .none⟩,
 ⟨.no, .store 1 (.t 0) (.t 2), .none⟩])),
 [], 4, .none⟩
/-- (*telamon/telamonref12.layer).token -/
def vm48 : List Nat := [0, 3, 4, 5, 1]

def d48 : DF := ⟨[.some 0, .some 3, .some 4, .some 5, .some 1],
 .seq (.reg [⟨(.var 1), .box 5 (.v 4), .none⟩,
 ⟨(.var 2), .move (.c (.bool false)), .none⟩]) (
 .seq (.seq (.reg [⟨.tmp, .fadr 0 (.v 1), .none⟩,
 ⟨.tmp, .load1 (.t 0), .none⟩,
 ⟨.tmp, .bin .neq (.t 0) (.c (.int .i64 (.ofNat 2))), .none⟩]) (
 .cond (.t 0) (
 .seq (.reg [⟨(.var 2), .move (.c (.bool false)), .none⟩]) (
 .ret)) (
 .skip))) (
 .seq (.seq (.reg [⟨.tmp, .fadr 1 (.v 1), .none⟩,
 ⟨.tmp, .load1 (.t 0), .none⟩,
 ⟨.tmp, .bin .eql (.t 0) (.c (.str 1 59)), .none⟩]) (
 .cond (.t 0) (
 .seq (.reg [⟨.tmp, .move (.v 0), .none⟩,
 ⟨.tmp, .loadN 5 (.v 1), .none⟩,
 ⟨.tmp, .call 45 [(.t 1), (.c (.int .i64 (.ofNat 6))), (.t 0), (.c (.bool true))], .none⟩]) (
 .seq (.reg [⟨(.var 2), .move (.c (.bool true)), .none⟩]) (
 .ret))) (
 .skip))) (
 .seq (.seq (.reg [⟨.tmp, .move (.v 0), .none⟩,
 ⟨.tmp, .nilck (.t 0), .none⟩,
 ⟨.tmp, .fadr 1 (.t 0), .none⟩,
 ⟨.tmp, .load1 (.t 0), .none⟩,
 ⟨.tmp, .len false (.t 0), .none⟩,
 ⟨.tmp, .bin .eql (.t 0) (.c (.int .i64 (.ofNat 0))), .none⟩]) (
 .cond (.t 0) (
 .seq (.reg [⟨(.var 2), .move (.c (.bool false)), .none⟩]) (
 .ret)) (
 .skip))) (
 .seq (.reg [⟨.tmp, .move (.v 0), .none⟩,
 ⟨.tmp, .nilck (.t 0), .none⟩,
 ⟨.tmp, .fadr 1 (.t 0), .none⟩,
 ⟨.tmp, .load1 (.t 0), .none⟩,
 ⟨.tmp, .len false (.t 0), .none⟩,
 ⟨.tmp, .bin .sub (.t 0) (.c (.int .i64 (.ofNat 1))), .none⟩,
 ⟨(.var 3), .move (.t 0), .none⟩]) (
 .seq (.seq (.reg [⟨.tmp, .move (.v 0), .none⟩,
 ⟨.tmp, .nilck (.t 0), .none⟩,
 ⟨.tmp, .fadr 1 (.t 0), .none⟩,
 ⟨.tmp, .load1 (.t 0), .none⟩,
 ⟨.tmp, .move (.v 3), .none⟩,
 ⟨.tmp, .idxS 4 (.t 1) (.t 0), .none⟩,
 ⟨.tmp, .fadr 3 (.t 0), .none⟩,
 ⟨.tmp, .load1 (.t 0), .none⟩,
 ⟨.tmp, .not (.t 0), .none⟩]) (
 .cond (.t 0) (
 .seq (.reg [⟨(.var 2), .move (.c (.bool false)), .none⟩]) (
 .ret)) (
 .skip))) (
 .seq (.seq (.reg [⟨.tmp, .fadr 1 (.v 1), .none⟩,
 ⟨.tmp, .load1 (.t 0), .none⟩,
 ⟨.tmp, .bin .eql (.t 0) (.c (.str 1 123)), .none⟩]) (
 .cond (.t 0) (
 .reg [⟨.tmp, .move (.v 0), .none⟩,
 ⟨.tmp, .nilck (.t 0), .none⟩,
 ⟨.tmp, .fadr 1 (.t 0), .none⟩,
 ⟨.tmp, .load1 (.t 0), .none⟩,
 ⟨.tmp, .move (.v 3), .none⟩,
 ⟨.tmp, .idxS 4 (.t 1) (.t 0), .none⟩,
 ⟨.tmp, .fadr 2 (.t 0), .none⟩,
 ⟨.tmp, .load1 (.t 0), .none⟩,
 ⟨.tmp, .bin .add (.t 0) (.c (.int .i64 (.ofNat 1))), .none⟩,
 ⟨.tmp, .idxS 4 (.t 5) (.t 4), .none⟩,
 ⟨.tmp, .fadr 2 (.t 0), .none⟩,
 ⟨.no, .store 1 (.t 0) (.t 2), .none⟩]) (
 .skip))) (
 .seq (.seq (.reg [⟨.tmp, .fadr 1 (.v 1), .none⟩,
 ⟨.tmp, .load1 (.t 0), .none⟩,
 ⟨.tmp, .bin .eql (.t 0) (.c (.str 1 125)), .none⟩]) (
 .cond (.t 0) (
 .seq (.seq (.reg [⟨.tmp, .move (.v 0), .none⟩,
 ⟨.tmp, .nilck (.t 0), .none⟩,
 ⟨.tmp, .fadr 1 (.t 0), .none⟩,
 ⟨.tmp, .load1 (.t 0), .none⟩,
 ⟨.tmp, .move (.v 3), .none⟩,
 ⟨.tmp, .idxS 4 (.t 1) (.t 0), .none⟩,
 ⟨.tmp, .fadr 2 (.t 0), .none⟩,
 ⟨.tmp, .load1 (.t 0), .none⟩,
 ⟨.tmp, .bin .eql (.t 0) (.c (.int .i64 (.ofNat 0))), .none⟩]) (
 .cond (.t 0) (
 .seq (.reg [⟨.tmp, .move (.v 0), .none⟩,
 ⟨.tmp, .loadN 5 (.v 1), .none⟩,
 ⟨.tmp, .call 47 [(.t 1), (.t 0), (.c (.bool true))], .none⟩]) (
 .seq (.reg [⟨(.var 2), .move (.c (.bool true)), .none⟩]) (
 .ret))) (
 .skip))) (
 .reg [⟨.tmp, .move (.v 0), .none⟩,
 ⟨.tmp, .nilck (.t 0), .none⟩,
 ⟨.tmp, .fadr 1 (.t 0), .none⟩,
 ⟨.tmp, .load1 (.t 0), .none⟩,
 ⟨.tmp, .move (.v 3), .none⟩,
 ⟨.tmp, .idxS 4 (.t 1) (.t 0), .none⟩,
 ⟨.tmp, .fadr 2 (.t 0), .none⟩,
 ⟨.tmp, .load1 (.t 0), .none⟩,
 ⟨.tmp, .bin .sub (.t 0) (.c (.int .i64 (.ofNat 1))), .none⟩,
 ⟨.tmp, .idxS 4 (.t 5) (.t 4), .none⟩,
 ⟨.tmp, .fadr 2 (.t 0), .none⟩,
 ⟨.no, .store 1 (.t 0) (.t 2), .none⟩])) (
 .skip))) (
 .seq (.reg [⟨(.var 2), .move (.c (.bool false)), .none⟩]) (
 .ret))))))))),
 [.opd (.v 2)], 5, .none⟩
/-- telamon/telamonref12.opens -/
def vm49 : List Nat := [1, 2, 0]

def d49 : DF := ⟨[.some 1, .some 2, .some 0],
 .seq (.reg [⟨(.var 0), .box 5 (.v 2), .none⟩,
 ⟨(.var 1), .move (.c (.bool false)), .none⟩]) (
 .seq (.reg [⟨.tmp, .fadr 0 (.v 0), .none⟩,
 ⟨.tmp, .load1 (.t 0), .none⟩,
 ⟨.tmp, .bin .eql (.t 0) (.c (.int .i64 (.ofNat 2))), .none⟩,
 ⟨.tmp, .move (.t 0), .none⟩,
 ⟨.tmp, .fadr 1 (.v 0), .some ((.t 0), true)⟩,
 ⟨.tmp, .load1 (.t 0), .some ((.t 1), true)⟩,
 ⟨.tmp, .bin .eql (.t 0) (.c (.str 5 435710945399)), .some ((.t 2), true)⟩,
 ⟨.tmp, .move (.t 0), .some ((.t 3), true)⟩,
 ⟨.tmp, .fadr 1 (.v 0), .some ((.t 0), false)⟩,
 ⟨.tmp, .load1 (.t 0), .some ((.t 1), false)⟩,
 ⟨.tmp, .bin .eql (.t 0) (.c (.str 3 7628140)), .some ((.t 2), false)⟩,
 ⟨.tmp, .pick (.t 3) (.c (.bool true)) (.t 0), .some ((.t 7), true)⟩,
 ⟨.tmp, .move (.t 0), .some ((.t 8), true)⟩,
 ⟨.tmp, .fadr 1 (.v 0), .some ((.t 0), false)⟩,
 ⟨.tmp, .load1 (.t 0), .some ((.t 1), false)⟩,
 ⟨.tmp, .bin .eql (.t 0) (.c (.str 9 1871507254677525983088)), .some ((.t 2), false)⟩,
 ⟨.tmp, .pick (.t 3) (.c (.bool true)) (.t 0), .some ((.t 12), true)⟩,
 ⟨.tmp, .move (.t 0), .some ((.t 13), true)⟩,
 ⟨.tmp, .fadr 1 (.v 0), .some ((.t 0), false)⟩,
 ⟨.tmp, .load1 (.t 0), .some ((.t 1), false)⟩,
 ⟨.tmp, .bin .eql (.t 0) (.c (.str 7 28556934595048048)), .some ((.t 2), false)⟩,
 ⟨.tmp, .pick (.t 3) (.c (.bool true)) (.t 0), .some ((.t 17), true)⟩,
 ⟨.tmp, .pick (.t 18) (.t 0) (.c (.bool false)), .none⟩,
 ⟨(.var 1), .move (.t 0), .none⟩]) (
 .ret)),
 [.opd (.v 1)], 3, .none⟩
/-- (*telamon/telamonref12.Parser).kind -/
def vm50 : List Nat := [0, 4, 1]

def d50 : DF := ⟨[.some 0, .some 4, .some 1],
 .seq (.reg [⟨(.var 1), .move (.c (.bool false)), .none⟩]) (
 .seq (.reg [⟨.tmp, .move (.v 0), .none⟩,
 ⟨.tmp, .nilck (.t 0), .none⟩,
 ⟨.tmp, .fadr 2 (.t 0), .none⟩,
 ⟨.tmp, .load1 (.t 0), .none⟩,
 ⟨.tmp, .bin .eql (.t 0) (.c (.int .i64 (.ofNat 0))), .none⟩,
 ⟨.tmp, .move (.t 0), .none⟩,
 ⟨.tmp, .move (.v 0), .some ((.t 0), true)⟩,
 ⟨.tmp, .call 95 [(.t 0)], .some ((.t 1), true)⟩,
 ⟨.tmp, .fld1 0 (.t 0), .some ((.t 2), true)⟩,
 ⟨.tmp, .move (.v 2), .some ((.t 3), true)⟩,
 ⟨.tmp, .bin .eql (.t 1) (.t 0), .some ((.t 4), true)⟩,
 ⟨.tmp, .pick (.t 5) (.t 0) (.c (.bool false)), .none⟩,
 ⟨(.var 1), .move (.t 0), .none⟩]) (
 .ret)),
 [.opd (.v 1)], 3, .none⟩
/-- (*telamon/telamonref12.Parser).fail -/
def vm51 : List Nat := [0, 1]

def d51 : DF := ⟨[.some 0, .some 1],
 .seq (.seq (.reg [⟨.tmp, .move (.v 0), .none⟩,
 ⟨.tmp, .nilck (.t 0), .none⟩,
 ⟨.tmp, .fadr 2 (.t 0), .none⟩,
 ⟨.tmp, .load1 (.t 0), .none⟩,
 ⟨.tmp, .bin .eql (.t 0) (.c (.int .i64 (.ofNat 0))), .none⟩]) (
 .cond (.t 0) (
 .seq (.reg [⟨.tmp, .move (.v 0), .none⟩,
 ⟨.tmp, .move (.v 1), .none⟩,
 ⟨.tmp, .nilck (.t 1), .none⟩,
 ⟨.tmp, .fadr 2 (.t 0), .none⟩,
 ⟨.no, .store 1 (.t 0) (.t 2), .none⟩]) (
 .reg [⟨.tmp, .move (.v 0), .none⟩,
 ⟨.tmp, .move (.v 0), .none⟩,
 ⟨.tmp, .nilck (.t 0), .none⟩,
 ⟨.tmp, .fadr 0 (.t 0), .none⟩,
 ⟨.tmp, .load1 (.t 0), .none⟩,
 ⟨.tmp, .move (.v 0), .none⟩,
 ⟨.tmp, .nilck (.t 0), .none⟩,
 ⟨.tmp, .fadr 1 (.t 0), .none⟩,
 ⟨.tmp, .load1 (.t 0), .none⟩,
 ⟨.tmp, .idxS 5 (.t 4) (.t 0), .none⟩,
 ⟨.tmp, .fadr 2 (.t 0), .none⟩,
 ⟨.tmp, .load1 (.t 0), .none⟩,
 ⟨.tmp, .nilck (.t 11), .none⟩,
 ⟨.tmp, .fadr 3 (.t 0), .none⟩,
 ⟨.no, .store 1 (.t 0) (.t 2), .none⟩])) (
 .skip))) (
 .reg [⟨.tmp, .move (.v 0), .none⟩,
 ⟨.tmp, .move (.v 0), .none⟩,
 ⟨.tmp, .nilck (.t 0), .none⟩,
 ⟨.tmp, .fadr 0 (.t 0), .none⟩,
 ⟨.tmp, .load1 (.t 0), .none⟩,
 ⟨.tmp, .len false (.t 0), .none⟩,
 ⟨.tmp, .bin .sub (.t 0) (.c (.int .i64 (.ofNat 1))), .none⟩,
 ⟨.tmp, .nilck (.t 6), .none⟩,
 ⟨.tmp, .fadr 1 (.t 0), .none⟩,
 ⟨.no, .store 1 (.t 0) (.t 2), .none⟩]),
 [], 2, .none⟩
/-- (*telamon/telamonref12.Parser).item -/
def vm52 : List Nat := [0, 3, 2, 19, 4, 115, 61, 5, 6, 7, 8]
def b52_0 : DC :=
 .seq (.seq (.reg [⟨.tmp, .move (.v 0), .none⟩,
 ⟨.tmp, .nilck (.t 0), .none⟩,
 ⟨.tmp, .fadr 2 (.t 0), .none⟩,
 ⟨.tmp, .load1 (.t 0), .none⟩,
 ⟨.tmp, .bin .eql (.t 0) (.c (.int .i64 (.ofNat 0))), .none⟩,
 ⟨.tmp, .move (.t 0), .none⟩,
 ⟨.tmp, .move (.v 0), .some ((.t 0), true)⟩,
 ⟨.tmp, .call 95 [(.t 0)], .some ((.t 1), true)⟩,
 ⟨.tmp, .fld1 0 (.t 0), .some ((.t 2), true)⟩,
 ⟨.tmp, .bin .eql (.t 0) (.c (.int .i64 (.ofNat 1))), .some ((.t 3), true)⟩,
 ⟨.tmp, .pick (.t 4) (.t 0) (.c (.bool false)), .none⟩]) (
 .cond (.t 0) (
 .skip) (
 .exit 1))) (
 .block 2 (
 .reg [⟨.tmp, .fadr 4 (.v 1), .none⟩,
 ⟨.tmp, .load1 (.t 0), .none⟩,
 ⟨.tmp, .move (.v 0), .none⟩,
 ⟨.tmp, .call 96 [(.t 0)], .none⟩,
 ⟨.no, .again1 (.t 3) (.t 2), .none⟩,
 ⟨.tmp, .buildS 1 [[.str 0 0]] [(0, (.t 0))], .none⟩,
 ⟨.tmp, .append 1 16 (.t 3) (.t 0), .none⟩,
 ⟨.tmp, .fadr 4 (.v 1), .none⟩,
 ⟨.no, .store 1 (.t 0) (.t 1), .none⟩]))
def r52_1 : DC :=
 .seq (.reg [⟨.tmp, .loadN 26 (.v 1), .none⟩,
 ⟨.no, .store 26 (.v 2) (.t 0), .none⟩]) (
 .ret)
def r52_2 : DC :=
 .seq (.reg [⟨.tmp, .move (.v 0), .none⟩,
 ⟨.tmp, .call 104 [(.t 0), (.c (.int .i64 (.ofNat 0))), (.c (.bool false))], .none⟩,
 ⟨(.var 9), .move (.t 0), .none⟩]) (
 .seq (.seq (.reg [⟨.tmp, .move (.v 9), .none⟩]) (
 .cond (.t 0) (
 .seq (.reg [⟨.tmp, .move (.v 0), .none⟩,
 ⟨.tmp, .call 105 [(.t 0)], .none⟩,
 ⟨.no, .store 26 (.v 2) (.t 0), .none⟩]) (
 .ret)) (
 .skip))) (
 .seq (.reg [⟨.tmp, .fadr 0 (.v 1), .none⟩,
 ⟨.no, .store 1 (.t 0) (.c (.int .i64 (.ofNat 2))), .none⟩]) (
 .seq (.reg [⟨.tmp, .move (.v 0), .none⟩,
 ⟨.tmp, .call 106 [(.t 0)], .none⟩,
 ⟨.tmp, .fadr 13 (.v 1), .none⟩,
 ⟨.no, .store 7 (.t 0) (.t 1), .none⟩]) (
 .seq (.reg [⟨.tmp, .move (.v 0), .none⟩,
 ⟨.tmp, .call 107 [(.t 0), (.c (.str 1 61))], .none⟩,
 ⟨(.var 10), .move (.t 0), .none⟩]) (
 .seq (.seq (.reg [⟨.tmp, .move (.v 10), .none⟩]) (
 .cond (.t 0) (
 .reg [⟨.tmp, .move (.v 0), .none⟩,
 ⟨.tmp, .call 99 [(.t 0)], .none⟩,
 ⟨.tmp, .fadr 6 (.v 1), .none⟩,
 ⟨.no, .store 7 (.t 0) (.t 1), .none⟩]) (
 .skip))) (
 .seq (.reg [⟨.tmp, .loadN 26 (.v 1), .none⟩,
 ⟨.no, .store 26 (.v 2) (.t 0), .none⟩]) (
 .ret)))))))
def d52 : DF := ⟨[.some 0, .some 3, .some 2, .some 19, .some 4, .some 115, .some 61, .some 5, .some 6, .some 7, .some 8],
 .seq (.reg [⟨(.var 2), .alloc [.int .i64 (.ofNat 0), .int .i64 (.ofNat 0), .str 0 0, .str 0 0, .nils, .nils, .int .i64 (.ofNat 0), .int .i64 (.ofNat 0), .str 0 0, .bool false, .nils, .nils, .int .i64 (.ofNat 0), .int .i64 (.ofNat 0), .int .i64 (.ofNat 0), .str 0 0, .bool false, .nils, .nils, .int .i64 (.ofNat 0), .nils, .bool false, .nils, .nils, .nils, .int .i64 (.ofNat 0)], .none⟩]) (
 .seq (.reg [⟨.tmp, .move (.v 0), .none⟩,
 ⟨.tmp, .call 95 [(.t 0)], .none⟩,
 ⟨.tmp, .fld1 2 (.t 0), .none⟩,
 ⟨.tmp, .build [.int .i64 (.ofNat 0), .int .i64 (.ofNat 0), .str 0 0, .str 0 0, .nils, .nils, .int .i64 (.ofNat 0), .int .i64 (.ofNat 0), .str 0 0, .bool false, .nils, .nils, .int .i64 (.ofNat 0), .int .i64 (.ofNat 0), .int .i64 (.ofNat 0), .str 0 0, .bool false, .nils, .nils, .int .i64 (.ofNat 0), .nils, .bool false, .nils, .nils, .nils, .int .i64 (.ofNat 0)] [(25, 1, (.t 0))], .none⟩,
 ⟨(.var 1), .alloc [.int .i64 (.ofNat 0), .int .i64 (.ofNat 0), .str 0 0, .str 0 0, .nils, .nils, .int .i64 (.ofNat 0), .int .i64 (.ofNat 0), .str 0 0, .bool false, .nils, .nils, .int .i64 (.ofNat 0), .int .i64 (.ofNat 0), .int .i64 (.ofNat 0), .str 0 0, .bool false, .nils, .nils, .int .i64 (.ofNat 0), .nils, .bool false, .nils, .nils, .nils, .int .i64 (.ofNat 0)], .none⟩,
 ⟨.no, .store 26 (.v 1) (.t 0), .none⟩]) (
 .seq (.reg [⟨.tmp, .move (.v 0), .none⟩,
 ⟨.tmp, .call 95 [(.t 0)], .none⟩,
 ⟨(.var 4), .alloc [.int .i64 (.ofNat 0), .str 0 0, .int .i64 (.ofNat 0), .int .i64 (.ofNat 0), .int .i64 (.ofNat 0)], .none⟩,
 ⟨.no, .store 5 (.v 4) (.t 0), .none⟩]) (
 .seq (.seq (.reg [⟨.tmp, .fadr 0 (.v 4), .none⟩,
 ⟨.tmp, .load1 (.t 0), .none⟩,
 ⟨.tmp, .bin .eql (.t 0) (.c (.int .i64 (.ofNat 2))), .none⟩]) (
 .cond (.t 0) (
 .seq (.reg [⟨.tmp, .fadr 1 (.v 4), .none⟩,
 ⟨(.var 3), .load1 (.t 0), .none⟩]) (
 .block 0 (
 .seq (.reg [⟨.tmp, .bin .eql (.v 3) (.c (.str 4 1635017060)), .none⟩,
 ⟨.tmp, .move (.t 0), .none⟩]) (
 .cond (.t 0) (
 .seq (.reg [⟨.tmp, .move (.v 0), .none⟩,
 ⟨.tmp, .nilck (.t 0), .none⟩,
 ⟨.tmp, .fadr 1 (.t 0), .none⟩,
 ⟨.tmp, .load1 (.t 0), .none⟩,
 ⟨.tmp, .bin .add (.t 0) (.c (.int .i64 (.ofNat 1))), .none⟩,
 ⟨.tmp, .nilck (.t 4), .none⟩,
 ⟨.tmp, .fadr 1 (.t 0), .none⟩,
 ⟨.no, .store 1 (.t 0) (.t 2), .none⟩]) (
 .seq (.reg [⟨.tmp, .fadr 0 (.v 1), .none⟩,
 ⟨.no, .store 1 (.t 0) (.c (.int .i64 (.ofNat 3))), .none⟩]) (
 .seq (.reg [⟨.tmp, .move (.v 0), .none⟩,
 ⟨.tmp, .call 96 [(.t 0)], .none⟩,
 ⟨.tmp, .fadr 2 (.v 1), .none⟩,
 ⟨.no, .store 1 (.t 0) (.t 1), .none⟩]) (
 .seq (.reg [⟨.tmp, .move (.v 0), .none⟩,
 ⟨.tmp, .call 97 [(.t 0)], .none⟩,
 ⟨.tmp, .fadr 5 (.v 1), .none⟩,
 ⟨.no, .store 1 (.t 0) (.t 1), .none⟩]) (
 .seq (.reg [⟨.tmp, .move (.v 0), .none⟩,
 ⟨.tmp, .call 98 [(.t 0), (.c (.str 1 58))], .none⟩]) (
 .seq (.reg [⟨.tmp, .move (.v 0), .none⟩,
 ⟨.tmp, .call 99 [(.t 0)], .none⟩,
 ⟨.tmp, .fadr 6 (.v 1), .none⟩,
 ⟨.no, .store 7 (.t 0) (.t 1), .none⟩]) (
 .seq (.reg [⟨.tmp, .move (.v 0), .none⟩,
 ⟨.tmp, .call 98 [(.t 0), (.c (.str 5 435710945399))], .none⟩]) (
 .seq (.reg [⟨.tmp, .move (.v 0), .none⟩,
 ⟨.tmp, .call 100 [(.t 0)], .none⟩,
 ⟨.tmp, .fadr 20 (.v 1), .none⟩,
 ⟨.no, .store 1 (.t 0) (.t 1), .none⟩]) (
 .seq (.reg [⟨.tmp, .loadN 26 (.v 1), .none⟩,
 ⟨.no, .store 26 (.v 2) (.t 0), .none⟩]) (
 .ret)))))))))) (
 .seq (.reg [⟨.tmp, .bin .eql (.v 3) (.c (.str 9 1871507254677525983088)), .none⟩,
 ⟨.tmp, .move (.t 0), .none⟩]) (
 .cond (.t 0) (
 .seq (.reg [⟨.tmp, .move (.v 0), .none⟩,
 ⟨.tmp, .nilck (.t 0), .none⟩,
 ⟨.tmp, .fadr 1 (.t 0), .none⟩,
 ⟨.tmp, .load1 (.t 0), .none⟩,
 ⟨.tmp, .bin .add (.t 0) (.c (.int .i64 (.ofNat 1))), .none⟩,
 ⟨.tmp, .nilck (.t 4), .none⟩,
 ⟨.tmp, .fadr 1 (.t 0), .none⟩,
 ⟨.no, .store 1 (.t 0) (.t 2), .none⟩]) (
 .seq (.reg [⟨.tmp, .fadr 0 (.v 1), .none⟩,
 ⟨.no, .store 1 (.t 0) (.c (.int .i64 (.ofNat 4))), .none⟩]) (
 .seq (.reg [⟨.tmp, .move (.v 0), .none⟩,
 ⟨.tmp, .call 100 [(.t 0)], .none⟩,
 ⟨.tmp, .fadr 20 (.v 1), .none⟩,
 ⟨.no, .store 1 (.t 0) (.t 1), .none⟩]) (
 .seq (.reg [⟨.tmp, .loadN 26 (.v 1), .none⟩,
 ⟨.no, .store 26 (.v 2) (.t 0), .none⟩]) (
 .ret))))) (
 .seq (.seq (.reg [⟨.tmp, .bin .eql (.v 3) (.c (.str 7 28556934595048048)), .none⟩,
 ⟨(.var 6), .move (.t 0), .none⟩]) (
 .cond (.v 6) (
 .skip) (
 .reg [⟨.tmp, .bin .eql (.v 3) (.c (.str 6 111516500389741)), .none⟩,
 ⟨(.var 6), .move (.t 0), .none⟩]))) (
 .cond (.v 6) (
 .seq (.reg [⟨.tmp, .move (.v 0), .none⟩,
 ⟨.tmp, .nilck (.t 0), .none⟩,
 ⟨.tmp, .fadr 1 (.t 0), .none⟩,
 ⟨.tmp, .load1 (.t 0), .none⟩,
 ⟨.tmp, .bin .add (.t 0) (.c (.int .i64 (.ofNat 1))), .none⟩,
 ⟨.tmp, .nilck (.t 4), .none⟩,
 ⟨.tmp, .fadr 1 (.t 0), .none⟩,
 ⟨.no, .store 1 (.t 0) (.t 2), .none⟩]) (
 .seq (.reg [⟨.tmp, .fadr 0 (.v 1), .none⟩,
 ⟨.no, .store 1 (.t 0) (.c (.int .i64 (.ofNat 8))), .none⟩]) (
 .seq (.seq (.reg [⟨.tmp, .fadr 1 (.v 4), .none⟩,
 ⟨.tmp, .load1 (.t 0), .none⟩,
 ⟨.tmp, .bin .eql (.t 0) (.c (.str 6 111516500389741)), .none⟩]) (
 .cond (.t 0) (
 .seq (.reg [⟨.tmp, .fadr 0 (.v 1), .none⟩,
 ⟨.no, .store 1 (.t 0) (.c (.int .i64 (.ofNat 6))), .none⟩]) (
 .seq (.reg [⟨.tmp, .move (.v 0), .none⟩,
 ⟨.tmp, .call 96 [(.t 0)], .none⟩,
 ⟨.tmp, .fadr 2 (.v 1), .none⟩,
 ⟨.no, .store 1 (.t 0) (.t 1), .none⟩]) (
 .seq (.reg [⟨.tmp, .move (.v 0), .none⟩,
 ⟨.tmp, .call 97 [(.t 0)], .none⟩,
 ⟨.tmp, .fadr 5 (.v 1), .none⟩,
 ⟨.no, .store 1 (.t 0) (.t 1), .none⟩]) (
 .reg [⟨.tmp, .move (.v 0), .none⟩,
 ⟨.tmp, .call 98 [(.t 0), (.c (.str 5 435710945399))], .none⟩])))) (
 .skip))) (
 .seq (.reg [⟨.tmp, .move (.v 0), .none⟩,
 ⟨.tmp, .call 24 [(.t 0), (.c (.int .i64 (.ofNat 4)))], .none⟩]) (
 .seq (.seq (.reg [⟨.tmp, .move (.v 0), .none⟩,
 ⟨.tmp, .nilck (.t 0), .none⟩,
 ⟨.tmp, .fadr 2 (.t 0), .none⟩,
 ⟨.tmp, .load1 (.t 0), .none⟩,
 ⟨.tmp, .bin .neq (.t 0) (.c (.int .i64 (.ofNat 0))), .none⟩]) (
 .cond (.t 0) (
 .seq (.reg [⟨.tmp, .loadN 26 (.v 1), .none⟩,
 ⟨.no, .store 26 (.v 2) (.t 0), .none⟩]) (
 .ret)) (
 .skip))) (
 .seq (.reg [⟨.tmp, .move (.v 0), .none⟩,
 ⟨.tmp, .call 101 [(.t 0)], .none⟩,
 ⟨(.var 7), .move (.t 0), .none⟩]) (
 .seq (.seq (.reg [⟨.tmp, .move (.v 7), .none⟩,
 ⟨.tmp, .not (.t 0), .none⟩]) (
 .cond (.t 0) (
 .seq (.reg [⟨.tmp, .loadN 26 (.v 1), .none⟩,
 ⟨.no, .store 26 (.v 2) (.t 0), .none⟩]) (
 .ret)) (
 .skip))) (
 .seq (.reg [⟨.tmp, .move (.v 0), .none⟩,
 ⟨.tmp, .call 25 [(.t 0)], .none⟩,
 ⟨.tmp, .fadr 20 (.v 1), .none⟩,
 ⟨.no, .store 1 (.t 0) (.t 1), .none⟩]) (
 .seq (.reg [⟨.tmp, .move (.v 0), .none⟩,
 ⟨.tmp, .nilck (.t 0), .none⟩,
 ⟨.tmp, .fadr 4 (.t 0), .none⟩,
 ⟨.tmp, .load1 (.t 0), .none⟩,
 ⟨.tmp, .bin .sub (.t 0) (.c (.int .i64 (.ofNat 1))), .none⟩,
 ⟨.tmp, .nilck (.t 4), .none⟩,
 ⟨.tmp, .fadr 4 (.t 0), .none⟩,
 ⟨.no, .store 1 (.t 0) (.t 2), .none⟩]) (
 .seq (.reg [⟨.tmp, .move (.v 0), .none⟩,
 ⟨.tmp, .call 24 [(.t 0), (.c (.int .i64 (.ofNat 5)))], .none⟩]) (
 .seq (.reg [⟨.tmp, .loadN 26 (.v 1), .none⟩,
 ⟨.no, .store 26 (.v 2) (.t 0), .none⟩]) (
 .ret)))))))))))) (
 .seq (.reg [⟨.tmp, .bin .eql (.v 3) (.c (.str 4 1852141679)), .none⟩,
 ⟨.tmp, .move (.t 0), .none⟩]) (
 .cond (.t 0) (
 .seq (.reg [⟨.tmp, .move (.v 0), .none⟩,
 ⟨.tmp, .call 102 [(.t 0), (.v 1)], .none⟩]) (
 .seq (.reg [⟨.tmp, .loadN 26 (.v 1), .none⟩,
 ⟨.no, .store 26 (.v 2) (.t 0), .none⟩]) (
 .ret))) (
 .seq (.seq (.reg [⟨.tmp, .bin .eql (.v 3) (.c (.str 5 517164396137)), .none⟩,
 ⟨(.var 5), .move (.t 0), .none⟩]) (
 .cond (.v 5) (
 .skip) (
 .seq (.reg [⟨.tmp, .bin .eql (.v 3) (.c (.str 6 119264420195945)), .none⟩,
 ⟨(.var 5), .move (.t 0), .none⟩]) (
 .cond (.v 5) (
 .skip) (
 .reg [⟨.tmp, .bin .eql (.v 3) (.c (.str 6 125861489962601)), .none⟩,
 ⟨(.var 5), .move (.t 0), .none⟩]))))) (
 .cond (.v 5) (
 .seq (.reg [⟨.tmp, .move (.v 0), .none⟩,
 ⟨.tmp, .nilck (.t 0), .none⟩,
 ⟨.tmp, .fadr 1 (.t 0), .none⟩,
 ⟨.tmp, .load1 (.t 0), .none⟩,
 ⟨.tmp, .bin .add (.t 0) (.c (.int .i64 (.ofNat 1))), .none⟩,
 ⟨.tmp, .nilck (.t 4), .none⟩,
 ⟨.tmp, .fadr 1 (.t 0), .none⟩,
 ⟨.no, .store 1 (.t 0) (.t 2), .none⟩]) (
 .seq (.reg [⟨.tmp, .fadr 0 (.v 1), .none⟩,
 ⟨.no, .store 1 (.t 0) (.c (.int .i64 (.ofNat 5))), .none⟩]) (
 .seq (.reg [⟨.tmp, .fadr 1 (.v 4), .none⟩,
 ⟨.tmp, .load1 (.t 0), .none⟩,
 ⟨.tmp, .slcStr (.t 0) (.some (.c (.int .i64 (.ofNat 5)))) .none, .none⟩,
 ⟨.tmp, .fadr 3 (.v 1), .none⟩,
 ⟨.no, .store 1 (.t 0) (.t 1), .none⟩]) (
 .seq (.reg [⟨.tmp, .move (.v 0), .none⟩,
 ⟨.tmp, .call 50 [(.t 0), (.c (.int .i64 (.ofNat 3)))], .none⟩,
 ⟨(.var 8), .move (.t 0), .none⟩]) (
 .seq (.seq (.reg [⟨.tmp, .move (.v 8), .none⟩,
 ⟨.tmp, .not (.t 0), .none⟩]) (
 .cond (.t 0) (
 .seq (.reg [⟨.tmp, .move (.v 0), .none⟩,
 ⟨.tmp, .call 51 [(.t 0), (.c (.int .i64 (.ofNat 41)))], .none⟩]) (
 .seq (.reg [⟨.tmp, .loadN 26 (.v 1), .none⟩,
 ⟨.no, .store 26 (.v 2) (.t 0), .none⟩]) (
 .ret))) (
 .skip))) (
 .seq (.reg [⟨.tmp, .move (.v 0), .none⟩,
 ⟨.tmp, .call 95 [(.t 0)], .none⟩,
 ⟨.tmp, .fld1 1 (.t 0), .none⟩,
 ⟨.tmp, .call 103 [(.t 0)], .none⟩,
 ⟨.tmp, .fadr 1 (.v 1), .none⟩,
 ⟨.no, .store 1 (.t 0) (.t 1), .none⟩]) (
 .seq (.reg [⟨.tmp, .move (.v 0), .none⟩,
 ⟨.tmp, .nilck (.t 0), .none⟩,
 ⟨.tmp, .fadr 1 (.t 0), .none⟩,
 ⟨.tmp, .load1 (.t 0), .none⟩,
 ⟨.tmp, .bin .add (.t 0) (.c (.int .i64 (.ofNat 1))), .none⟩,
 ⟨.tmp, .nilck (.t 4), .none⟩,
 ⟨.tmp, .fadr 1 (.t 0), .none⟩,
 ⟨.no, .store 1 (.t 0) (.t 2), .none⟩]) (
 .seq (.reg [⟨.tmp, .move (.v 0), .none⟩,
 ⟨.tmp, .call 96 [(.t 0)], .none⟩,
 ⟨.tmp, .buildS 1 [[.str 0 0]] [(0, (.t 0))], .none⟩,
 ⟨.tmp, .fadr 4 (.v 1), .none⟩,
 ⟨.no, .store 1 (.t 0) (.t 1), .none⟩]) (
 .seq (.block 1 (
 .loop b52_0)) r52_1))))))))) (
 .skip))))))))))))) (
 .skip))) r52_2))),
 [.cellN 26 (.v 2)], 11, .none⟩
/-- telamon/telamonref12.all -/
def vm53 : List Nat := [6, 5, 3, 8, 4, 0, 2]
def b53_0 : DC :=
 .seq (.seq (.reg [⟨.tmp, .move (.v 0), .none⟩,
 ⟨.tmp, .move (.v 1), .none⟩,
 ⟨.tmp, .len false (.t 0), .none⟩,
 ⟨.tmp, .bin .lss (.t 2) (.t 0), .none⟩]) (
 .cond (.t 0) (
 .skip) (
 .exit 2))) (
 .seq (.block 3 (
 .seq (.reg [⟨.tmp, .move (.v 1), .none⟩,
 ⟨.tmp, .move (.v 0), .none⟩,
 ⟨.tmp, .idxS 1 (.t 1) (.t 0), .none⟩,
 ⟨.tmp, .load1 (.t 0), .none⟩,
 ⟨.tmp, .call 109 [(.t 0)], .none⟩,
 ⟨.tmp, .move (.t 0), .none⟩,
 ⟨.tmp, .ext (.t 0) 0, .none⟩,
 ⟨.tmp, .ext (.t 1) 1, .none⟩,
 ⟨.tmp, .ext (.t 2) 2, .none⟩,
 ⟨.tmp, .move (.t 2), .none⟩,
 ⟨(.var 3), .move (.t 2), .none⟩,
 ⟨.tmp, .move (.t 1), .none⟩]) (
 .seq (.reg [⟨.tmp, .move (.v 3), .none⟩]) (
 .cond (.t 0) (
 .reg [⟨.tmp, .move (.v 2), .none⟩,
 ⟨.tmp, .move (.v 1), .none⟩,
 ⟨.tmp, .move (.v 0), .none⟩,
 ⟨.tmp, .idxS 1 (.t 1) (.t 0), .none⟩,
 ⟨.tmp, .load1 (.t 0), .none⟩,
 ⟨.tmp, .buildS 1 [[.str 0 0]] [(0, (.t 0))], .none⟩,
 ⟨.tmp, .append 1 16 (.t 5) (.t 0), .none⟩,
 ⟨(.var 2), .move (.t 0), .none⟩]) (
 .skip))))) (
 .reg [⟨.tmp, .move (.v 0), .none⟩,
 ⟨.tmp, .bin .add (.t 0) (.c (.int .i64 (.ofNat 1))), .none⟩,
 ⟨(.var 0), .move (.t 0), .none⟩]))
def r53_1 : DC :=
 .reg [⟨.tmp, .move (.v 2), .none⟩,
 ⟨.tmp, .move (.v 5), .none⟩,
 ⟨.tmp, .move (.v 4), .none⟩,
 ⟨.tmp, .idxS 26 (.t 1) (.t 0), .none⟩,
 ⟨.tmp, .fadr 20 (.t 0), .none⟩,
 ⟨.tmp, .load1 (.t 0), .none⟩,
 ⟨.tmp, .call 53 [(.t 0)], .none⟩,
 ⟨.tmp, .append 1 16 (.t 6) (.t 0), .none⟩,
 ⟨(.var 2), .move (.t 0), .none⟩]
def r53_2 : DC :=
 .reg [⟨.tmp, .move (.v 4), .none⟩,
 ⟨.tmp, .bin .add (.t 0) (.c (.int .i64 (.ofNat 1))), .none⟩,
 ⟨(.var 4), .move (.t 0), .none⟩]
def b53_3 : DC :=
 .seq (.seq (.reg [⟨.tmp, .move (.v 4), .none⟩,
 ⟨.tmp, .move (.v 5), .none⟩,
 ⟨.tmp, .len false (.t 0), .none⟩,
 ⟨.tmp, .bin .lss (.t 2) (.t 0), .none⟩]) (
 .cond (.t 0) (
 .skip) (
 .exit 0))) (
 .seq (.block 1 (
 .seq (.reg [⟨.tmp, .move (.v 5), .none⟩,
 ⟨.tmp, .move (.v 4), .none⟩,
 ⟨.tmp, .idxS 26 (.t 1) (.t 0), .none⟩,
 ⟨.tmp, .loadN 26 (.t 0), .none⟩,
 ⟨.tmp, .call 108 [(.t 0)], .none⟩,
 ⟨(.var 1), .move (.t 0), .none⟩]) (
 .seq (.seq (.reg [⟨(.var 0), .move (.c (.int .i64 (.ofNat 0))), .none⟩]) (
 .block 2 (
 .loop b53_0))) r53_1))) r53_2)
def r53_4 : DC :=
 .seq (.reg [⟨.tmp, .move (.v 2), .none⟩,
 ⟨(.var 6), .move (.t 0), .none⟩]) (
 .ret)
def d53 : DF := ⟨[.some 6, .some 5, .some 3, .some 8, .some 4, .some 0, .some 2],
 .seq (.reg [⟨(.var 6), .move (.c (.nils)), .none⟩]) (
 .seq (.reg [⟨(.var 2), .move (.c (.nils)), .none⟩]) (
 .seq (.seq (.reg [⟨(.var 4), .move (.c (.int .i64 (.ofNat 0))), .none⟩]) (
 .block 0 (
 .loop b53_3))) r53_4)),
 [.opd (.v 6)], 7, .none⟩
/-- (*telamon/telamonref12.table).walk -/
def vm54 : List Nat := [12, 0, 11, 7, 6, 5, 14, 13, 8, 9, 10, 4, 1]
def b54_0 : DC :=
 .seq (.seq (.reg [⟨.tmp, .move (.v 0), .none⟩,
 ⟨.tmp, .move (.v 1), .none⟩,
 ⟨.tmp, .nilck (.t 0), .none⟩,
 ⟨.tmp, .fadr 0 (.t 0), .none⟩,
 ⟨.tmp, .load1 (.t 0), .none⟩,
 ⟨.tmp, .len false (.t 0), .none⟩,
 ⟨.tmp, .bin .lss (.t 5) (.t 0), .none⟩]) (
 .cond (.t 0) (
 .skip) (
 .exit 4))) (
 .seq (.block 5 (
 .reg [⟨.tmp, .move (.v 2), .none⟩,
 ⟨.tmp, .move (.t 0), .none⟩,
 ⟨.tmp, .move (.v 1), .some ((.t 0), false)⟩,
 ⟨.tmp, .nilck (.t 0), .some ((.t 1), false)⟩,
 ⟨.tmp, .fadr 0 (.t 0), .some ((.t 2), false)⟩,
 ⟨.tmp, .load1 (.t 0), .some ((.t 3), false)⟩,
 ⟨.tmp, .move (.v 0), .some ((.t 4), false)⟩,
 ⟨.tmp, .idxS 6 (.t 1) (.t 0), .some ((.t 5), false)⟩,
 ⟨.tmp, .fadr 0 (.t 0), .some ((.t 6), false)⟩,
 ⟨.tmp, .load1 (.t 0), .some ((.t 7), false)⟩,
 ⟨.tmp, .move (.v 4), .some ((.t 8), false)⟩,
 ⟨.tmp, .move (.v 3), .some ((.t 9), false)⟩,
 ⟨.tmp, .idxS 1 (.t 1) (.t 0), .some ((.t 10), false)⟩,
 ⟨.tmp, .load1 (.t 0), .some ((.t 11), false)⟩,
 ⟨.tmp, .bin .eql (.t 4) (.t 0), .some ((.t 12), false)⟩,
 ⟨.tmp, .pick (.t 13) (.c (.bool true)) (.t 0), .none⟩,
 ⟨(.var 2), .move (.t 0), .none⟩])) (
 .reg [⟨.tmp, .move (.v 0), .none⟩,
 ⟨.tmp, .bin .add (.t 0) (.c (.int .i64 (.ofNat 1))), .none⟩,
 ⟨(.var 0), .move (.t 0), .none⟩]))
def r54_1 : DC :=
 .seq (.reg [⟨.tmp, .move (.v 2), .none⟩,
 ⟨.tmp, .not (.t 0), .none⟩]) (
 .cond (.t 0) (
 .reg [⟨.tmp, .move (.v 1), .none⟩,
 ⟨.tmp, .move (.v 1), .none⟩,
 ⟨.tmp, .nilck (.t 0), .none⟩,
 ⟨.tmp, .fadr 0 (.t 0), .none⟩,
 ⟨.tmp, .load1 (.t 0), .none⟩,
 ⟨.tmp, .move (.v 4), .none⟩,
 ⟨.tmp, .move (.v 3), .none⟩,
 ⟨.tmp, .idxS 1 (.t 1) (.t 0), .none⟩,
 ⟨.tmp, .load1 (.t 0), .none⟩,
 ⟨.tmp, .move (.v 8), .none⟩,
 ⟨.tmp, .move (.v 4), .none⟩,
 ⟨.tmp, .move (.v 3), .none⟩,
 ⟨.tmp, .idxS 1 (.t 1) (.t 0), .none⟩,
 ⟨.tmp, .load1 (.t 0), .none⟩,
 ⟨.tmp, .idxStr (.t 0) (.c (.int .i64 (.ofNat 0))), .none⟩,
 ⟨.tmp, .bin .eql (.t 0) (.c (.int .u8 (.ofNat 95))), .none⟩,
 ⟨.tmp, .move (.v 4), .none⟩,
 ⟨.tmp, .move (.v 3), .none⟩,
 ⟨.tmp, .idxS 1 (.t 1) (.t 0), .none⟩,
 ⟨.tmp, .load1 (.t 0), .none⟩,
 ⟨.tmp, .move (.v 4), .none⟩,
 ⟨.tmp, .move (.v 3), .none⟩,
 ⟨.tmp, .idxS 1 (.t 1) (.t 0), .none⟩,
 ⟨.tmp, .load1 (.t 0), .none⟩,
 ⟨.tmp, .len true (.t 0), .none⟩,
 ⟨.tmp, .bin .sub (.t 0) (.c (.int .i64 (.ofNat 1))), .none⟩,
 ⟨.tmp, .idxStr (.t 6) (.t 0), .none⟩,
 ⟨.tmp, .bin .eql (.t 0) (.c (.int .u8 (.ofNat 95))), .none⟩,
 ⟨.tmp, .build [.str 0 0, .nils, .bool false, .bool false, .int .i64 (.ofNat 0), .str 0 0] [(0, 1, (.t 19)), (1, 1, (.t 18)), (2, 1, (.t 12)), (3, 1, (.t 0)), (4, 1, (.c (.int .i64 (.ofNat 20))))], .none⟩,
 ⟨.tmp, .buildS 6 [[.str 0 0, .nils, .bool false, .bool false, .int .i64 (.ofNat 0), .str 0 0]] [(0, (.t 0))], .none⟩,
 ⟨.tmp, .append 6 72 (.t 25) (.t 0), .none⟩,
 ⟨.tmp, .nilck (.t 30), .none⟩,
 ⟨.tmp, .fadr 0 (.t 0), .none⟩,
 ⟨.no, .store 1 (.t 0) (.t 2), .none⟩]) (
 .skip))
def r54_2 : DC :=
 .reg [⟨.tmp, .move (.v 3), .none⟩,
 ⟨.tmp, .bin .add (.t 0) (.c (.int .i64 (.ofNat 1))), .none⟩,
 ⟨(.var 3), .move (.t 0), .none⟩]
def b54_3 : DC :=
 .seq (.seq (.reg [⟨.tmp, .move (.v 3), .none⟩,
 ⟨.tmp, .move (.v 4), .none⟩,
 ⟨.tmp, .len false (.t 0), .none⟩,
 ⟨.tmp, .bin .lss (.t 2) (.t 0), .none⟩,
 ⟨.tmp, .move (.t 0), .none⟩,
 ⟨.tmp, .move (.v 1), .some ((.t 0), true)⟩,
 ⟨.tmp, .nilck (.t 0), .some ((.t 1), true)⟩,
 ⟨.tmp, .fadr 4 (.t 0), .some ((.t 2), true)⟩,
 ⟨.tmp, .load1 (.t 0), .some ((.t 3), true)⟩,
 ⟨.tmp, .bin .eql (.t 0) (.c (.int .i64 (.ofNat 0))), .some ((.t 4), true)⟩,
 ⟨.tmp, .pick (.t 5) (.t 0) (.c (.bool false)), .none⟩]) (
 .cond (.t 0) (
 .skip) (
 .exit 2))) (
 .seq (.block 3 (
 .seq (.reg [⟨.tmp, .move (.v 4), .none⟩,
 ⟨.tmp, .move (.v 3), .none⟩,
 ⟨.tmp, .idxS 1 (.t 1) (.t 0), .none⟩,
 ⟨.tmp, .load1 (.t 0), .none⟩,
 ⟨.tmp, .call 109 [(.t 0)], .none⟩,
 ⟨.tmp, .move (.t 0), .none⟩,
 ⟨.tmp, .ext (.t 0) 0, .none⟩,
 ⟨.tmp, .ext (.t 1) 1, .none⟩,
 ⟨.tmp, .ext (.t 2) 2, .none⟩,
 ⟨(.var 8), .move (.t 2), .none⟩,
 ⟨(.var 9), .move (.t 1), .none⟩,
 ⟨(.var 10), .move (.t 0), .none⟩]) (
 .seq (.seq (.reg [⟨.tmp, .move (.v 9), .none⟩,
 ⟨.tmp, .not (.t 0), .none⟩]) (
 .cond (.t 0) (
 .exit 3) (
 .skip))) (
 .seq (.seq (.reg [⟨.tmp, .move (.v 10), .none⟩,
 ⟨.tmp, .not (.t 0), .none⟩]) (
 .cond (.t 0) (
 .seq (.reg [⟨.tmp, .move (.v 1), .none⟩,
 ⟨.tmp, .fadr 25 (.v 5), .none⟩,
 ⟨.tmp, .load1 (.t 0), .none⟩,
 ⟨.tmp, .call 110 [(.t 2), (.t 0), (.c (.int .i64 (.ofNat 43)))], .none⟩]) (
 .ret)) (
 .skip))) (
 .seq (.reg [⟨(.var 2), .move (.c (.bool false)), .none⟩]) (
 .seq (.seq (.reg [⟨(.var 0), .move (.c (.int .i64 (.ofNat 0))), .none⟩]) (
 .block 4 (
 .loop b54_0))) r54_1)))))) r54_2)
def b54_4 : DC :=
 .seq (.seq (.reg [⟨.tmp, .move (.v 7), .none⟩,
 ⟨.tmp, .fadr 4 (.v 5), .none⟩,
 ⟨.tmp, .load1 (.t 0), .none⟩,
 ⟨.tmp, .len false (.t 0), .none⟩,
 ⟨.tmp, .bin .lss (.t 3) (.t 0), .none⟩,
 ⟨.tmp, .move (.t 0), .none⟩,
 ⟨.tmp, .move (.v 1), .some ((.t 0), true)⟩,
 ⟨.tmp, .nilck (.t 0), .some ((.t 1), true)⟩,
 ⟨.tmp, .fadr 4 (.t 0), .some ((.t 2), true)⟩,
 ⟨.tmp, .load1 (.t 0), .some ((.t 3), true)⟩,
 ⟨.tmp, .bin .eql (.t 0) (.c (.int .i64 (.ofNat 0))), .some ((.t 4), true)⟩,
 ⟨.tmp, .pick (.t 5) (.t 0) (.c (.bool false)), .none⟩]) (
 .cond (.t 0) (
 .skip) (
 .exit 6))) (
 .seq (.block 7 (
 .seq (.reg [⟨.tmp, .move (.v 1), .none⟩,
 ⟨.tmp, .nilck (.t 0), .none⟩,
 ⟨.tmp, .fadr 1 (.t 0), .none⟩,
 ⟨.tmp, .load1 (.t 0), .none⟩,
 ⟨.tmp, .fadr 4 (.v 5), .none⟩,
 ⟨.tmp, .load1 (.t 0), .none⟩,
 ⟨.tmp, .move (.v 7), .none⟩,
 ⟨.tmp, .idxS 1 (.t 1) (.t 0), .none⟩,
 ⟨.tmp, .load1 (.t 0), .none⟩,
 ⟨.tmp, .call 111 [(.t 5), (.t 0)], .none⟩,
 ⟨.tmp, .not (.t 0), .none⟩]) (
 .cond (.t 0) (
 .reg [⟨.tmp, .move (.v 1), .none⟩,
 ⟨.tmp, .fadr 25 (.v 5), .none⟩,
 ⟨.tmp, .load1 (.t 0), .none⟩,
 ⟨.tmp, .call 110 [(.t 2), (.t 0), (.c (.int .i64 (.ofNat 44)))], .none⟩]) (
 .skip)))) (
 .reg [⟨.tmp, .move (.v 7), .none⟩,
 ⟨.tmp, .bin .add (.t 0) (.c (.int .i64 (.ofNat 1))), .none⟩,
 ⟨(.var 7), .move (.t 0), .none⟩]))
def b54_5 : DC :=
 .seq (.seq (.reg [⟨.tmp, .move (.v 6), .none⟩,
 ⟨.tmp, .fadr 4 (.v 5), .none⟩,
 ⟨.tmp, .load1 (.t 0), .none⟩,
 ⟨.tmp, .len false (.t 0), .none⟩,
 ⟨.tmp, .bin .lss (.t 3) (.t 0), .none⟩,
 ⟨.tmp, .move (.t 0), .none⟩,
 ⟨.tmp, .move (.v 1), .some ((.t 0), true)⟩,
 ⟨.tmp, .nilck (.t 0), .some ((.t 1), true)⟩,
 ⟨.tmp, .fadr 4 (.t 0), .some ((.t 2), true)⟩,
 ⟨.tmp, .load1 (.t 0), .some ((.t 3), true)⟩,
 ⟨.tmp, .bin .eql (.t 0) (.c (.int .i64 (.ofNat 0))), .some ((.t 4), true)⟩,
 ⟨.tmp, .pick (.t 5) (.t 0) (.c (.bool false)), .none⟩]) (
 .cond (.t 0) (
 .skip) (
 .exit 8))) (
 .seq (.block 9 (
 .seq (.seq (.reg [⟨.tmp, .move (.v 1), .none⟩,
 ⟨.tmp, .nilck (.t 0), .none⟩,
 ⟨.tmp, .fadr 2 (.t 0), .none⟩,
 ⟨.tmp, .load1 (.t 0), .none⟩,
 ⟨.tmp, .fadr 4 (.v 5), .none⟩,
 ⟨.tmp, .load1 (.t 0), .none⟩,
 ⟨.tmp, .move (.v 6), .none⟩,
 ⟨.tmp, .idxS 1 (.t 1) (.t 0), .none⟩,
 ⟨.tmp, .load1 (.t 0), .none⟩,
 ⟨.tmp, .call 111 [(.t 5), (.t 0)], .none⟩]) (
 .cond (.t 0) (
 .reg [⟨.tmp, .move (.v 1), .none⟩,
 ⟨.tmp, .fadr 25 (.v 5), .none⟩,
 ⟨.tmp, .load1 (.t 0), .none⟩,
 ⟨.tmp, .call 110 [(.t 2), (.t 0), (.c (.int .i64 (.ofNat 46)))], .none⟩]) (
 .skip))) (
 .seq (.reg [⟨.tmp, .move (.v 1), .none⟩,
 ⟨.tmp, .move (.v 1), .none⟩,
 ⟨.tmp, .nilck (.t 0), .none⟩,
 ⟨.tmp, .fadr 2 (.t 0), .none⟩,
 ⟨.tmp, .load1 (.t 0), .none⟩,
 ⟨.tmp, .fadr 4 (.v 5), .none⟩,
 ⟨.tmp, .load1 (.t 0), .none⟩,
 ⟨.tmp, .move (.v 6), .none⟩,
 ⟨.tmp, .idxS 1 (.t 1) (.t 0), .none⟩,
 ⟨.tmp, .load1 (.t 0), .none⟩,
 ⟨.tmp, .buildS 1 [[.str 0 0]] [(0, (.t 0))], .none⟩,
 ⟨.tmp, .append 1 16 (.t 6) (.t 0), .none⟩,
 ⟨.tmp, .nilck (.t 11), .none⟩,
 ⟨.tmp, .fadr 2 (.t 0), .none⟩,
 ⟨.no, .store 1 (.t 0) (.t 2), .none⟩]) (
 .reg [⟨.tmp, .move (.v 1), .none⟩,
 ⟨.tmp, .nilck (.t 0), .none⟩,
 ⟨.tmp, .fadr 3 (.t 0), .none⟩,
 ⟨.tmp, .load1 (.t 0), .none⟩,
 ⟨.tmp, .fadr 4 (.v 5), .none⟩,
 ⟨.tmp, .load1 (.t 0), .none⟩,
 ⟨.tmp, .move (.v 6), .none⟩,
 ⟨.tmp, .idxS 1 (.t 1) (.t 0), .none⟩,
 ⟨.tmp, .load1 (.t 0), .none⟩,
 ⟨.tmp, .fadr 1 (.v 5), .none⟩,
 ⟨.tmp, .load1 (.t 0), .none⟩,
 ⟨.tmp, .fadr 3 (.v 5), .none⟩,
 ⟨.tmp, .load1 (.t 0), .none⟩,
 ⟨.tmp, .build [.int .i64 (.ofNat 0), .int .i64 (.ofNat 0), .str 0 0, .str 0 0, .nils, .nils, .int .i64 (.ofNat 0), .int .i64 (.ofNat 0), .str 0 0, .bool false, .nils, .nils, .int .i64 (.ofNat 0), .int .i64 (.ofNat 0), .int .i64 (.ofNat 0), .str 0 0, .bool false, .nils, .nils, .int .i64 (.ofNat 0), .nils, .bool false, .nils, .nils, .nils, .int .i64 (.ofNat 0)] [(2, 1, (.t 4)), (1, 1, (.t 2)), (3, 1, (.t 0))], .none⟩,
 ⟨.tmp, .len false (.t 10), .none⟩,
 ⟨.tmp, .buildS 26 [[.int .i64 (.ofNat 0), .int .i64 (.ofNat 0), .str 0 0, .str 0 0, .nils, .nils, .int .i64 (.ofNat 0), .int .i64 (.ofNat 0), .str 0 0, .bool false, .nils, .nils, .int .i64 (.ofNat 0), .int .i64 (.ofNat 0), .int .i64 (.ofNat 0), .str 0 0, .bool false, .nils, .nils, .int .i64 (.ofNat 0), .nils, .bool false, .nils, .nils, .nils, .int .i64 (.ofNat 0)]] [(0, (.c (.agg [.int .i64 (.ofNat 0), .int .i64 (.ofNat 0), .str 0 0, .str 0 0, .nils, .nils, .int .i64 (.ofNat 0), .int .i64 (.ofNat 0), .str 0 0, .bool false, .nils, .nils, .int .i64 (.ofNat 0), .int .i64 (.ofNat 0), .int .i64 (.ofNat 0), .str 0 0, .bool false, .nils, .nils, .int .i64 (.ofNat 0), .nils, .bool false, .nils, .nils, .nils, .int .i64 (.ofNat 0)])))], .none⟩,
 ⟨.tmp, .append 26 400 (.t 12) (.t 0), .none⟩,
 ⟨.tmp, .idxS 26 (.t 0) (.t 2), .none⟩,
 ⟨.tmp, .nilck (.t 17), .none⟩,
 ⟨.tmp, .fadr 3 (.t 0), .none⟩,
 ⟨.no, .store2 26 (.t 2) (.t 6) 1 (.t 0) (.t 3), .none⟩])))) (
 .reg [⟨.tmp, .move (.v 6), .none⟩,
 ⟨.tmp, .bin .add (.t 0) (.c (.int .i64 (.ofNat 1))), .none⟩,
 ⟨(.var 6), .move (.t 0), .none⟩]))
def r54_6 : DC :=
 .seq (.reg [⟨(.var 6), .move (.c (.int .i64 (.ofNat 0))), .none⟩]) (
 .block 8 (
 .loop b54_5))
def r54_7 : DC :=
 .reg [⟨.tmp, .move (.v 1), .none⟩,
 ⟨.tmp, .fadr 20 (.v 5), .none⟩,
 ⟨.tmp, .load1 (.t 0), .none⟩,
 ⟨.tmp, .call 54 [(.t 2), (.t 0)], .none⟩]
def r54_8 : DC :=
 .seq (.seq (.reg [⟨.tmp, .fadr 0 (.v 5), .none⟩,
 ⟨.tmp, .load1 (.t 0), .none⟩,
 ⟨.tmp, .bin .eql (.t 0) (.c (.int .i64 (.ofNat 5))), .none⟩]) (
 .cond (.t 0) (
 .seq (.seq (.reg [⟨.tmp, .fadr 1 (.v 5), .none⟩,
 ⟨.tmp, .load1 (.t 0), .none⟩,
 ⟨.tmp, .bin .gtr (.t 0) (.c (.int .i64 (.ofNat 100))), .none⟩]) (
 .cond (.t 0) (
 .reg [⟨.tmp, .move (.v 1), .none⟩,
 ⟨.tmp, .fadr 25 (.v 5), .none⟩,
 ⟨.tmp, .load1 (.t 0), .none⟩,
 ⟨.tmp, .call 110 [(.t 2), (.t 0), (.c (.int .i64 (.ofNat 43)))], .none⟩]) (
 .skip))) (
 .seq (.seq (.reg [⟨(.var 7), .move (.c (.int .i64 (.ofNat 0))), .none⟩]) (
 .block 6 (
 .loop b54_4))) r54_6)) (
 .skip))) r54_7
def r54_9 : DC :=
 .reg [⟨.tmp, .move (.v 11), .none⟩,
 ⟨.tmp, .bin .add (.t 0) (.c (.int .i64 (.ofNat 1))), .none⟩,
 ⟨(.var 11), .move (.t 0), .none⟩]
def b54_10 : DC :=
 .seq (.seq (.reg [⟨.tmp, .move (.v 11), .none⟩,
 ⟨.tmp, .move (.v 12), .none⟩,
 ⟨.tmp, .len false (.t 0), .none⟩,
 ⟨.tmp, .bin .lss (.t 2) (.t 0), .none⟩,
 ⟨.tmp, .move (.t 0), .none⟩,
 ⟨.tmp, .move (.v 1), .some ((.t 0), true)⟩,
 ⟨.tmp, .nilck (.t 0), .some ((.t 1), true)⟩,
 ⟨.tmp, .fadr 4 (.t 0), .some ((.t 2), true)⟩,
 ⟨.tmp, .load1 (.t 0), .some ((.t 3), true)⟩,
 ⟨.tmp, .bin .eql (.t 0) (.c (.int .i64 (.ofNat 0))), .some ((.t 4), true)⟩,
 ⟨.tmp, .pick (.t 5) (.t 0) (.c (.bool false)), .none⟩]) (
 .cond (.t 0) (
 .skip) (
 .exit 0))) (
 .seq (.block 1 (
 .seq (.reg [⟨.tmp, .move (.v 12), .none⟩,
 ⟨.tmp, .move (.v 11), .none⟩,
 ⟨.tmp, .idxS 26 (.t 1) (.t 0), .none⟩,
 ⟨.tmp, .loadN 26 (.t 0), .none⟩,
 ⟨(.var 5), .alloc [.int .i64 (.ofNat 0), .int .i64 (.ofNat 0), .str 0 0, .str 0 0, .nils, .nils, .int .i64 (.ofNat 0), .int .i64 (.ofNat 0), .str 0 0, .bool false, .nils, .nils, .int .i64 (.ofNat 0), .int .i64 (.ofNat 0), .int .i64 (.ofNat 0), .str 0 0, .bool false, .nils, .nils, .int .i64 (.ofNat 0), .nils, .bool false, .nils, .nils, .nils, .int .i64 (.ofNat 0)], .none⟩,
 ⟨.no, .store 26 (.v 5) (.t 0), .none⟩]) (
 .seq (.reg [⟨.tmp, .loadN 26 (.v 5), .none⟩,
 ⟨.tmp, .call 108 [(.t 0)], .none⟩,
 ⟨(.var 4), .move (.t 0), .none⟩]) (
 .seq (.seq (.reg [⟨(.var 3), .move (.c (.int .i64 (.ofNat 0))), .none⟩]) (
 .block 2 (
 .loop b54_3))) r54_8)))) r54_9)
def d54 : DF := ⟨[.some 12, .some 0, .some 11, .some 7, .some 6, .some 5, .some 14, .some 13, .some 8, .some 9, .some 10, .some 4, .some 1],
 .seq (.reg [⟨(.var 11), .move (.c (.int .i64 (.ofNat 0))), .none⟩]) (
 .block 0 (
 .loop b54_10)),
 [], 13, .none⟩
/-- (*telamon/telamonref12.resolver).binds -/
def vm55 : List Nat := [7, 6, 5, 0, 1, 4]
def b55_0 : DC :=
 .seq (.seq (.reg [⟨.tmp, .move (.v 1), .none⟩,
 ⟨.tmp, .move (.v 4), .none⟩,
 ⟨.tmp, .len false (.t 0), .none⟩,
 ⟨.tmp, .bin .lss (.t 2) (.t 0), .none⟩,
 ⟨.tmp, .move (.t 0), .none⟩,
 ⟨.tmp, .move (.v 3), .some ((.t 0), true)⟩,
 ⟨.tmp, .nilck (.t 0), .some ((.t 1), true)⟩,
 ⟨.tmp, .fadr 1 (.t 0), .some ((.t 2), true)⟩,
 ⟨.tmp, .load1 (.t 0), .some ((.t 3), true)⟩,
 ⟨.tmp, .bin .eql (.t 0) (.c (.int .i64 (.ofNat 0))), .some ((.t 4), true)⟩,
 ⟨.tmp, .pick (.t 5) (.t 0) (.c (.bool false)), .none⟩]) (
 .cond (.t 0) (
 .skip) (
 .exit 0))) (
 .seq (.block 1 (
 .seq (.reg [⟨.tmp, .move (.v 4), .none⟩,
 ⟨.tmp, .move (.v 1), .none⟩,
 ⟨.tmp, .idxS 9 (.t 1) (.t 0), .none⟩,
 ⟨.tmp, .loadN 9 (.t 0), .none⟩,
 ⟨(.var 0), .alloc [.str 0 0, .bool false, .int .i64 (.ofNat 0), .int .i64 (.ofNat 0), .str 0 0, .bool false, .nils, .nils, .int .i64 (.ofNat 0)], .none⟩,
 ⟨.no, .store 9 (.v 0) (.t 0), .none⟩]) (
 .seq (.seq (.reg [⟨.tmp, .fadr 2 (.v 0), .none⟩,
 ⟨.tmp, .fadr 0 (.t 0), .none⟩,
 ⟨.tmp, .load1 (.t 0), .none⟩,
 ⟨.tmp, .bin .neq (.t 0) (.c (.int .i64 (.ofNat 0))), .none⟩]) (
 .cond (.t 0) (
 .reg [⟨.tmp, .move (.v 3), .none⟩,
 ⟨.tmp, .fadr 2 (.v 0), .none⟩,
 ⟨.tmp, .loadN 7 (.t 0), .none⟩,
 ⟨.tmp, .call 56 [(.t 2), (.t 0)], .none⟩,
 ⟨.tmp, .fadr 2 (.v 0), .none⟩,
 ⟨.no, .store 7 (.t 0) (.t 1), .none⟩]) (
 .skip))) (
 .reg [⟨.tmp, .move (.v 2), .none⟩,
 ⟨.tmp, .loadN 9 (.v 0), .none⟩,
 ⟨.tmp, .buildS 9 [[.str 0 0, .bool false, .int .i64 (.ofNat 0), .int .i64 (.ofNat 0), .str 0 0, .bool false, .nils, .nils, .int .i64 (.ofNat 0)]] [(0, (.t 0))], .none⟩,
 ⟨.tmp, .append 9 120 (.t 2) (.t 0), .none⟩,
 ⟨(.var 2), .move (.t 0), .none⟩])))) (
 .reg [⟨.tmp, .move (.v 1), .none⟩,
 ⟨.tmp, .bin .add (.t 0) (.c (.int .i64 (.ofNat 1))), .none⟩,
 ⟨(.var 1), .move (.t 0), .none⟩]))
def r55_1 : DC :=
 .seq (.reg [⟨.tmp, .move (.v 2), .none⟩,
 ⟨(.var 5), .move (.t 0), .none⟩]) (
 .ret)
def d55 : DF := ⟨[.some 7, .some 6, .some 5, .some 0, .some 1, .some 4],
 .seq (.reg [⟨(.var 5), .move (.c (.nils)), .none⟩]) (
 .seq (.reg [⟨(.var 2), .move (.c (.nils)), .none⟩]) (
 .seq (.seq (.reg [⟨(.var 1), .move (.c (.int .i64 (.ofNat 0))), .none⟩]) (
 .block 0 (
 .loop b55_0))) r55_1)),
 [.opd (.v 5)], 6, .none⟩
/-- (*telamon/telamonref12.resolver).exp -/
def vm56 : List Nat := [6, 5, 0, 3, 4, 7, 8, 1]
def b56_0 : DC :=
 .seq (.seq (.reg [⟨.tmp, .move (.v 0), .none⟩,
 ⟨.tmp, .fadr 5 (.v 3), .none⟩,
 ⟨.tmp, .load1 (.t 0), .none⟩,
 ⟨.tmp, .len false (.t 0), .none⟩,
 ⟨.tmp, .bin .lss (.t 3) (.t 0), .none⟩,
 ⟨.tmp, .move (.t 0), .none⟩,
 ⟨.tmp, .move (.v 2), .some ((.t 0), true)⟩,
 ⟨.tmp, .nilck (.t 0), .some ((.t 1), true)⟩,
 ⟨.tmp, .fadr 1 (.t 0), .some ((.t 2), true)⟩,
 ⟨.tmp, .load1 (.t 0), .some ((.t 3), true)⟩,
 ⟨.tmp, .bin .eql (.t 0) (.c (.int .i64 (.ofNat 0))), .some ((.t 4), true)⟩,
 ⟨.tmp, .pick (.t 5) (.t 0) (.c (.bool false)), .none⟩]) (
 .cond (.t 0) (
 .skip) (
 .exit 0))) (
 .seq (.block 1 (
 .reg [⟨.tmp, .fadr 5 (.v 1), .none⟩,
 ⟨.tmp, .load1 (.t 0), .none⟩,
 ⟨.tmp, .move (.v 2), .none⟩,
 ⟨.tmp, .fadr 5 (.v 3), .none⟩,
 ⟨.tmp, .load1 (.t 0), .none⟩,
 ⟨.tmp, .move (.v 0), .none⟩,
 ⟨.tmp, .idxS 7 (.t 1) (.t 0), .none⟩,
 ⟨.tmp, .loadN 7 (.t 0), .none⟩,
 ⟨.tmp, .call 56 [(.t 5), (.t 0)], .none⟩,
 ⟨.no, .again1 (.t 8) (.t 7), .none⟩,
 ⟨.tmp, .buildS 7 [[.int .i64 (.ofNat 0), .int .i64 (.ofNat 0), .str 0 0, .bool false, .nils, .nils, .int .i64 (.ofNat 0)]] [(0, (.t 0))], .none⟩,
 ⟨.tmp, .append 7 96 (.t 8) (.t 0), .none⟩,
 ⟨.tmp, .fadr 5 (.v 1), .none⟩,
 ⟨.no, .store 1 (.t 0) (.t 1), .none⟩])) (
 .reg [⟨.tmp, .move (.v 0), .none⟩,
 ⟨.tmp, .bin .add (.t 0) (.c (.int .i64 (.ofNat 1))), .none⟩,
 ⟨(.var 0), .move (.t 0), .none⟩]))
def r56_1 : DC :=
 .seq (.seq (.reg [⟨.tmp, .move (.v 2), .none⟩,
 ⟨.tmp, .nilck (.t 0), .none⟩,
 ⟨.tmp, .fadr 1 (.t 0), .none⟩,
 ⟨.tmp, .load1 (.t 0), .none⟩,
 ⟨.tmp, .bin .neq (.t 0) (.c (.int .i64 (.ofNat 0))), .none⟩,
 ⟨.tmp, .move (.t 0), .none⟩,
 ⟨.tmp, .fadr 0 (.v 3), .some ((.t 0), false)⟩,
 ⟨.tmp, .load1 (.t 0), .some ((.t 1), false)⟩,
 ⟨.tmp, .bin .neq (.t 0) (.c (.int .i64 (.ofNat 1))), .some ((.t 2), false)⟩,
 ⟨.tmp, .pick (.t 3) (.c (.bool true)) (.t 0), .none⟩]) (
 .cond (.t 0) (
 .seq (.reg [⟨.tmp, .loadN 7 (.v 1), .none⟩,
 ⟨.no, .store 7 (.v 4) (.t 0), .none⟩]) (
 .ret)) (
 .skip))) (
 .seq (.reg [⟨.tmp, .move (.v 2), .none⟩,
 ⟨.tmp, .nilck (.t 0), .none⟩,
 ⟨.tmp, .fadr 0 (.t 0), .none⟩,
 ⟨.tmp, .load1 (.t 0), .none⟩,
 ⟨.tmp, .fadr 5 (.v 1), .none⟩,
 ⟨.tmp, .load1 (.t 0), .none⟩,
 ⟨(.var 5), .alloc [.int .i64 (.ofNat 0), .int .i64 (.ofNat 0), .str 0 0, .bool false, .nils, .nils, .int .i64 (.ofNat 0)], .none⟩,
 ⟨.tmp, .call 112 [(.t 2), (.t 0)], .none⟩,
 ⟨.tmp, .move (.t 0), .none⟩,
 ⟨.tmp, .ext (.t 0) 0, .none⟩,
 ⟨.tmp, .ext (.t 1) 1, .none⟩,
 ⟨.no, .store 7 (.v 5) (.t 1), .none⟩,
 ⟨(.var 6), .move (.t 0), .none⟩]) (
 .seq (.seq (.reg [⟨.tmp, .move (.v 6), .none⟩,
 ⟨.tmp, .bin .neq (.t 0) (.c (.int .i64 (.ofNat 0))), .none⟩]) (
 .cond (.t 0) (
 .seq (.reg [⟨.tmp, .move (.v 2), .none⟩,
 ⟨.tmp, .move (.v 6), .none⟩,
 ⟨.tmp, .nilck (.t 1), .none⟩,
 ⟨.tmp, .fadr 1 (.t 0), .none⟩,
 ⟨.no, .store 1 (.t 0) (.t 2), .none⟩]) (
 .reg [⟨.tmp, .move (.v 2), .none⟩,
 ⟨.tmp, .fadr 6 (.v 3), .none⟩,
 ⟨.tmp, .load1 (.t 0), .none⟩,
 ⟨.tmp, .nilck (.t 2), .none⟩,
 ⟨.tmp, .fadr 2 (.t 0), .none⟩,
 ⟨.no, .store 1 (.t 0) (.t 2), .none⟩])) (
 .skip))) (
 .seq (.reg [⟨.tmp, .loadN 7 (.v 5), .none⟩,
 ⟨.no, .store 7 (.v 4) (.t 0), .none⟩]) (
 .ret))))
def d56 : DF := ⟨[.some 6, .some 5, .some 0, .some 3, .some 4, .some 7, .some 8, .some 1],
 .seq (.reg [⟨(.var 3), .box 7 (.v 7), .none⟩,
 ⟨(.var 4), .alloc [.int .i64 (.ofNat 0), .int .i64 (.ofNat 0), .str 0 0, .bool false, .nils, .nils, .int .i64 (.ofNat 0)], .none⟩]) (
 .seq (.reg [⟨.tmp, .loadN 7 (.v 3), .none⟩,
 ⟨(.var 1), .alloc [.int .i64 (.ofNat 0), .int .i64 (.ofNat 0), .str 0 0, .bool false, .nils, .nils, .int .i64 (.ofNat 0)], .none⟩,
 ⟨.no, .store 7 (.v 1) (.t 0), .none⟩]) (
 .seq (.reg [⟨.tmp, .move (.v 2), .none⟩,
 ⟨.tmp, .fadr 4 (.v 3), .none⟩,
 ⟨.tmp, .load1 (.t 0), .none⟩,
 ⟨.tmp, .call 55 [(.t 2), (.t 0)], .none⟩,
 ⟨.tmp, .fadr 4 (.v 1), .none⟩,
 ⟨.no, .store 1 (.t 0) (.t 1), .none⟩]) (
 .seq (.reg [⟨.tmp, .fadr 5 (.v 1), .none⟩,
 ⟨.no, .store 1 (.t 0) (.c (.nils)), .none⟩]) (
 .seq (.seq (.reg [⟨(.var 0), .move (.c (.int .i64 (.ofNat 0))), .none⟩]) (
 .block 0 (
 .loop b56_0))) r56_1)))),
 [.cellN 7 (.v 4)], 8, .none⟩
/-- telamon/prelude.decls$1 -/
def vm57 : List Nat := [96, 8, 4, 95, 0, 2, 5, 3, 6]
def b57_0 : DC :=
 .seq (.reg [⟨.tmp, .bin .lss (.v 0) (.c (.int .i64 (.ofNat 4))), .none⟩]) (
 .seq (.cond (.t 0) (
 .skip) (
 .exit 0)) (
 .seq (.block 1 (
 .seq (.reg [⟨.tmp, .idxAg 4 17 (.v 3) (.v 0), .none⟩,
 ⟨(.var 1), .alloc [.int .i64 (.ofNat 0), .str 0 0, .int .i64 (.ofNat 0), .int .i64 (.ofNat 0), .int .i64 (.ofNat 0), .bool false, .str 0 0, .nils, .nils, .int .i64 (.ofNat 0), .int .i64 (.ofNat 0), .bool false, .str 0 0, .nils, .nils, .int .i64 (.ofNat 0), .nils], .none⟩,
 ⟨.no, .store 17 (.v 1) (.t 0), .none⟩]) (
 .seq (.reg [⟨.tmp, .move (.v 4), .none⟩,
 ⟨.tmp, .loadN 17 (.v 1), .none⟩,
 ⟨.tmp, .callv (.t 1) [(.t 0)], .none⟩,
 ⟨.tmp, .not (.t 0), .none⟩]) (
 .cond (.t 0) (
 .ret) (
 .skip))))) (
 .reg [⟨.tmp, .bin .add (.v 0) (.c (.int .i64 (.ofNat 1))), .none⟩,
 ⟨(.var 0), .move (.t 0), .none⟩])))
def d57 : DF := ⟨[.some 96, .some 8, .some 4, .some 95, .some 0, .some 2, .some 5, .some 3, .some 6],
 .seq (.reg [⟨.tmp, .build [.int .i64 (.ofNat 0), .int .i64 (.ofNat 0)] [], .none⟩,
 ⟨.tmp, .buildS 2 [[.int .i64 (.ofNat 0), .int .i64 (.ofNat 0)]] [(0, (.t 0))], .none⟩,
 ⟨.tmp, .build [.int .i64 (.ofNat 0), .nils] [(1, 1, (.t 0))], .none⟩,
 ⟨(.var 5), .alloc [.int .i64 (.ofNat 0), .nils], .none⟩,
 ⟨.no, .store 2 (.v 5) (.t 0), .none⟩]) (
 .seq (.reg [⟨.tmp, .build [.int .i64 (.ofNat 0), .nils] [], .none⟩,
 ⟨(.var 7), .alloc [.int .i64 (.ofNat 0), .nils], .none⟩,
 ⟨.no, .store 2 (.v 7) (.t 0), .none⟩]) (
 .seq (.reg [⟨(.var 2), .move (.c (.fn 58 [] [])), .none⟩]) (
 .seq (.reg [⟨.tmp, .mkfn 59 [] [(.v 5)], .none⟩,
 ⟨(.var 6), .move (.t 0), .none⟩]) (
 .seq (.reg [⟨.tmp, .move (.v 6), .none⟩,
 ⟨.tmp, .move (.v 2), .none⟩,
 ⟨.tmp, .move (.v 2), .none⟩,
 ⟨.tmp, .move (.v 2), .none⟩,
 ⟨.tmp, .loadN 2 (.v 5), .none⟩,
 ⟨.tmp, .move (.v 2), .none⟩,
 ⟨(.var 8), .alloc [.str 0 0, .int .i64 (.ofNat 0), .int .i64 (.ofNat 0), .bool false, .str 0 0, .nils, .nils], .none⟩,
 ⟨.tmp, .callv (.t 4) [(.c (.int .i64 (.ofNat 1)))], .none⟩,
 ⟨.no, .againN 2 (.v 5) (.t 2), .none⟩,
 ⟨.tmp, .callv (.t 4) [(.c (.int .i64 (.ofNat 0)))], .none⟩,
 ⟨.no, .againN 2 (.v 5) (.t 3), .none⟩,
 ⟨.tmp, .callv (.t 4) [(.c (.int .i64 (.ofNat 0)))], .none⟩,
 ⟨.no, .againN 2 (.v 5) (.t 4), .none⟩,
 ⟨.tmp, .buildS 6 [[.int .i64 (.ofNat 0), .int .i64 (.ofNat 0), .bool false, .str 0 0, .nils, .nils], [.int .i64 (.ofNat 0), .int .i64 (.ofNat 0), .bool false, .str 0 0, .nils, .nils], [.int .i64 (.ofNat 0), .int .i64 (.ofNat 0), .bool false, .str 0 0, .nils, .nils]] [(0, (.t 2)), (1, (.t 1)), (2, (.t 0))], .none⟩,
 ⟨.tmp, .callv (.t 9) [(.t 0)], .none⟩,
 ⟨.no, .againN 2 (.v 5) (.t 6), .none⟩,
 ⟨.tmp, .call 63 [(.t 6)], .none⟩,
 ⟨.tmp, .callv (.t 6) [(.c (.int .i64 (.ofNat 0)))], .none⟩,
 ⟨.tmp, .buildS 6 [[.int .i64 (.ofNat 0), .int .i64 (.ofNat 0), .bool false, .str 0 0, .nils, .nils], [.int .i64 (.ofNat 0), .int .i64 (.ofNat 0), .bool false, .str 0 0, .nils, .nils]] [(0, (.t 1)), (1, (.t 0))], .none⟩,
 ⟨.tmp, .call 62 [(.c (.bool true)), (.t 3), (.t 0)], .none⟩,
 ⟨.tmp, .build [.str 0 0, .int .i64 (.ofNat 0), .int .i64 (.ofNat 0), .bool false, .str 0 0, .nils, .nils] [(0, 1, (.c (.str 4 1818649970))), (1, 6, (.t 0))], .none⟩,
 ⟨.no, .store 7 (.v 8) (.t 0), .none⟩]) (
 .seq (.reg [⟨.tmp, .loadN 2 (.v 5), .none⟩,
 ⟨.tmp, .loadN 2 (.v 5), .none⟩,
 ⟨.tmp, .move (.v 2), .none⟩,
 ⟨.tmp, .move (.v 2), .none⟩,
 ⟨.tmp, .loadN 7 (.v 8), .none⟩,
 ⟨.tmp, .buildS 7 [[.str 0 0, .int .i64 (.ofNat 0), .int .i64 (.ofNat 0), .bool false, .str 0 0, .nils, .nils]] [(0, (.t 0))], .none⟩,
 ⟨.tmp, .loadN 2 (.v 7), .none⟩,
 ⟨.tmp, .loadN 2 (.v 7), .none⟩,
 ⟨.tmp, .move (.v 6), .none⟩,
 ⟨.tmp, .move (.v 6), .none⟩,
 ⟨.tmp, .move (.v 2), .none⟩,
 ⟨.tmp, .move (.v 2), .none⟩,
 ⟨.tmp, .move (.v 2), .none⟩,
 ⟨.tmp, .move (.v 2), .none⟩,
 ⟨.tmp, .move (.v 2), .none⟩,
 ⟨.tmp, .loadN 2 (.v 5), .none⟩,
 ⟨.tmp, .move (.v 2), .none⟩,
 ⟨.tmp, .move (.v 2), .none⟩,
 ⟨.tmp, .move (.v 6), .none⟩,
 ⟨.tmp, .move (.v 2), .none⟩,
 ⟨.tmp, .move (.v 2), .none⟩,
 ⟨.tmp, .move (.v 2), .none⟩,
 ⟨.tmp, .move (.v 6), .none⟩,
 ⟨.tmp, .move (.v 2), .none⟩,
 ⟨.tmp, .move (.v 2), .none⟩,
 ⟨.tmp, .move (.v 2), .none⟩,
 ⟨(.var 0), .move (.c (.int .i64 (.ofNat 0))), .none⟩,
 ⟨.tmp, .call 63 [(.t 25)], .none⟩,
 ⟨.no, .againN 2 (.v 5) (.t 11), .none⟩,
 ⟨.no, .againN 2 (.v 7) (.t 19), .none⟩,
 ⟨.no, .againN 2 (.v 7) (.t 20), .none⟩,
 ⟨.no, .againN 7 (.v 8) (.t 22), .none⟩,
 ⟨.no, .againN 2 (.v 5) (.t 25), .none⟩,
 ⟨.tmp, .call 63 [(.t 25)], .none⟩,
 ⟨.no, .againN 2 (.v 5) (.t 12), .none⟩,
 ⟨.no, .againN 2 (.v 7) (.t 20), .none⟩,
 ⟨.no, .againN 2 (.v 7) (.t 21), .none⟩,
 ⟨.no, .againN 7 (.v 8) (.t 23), .none⟩,
 ⟨.tmp, .callv (.t 25) [(.c (.int .i64 (.ofNat 0)))], .none⟩,
 ⟨.no, .againN 2 (.v 5) (.t 13), .none⟩,
 ⟨.no, .againN 2 (.v 7) (.t 21), .none⟩,
 ⟨.no, .againN 2 (.v 7) (.t 22), .none⟩,
 ⟨.no, .againN 7 (.v 8) (.t 24), .none⟩,
 ⟨.tmp, .callv (.t 25) [(.c (.int .i64 (.ofNat 1)))], .none⟩,
 ⟨.no, .againN 2 (.v 5) (.t 14), .none⟩,
 ⟨.no, .againN 2 (.v 7) (.t 22), .none⟩,
 ⟨.no, .againN 2 (.v 7) (.t 23), .none⟩,
 ⟨.no, .againN 7 (.v 8) (.t 25), .none⟩,
 ⟨.tmp, .buildS 6 [[.int .i64 (.ofNat 0), .int .i64 (.ofNat 0), .bool false, .str 0 0, .nils, .nils], [.int .i64 (.ofNat 0), .int .i64 (.ofNat 0), .bool false, .str 0 0, .nils, .nils], [.int .i64 (.ofNat 0), .int .i64 (.ofNat 0), .bool false, .str 0 0, .nils, .nils]] [(0, (.t 2)), (1, (.t 1)), (2, (.t 0))], .none⟩,
 ⟨.tmp, .call 62 [(.c (.bool false)), (.t 4), (.t 0)], .none⟩,
 ⟨.no, .againN 2 (.v 5) (.t 16), .none⟩,
 ⟨.no, .againN 2 (.v 7) (.t 24), .none⟩,
 ⟨.no, .againN 2 (.v 7) (.t 25), .none⟩,
 ⟨.no, .againN 7 (.v 8) (.t 27), .none⟩,
 ⟨.tmp, .build [.int .i64 (.ofNat 0), .str 0 0, .int .i64 (.ofNat 0), .int .i64 (.ofNat 0), .int .i64 (.ofNat 0), .bool false, .str 0 0, .nils, .nils, .int .i64 (.ofNat 0), .int .i64 (.ofNat 0), .bool false, .str 0 0, .nils, .nils, .int .i64 (.ofNat 0), .nils] [(0, 1, (.c (.int .i64 (.ofNat 3)))), (1, 1, (.c (.str 2 28997))), (2, 1, (.c (.int .i64 (.ofNat 1)))), (3, 6, (.t 0)), (15, 1, (.c (.int .i64 (.ofNat 2)))), (16, 1, (.t 26))], .none⟩,
 ⟨.tmp, .call 63 [(.t 26)], .none⟩,
 ⟨.no, .againN 2 (.v 5) (.t 18), .none⟩,
 ⟨.no, .againN 2 (.v 7) (.t 26), .none⟩,
 ⟨.no, .againN 7 (.v 8) (.t 29), .none⟩,
 ⟨.tmp, .call 61 [(.c (.str 3 7368532)), (.c (.nils))], .none⟩,
 ⟨.no, .againN 2 (.v 5) (.t 19), .none⟩,
 ⟨.no, .againN 2 (.v 7) (.t 27), .none⟩,
 ⟨.no, .againN 7 (.v 8) (.t 30), .none⟩,
 ⟨.tmp, .build [.str 0 0, .int .i64 (.ofNat 0), .int .i64 (.ofNat 0), .bool false, .str 0 0, .nils, .nils] [(0, 1, (.c (.str 2 29812))), (1, 6, (.t 0))], .none⟩,
 ⟨.tmp, .buildS 7 [[.str 0 0, .int .i64 (.ofNat 0), .int .i64 (.ofNat 0), .bool false, .str 0 0, .nils, .nils]] [(0, (.t 0))], .none⟩,
 ⟨.tmp, .build [.int .i64 (.ofNat 0), .str 0 0, .int .i64 (.ofNat 0), .int .i64 (.ofNat 0), .int .i64 (.ofNat 0), .bool false, .str 0 0, .nils, .nils, .int .i64 (.ofNat 0), .int .i64 (.ofNat 0), .bool false, .str 0 0, .nils, .nils, .int .i64 (.ofNat 0), .nils] [(0, 1, (.c (.int .i64 (.ofNat 3)))), (1, 1, (.c (.str 3 7368532))), (3, 6, (.t 3)), (16, 1, (.t 0))], .none⟩,
 ⟨.tmp, .call 63 [(.t 30)], .none⟩,
 ⟨.no, .againN 2 (.v 5) (.t 23), .none⟩,
 ⟨.no, .againN 7 (.v 8) (.t 34), .none⟩,
 ⟨.tmp, .build [.int .i64 (.ofNat 0), .str 0 0, .int .i64 (.ofNat 0), .int .i64 (.ofNat 0), .int .i64 (.ofNat 0), .bool false, .str 0 0, .nils, .nils, .int .i64 (.ofNat 0), .int .i64 (.ofNat 0), .bool false, .str 0 0, .nils, .nils, .int .i64 (.ofNat 0), .nils] [(0, 1, (.c (.int .i64 (.ofNat 3)))), (1, 1, (.c (.str 3 7630658))), (3, 6, (.t 0))], .none⟩,
 ⟨.tmp, .callv (.t 29) [(.c (.int .i64 (.ofNat 4)))], .none⟩,
 ⟨.no, .againN 2 (.v 5) (.t 25), .none⟩,
 ⟨.no, .againN 7 (.v 8) (.t 36), .none⟩,
 ⟨.tmp, .callv (.t 29) [(.c (.int .i64 (.ofNat 3)))], .none⟩,
 ⟨.no, .againN 2 (.v 5) (.t 26), .none⟩,
 ⟨.no, .againN 7 (.v 8) (.t 37), .none⟩,
 ⟨.tmp, .callv (.t 29) [(.c (.int .i64 (.ofNat 2)))], .none⟩,
 ⟨.no, .againN 2 (.v 5) (.t 27), .none⟩,
 ⟨.no, .againN 7 (.v 8) (.t 38), .none⟩,
 ⟨.tmp, .buildS 6 [[.int .i64 (.ofNat 0), .int .i64 (.ofNat 0), .bool false, .str 0 0, .nils, .nils], [.int .i64 (.ofNat 0), .int .i64 (.ofNat 0), .bool false, .str 0 0, .nils, .nils], [.int .i64 (.ofNat 0), .int .i64 (.ofNat 0), .bool false, .str 0 0, .nils, .nils]] [(0, (.t 2)), (1, (.t 1)), (2, (.t 0))], .none⟩,
 ⟨.tmp, .callv (.t 34) [(.t 0)], .none⟩,
 ⟨.no, .againN 2 (.v 5) (.t 29), .none⟩,
 ⟨.no, .againN 7 (.v 8) (.t 40), .none⟩,
 ⟨.tmp, .callv (.t 31) [(.c (.int .i64 (.ofNat 1)))], .none⟩,
 ⟨.no, .againN 2 (.v 5) (.t 30), .none⟩,
 ⟨.no, .againN 7 (.v 8) (.t 41), .none⟩,
 ⟨.tmp, .callv (.t 31) [(.c (.int .i64 (.ofNat 0)))], .none⟩,
 ⟨.no, .againN 2 (.v 5) (.t 31), .none⟩,
 ⟨.no, .againN 7 (.v 8) (.t 42), .none⟩,
 ⟨.tmp, .buildS 6 [[.int .i64 (.ofNat 0), .int .i64 (.ofNat 0), .bool false, .str 0 0, .nils, .nils], [.int .i64 (.ofNat 0), .int .i64 (.ofNat 0), .bool false, .str 0 0, .nils, .nils], [.int .i64 (.ofNat 0), .int .i64 (.ofNat 0), .bool false, .str 0 0, .nils, .nils]] [(0, (.t 2)), (1, (.t 1)), (2, (.t 0))], .none⟩,
 ⟨.tmp, .callv (.t 39) [(.t 0)], .none⟩,
 ⟨.no, .againN 2 (.v 5) (.t 33), .none⟩,
 ⟨.no, .againN 7 (.v 8) (.t 44), .none⟩,
 ⟨.tmp, .call 63 [(.t 33)], .none⟩,
 ⟨.no, .againN 7 (.v 8) (.t 45), .none⟩,
 ⟨.tmp, .callv (.t 33) [(.c (.int .i64 (.ofNat 0)))], .none⟩,
 ⟨.no, .againN 7 (.v 8) (.t 46), .none⟩,
 ⟨.tmp, .callv (.t 33) [(.c (.int .i64 (.ofNat 1)))], .none⟩,
 ⟨.no, .againN 7 (.v 8) (.t 47), .none⟩,
 ⟨.tmp, .callv (.t 32) [(.c (.int .i64 (.ofNat 2)))], .none⟩,
 ⟨.no, .againN 7 (.v 8) (.t 48), .none⟩,
 ⟨.tmp, .callv (.t 32) [(.c (.int .i64 (.ofNat 1)))], .none⟩,
 ⟨.no, .againN 7 (.v 8) (.t 49), .none⟩,
 ⟨.tmp, .callv (.t 32) [(.c (.int .i64 (.ofNat 0)))], .none⟩,
 ⟨.no, .againN 7 (.v 8) (.t 50), .none⟩,
 ⟨.tmp, .buildS 6 [[.int .i64 (.ofNat 0), .int .i64 (.ofNat 0), .bool false, .str 0 0, .nils, .nils], [.int .i64 (.ofNat 0), .int .i64 (.ofNat 0), .bool false, .str 0 0, .nils, .nils], [.int .i64 (.ofNat 0), .int .i64 (.ofNat 0), .bool false, .str 0 0, .nils, .nils]] [(0, (.t 2)), (1, (.t 1)), (2, (.t 0))], .none⟩,
 ⟨.tmp, .callv (.t 37) [(.t 0)], .none⟩,
 ⟨.no, .againN 7 (.v 8) (.t 52), .none⟩,
 ⟨.tmp, .callv (.t 33) [(.c (.int .i64 (.ofNat 3)))], .none⟩,
 ⟨.no, .againN 7 (.v 8) (.t 53), .none⟩,
 ⟨.tmp, .callv (.t 33) [(.c (.int .i64 (.ofNat 2)))], .none⟩,
 ⟨.no, .againN 7 (.v 8) (.t 54), .none⟩,
 ⟨.tmp, .callv (.t 33) [(.c (.int .i64 (.ofNat 1)))], .none⟩,
 ⟨.no, .againN 7 (.v 8) (.t 55), .none⟩,
 ⟨.tmp, .buildS 6 [[.int .i64 (.ofNat 0), .int .i64 (.ofNat 0), .bool false, .str 0 0, .nils, .nils], [.int .i64 (.ofNat 0), .int .i64 (.ofNat 0), .bool false, .str 0 0, .nils, .nils], [.int .i64 (.ofNat 0), .int .i64 (.ofNat 0), .bool false, .str 0 0, .nils, .nils]] [(0, (.t 2)), (1, (.t 1)), (2, (.t 0))], .none⟩,
 ⟨.tmp, .callv (.t 38) [(.t 0)], .none⟩,
 ⟨.no, .againN 7 (.v 8) (.t 57), .none⟩,
 ⟨.tmp, .buildS 6 [[.int .i64 (.ofNat 0), .int .i64 (.ofNat 0), .bool false, .str 0 0, .nils, .nils], [.int .i64 (.ofNat 0), .int .i64 (.ofNat 0), .bool false, .str 0 0, .nils, .nils], [.int .i64 (.ofNat 0), .int .i64 (.ofNat 0), .bool false, .str 0 0, .nils, .nils], [.int .i64 (.ofNat 0), .int .i64 (.ofNat 0), .bool false, .str 0 0, .nils, .nils], [.int .i64 (.ofNat 0), .int .i64 (.ofNat 0), .bool false, .str 0 0, .nils, .nils]] [(0, (.t 12)), (1, (.t 11)), (2, (.t 10)), (3, (.t 5)), (4, (.t 0))], .none⟩,
 ⟨.tmp, .call 62 [(.c (.bool false)), (.t 14), (.t 0)], .none⟩,
 ⟨.no, .againN 7 (.v 8) (.t 59), .none⟩,
 ⟨.tmp, .build [.int .i64 (.ofNat 0), .str 0 0, .int .i64 (.ofNat 0), .int .i64 (.ofNat 0), .int .i64 (.ofNat 0), .bool false, .str 0 0, .nils, .nils, .int .i64 (.ofNat 0), .int .i64 (.ofNat 0), .bool false, .str 0 0, .nils, .nils, .int .i64 (.ofNat 0), .nils] [(0, 1, (.c (.int .i64 (.ofNat 1)))), (1, 1, (.c (.str 3 7367029))), (2, 1, (.c (.int .i64 (.ofNat 1)))), (3, 6, (.t 0))], .none⟩,
 ⟨(.var 3), .build [.int .i64 (.ofNat 0), .str 0 0, .int .i64 (.ofNat 0), .int .i64 (.ofNat 0), .int .i64 (.ofNat 0), .bool false, .str 0 0, .nils, .nils, .int .i64 (.ofNat 0), .int .i64 (.ofNat 0), .bool false, .str 0 0, .nils, .nils, .int .i64 (.ofNat 0), .nils, .int .i64 (.ofNat 0), .str 0 0, .int .i64 (.ofNat 0), .int .i64 (.ofNat 0), .int .i64 (.ofNat 0), .bool false, .str 0 0, .nils, .nils, .int .i64 (.ofNat 0), .int .i64 (.ofNat 0), .bool false, .str 0 0, .nils, .nils, .int .i64 (.ofNat 0), .nils, .int .i64 (.ofNat 0), .str 0 0, .int .i64 (.ofNat 0), .int .i64 (.ofNat 0), .int .i64 (.ofNat 0), .bool false, .str 0 0, .nils, .nils, .int .i64 (.ofNat 0), .int .i64 (.ofNat 0), .bool false, .str 0 0, .nils, .nils, .int .i64 (.ofNat 0), .nils, .int .i64 (.ofNat 0), .str 0 0, .int .i64 (.ofNat 0), .int .i64 (.ofNat 0), .int .i64 (.ofNat 0), .bool false, .str 0 0, .nils, .nils, .int .i64 (.ofNat 0), .int .i64 (.ofNat 0), .bool false, .str 0 0, .nils, .nils, .int .i64 (.ofNat 0), .nils] [(0, 17, (.t 32)), (17, 17, (.t 27)), (34, 17, (.t 25)), (51, 17, (.t 0))], .none⟩]) (
 .block 0 (
 .loop b57_0))))))),
 [], 9, .none⟩
/-- telamon/raw.Var -/
def vm58 : List Nat := [2, 0]

def d58 : DF := ⟨[.some 2, .some 0],
 .seq (.reg [⟨(.var 0), .alloc [.int .i64 (.ofNat 0), .int .i64 (.ofNat 0), .bool false, .str 0 0, .nils, .nils], .none⟩]) (
 .seq (.reg [⟨.tmp, .move (.v 1), .none⟩,
 ⟨.tmp, .build [.int .i64 (.ofNat 0), .int .i64 (.ofNat 0), .bool false, .str 0 0, .nils, .nils] [(0, 1, (.c (.int .i64 (.ofNat 1)))), (1, 1, (.t 0))], .none⟩,
 ⟨.no, .store 6 (.v 0) (.t 0), .none⟩]) (
 .ret)),
 [.cellN 6 (.v 0)], 2, .none⟩
/-- telamon/prelude.decls$1$1 -/
def vm59 : List Nat := [3, 0, 1]

def d59 : DF := ⟨[.some 3, .some 0, .some 1],
 .seq (.reg [⟨(.var 0), .alloc [.int .i64 (.ofNat 0), .int .i64 (.ofNat 0), .bool false, .str 0 0, .nils, .nils], .none⟩]) (
 .seq (.reg [⟨.tmp, .loadN 2 (.v 2), .none⟩,
 ⟨.tmp, .buildS 2 [[.int .i64 (.ofNat 0), .nils]] [(0, (.t 0))], .none⟩,
 ⟨.tmp, .call 61 [(.c (.str 2 28997)), (.t 0)], .none⟩,
 ⟨.tmp, .move (.v 1), .none⟩,
 ⟨.tmp, .call 60 [(.t 1), (.t 0)], .none⟩,
 ⟨.no, .store 6 (.v 0) (.t 0), .none⟩]) (
 .ret)),
 [.cellN 6 (.v 0)], 3, .none⟩
/-- telamon/raw.App -/
def vm60 : List Nat := [9, 6, 2, 7, 8, 4, 0, 1]
def b60_0 : DC :=
 .seq (.reg [⟨.tmp, .bin .lss (.v 0) (.v 4), .none⟩]) (
 .seq (.cond (.t 0) (
 .skip) (
 .exit 0)) (
 .seq (.block 1 (
 .seq (.reg [⟨.tmp, .idxS 6 (.v 3) (.v 0), .none⟩,
 ⟨.tmp, .loadN 6 (.t 0), .none⟩,
 ⟨(.var 1), .alloc [.int .i64 (.ofNat 0), .int .i64 (.ofNat 0), .bool false, .str 0 0, .nils, .nils], .none⟩,
 ⟨.no, .store 6 (.v 1) (.t 0), .none⟩]) (
 .reg [⟨.tmp, .loadN 6 (.v 2), .none⟩,
 ⟨.tmp, .loadN 6 (.v 1), .none⟩,
 ⟨.tmp, .buildS 6 [[.int .i64 (.ofNat 0), .int .i64 (.ofNat 0), .bool false, .str 0 0, .nils, .nils], [.int .i64 (.ofNat 0), .int .i64 (.ofNat 0), .bool false, .str 0 0, .nils, .nils]] [(0, (.t 1)), (1, (.t 0))], .none⟩,
 ⟨.tmp, .build [.int .i64 (.ofNat 0), .int .i64 (.ofNat 0), .bool false, .str 0 0, .nils, .nils] [(0, 1, (.c (.int .i64 (.ofNat 5)))), (5, 1, (.t 0))], .none⟩,
 ⟨.no, .store 6 (.v 2) (.t 0), .none⟩]))) (
 .reg [⟨.tmp, .bin .add (.v 0) (.c (.int .i64 (.ofNat 1))), .none⟩,
 ⟨(.var 0), .move (.t 0), .none⟩])))
def r60_1 : DC :=
 .seq (.reg [⟨.tmp, .loadN 6 (.v 2), .none⟩,
 ⟨.no, .store 6 (.v 5) (.t 0), .none⟩]) (
 .ret)
def d60 : DF := ⟨[.some 9, .some 6, .some 2, .some 7, .some 8, .some 4, .some 0, .some 1],
 .seq (.reg [⟨(.var 2), .box 6 (.v 6), .none⟩,
 ⟨(.var 5), .alloc [.int .i64 (.ofNat 0), .int .i64 (.ofNat 0), .bool false, .str 0 0, .nils, .nils], .none⟩]) (
 .seq (.seq (.reg [⟨(.var 3), .move (.v 7), .none⟩,
 ⟨(.var 4), .len false (.v 3), .none⟩,
 ⟨(.var 0), .move (.c (.int .i64 (.ofNat 0))), .none⟩]) (
 .block 0 (
 .loop b60_0))) r60_1),
 [.cellN 6 (.v 5)], 8, .none⟩
/-- telamon/raw.Const -/
def vm61 : List Nat := [4, 0, 1]

def d61 : DF := ⟨[.some 4, .some 0, .some 1],
 .seq (.reg [⟨(.var 0), .alloc [.int .i64 (.ofNat 0), .int .i64 (.ofNat 0), .bool false, .str 0 0, .nils, .nils], .none⟩]) (
 .seq (.reg [⟨.tmp, .move (.v 1), .none⟩,
 ⟨.tmp, .move (.v 2), .none⟩,
 ⟨.tmp, .call 113 [(.t 0)], .none⟩,
 ⟨.tmp, .build [.int .i64 (.ofNat 0), .int .i64 (.ofNat 0), .bool false, .str 0 0, .nils, .nils] [(0, 1, (.c (.int .i64 (.ofNat 10)))), (3, 1, (.t 2)), (4, 1, (.t 0))], .none⟩,
 ⟨.no, .store 6 (.v 0) (.t 0), .none⟩]) (
 .ret)),
 [.cellN 6 (.v 0)], 3, .none⟩
/-- telamon/prelude.pis -/
def vm62 : List Nat := [7, 4, 2, 0, 6, 1]
def b62_0 : DC :=
 .seq (.seq (.reg [⟨.tmp, .move (.v 0), .none⟩,
 ⟨.tmp, .bin .geq (.t 0) (.c (.int .i64 (.ofNat 0))), .none⟩]) (
 .cond (.t 0) (
 .skip) (
 .exit 0))) (
 .seq (.block 1 (
 .reg [⟨.tmp, .move (.v 3), .none⟩,
 ⟨.tmp, .move (.v 2), .none⟩,
 ⟨.tmp, .move (.v 0), .none⟩,
 ⟨.tmp, .idxS 6 (.t 1) (.t 0), .none⟩,
 ⟨.tmp, .loadN 6 (.t 0), .none⟩,
 ⟨.tmp, .loadN 6 (.v 1), .none⟩,
 ⟨.tmp, .call 114 [(.c (.int .i64 (.ofNat 3))), (.t 5), (.t 1), (.t 0)], .none⟩,
 ⟨.no, .store 6 (.v 1) (.t 0), .none⟩])) (
 .reg [⟨.tmp, .move (.v 0), .none⟩,
 ⟨.tmp, .bin .sub (.t 0) (.c (.int .i64 (.ofNat 1))), .none⟩,
 ⟨(.var 0), .move (.t 0), .none⟩]))
def r62_1 : DC :=
 .seq (.reg [⟨.tmp, .loadN 6 (.v 1), .none⟩,
 ⟨.no, .store 6 (.v 4) (.t 0), .none⟩]) (
 .ret)
def d62 : DF := ⟨[.some 7, .some 4, .some 2, .some 0, .some 6, .some 1],
 .seq (.reg [⟨(.var 1), .box 6 (.v 5), .none⟩,
 ⟨(.var 4), .alloc [.int .i64 (.ofNat 0), .int .i64 (.ofNat 0), .bool false, .str 0 0, .nils, .nils], .none⟩]) (
 .seq (.seq (.reg [⟨.tmp, .move (.v 2), .none⟩,
 ⟨.tmp, .len false (.t 0), .none⟩,
 ⟨.tmp, .bin .sub (.t 0) (.c (.int .i64 (.ofNat 1))), .none⟩,
 ⟨(.var 0), .move (.t 0), .none⟩]) (
 .block 0 (
 .loop b62_0))) r62_1),
 [.cellN 6 (.v 4)], 6, .none⟩
/-- telamon/prelude.set -/
def vm63 : List Nat := [1, 2, 0]

def d63 : DF := ⟨[.some 1, .some 2, .some 0],
 .seq (.reg [⟨(.var 0), .box 2 (.v 2), .none⟩,
 ⟨(.var 1), .alloc [.int .i64 (.ofNat 0), .int .i64 (.ofNat 0), .bool false, .str 0 0, .nils, .nils], .none⟩]) (
 .seq (.reg [⟨.tmp, .loadN 2 (.v 0), .none⟩,
 ⟨.tmp, .call 115 [(.t 0)], .none⟩,
 ⟨.no, .store 6 (.v 1) (.t 0), .none⟩]) (
 .ret)),
 [.cellN 6 (.v 1)], 3, .none⟩
/-- telamon/scope.fail -/
def vm64 : List Nat := [4, 0, 1]

def d64 : DF := ⟨[.some 4, .some 0, .some 1],
 .seq (.reg [⟨(.var 0), .move (.c (.nili)), .none⟩]) (
 .seq (.reg [⟨.tmp, .move (.v 1), .none⟩,
 ⟨.tmp, .move (.v 2), .none⟩,
 ⟨.tmp, .build [.int .i64 (.ofNat 0), .int .i64 (.ofNat 0)] [(0, 1, (.t 1)), (1, 1, (.t 0))], .none⟩,
 ⟨.tmp, .mkif 75 (.t 0), .none⟩,
 ⟨(.var 0), .move (.t 0), .none⟩]) (
 .ret)),
 [.opd (.v 0)], 3, .none⟩
/-- (*telamon/scope.resolver).free -/
def vm65 : List Nat := [6, 1, 2, 0]

def d65 : DF := ⟨[.some 6, .some 1, .some 2, .some 0],
 .seq (.reg [⟨(.var 0), .move (.c (.nili)), .none⟩]) (
 .seq (.block 0 (
 .seq (.reg [⟨.tmp, .move (.v 1), .none⟩,
 ⟨.tmp, .call 76 [(.t 0), (.c (.str 1 46))], .none⟩,
 ⟨.tmp, .move (.t 0), .none⟩]) (
 .cond (.t 0) (
 .seq (.reg [⟨.tmp, .move (.v 2), .none⟩,
 ⟨.tmp, .call 64 [(.t 0), (.c (.int .i64 (.ofNat 41)))], .none⟩,
 ⟨(.var 0), .move (.t 0), .none⟩]) (
 .ret)) (
 .seq (.reg [⟨.tmp, .move (.v 3), .none⟩,
 ⟨.tmp, .nilck (.t 0), .none⟩,
 ⟨.tmp, .fadr 0 (.t 0), .none⟩,
 ⟨.tmp, .fadr 0 (.t 0), .none⟩,
 ⟨.tmp, .load1 (.t 0), .none⟩,
 ⟨.tmp, .nilck (.t 0), .none⟩,
 ⟨.tmp, .fadr 0 (.t 0), .none⟩,
 ⟨.tmp, .fadr 0 (.t 0), .none⟩,
 ⟨.tmp, .load1 (.t 0), .none⟩,
 ⟨.tmp, .move (.v 1), .none⟩,
 ⟨.tmp, .build [.str 0 0, .bool false] [(0, 1, (.t 0)), (1, 1, (.c (.bool false)))], .none⟩,
 ⟨.tmp, .lkp (.nils) 3 false (.t 2) (.t 0), .none⟩,
 ⟨.tmp, .len false (.t 0), .none⟩,
 ⟨.tmp, .bin .gtr (.t 0) (.c (.int .i64 (.ofNat 0))), .none⟩,
 ⟨.tmp, .move (.t 0), .none⟩]) (
 .cond (.t 0) (
 .seq (.reg [⟨.tmp, .move (.v 2), .none⟩,
 ⟨.tmp, .call 64 [(.t 0), (.c (.int .i64 (.ofNat 46)))], .none⟩,
 ⟨(.var 0), .move (.t 0), .none⟩]) (
 .ret)) (
 .skip)))))) (
 .seq (.reg [⟨(.var 0), .move (.c (.nili)), .none⟩]) (
 .ret))),
 [.opd (.v 0)], 4, .none⟩
/-- (*telamon/scope.resolver).around -/
def vm66 : List Nat := [4, 6, 3, 5, 2, 0]
def b66_0 : DC :=
 .seq (.seq (.reg [⟨.tmp, .move (.v 0), .none⟩,
 ⟨.tmp, .binP .neq (.t 0) (.c (.nilp)), .none⟩]) (
 .cond (.t 0) (
 .skip) (
 .exit 0))) (
 .seq (.block 1 (
 .reg [⟨.tmp, .move (.v 2), .none⟩,
 ⟨.tmp, .move (.v 0), .none⟩,
 ⟨.tmp, .buildS 1 [[.nilp]] [(0, (.t 0))], .none⟩,
 ⟨.tmp, .append 1 8 (.t 2) (.t 0), .none⟩,
 ⟨(.var 2), .move (.t 0), .none⟩])) (
 .reg [⟨.tmp, .move (.v 0), .none⟩,
 ⟨.tmp, .nilck (.t 0), .none⟩,
 ⟨.tmp, .fadr 4 (.t 0), .none⟩,
 ⟨.tmp, .load1 (.t 0), .none⟩,
 ⟨(.var 0), .move (.t 0), .none⟩]))
def b66_1 : DC :=
 .seq (.seq (.reg [⟨.tmp, .move (.v 1), .none⟩,
 ⟨.tmp, .bin .geq (.t 0) (.c (.int .i64 (.ofNat 0))), .none⟩]) (
 .cond (.t 0) (
 .skip) (
 .exit 2))) (
 .seq (.block 3 (
 .reg [⟨.tmp, .move (.v 3), .none⟩,
 ⟨.tmp, .move (.v 2), .none⟩,
 ⟨.tmp, .move (.v 1), .none⟩,
 ⟨.tmp, .idxS 1 (.t 1) (.t 0), .none⟩,
 ⟨.tmp, .load1 (.t 0), .none⟩,
 ⟨.tmp, .nilck (.t 0), .none⟩,
 ⟨.tmp, .fadr 5 (.t 0), .none⟩,
 ⟨.tmp, .load1 (.t 0), .none⟩,
 ⟨.tmp, .append 9 120 (.t 7) (.t 0), .none⟩,
 ⟨(.var 3), .move (.t 0), .none⟩])) (
 .reg [⟨.tmp, .move (.v 1), .none⟩,
 ⟨.tmp, .bin .sub (.t 0) (.c (.int .i64 (.ofNat 1))), .none⟩,
 ⟨(.var 1), .move (.t 0), .none⟩]))
def r66_2 : DC :=
 .seq (.reg [⟨.tmp, .move (.v 3), .none⟩,
 ⟨(.var 4), .move (.t 0), .none⟩]) (
 .ret)
def r66_3 : DC :=
 .seq (.reg [⟨(.var 3), .move (.c (.nils)), .none⟩]) (
 .seq (.seq (.reg [⟨.tmp, .move (.v 2), .none⟩,
 ⟨.tmp, .len false (.t 0), .none⟩,
 ⟨.tmp, .bin .sub (.t 0) (.c (.int .i64 (.ofNat 1))), .none⟩,
 ⟨(.var 1), .move (.t 0), .none⟩]) (
 .block 2 (
 .loop b66_1))) r66_2)
def d66 : DF := ⟨[.some 4, .some 6, .some 3, .some 5, .some 2, .some 0],
 .seq (.reg [⟨(.var 4), .move (.c (.nils)), .none⟩]) (
 .seq (.reg [⟨(.var 2), .move (.c (.nils)), .none⟩]) (
 .seq (.seq (.reg [⟨.tmp, .move (.v 5), .none⟩,
 ⟨.tmp, .nilck (.t 0), .none⟩,
 ⟨.tmp, .fadr 0 (.t 0), .none⟩,
 ⟨.tmp, .fadr 0 (.t 0), .none⟩,
 ⟨.tmp, .load1 (.t 0), .none⟩,
 ⟨(.var 0), .move (.t 0), .none⟩]) (
 .block 0 (
 .loop b66_0))) r66_3)),
 [.opd (.v 4)], 6, .none⟩
/-- (*telamon/scope.module).global -/
def vm67 : List Nat := [4, 0, 1]

def d67 : DF := ⟨[.some 4, .some 0, .some 1],
 .seq (.reg [⟨(.var 0), .move (.c (.str 0 0)), .none⟩]) (
 .seq (.seq (.reg [⟨.tmp, .move (.v 1), .none⟩,
 ⟨.tmp, .nilck (.t 0), .none⟩,
 ⟨.tmp, .fadr 3 (.t 0), .none⟩,
 ⟨.tmp, .load1 (.t 0), .none⟩,
 ⟨.tmp, .bin .eql (.t 0) (.c (.str 0 0)), .none⟩]) (
 .cond (.t 0) (
 .seq (.reg [⟨.tmp, .move (.v 2), .none⟩,
 ⟨(.var 0), .move (.t 0), .none⟩]) (
 .ret)) (
 .skip))) (
 .seq (.reg [⟨.tmp, .move (.v 1), .none⟩,
 ⟨.tmp, .nilck (.t 0), .none⟩,
 ⟨.tmp, .fadr 3 (.t 0), .none⟩,
 ⟨.tmp, .load1 (.t 0), .none⟩,
 ⟨.tmp, .bin .add (.t 0) (.c (.str 1 46)), .none⟩,
 ⟨.tmp, .move (.v 2), .none⟩,
 ⟨.tmp, .bin .add (.t 1) (.t 0), .none⟩,
 ⟨(.var 0), .move (.t 0), .none⟩]) (
 .ret))),
 [.opd (.v 0)], 3, .none⟩
/-- (*telamon/scope.resolver).telescope -/
def vm68 : List Nat := [10, 3, 22, 11, 12, 7, 6, 20, 21, 8, 0, 1, 2]
def b68_0 : DC :=
 .seq (.reg [⟨.tmp, .bin .lss (.v 2) (.v 8), .none⟩]) (
 .seq (.cond (.t 0) (
 .skip) (
 .exit 0)) (
 .seq (.block 1 (
 .seq (.reg [⟨.tmp, .idxS 9 (.v 7) (.v 2), .none⟩,
 ⟨.tmp, .loadN 9 (.t 0), .none⟩,
 ⟨(.var 0), .alloc [.str 0 0, .bool false, .int .i64 (.ofNat 0), .int .i64 (.ofNat 0), .str 0 0, .bool false, .nils, .nils, .int .i64 (.ofNat 0)], .none⟩,
 ⟨.no, .store 9 (.v 0) (.t 0), .none⟩]) (
 .seq (.reg [⟨.tmp, .load1 (.v 1), .none⟩,
 ⟨.tmp, .fadr 2 (.v 0), .none⟩,
 ⟨.tmp, .loadN 7 (.t 0), .none⟩,
 ⟨.tmp, .call 70 [(.t 2), (.t 0)], .none⟩,
 ⟨.tmp, .move (.t 0), .none⟩,
 ⟨.tmp, .ext (.t 0) 0, .none⟩,
 ⟨.tmp, .ext (.t 1) 1, .none⟩,
 ⟨(.var 3), .alloc [.int .i64 (.ofNat 0), .int .i64 (.ofNat 0), .str 0 0, .bool false, .nils, .nils, .int .i64 (.ofNat 0)], .none⟩,
 ⟨.no, .store 7 (.v 3) (.t 1), .none⟩,
 ⟨(.var 4), .move (.t 0), .none⟩]) (
 .seq (.seq (.reg [⟨.tmp, .move (.v 4), .none⟩,
 ⟨.tmp, .binN true 0 (.t 0), .none⟩]) (
 .cond (.t 0) (
 .seq (.reg [⟨.tmp, .move (.v 4), .none⟩,
 ⟨(.var 6), .move (.t 0), .none⟩]) (
 .ret)) (
 .skip))) (
 .seq (.reg [⟨.tmp, .move (.v 5), .none⟩,
 ⟨.tmp, .fadr 0 (.v 0), .none⟩,
 ⟨.tmp, .load1 (.t 0), .none⟩,
 ⟨.tmp, .fadr 1 (.v 0), .none⟩,
 ⟨.tmp, .load1 (.t 0), .none⟩,
 ⟨.tmp, .loadN 7 (.v 3), .none⟩,
 ⟨.tmp, .build [.str 0 0, .bool false, .int .i64 (.ofNat 0), .int .i64 (.ofNat 0), .str 0 0, .bool false, .nils, .nils, .int .i64 (.ofNat 0)] [(0, 1, (.t 3)), (1, 1, (.t 1)), (2, 7, (.t 0))], .none⟩,
 ⟨.tmp, .buildS 9 [[.str 0 0, .bool false, .int .i64 (.ofNat 0), .int .i64 (.ofNat 0), .str 0 0, .bool false, .nils, .nils, .int .i64 (.ofNat 0)]] [(0, (.t 0))], .none⟩,
 ⟨.tmp, .append 9 120 (.t 7) (.t 0), .none⟩,
 ⟨(.var 5), .move (.t 0), .none⟩]) (
 .reg [⟨.tmp, .load1 (.v 1), .none⟩,
 ⟨.tmp, .load1 (.v 1), .none⟩,
 ⟨.tmp, .nilck (.t 0), .none⟩,
 ⟨.tmp, .fadr 0 (.t 0), .none⟩,
 ⟨.tmp, .fadr 1 (.t 0), .none⟩,
 ⟨.tmp, .load1 (.t 0), .none⟩,
 ⟨.tmp, .load1 (.v 1), .none⟩,
 ⟨.tmp, .nilck (.t 0), .none⟩,
 ⟨.tmp, .fadr 0 (.t 0), .none⟩,
 ⟨.tmp, .fadr 1 (.t 0), .none⟩,
 ⟨.tmp, .load1 (.t 0), .none⟩,
 ⟨.tmp, .len false (.t 0), .none⟩,
 ⟨.tmp, .load1 (.v 1), .none⟩,
 ⟨.tmp, .nilck (.t 0), .none⟩,
 ⟨.tmp, .fadr 0 (.t 0), .none⟩,
 ⟨.tmp, .fadr 1 (.t 0), .none⟩,
 ⟨.tmp, .load1 (.t 0), .none⟩,
 ⟨.tmp, .len false (.t 0), .none⟩,
 ⟨.tmp, .slcS 1 (.t 12) .none (.some (.t 6)) (.some (.t 0)), .none⟩,
 ⟨.tmp, .fadr 0 (.v 0), .none⟩,
 ⟨.tmp, .load1 (.t 0), .none⟩,
 ⟨.tmp, .buildS 1 [[.str 0 0]] [(0, (.t 0))], .none⟩,
 ⟨.tmp, .append 1 16 (.t 3) (.t 0), .none⟩,
 ⟨.no, .again1 (.v 1) (.t 22), .none⟩,
 ⟨.tmp, .nilck (.t 22), .none⟩,
 ⟨.tmp, .fadr 0 (.t 0), .none⟩,
 ⟨.tmp, .fadr 1 (.t 0), .none⟩,
 ⟨.no, .store 1 (.t 0) (.t 3), .none⟩])))))) (
 .reg [⟨.tmp, .bin .add (.v 2) (.c (.int .i64 (.ofNat 1))), .none⟩,
 ⟨(.var 2), .move (.t 0), .none⟩])))
def r68_1 : DC :=
 .seq (.reg [⟨.tmp, .move (.v 12), .none⟩,
 ⟨.tmp, .move (.v 5), .none⟩,
 ⟨.tmp, .callv (.t 1) [(.t 0)], .none⟩,
 ⟨(.var 6), .move (.t 0), .none⟩]) (
 .ret)
def d68 : DF := ⟨[.some 10, .some 3, .some 22, .some 11, .some 12, .some 7, .some 6, .some 20, .some 21, .some 8, .some 0, .some 1, .some 2, .none],
 .seq (.reg [⟨(.var 1), .box 1 (.v 10), .none⟩,
 ⟨(.var 6), .move (.c (.nili)), .none⟩]) (
 .seq (.reg [⟨(.var 5), .move (.c (.nils)), .none⟩]) (
 .seq (.reg [⟨.tmp, .load1 (.v 1), .none⟩,
 ⟨.tmp, .nilck (.t 0), .none⟩,
 ⟨.tmp, .fadr 0 (.t 0), .none⟩,
 ⟨.tmp, .fadr 1 (.t 0), .none⟩,
 ⟨.tmp, .load1 (.t 0), .none⟩,
 ⟨.tmp, .len false (.t 0), .none⟩,
 ⟨(.var 9), .alloc [.int .i64 (.ofNat 0)], .none⟩,
 ⟨.no, .store 1 (.v 9) (.t 0), .none⟩]) (
 .seq (.reg [⟨.tmp, .mkfn 116 [] [(.v 1), (.v 9)], .none⟩,
 ⟨(.var 13), .dfr 13 (.t 0) [], .none⟩]) (
 .seq (.seq (.reg [⟨(.var 7), .move (.v 11), .none⟩,
 ⟨(.var 8), .len false (.v 7), .none⟩,
 ⟨(.var 2), .move (.c (.int .i64 (.ofNat 0))), .none⟩]) (
 .block 0 (
 .loop b68_0))) r68_1)))),
 [.opd (.v 6)], 13, .none⟩
/-- (*telamon/scope.resolver).data$1 -/
def vm69 : List Nat := [6, 4, 2, 3, 0, 1]

def d69 : DF := ⟨[.some 6, .some 4, .some 2, .some 3, .some 0, .some 1],
 .seq (.reg [⟨(.var 0), .move (.c (.nili)), .none⟩]) (
 .seq (.reg [⟨.tmp, .load1 (.v 5), .none⟩,
 ⟨.tmp, .move (.v 4), .none⟩,
 ⟨.tmp, .append 9 120 (.t 1) (.t 0), .none⟩,
 ⟨.tmp, .fadr 5 (.v 2), .none⟩,
 ⟨.no, .store 1 (.t 0) (.t 1), .none⟩]) (
 .seq (.seq (.reg [⟨.tmp, .load1 (.v 3), .none⟩,
 ⟨.tmp, .fadr 6 (.v 1), .none⟩,
 ⟨.tmp, .loadN 7 (.t 0), .none⟩,
 ⟨.tmp, .call 70 [(.t 2), (.t 0)], .none⟩,
 ⟨.tmp, .move (.t 0), .none⟩,
 ⟨.tmp, .ext (.t 0) 0, .none⟩,
 ⟨.tmp, .ext (.t 1) 1, .none⟩,
 ⟨.tmp, .fadr 6 (.v 2), .none⟩,
 ⟨.no, .store 7 (.t 0) (.t 2), .none⟩,
 ⟨(.var 0), .move (.t 1), .none⟩]) (
 .seq (.reg [⟨.tmp, .move (.v 0), .none⟩,
 ⟨.tmp, .binN true 0 (.t 0), .none⟩]) (
 .cond (.t 0) (
 .seq (.reg [⟨.tmp, .move (.v 0), .none⟩,
 ⟨(.var 0), .move (.t 0), .none⟩]) (
 .ret)) (
 .skip)))) (
 .seq (.seq (.reg [⟨.tmp, .load1 (.v 3), .none⟩,
 ⟨.tmp, .fadr 2 (.v 1), .none⟩,
 ⟨.tmp, .load1 (.t 0), .none⟩,
 ⟨.tmp, .fadr 25 (.v 1), .none⟩,
 ⟨.tmp, .load1 (.t 0), .none⟩,
 ⟨.tmp, .call 71 [(.t 4), (.t 2), (.t 0), (.c (.bool false))], .none⟩,
 ⟨(.var 0), .move (.t 0), .none⟩]) (
 .seq (.reg [⟨.tmp, .move (.v 0), .none⟩,
 ⟨.tmp, .binN true 0 (.t 0), .none⟩]) (
 .cond (.t 0) (
 .seq (.reg [⟨.tmp, .move (.v 0), .none⟩,
 ⟨(.var 0), .move (.t 0), .none⟩]) (
 .ret)) (
 .skip)))) (
 .seq (.reg [⟨.tmp, .load1 (.v 3), .none⟩,
 ⟨.tmp, .fadr 20 (.v 1), .none⟩,
 ⟨.tmp, .load1 (.t 0), .none⟩,
 ⟨.tmp, .mkfn 73 [] [(.v 2)], .none⟩,
 ⟨.tmp, .call 72 [(.t 3), (.t 1), (.c (.bool true)), (.t 0)], .none⟩,
 ⟨(.var 0), .move (.t 0), .none⟩]) (
 .ret))))),
 [.opd (.v 0)], 6, .none⟩
/-- (*telamon/scope.resolver).exp -/
def vm70 : List Nat := [3, 6, 22, 4, 5, 0, 7, 1]

def d70 : DF := ⟨[.some 3, .some 6, .some 22, .some 4, .some 5, .some 0, .some 7, .some 1],
 .seq (.reg [⟨(.var 0), .box 7 (.v 7), .none⟩,
 ⟨(.var 3), .alloc [.int .i64 (.ofNat 0), .int .i64 (.ofNat 0), .str 0 0, .bool false, .nils, .nils, .int .i64 (.ofNat 0)], .none⟩,
 ⟨(.var 4), .move (.c (.nili)), .none⟩]) (
 .seq (.seq (.reg [⟨.tmp, .fadr 0 (.v 0), .none⟩,
 ⟨.tmp, .load1 (.t 0), .none⟩,
 ⟨.tmp, .bin .eql (.t 0) (.c (.int .i64 (.ofNat 2))), .none⟩]) (
 .cond (.t 0) (
 .seq (.reg [⟨.tmp, .move (.v 5), .none⟩,
 ⟨.tmp, .loadN 7 (.v 0), .none⟩,
 ⟨.tmp, .call 117 [(.t 1), (.t 0)], .none⟩,
 ⟨.tmp, .ext (.t 0) 0, .none⟩,
 ⟨.tmp, .ext (.t 1) 1, .none⟩,
 ⟨.no, .store 7 (.v 3) (.t 1), .none⟩,
 ⟨(.var 4), .move (.t 0), .none⟩]) (
 .ret)) (
 .skip))) (
 .seq (.reg [⟨.tmp, .fadr 0 (.v 0), .none⟩,
 ⟨.tmp, .load1 (.t 0), .none⟩,
 ⟨.tmp, .fadr 6 (.v 0), .none⟩,
 ⟨.tmp, .load1 (.t 0), .none⟩,
 ⟨.tmp, .build [.int .i64 (.ofNat 0), .int .i64 (.ofNat 0), .str 0 0, .bool false, .nils, .nils, .int .i64 (.ofNat 0)] [(0, 1, (.t 2)), (6, 1, (.t 0))], .none⟩,
 ⟨(.var 1), .alloc [.int .i64 (.ofNat 0), .int .i64 (.ofNat 0), .str 0 0, .bool false, .nils, .nils, .int .i64 (.ofNat 0)], .none⟩,
 ⟨.no, .store 7 (.v 1) (.t 0), .none⟩]) (
 .seq (.seq (.reg [⟨.tmp, .fadr 0 (.v 0), .none⟩,
 ⟨(.var 2), .load1 (.t 0), .none⟩]) (
 .block 0 (
 .seq (.reg [⟨.tmp, .bin .eql (.v 2) (.c (.int .i64 (.ofNat 3))), .none⟩,
 ⟨.tmp, .move (.t 0), .none⟩]) (
 .cond (.t 0) (
 .reg [⟨.tmp, .fadr 1 (.v 0), .none⟩,
 ⟨.tmp, .load1 (.t 0), .none⟩,
 ⟨.tmp, .fadr 1 (.v 1), .none⟩,
 ⟨.no, .store 1 (.t 0) (.t 1), .none⟩]) (
 .seq (.reg [⟨.tmp, .bin .eql (.v 2) (.c (.int .i64 (.ofNat 5))), .none⟩,
 ⟨.tmp, .move (.t 0), .none⟩]) (
 .cond (.t 0) (
 .reg [⟨.tmp, .fadr 3 (.v 0), .none⟩,
 ⟨.tmp, .load1 (.t 0), .none⟩,
 ⟨.tmp, .fadr 3 (.v 1), .none⟩,
 ⟨.no, .store 1 (.t 0) (.t 1), .none⟩]) (
 .seq (.reg [⟨.tmp, .bin .eql (.v 2) (.c (.int .i64 (.ofNat 9))), .none⟩,
 ⟨.tmp, .move (.t 0), .none⟩]) (
 .cond (.t 0) (
 .reg [⟨.tmp, .fadr 2 (.v 0), .none⟩,
 ⟨.tmp, .load1 (.t 0), .none⟩,
 ⟨.tmp, .fadr 2 (.v 1), .none⟩,
 ⟨.no, .store 1 (.t 0) (.t 1), .none⟩]) (
 .skip))))))))) (
 .seq (.reg [⟨.tmp, .move (.v 5), .none⟩,
 ⟨.tmp, .loadN 7 (.v 0), .none⟩,
 ⟨.tmp, .call 118 [(.t 1), (.t 0), (.v 1)], .none⟩,
 ⟨(.var 6), .move (.t 0), .none⟩]) (
 .seq (.reg [⟨.tmp, .loadN 7 (.v 1), .none⟩,
 ⟨.tmp, .move (.v 6), .none⟩,
 ⟨.no, .store 7 (.v 3) (.t 1), .none⟩,
 ⟨(.var 4), .move (.t 0), .none⟩]) (
 .ret)))))),
 [.cellN 7 (.v 3), .opd (.v 4)], 8, .none⟩
/-- (*telamon/scope.resolver).declare -/
def vm71 : List Nat := [9, 0, 1, 8, 10, 11, 2, 3]

def d71 : DF := ⟨[.some 9, .some 0, .some 1, .some 8, .some 10, .some 11, .some 2, .some 3],
 .seq (.reg [⟨(.var 3), .move (.c (.nili)), .none⟩]) (
 .seq (.reg [⟨.tmp, .move (.v 1), .none⟩,
 ⟨.tmp, .nilck (.t 0), .none⟩,
 ⟨.tmp, .fadr 0 (.t 0), .none⟩,
 ⟨.tmp, .fadr 0 (.t 0), .none⟩,
 ⟨.tmp, .load1 (.t 0), .none⟩,
 ⟨(.var 0), .move (.t 0), .none⟩]) (
 .seq (.seq (.reg [⟨.tmp, .move (.v 1), .none⟩,
 ⟨.tmp, .move (.v 2), .none⟩,
 ⟨.tmp, .move (.v 6), .none⟩,
 ⟨.tmp, .call 65 [(.t 2), (.t 1), (.t 0)], .none⟩,
 ⟨(.var 4), .move (.t 0), .none⟩]) (
 .seq (.reg [⟨.tmp, .move (.v 4), .none⟩,
 ⟨.tmp, .binN true 0 (.t 0), .none⟩]) (
 .cond (.t 0) (
 .seq (.reg [⟨.tmp, .move (.v 4), .none⟩,
 ⟨(.var 3), .move (.t 0), .none⟩]) (
 .ret)) (
 .skip)))) (
 .seq (.reg [⟨.tmp, .move (.v 0), .none⟩,
 ⟨.tmp, .move (.v 2), .none⟩,
 ⟨.tmp, .call 67 [(.t 1), (.t 0)], .none⟩,
 ⟨(.var 5), .move (.t 0), .none⟩]) (
 .seq (.reg [⟨.tmp, .move (.v 0), .none⟩,
 ⟨.tmp, .nilck (.t 0), .none⟩,
 ⟨.tmp, .fadr 0 (.t 0), .none⟩,
 ⟨.tmp, .fadr 0 (.t 0), .none⟩,
 ⟨.tmp, .load1 (.t 0), .none⟩,
 ⟨.tmp, .move (.v 2), .none⟩,
 ⟨.tmp, .build [.str 0 0, .bool false] [(0, 1, (.t 0)), (1, 1, (.c (.bool false)))], .none⟩,
 ⟨.tmp, .move (.v 5), .none⟩,
 ⟨.tmp, .buildS 1 [[.str 0 0]] [(0, (.t 0))], .none⟩,
 ⟨.no, .mupd 3 (.t 4) (.t 2) (.t 0), .none⟩]) (
 .seq (.reg [⟨.tmp, .move (.v 1), .none⟩,
 ⟨.tmp, .nilck (.t 0), .none⟩,
 ⟨.tmp, .fadr 2 (.t 0), .none⟩,
 ⟨.tmp, .load1 (.t 0), .none⟩,
 ⟨.tmp, .move (.v 5), .none⟩,
 ⟨.tmp, .move (.v 0), .none⟩,
 ⟨.tmp, .move (.v 7), .none⟩,
 ⟨.tmp, .build [.nilp, .bool false] [(0, 1, (.t 1)), (1, 1, (.t 0))], .none⟩,
 ⟨.no, .mupd 1 (.t 4) (.t 3) (.t 0), .none⟩]) (
 .seq (.seq (.reg [⟨.tmp, .move (.v 1), .none⟩,
 ⟨.tmp, .nilck (.t 0), .none⟩,
 ⟨.tmp, .fadr 3 (.t 0), .none⟩,
 ⟨.tmp, .load1 (.t 0), .none⟩]) (
 .cond (.t 0) (
 .reg [⟨.tmp, .move (.v 0), .none⟩,
 ⟨.tmp, .nilck (.t 0), .none⟩,
 ⟨.tmp, .fadr 0 (.t 0), .none⟩,
 ⟨.tmp, .fadr 1 (.t 0), .none⟩,
 ⟨.tmp, .load1 (.t 0), .none⟩,
 ⟨.tmp, .move (.v 2), .none⟩,
 ⟨.no, .mupd 1 (.t 1) (.t 0) (.c (.int .i64 (.ofNat 1))), .none⟩]) (
 .skip))) (
 .seq (.reg [⟨(.var 3), .move (.c (.nili)), .none⟩]) (
 .ret)))))))),
 [.opd (.v 3)], 8, .none⟩
/-- (*telamon/scope.resolver).sigs -/
def vm72 : List Nat := [42, 15, 16, 10, 0, 8, 12, 40, 41, 2, 3, 19, 11, 13, 17, 18, 1]
def b72_0 : DC :=
 .seq (.reg [⟨.tmp, .bin .lss (.v 0) (.v 8), .none⟩]) (
 .seq (.cond (.t 0) (
 .skip) (
 .exit 2)) (
 .seq (.block 3 (
 .seq (.reg [⟨.tmp, .idxS 1 (.v 7) (.v 0), .none⟩,
 ⟨.tmp, .load1 (.t 0), .none⟩,
 ⟨(.var 1), .move (.t 0), .none⟩]) (
 .seq (.seq (.reg [⟨.tmp, .move (.v 4), .none⟩,
 ⟨.tmp, .move (.v 1), .none⟩,
 ⟨.tmp, .fadr 25 (.v 3), .none⟩,
 ⟨.tmp, .load1 (.t 0), .none⟩,
 ⟨.tmp, .move (.v 9), .none⟩,
 ⟨.tmp, .call 71 [(.t 4), (.t 3), (.t 1), (.t 0)], .none⟩,
 ⟨(.var 2), .move (.t 0), .none⟩]) (
 .seq (.reg [⟨.tmp, .move (.v 2), .none⟩,
 ⟨.tmp, .binN true 0 (.t 0), .none⟩]) (
 .cond (.t 0) (
 .seq (.reg [⟨.tmp, .move (.v 2), .none⟩,
 ⟨(.var 5), .move (.t 0), .none⟩]) (
 .ret)) (
 .skip)))) (
 .reg [⟨.tmp, .move (.v 10), .none⟩,
 ⟨.tmp, .move (.v 4), .none⟩,
 ⟨.tmp, .nilck (.t 0), .none⟩,
 ⟨.tmp, .fadr 0 (.t 0), .none⟩,
 ⟨.tmp, .fadr 0 (.t 0), .none⟩,
 ⟨.tmp, .load1 (.t 0), .none⟩,
 ⟨.tmp, .move (.v 1), .none⟩,
 ⟨.tmp, .loadN 7 (.v 6), .none⟩,
 ⟨.tmp, .fadr 25 (.v 3), .none⟩,
 ⟨.tmp, .load1 (.t 0), .none⟩,
 ⟨.tmp, .call 67 [(.t 4), (.t 3)], .none⟩,
 ⟨.no, .again1 (.t 2) (.t 1), .none⟩,
 ⟨.no, .againN 7 (.v 6) (.t 3), .none⟩,
 ⟨.tmp, .callv (.t 10) [(.t 0), (.t 3), (.t 1)], .none⟩])))) (
 .reg [⟨.tmp, .bin .add (.v 0) (.c (.int .i64 (.ofNat 1))), .none⟩,
 ⟨(.var 0), .move (.t 0), .none⟩])))
def r72_1 : DC :=
 .reg [⟨.tmp, .bin .add (.v 11) (.c (.int .i64 (.ofNat 1))), .none⟩,
 ⟨(.var 11), .move (.t 0), .none⟩]
def b72_2 : DC :=
 .seq (.reg [⟨.tmp, .bin .lss (.v 11) (.v 15), .none⟩]) (
 .seq (.cond (.t 0) (
 .skip) (
 .exit 0)) (
 .seq (.block 1 (
 .seq (.reg [⟨.tmp, .idxS 26 (.v 14) (.v 11), .none⟩,
 ⟨.tmp, .loadN 26 (.t 0), .none⟩,
 ⟨(.var 3), .alloc [.int .i64 (.ofNat 0), .int .i64 (.ofNat 0), .str 0 0, .str 0 0, .nils, .nils, .int .i64 (.ofNat 0), .int .i64 (.ofNat 0), .str 0 0, .bool false, .nils, .nils, .int .i64 (.ofNat 0), .int .i64 (.ofNat 0), .int .i64 (.ofNat 0), .str 0 0, .bool false, .nils, .nils, .int .i64 (.ofNat 0), .nils, .bool false, .nils, .nils, .nils, .int .i64 (.ofNat 0)], .none⟩,
 ⟨.no, .store 26 (.v 3) (.t 0), .none⟩]) (
 .seq (.seq (.reg [⟨.tmp, .move (.v 4), .none⟩,
 ⟨.tmp, .loadN 26 (.v 3), .none⟩,
 ⟨.tmp, .call 82 [(.t 1), (.t 0)], .none⟩,
 ⟨(.var 12), .move (.t 0), .none⟩]) (
 .seq (.reg [⟨.tmp, .move (.v 12), .none⟩,
 ⟨.tmp, .binN true 0 (.t 0), .none⟩]) (
 .cond (.t 0) (
 .seq (.reg [⟨.tmp, .move (.v 12), .none⟩,
 ⟨(.var 5), .move (.t 0), .none⟩]) (
 .ret)) (
 .skip)))) (
 .seq (.reg [⟨.tmp, .move (.v 4), .none⟩,
 ⟨.tmp, .fadr 6 (.v 3), .none⟩,
 ⟨.tmp, .loadN 7 (.t 0), .none⟩,
 ⟨.tmp, .call 70 [(.t 2), (.t 0)], .none⟩,
 ⟨.tmp, .move (.t 0), .none⟩,
 ⟨.tmp, .ext (.t 0) 0, .none⟩,
 ⟨.tmp, .ext (.t 1) 1, .none⟩,
 ⟨(.var 6), .alloc [.int .i64 (.ofNat 0), .int .i64 (.ofNat 0), .str 0 0, .bool false, .nils, .nils, .int .i64 (.ofNat 0)], .none⟩,
 ⟨.no, .store 7 (.v 6) (.t 1), .none⟩,
 ⟨(.var 13), .move (.t 0), .none⟩]) (
 .seq (.seq (.reg [⟨.tmp, .move (.v 13), .none⟩,
 ⟨.tmp, .binN true 0 (.t 0), .none⟩]) (
 .cond (.t 0) (
 .seq (.reg [⟨.tmp, .move (.v 13), .none⟩,
 ⟨(.var 5), .move (.t 0), .none⟩]) (
 .ret)) (
 .skip))) (
 .seq (.reg [⟨.tmp, .fadr 4 (.v 3), .none⟩,
 ⟨(.var 7), .load1 (.t 0), .none⟩,
 ⟨(.var 8), .len false (.v 7), .none⟩,
 ⟨(.var 0), .move (.c (.int .i64 (.ofNat 0))), .none⟩]) (
 .block 2 (
 .loop b72_0)))))))) r72_1))
def r72_3 : DC :=
 .seq (.reg [⟨(.var 5), .move (.c (.nili)), .none⟩]) (
 .ret)
def d72 : DF := ⟨[.some 42, .some 15, .some 16, .some 10, .some 0, .some 8, .some 12, .some 40, .some 41, .some 2, .some 3, .some 19, .some 11, .some 13, .some 17, .some 18, .some 1],
 .seq (.reg [⟨(.var 5), .move (.c (.nili)), .none⟩]) (
 .seq (.seq (.reg [⟨(.var 14), .move (.v 16), .none⟩,
 ⟨(.var 15), .len false (.v 14), .none⟩,
 ⟨(.var 11), .move (.c (.int .i64 (.ofNat 0))), .none⟩]) (
 .block 0 (
 .loop b72_2))) r72_3),
 [.opd (.v 5)], 17, .none⟩
/-- (*telamon/scope.resolver).data$1$1 -/
def vm73 : List Nat := [3, 5, 0, 1, 2]

def d73 : DF := ⟨[.some 3, .some 5, .some 0, .some 1, .some 2],
 .seq (.reg [⟨(.var 1), .box 7 (.v 3), .none⟩]) (
 .reg [⟨.tmp, .fadr 20 (.v 0), .none⟩,
 ⟨.tmp, .load1 (.t 0), .none⟩,
 ⟨.tmp, .move (.v 2), .none⟩,
 ⟨.tmp, .buildS 1 [[.str 0 0]] [(0, (.t 0))], .none⟩,
 ⟨.tmp, .loadN 7 (.v 1), .none⟩,
 ⟨.tmp, .move (.v 4), .none⟩,
 ⟨.tmp, .build [.int .i64 (.ofNat 0), .int .i64 (.ofNat 0), .str 0 0, .str 0 0, .nils, .nils, .int .i64 (.ofNat 0), .int .i64 (.ofNat 0), .str 0 0, .bool false, .nils, .nils, .int .i64 (.ofNat 0), .int .i64 (.ofNat 0), .int .i64 (.ofNat 0), .str 0 0, .bool false, .nils, .nils, .int .i64 (.ofNat 0), .nils, .bool false, .nils, .nils, .nils, .int .i64 (.ofNat 0)] [(0, 1, (.c (.int .i64 (.ofNat 1)))), (4, 1, (.t 2)), (6, 7, (.t 1)), (25, 1, (.t 0))], .none⟩,
 ⟨.tmp, .len false (.t 5), .none⟩,
 ⟨.tmp, .buildS 26 [[.int .i64 (.ofNat 0), .int .i64 (.ofNat 0), .str 0 0, .str 0 0, .nils, .nils, .int .i64 (.ofNat 0), .int .i64 (.ofNat 0), .str 0 0, .bool false, .nils, .nils, .int .i64 (.ofNat 0), .int .i64 (.ofNat 0), .int .i64 (.ofNat 0), .str 0 0, .bool false, .nils, .nils, .int .i64 (.ofNat 0), .nils, .bool false, .nils, .nils, .nils, .int .i64 (.ofNat 0)]] [(0, (.c (.agg [.int .i64 (.ofNat 0), .int .i64 (.ofNat 0), .str 0 0, .str 0 0, .nils, .nils, .int .i64 (.ofNat 0), .int .i64 (.ofNat 0), .str 0 0, .bool false, .nils, .nils, .int .i64 (.ofNat 0), .int .i64 (.ofNat 0), .int .i64 (.ofNat 0), .str 0 0, .bool false, .nils, .nils, .int .i64 (.ofNat 0), .nils, .bool false, .nils, .nils, .nils, .int .i64 (.ofNat 0)])))], .none⟩,
 ⟨.tmp, .append 26 400 (.t 7) (.t 0), .none⟩,
 ⟨.tmp, .idxS 26 (.t 0) (.t 2), .none⟩,
 ⟨.tmp, .fadr 20 (.v 0), .none⟩,
 ⟨.no, .store2 26 (.t 1) (.t 5) 1 (.t 0) (.t 2), .none⟩]),
 [], 5, .none⟩
/-- (*telamon/scope.resolver).put -/
def vm74 : List Nat := [3, 0, 1]

def d74 : DF := ⟨[.some 3, .some 0, .some 1],
 .seq (.reg [⟨(.var 0), .box 26 (.v 2), .none⟩]) (
 .reg [⟨.tmp, .move (.v 1), .none⟩,
 ⟨.tmp, .nilck (.t 0), .none⟩,
 ⟨.tmp, .fadr 4 (.t 0), .none⟩,
 ⟨.tmp, .load1 (.t 0), .none⟩,
 ⟨.tmp, .loadN 26 (.v 0), .none⟩,
 ⟨.tmp, .len false (.t 1), .none⟩,
 ⟨.tmp, .buildS 26 [[.int .i64 (.ofNat 0), .int .i64 (.ofNat 0), .str 0 0, .str 0 0, .nils, .nils, .int .i64 (.ofNat 0), .int .i64 (.ofNat 0), .str 0 0, .bool false, .nils, .nils, .int .i64 (.ofNat 0), .int .i64 (.ofNat 0), .int .i64 (.ofNat 0), .str 0 0, .bool false, .nils, .nils, .int .i64 (.ofNat 0), .nils, .bool false, .nils, .nils, .nils, .int .i64 (.ofNat 0)]] [(0, (.c (.agg [.int .i64 (.ofNat 0), .int .i64 (.ofNat 0), .str 0 0, .str 0 0, .nils, .nils, .int .i64 (.ofNat 0), .int .i64 (.ofNat 0), .str 0 0, .bool false, .nils, .nils, .int .i64 (.ofNat 0), .int .i64 (.ofNat 0), .int .i64 (.ofNat 0), .str 0 0, .bool false, .nils, .nils, .int .i64 (.ofNat 0), .nils, .bool false, .nils, .nils, .nils, .int .i64 (.ofNat 0)])))], .none⟩,
 ⟨.tmp, .append 26 400 (.t 3) (.t 0), .none⟩,
 ⟨.tmp, .idxS 26 (.t 0) (.t 2), .none⟩,
 ⟨.tmp, .nilck (.t 8), .none⟩,
 ⟨.tmp, .fadr 4 (.t 0), .none⟩,
 ⟨.no, .store2 26 (.t 2) (.t 6) 1 (.t 0) (.t 3), .none⟩]),
 [], 3, .none⟩
/-- (*telamon/scope.resolver).postulate$1 -/
def vm75 : List Nat := [4, 6, 0, 1, 2, 3]

def d75 : DF := ⟨[.some 4, .some 6, .some 0, .some 1, .some 2, .some 3],
 .seq (.reg [⟨(.var 1), .box 7 (.v 3), .none⟩]) (
 .reg [⟨.tmp, .load1 (.v 5), .none⟩,
 ⟨.tmp, .move (.v 2), .none⟩,
 ⟨.tmp, .load1 (.v 0), .none⟩,
 ⟨.tmp, .load1 (.v 0), .none⟩,
 ⟨.tmp, .len false (.t 0), .none⟩,
 ⟨.tmp, .loadN 7 (.v 1), .none⟩,
 ⟨.tmp, .move (.v 4), .none⟩,
 ⟨.tmp, .build [.int .i64 (.ofNat 0), .int .i64 (.ofNat 0), .str 0 0, .str 0 0, .nils, .nils, .int .i64 (.ofNat 0), .int .i64 (.ofNat 0), .str 0 0, .bool false, .nils, .nils, .int .i64 (.ofNat 0), .int .i64 (.ofNat 0), .int .i64 (.ofNat 0), .str 0 0, .bool false, .nils, .nils, .int .i64 (.ofNat 0), .nils, .bool false, .nils, .nils, .nils, .int .i64 (.ofNat 0)] [(0, 1, (.c (.int .i64 (.ofNat 4)))), (2, 1, (.t 5)), (5, 1, (.t 4)), (1, 1, (.t 2)), (6, 7, (.t 1)), (25, 1, (.t 0))], .none⟩,
 ⟨.tmp, .call 74 [(.t 7), (.t 0)], .none⟩]),
 [], 6, .none⟩
/-- strings.Contains -/
def vm76 : List Nat := [4, 0, 1]

def d76 : DF := ⟨[.some 4, .some 0, .some 1],
 .seq (.reg [⟨(.var 0), .move (.c (.bool false)), .none⟩]) (
 .seq (.reg [⟨.tmp, .move (.v 1), .none⟩,
 ⟨.tmp, .move (.v 2), .none⟩,
 ⟨.tmp, .call 119 [(.t 1), (.t 0)], .none⟩,
 ⟨.tmp, .bin .geq (.t 0) (.c (.int .i64 (.ofNat 0))), .none⟩,
 ⟨(.var 0), .move (.t 0), .none⟩]) (
 .ret)),
 [.opd (.v 0)], 3, .none⟩
/-- (*telamon/scope.resolver).inner$1 -/
def vm77 : List Nat := [1, 2, 3, 4, 6, 7, 8, 0]

def d77 : DF := ⟨[.some 1, .some 2, .some 3, .some 4, .some 6, .some 7, .some 8, .some 0],
 .seq (.reg [⟨(.var 4), .move (.c (.nili)), .none⟩]) (
 .seq (.reg [⟨.tmp, .load1 (.v 1), .none⟩,
 ⟨.tmp, .load1 (.v 1), .none⟩,
 ⟨.tmp, .load1 (.v 2), .none⟩,
 ⟨.tmp, .nilck (.t 0), .none⟩,
 ⟨.tmp, .fadr 0 (.t 0), .none⟩,
 ⟨.tmp, .fadr 2 (.t 0), .none⟩,
 ⟨.tmp, .load1 (.t 0), .none⟩,
 ⟨.tmp, .fadr 2 (.v 3), .none⟩,
 ⟨.tmp, .load1 (.t 0), .none⟩,
 ⟨.tmp, .move (.v 7), .none⟩,
 ⟨.tmp, .load1 (.v 0), .none⟩,
 ⟨.tmp, .nilck (.t 0), .none⟩,
 ⟨.tmp, .fadr 3 (.t 0), .none⟩,
 ⟨.tmp, .load1 (.t 0), .none⟩,
 ⟨.tmp, .load1 (.v 1), .none⟩,
 ⟨.tmp, .nilck (.t 14), .none⟩,
 ⟨.tmp, .fadr 5 (.t 0), .none⟩,
 ⟨.no, .store 1 (.t 0) (.t 7), .none⟩,
 ⟨.tmp, .nilck (.t 15), .none⟩,
 ⟨.tmp, .fadr 7 (.t 0), .none⟩,
 ⟨.no, .store 1 (.t 0) (.t 5), .none⟩,
 ⟨.tmp, .ment (.nilp) 1 (.t 12) (.t 10), .none⟩,
 ⟨.tmp, .ext (.t 0) 1, .none⟩,
 ⟨.no, .esto (.t 14) (.t 0) (.t 6), .none⟩]) (
 .seq (.reg [⟨.tmp, .load1 (.v 0), .none⟩,
 ⟨.tmp, .nilck (.t 0), .none⟩,
 ⟨.tmp, .fadr 3 (.t 0), .none⟩,
 ⟨.tmp, .load1 (.t 0), .none⟩,
 ⟨(.var 5), .move (.t 0), .none⟩]) (
 .seq (.reg [⟨.tmp, .load1 (.v 0), .none⟩,
 ⟨.tmp, .load1 (.v 0), .none⟩,
 ⟨.tmp, .load1 (.v 1), .none⟩,
 ⟨.tmp, .nilck (.t 2), .none⟩,
 ⟨.tmp, .fadr 0 (.t 0), .none⟩,
 ⟨.tmp, .fadr 0 (.t 0), .none⟩,
 ⟨.no, .store 1 (.t 0) (.t 3), .none⟩,
 ⟨.tmp, .nilck (.t 4), .none⟩,
 ⟨.tmp, .fadr 3 (.t 0), .none⟩,
 ⟨.no, .store 1 (.t 0) (.c (.bool false)), .none⟩]) (
 .seq (.reg [⟨.tmp, .load1 (.v 0), .none⟩,
 ⟨.tmp, .fadr 20 (.v 3), .none⟩,
 ⟨.tmp, .load1 (.t 0), .none⟩,
 ⟨.tmp, .call 19 [(.t 2), (.t 0)], .none⟩,
 ⟨(.var 6), .move (.t 0), .none⟩]) (
 .seq (.reg [⟨.tmp, .load1 (.v 0), .none⟩,
 ⟨.tmp, .load1 (.v 0), .none⟩,
 ⟨.tmp, .load1 (.v 2), .none⟩,
 ⟨.tmp, .move (.v 5), .none⟩,
 ⟨.tmp, .nilck (.t 3), .none⟩,
 ⟨.tmp, .fadr 0 (.t 0), .none⟩,
 ⟨.tmp, .fadr 0 (.t 0), .none⟩,
 ⟨.no, .store 1 (.t 0) (.t 4), .none⟩,
 ⟨.tmp, .nilck (.t 5), .none⟩,
 ⟨.tmp, .fadr 3 (.t 0), .none⟩,
 ⟨.no, .store 1 (.t 0) (.t 5), .none⟩]) (
 .seq (.reg [⟨.tmp, .move (.v 6), .none⟩,
 ⟨(.var 4), .move (.t 0), .none⟩]) (
 .ret))))))),
 [.opd (.v 4)], 8, .none⟩
/-- (*telamon/scope.resolver).named -/
def vm78 : List Nat := [6, 7, 4, 0, 5, 1]
def b78_0 : DC :=
 .seq (.seq (.reg [⟨.tmp, .move (.v 0), .none⟩,
 ⟨.tmp, .binP .neq (.t 0) (.c (.nilp)), .none⟩]) (
 .cond (.t 0) (
 .skip) (
 .exit 0))) (
 .seq (.block 1 (
 .seq (.reg [⟨.tmp, .move (.v 0), .none⟩,
 ⟨.tmp, .move (.v 4), .none⟩,
 ⟨.tmp, .move (.v 3), .none⟩,
 ⟨.tmp, .nilck (.t 0), .none⟩,
 ⟨.tmp, .fadr 0 (.t 0), .none⟩,
 ⟨.tmp, .fadr 0 (.t 0), .none⟩,
 ⟨.tmp, .load1 (.t 0), .none⟩,
 ⟨.tmp, .call 121 [(.t 6), (.t 5), (.t 0)], .none⟩,
 ⟨(.var 1), .move (.t 0), .none⟩]) (
 .seq (.reg [⟨.tmp, .move (.v 1), .none⟩,
 ⟨.tmp, .binP .neq (.t 0) (.c (.nilp)), .none⟩]) (
 .cond (.t 0) (
 .seq (.reg [⟨.tmp, .move (.v 1), .none⟩,
 ⟨(.var 2), .move (.t 0), .none⟩]) (
 .ret)) (
 .skip))))) (
 .reg [⟨.tmp, .move (.v 0), .none⟩,
 ⟨.tmp, .nilck (.t 0), .none⟩,
 ⟨.tmp, .fadr 4 (.t 0), .none⟩,
 ⟨.tmp, .load1 (.t 0), .none⟩,
 ⟨(.var 0), .move (.t 0), .none⟩]))
def r78_1 : DC :=
 .seq (.reg [⟨(.var 2), .move (.c (.nilp)), .none⟩]) (
 .ret)
def d78 : DF := ⟨[.some 6, .some 7, .some 4, .some 0, .some 5, .some 1],
 .seq (.reg [⟨(.var 2), .move (.c (.nilp)), .none⟩]) (
 .seq (.reg [⟨.tmp, .move (.v 5), .none⟩,
 ⟨.tmp, .call 120 [(.t 0), (.c (.str 1 46))], .none⟩,
 ⟨(.var 4), .move (.t 0), .none⟩]) (
 .seq (.seq (.reg [⟨.tmp, .move (.v 3), .none⟩,
 ⟨.tmp, .nilck (.t 0), .none⟩,
 ⟨.tmp, .fadr 0 (.t 0), .none⟩,
 ⟨.tmp, .fadr 0 (.t 0), .none⟩,
 ⟨.tmp, .load1 (.t 0), .none⟩,
 ⟨(.var 0), .move (.t 0), .none⟩]) (
 .block 0 (
 .loop b78_0))) r78_1)),
 [.opd (.v 2)], 6, .none⟩
/-- (*telamon/scope.resolver).open$1 -/
def vm79 : List Nat := [0, 1, 3]

def d79 : DF := ⟨[.some 0, .some 1, .some 3],
 .seq (.reg [⟨(.var 2), .move (.c (.bool false)), .none⟩]) (
 .seq (.reg [⟨.tmp, .load1 (.v 1), .none⟩,
 ⟨.tmp, .nilck (.t 0), .none⟩,
 ⟨.tmp, .fadr 0 (.t 0), .none⟩,
 ⟨.tmp, .fadr 0 (.t 0), .none⟩,
 ⟨.tmp, .load1 (.t 0), .none⟩,
 ⟨.tmp, .move (.v 0), .none⟩,
 ⟨.tmp, .build [.str 0 0, .bool false] [(0, 1, (.t 0)), (1, 1, (.c (.bool false)))], .none⟩,
 ⟨.tmp, .lkp (.nils) 3 false (.t 2) (.t 0), .none⟩,
 ⟨.tmp, .len false (.t 0), .none⟩,
 ⟨.tmp, .bin .gtr (.t 0) (.c (.int .i64 (.ofNat 0))), .none⟩,
 ⟨.tmp, .move (.t 0), .none⟩,
 ⟨.tmp, .load1 (.v 1), .some ((.t 0), true)⟩,
 ⟨.tmp, .nilck (.t 0), .some ((.t 1), true)⟩,
 ⟨.tmp, .fadr 0 (.t 0), .some ((.t 2), true)⟩,
 ⟨.tmp, .fadr 1 (.t 0), .some ((.t 3), true)⟩,
 ⟨.tmp, .load1 (.t 0), .some ((.t 4), true)⟩,
 ⟨.tmp, .move (.v 0), .some ((.t 5), true)⟩,
 ⟨.tmp, .lkp (.int .i64 (.ofNat 0)) 1 false (.t 1) (.t 0), .some ((.t 6), true)⟩,
 ⟨.tmp, .bin .eql (.t 0) (.c (.int .i64 (.ofNat 0))), .some ((.t 7), true)⟩,
 ⟨.tmp, .pick (.t 8) (.t 0) (.c (.bool false)), .none⟩,
 ⟨(.var 2), .move (.t 0), .none⟩]) (
 .ret)),
 [.opd (.v 2)], 3, .none⟩
/-- (*telamon/scope.resolver).open$2 -/
def vm80 : List Nat := [6, 0, 1, 2, 3]

def d80 : DF := ⟨[.some 6, .some 0, .some 1, .some 2, .some 3],
 .seq (.reg [⟨.tmp, .move (.v 1), .none⟩,
 ⟨.tmp, .build [.str 0 0, .bool false] [(0, 1, (.t 0)), (1, 1, (.c (.bool true)))], .none⟩,
 ⟨(.var 0), .alloc [.str 0 0, .bool false], .none⟩,
 ⟨.no, .store 2 (.v 0) (.t 0), .none⟩]) (
 .reg [⟨.tmp, .load1 (.v 3), .none⟩,
 ⟨.tmp, .nilck (.t 0), .none⟩,
 ⟨.tmp, .fadr 0 (.t 0), .none⟩,
 ⟨.tmp, .fadr 0 (.t 0), .none⟩,
 ⟨.tmp, .load1 (.t 0), .none⟩,
 ⟨.tmp, .nilck (.t 0), .none⟩,
 ⟨.tmp, .fadr 0 (.t 0), .none⟩,
 ⟨.tmp, .fadr 0 (.t 0), .none⟩,
 ⟨.tmp, .load1 (.t 0), .none⟩,
 ⟨.tmp, .loadN 2 (.v 0), .none⟩,
 ⟨.tmp, .load1 (.v 4), .none⟩,
 ⟨.tmp, .move (.v 2), .none⟩,
 ⟨.tmp, .call 67 [(.t 1), (.t 0)], .none⟩,
 ⟨.no, .againN 2 (.v 0) (.t 3), .none⟩,
 ⟨.no, .again1 (.t 5) (.t 4), .none⟩,
 ⟨.no, .again1 (.t 9) (.t 8), .none⟩,
 ⟨.no, .again1 (.v 3) (.t 12), .none⟩,
 ⟨.tmp, .buildS 1 [[.str 0 0]] [(0, (.t 0))], .none⟩,
 ⟨.tmp, .ment (.nils) 3 (.t 5) (.t 4), .none⟩,
 ⟨.tmp, .ext (.t 0) 0, .none⟩,
 ⟨.tmp, .ext (.t 1) 1, .none⟩,
 ⟨.tmp, .append 1 16 (.t 1) (.t 3), .none⟩,
 ⟨.no, .esto (.t 9) (.t 1) (.t 0), .none⟩]),
 [], 5, .none⟩
/-- slices.Contains[[]string,string] -/
def vm81 : List Nat := [4, 0, 1]

def d81 : DF := ⟨[.some 4, .some 0, .some 1],
 .seq (.reg [⟨(.var 0), .move (.c (.bool false)), .none⟩]) (
 .seq (.reg [⟨.tmp, .move (.v 1), .none⟩,
 ⟨.tmp, .move (.v 2), .none⟩,
 ⟨.tmp, .call 122 [(.t 1), (.t 0)], .none⟩,
 ⟨.tmp, .bin .geq (.t 0) (.c (.int .i64 (.ofNat 0))), .none⟩,
 ⟨(.var 0), .move (.t 0), .none⟩]) (
 .ret)),
 [.opd (.v 0)], 3, .none⟩
/-- (*telamon/scope.resolver).fresh -/
def vm82 : List Nat := [13, 7, 8, 3, 4, 5, 11, 12, 0, 1]
def b82_0 : DC :=
 .seq (.reg [⟨.tmp, .bin .lss (.v 0) (.v 7), .none⟩]) (
 .seq (.cond (.t 0) (
 .skip) (
 .exit 0)) (
 .seq (.block 1 (
 .seq (.reg [⟨.tmp, .idxS 1 (.v 6) (.v 0), .none⟩,
 ⟨.tmp, .load1 (.t 0), .none⟩,
 ⟨(.var 1), .move (.t 0), .none⟩]) (
 .seq (.seq (.reg [⟨.tmp, .move (.v 8), .none⟩,
 ⟨.tmp, .move (.v 1), .none⟩,
 ⟨.tmp, .fadr 25 (.v 3), .none⟩,
 ⟨.tmp, .load1 (.t 0), .none⟩,
 ⟨.tmp, .call 65 [(.t 3), (.t 2), (.t 0)], .none⟩,
 ⟨(.var 2), .move (.t 0), .none⟩]) (
 .seq (.reg [⟨.tmp, .move (.v 2), .none⟩,
 ⟨.tmp, .binN true 0 (.t 0), .none⟩]) (
 .cond (.t 0) (
 .seq (.reg [⟨.tmp, .move (.v 2), .none⟩,
 ⟨(.var 4), .move (.t 0), .none⟩]) (
 .ret)) (
 .skip)))) (
 .seq (.seq (.reg [⟨.tmp, .move (.v 5), .none⟩,
 ⟨.tmp, .move (.v 1), .none⟩,
 ⟨.tmp, .lkp (.int .i64 (.ofNat 0)) 1 false (.t 1) (.t 0), .none⟩,
 ⟨.tmp, .bin .neq (.t 0) (.c (.int .i64 (.ofNat 0))), .none⟩]) (
 .cond (.t 0) (
 .seq (.reg [⟨.tmp, .fadr 25 (.v 3), .none⟩,
 ⟨.tmp, .load1 (.t 0), .none⟩,
 ⟨.tmp, .call 64 [(.t 0), (.c (.int .i64 (.ofNat 46)))], .none⟩,
 ⟨(.var 4), .move (.t 0), .none⟩]) (
 .ret)) (
 .skip))) (
 .reg [⟨.tmp, .move (.v 5), .none⟩,
 ⟨.tmp, .move (.v 1), .none⟩,
 ⟨.no, .mupd 1 (.t 1) (.t 0) (.c (.int .i64 (.ofNat 1))), .none⟩]))))) (
 .reg [⟨.tmp, .bin .add (.v 0) (.c (.int .i64 (.ofNat 1))), .none⟩,
 ⟨(.var 0), .move (.t 0), .none⟩])))
def r82_1 : DC :=
 .seq (.reg [⟨(.var 4), .move (.c (.nili)), .none⟩]) (
 .ret)
def d82 : DF := ⟨[.some 13, .some 7, .some 8, .some 3, .some 4, .some 5, .some 11, .some 12, .some 0, .some 1],
 .seq (.reg [⟨(.var 3), .box 26 (.v 9), .none⟩,
 ⟨(.var 4), .move (.c (.nili)), .none⟩]) (
 .seq (.reg [⟨.tmp, .mkmap, .none⟩,
 ⟨(.var 5), .move (.t 0), .none⟩]) (
 .seq (.seq (.reg [⟨.tmp, .fadr 4 (.v 3), .none⟩,
 ⟨(.var 6), .load1 (.t 0), .none⟩,
 ⟨(.var 7), .len false (.v 6), .none⟩,
 ⟨(.var 0), .move (.c (.int .i64 (.ofNat 0))), .none⟩]) (
 .block 0 (
 .loop b82_0))) r82_1)),
 [.opd (.v 4)], 10, .none⟩
/-- telamon/scope.head -/
def vm83 : List Nat := [1, 2, 0]
def b83_0 : DC :=
 .seq (.seq (.reg [⟨.tmp, .fadr 0 (.v 0), .none⟩,
 ⟨.tmp, .load1 (.t 0), .none⟩,
 ⟨.tmp, .bin .eql (.t 0) (.c (.int .i64 (.ofNat 5))), .none⟩,
 ⟨.tmp, .move (.t 0), .none⟩,
 ⟨.tmp, .fadr 5 (.v 0), .some ((.t 0), true)⟩,
 ⟨.tmp, .load1 (.t 0), .some ((.t 1), true)⟩,
 ⟨.tmp, .len false (.t 0), .some ((.t 2), true)⟩,
 ⟨.tmp, .bin .gtr (.t 0) (.c (.int .i64 (.ofNat 0))), .some ((.t 3), true)⟩,
 ⟨.tmp, .pick (.t 4) (.t 0) (.c (.bool false)), .none⟩]) (
 .cond (.t 0) (
 .skip) (
 .exit 0))) (
 .block 1 (
 .reg [⟨.tmp, .fadr 5 (.v 0), .none⟩,
 ⟨.tmp, .load1 (.t 0), .none⟩,
 ⟨.tmp, .idxS 7 (.t 0) (.c (.int .i64 (.ofNat 0))), .none⟩,
 ⟨.tmp, .loadN 7 (.t 0), .none⟩,
 ⟨.no, .store 7 (.v 0) (.t 0), .none⟩]))
def r83_1 : DC :=
 .seq (.seq (.reg [⟨.tmp, .fadr 0 (.v 0), .none⟩,
 ⟨.tmp, .load1 (.t 0), .none⟩,
 ⟨.tmp, .bin .neq (.t 0) (.c (.int .i64 (.ofNat 2))), .none⟩]) (
 .cond (.t 0) (
 .seq (.reg [⟨(.var 1), .move (.c (.str 0 0)), .none⟩]) (
 .ret)) (
 .skip))) (
 .seq (.reg [⟨.tmp, .fadr 2 (.v 0), .none⟩,
 ⟨.tmp, .load1 (.t 0), .none⟩,
 ⟨(.var 1), .move (.t 0), .none⟩]) (
 .ret))
def d83 : DF := ⟨[.some 1, .some 2, .some 0],
 .seq (.reg [⟨(.var 0), .box 7 (.v 2), .none⟩,
 ⟨(.var 1), .move (.c (.str 0 0)), .none⟩]) (
 .seq (.block 0 (
 .loop b83_0)) r83_1),
 [.opd (.v 1)], 3, .none⟩
/-- (*telamon/scope.resolver).clause -/
def vm84 : List Nat := [5, 8, 10, 11, 3, 6, 7, 9, 4, 0, 1, 2]

def d84 : DF := ⟨[.some 5, .some 8, .some 10, .some 11, .some 3, .some 6, .some 7, .some 9, .some 4, .some 0, .some 1, .some 2],
 .seq (.reg [⟨(.var 4), .box 1 (.v 9), .none⟩,
 ⟨(.var 8), .box 1 (.v 10), .none⟩,
 ⟨(.var 0), .box 26 (.v 11), .none⟩,
 ⟨(.var 5), .alloc [.int .i64 (.ofNat 0), .int .i64 (.ofNat 0), .str 0 0, .str 0 0, .nils, .nils, .int .i64 (.ofNat 0), .int .i64 (.ofNat 0), .str 0 0, .bool false, .nils, .nils, .int .i64 (.ofNat 0), .int .i64 (.ofNat 0), .int .i64 (.ofNat 0), .str 0 0, .bool false, .nils, .nils, .int .i64 (.ofNat 0), .nils, .bool false, .nils, .nils, .nils, .int .i64 (.ofNat 0)], .none⟩,
 ⟨(.var 6), .move (.c (.nili)), .none⟩]) (
 .seq (.reg [⟨.tmp, .load1 (.v 4), .none⟩,
 ⟨.tmp, .mkmap, .none⟩,
 ⟨.tmp, .build [.nilp, .nils, .nilm] [(0, 1, (.t 1)), (2, 1, (.t 0))], .none⟩,
 ⟨.tmp, .box 3 (.t 0), .none⟩,
 ⟨(.var 1), .move (.t 0), .none⟩]) (
 .seq (.reg [⟨.tmp, .move (.v 1), .none⟩,
 ⟨.tmp, .fadr 13 (.v 0), .none⟩,
 ⟨.tmp, .loadN 7 (.t 0), .none⟩,
 ⟨.tmp, .fadr 25 (.v 0), .none⟩,
 ⟨.tmp, .load1 (.t 0), .none⟩,
 ⟨.tmp, .mkfn 124 [] [(.v 8)], .none⟩,
 ⟨.tmp, .call 123 [(.t 5), (.t 3), (.t 1), (.t 0)], .none⟩,
 ⟨.tmp, .move (.t 0), .none⟩,
 ⟨.tmp, .ext (.t 0) 0, .none⟩,
 ⟨.tmp, .ext (.t 1) 1, .none⟩,
 ⟨(.var 7), .alloc [.int .i64 (.ofNat 0), .int .i64 (.ofNat 0), .str 0 0, .bool false, .nils, .nils, .int .i64 (.ofNat 0)], .none⟩,
 ⟨.no, .store 7 (.v 7) (.t 1), .none⟩,
 ⟨(.var 2), .move (.t 0), .none⟩]) (
 .seq (.seq (.reg [⟨.tmp, .move (.v 2), .none⟩,
 ⟨.tmp, .binN true 0 (.t 0), .none⟩]) (
 .cond (.t 0) (
 .seq (.reg [⟨.tmp, .build [.int .i64 (.ofNat 0), .int .i64 (.ofNat 0), .str 0 0, .str 0 0, .nils, .nils, .int .i64 (.ofNat 0), .int .i64 (.ofNat 0), .str 0 0, .bool false, .nils, .nils, .int .i64 (.ofNat 0), .int .i64 (.ofNat 0), .int .i64 (.ofNat 0), .str 0 0, .bool false, .nils, .nils, .int .i64 (.ofNat 0), .nils, .bool false, .nils, .nils, .nils, .int .i64 (.ofNat 0)] [], .none⟩,
 ⟨.tmp, .move (.v 2), .none⟩,
 ⟨.no, .store 26 (.v 5) (.t 1), .none⟩,
 ⟨(.var 6), .move (.t 0), .none⟩]) (
 .ret)) (
 .skip))) (
 .seq (.reg [⟨.tmp, .move (.v 1), .none⟩,
 ⟨.tmp, .nilck (.t 0), .none⟩,
 ⟨.tmp, .fadr 1 (.t 0), .none⟩,
 ⟨.tmp, .load1 (.t 0), .none⟩,
 ⟨.tmp, .len false (.t 0), .none⟩,
 ⟨.tmp, .loadN 7 (.v 7), .none⟩,
 ⟨.tmp, .move (.v 1), .none⟩,
 ⟨.tmp, .nilck (.t 0), .none⟩,
 ⟨.tmp, .fadr 1 (.t 0), .none⟩,
 ⟨.tmp, .load1 (.t 0), .none⟩,
 ⟨.tmp, .len false (.t 0), .none⟩,
 ⟨.tmp, .fadr 25 (.v 0), .none⟩,
 ⟨.tmp, .load1 (.t 0), .none⟩,
 ⟨(.var 3), .alloc [.int .i64 (.ofNat 0), .int .i64 (.ofNat 0), .str 0 0, .str 0 0, .nils, .nils, .int .i64 (.ofNat 0), .int .i64 (.ofNat 0), .str 0 0, .bool false, .nils, .nils, .int .i64 (.ofNat 0), .int .i64 (.ofNat 0), .int .i64 (.ofNat 0), .str 0 0, .bool false, .nils, .nils, .int .i64 (.ofNat 0), .nils, .bool false, .nils, .nils, .nils, .int .i64 (.ofNat 0)], .none⟩,
 ⟨.tmp, .call 125 [(.t 7), (.t 2)], .none⟩,
 ⟨.no, .again1 (.t 2) (.t 1), .none⟩,
 ⟨.no, .again1 (.t 11) (.t 10), .none⟩,
 ⟨.tmp, .build [.int .i64 (.ofNat 0), .int .i64 (.ofNat 0), .str 0 0, .str 0 0, .nils, .nils, .int .i64 (.ofNat 0), .int .i64 (.ofNat 0), .str 0 0, .bool false, .nils, .nils, .int .i64 (.ofNat 0), .int .i64 (.ofNat 0), .int .i64 (.ofNat 0), .str 0 0, .bool false, .nils, .nils, .int .i64 (.ofNat 0), .nils, .bool false, .nils, .nils, .nils, .int .i64 (.ofNat 0)] [(0, 1, (.c (.int .i64 (.ofNat 2)))), (1, 1, (.t 9)), (13, 7, (.t 0)), (25, 1, (.t 1))], .none⟩,
 ⟨.no, .store 26 (.v 3) (.t 0), .none⟩]) (
 .seq (.seq (.reg [⟨.tmp, .fadr 6 (.v 0), .none⟩,
 ⟨.tmp, .fadr 0 (.t 0), .none⟩,
 ⟨.tmp, .load1 (.t 0), .none⟩,
 ⟨.tmp, .bin .eql (.t 0) (.c (.int .i64 (.ofNat 0))), .none⟩]) (
 .cond (.t 0) (
 .seq (.reg [⟨.tmp, .loadN 26 (.v 3), .none⟩,
 ⟨.no, .store 26 (.v 5) (.t 0), .none⟩,
 ⟨(.var 6), .move (.c (.nili)), .none⟩]) (
 .ret)) (
 .skip))) (
 .seq (.reg [⟨.tmp, .load1 (.v 4), .none⟩,
 ⟨.tmp, .mkfn 127 [] [(.v 4), (.v 0), (.v 3)], .none⟩,
 ⟨.tmp, .move (.v 1), .none⟩,
 ⟨.tmp, .nilck (.t 0), .none⟩,
 ⟨.tmp, .fadr 1 (.t 0), .none⟩,
 ⟨.tmp, .load1 (.t 0), .none⟩,
 ⟨.tmp, .call 126 [(.t 5), (.t 4), (.t 0)], .none⟩,
 ⟨(.var 2), .move (.t 0), .none⟩]) (
 .seq (.reg [⟨.tmp, .loadN 26 (.v 3), .none⟩,
 ⟨.tmp, .move (.v 2), .none⟩,
 ⟨.no, .store 26 (.v 5) (.t 1), .none⟩,
 ⟨(.var 6), .move (.t 0), .none⟩]) (
 .ret)))))))),
 [.cellN 26 (.v 5), .opd (.v 6)], 12, .none⟩
/-- slices.Clone[[]string,string] -/
def vm85 : List Nat := [2, 0]

def d85 : DF := ⟨[.some 2, .some 0],
 .seq (.reg [⟨(.var 0), .move (.c (.nils)), .none⟩]) (
 .seq (.seq (.reg [⟨.tmp, .move (.v 1), .none⟩,
 ⟨.tmp, .binN false 1 (.t 0), .none⟩]) (
 .cond (.t 0) (
 .seq (.reg [⟨(.var 0), .move (.c (.nils)), .none⟩]) (
 .ret)) (
 .skip))) (
 .seq (.reg [⟨.tmp, .buildS 1 [] [], .none⟩,
 ⟨.tmp, .move (.v 1), .none⟩,
 ⟨.tmp, .append 1 16 (.t 1) (.t 0), .none⟩,
 ⟨(.var 0), .move (.t 0), .none⟩]) (
 .ret))),
 [.opd (.v 0)], 2, .none⟩
/-- telamon/gram.Copy -/
def vm86 : List Nat := [51, 3, 5, 12, 1, 49, 50, 40, 2, 19, 26, 0]
def b86_0 : DC :=
 .seq (.reg [⟨.tmp, .bin .lss (.v 0) (.v 6), .none⟩]) (
 .seq (.cond (.t 0) (
 .skip) (
 .exit 1)) (
 .seq (.block 2 (
 .seq (.reg [⟨.tmp, .idxS 7 (.v 5) (.v 0), .none⟩,
 ⟨.tmp, .loadN 7 (.t 0), .none⟩,
 ⟨(.var 2), .alloc [.int .i64 (.ofNat 0), .int .i64 (.ofNat 0), .str 0 0, .bool false, .nils, .nils, .int .i64 (.ofNat 0)], .none⟩,
 ⟨.no, .store 7 (.v 2) (.t 0), .none⟩]) (
 .reg [⟨.tmp, .fadr 5 (.v 1), .none⟩,
 ⟨.tmp, .load1 (.t 0), .none⟩,
 ⟨.tmp, .loadN 7 (.v 2), .none⟩,
 ⟨.tmp, .call 86 [(.t 0)], .none⟩,
 ⟨.no, .again1 (.t 3) (.t 2), .none⟩,
 ⟨.tmp, .buildS 7 [[.int .i64 (.ofNat 0), .int .i64 (.ofNat 0), .str 0 0, .bool false, .nils, .nils, .int .i64 (.ofNat 0)]] [(0, (.t 0))], .none⟩,
 ⟨.tmp, .append 7 96 (.t 3) (.t 0), .none⟩,
 ⟨.tmp, .fadr 5 (.v 1), .none⟩,
 ⟨.no, .store 1 (.t 0) (.t 1), .none⟩]))) (
 .reg [⟨.tmp, .bin .add (.v 0) (.c (.int .i64 (.ofNat 1))), .none⟩,
 ⟨(.var 0), .move (.t 0), .none⟩])))
def r86_1 : DC :=
 .seq (.reg [⟨.tmp, .loadN 7 (.v 1), .none⟩,
 ⟨.no, .store 7 (.v 8) (.t 0), .none⟩]) (
 .ret)
def d86 : DF := ⟨[.some 51, .some 3, .some 5, .some 12, .some 1, .some 49, .some 50, .some 40, .some 2, .some 19, .some 26, .some 0],
 .seq (.reg [⟨(.var 4), .box 7 (.v 11), .none⟩,
 ⟨(.var 8), .alloc [.int .i64 (.ofNat 0), .int .i64 (.ofNat 0), .str 0 0, .bool false, .nils, .nils, .int .i64 (.ofNat 0)], .none⟩]) (
 .seq (.reg [⟨.tmp, .fadr 0 (.v 4), .none⟩,
 ⟨.tmp, .load1 (.t 0), .none⟩,
 ⟨.tmp, .fadr 6 (.v 4), .none⟩,
 ⟨.tmp, .load1 (.t 0), .none⟩,
 ⟨.tmp, .build [.int .i64 (.ofNat 0), .int .i64 (.ofNat 0), .str 0 0, .bool false, .nils, .nils, .int .i64 (.ofNat 0)] [(0, 1, (.t 2)), (6, 1, (.t 0))], .none⟩,
 ⟨(.var 1), .alloc [.int .i64 (.ofNat 0), .int .i64 (.ofNat 0), .str 0 0, .bool false, .nils, .nils, .int .i64 (.ofNat 0)], .none⟩,
 ⟨.no, .store 7 (.v 1) (.t 0), .none⟩]) (
 .seq (.seq (.reg [⟨.tmp, .fadr 0 (.v 4), .none⟩,
 ⟨(.var 3), .load1 (.t 0), .none⟩]) (
 .block 0 (
 .seq (.reg [⟨.tmp, .bin .eql (.v 3) (.c (.int .i64 (.ofNat 2))), .none⟩,
 ⟨.tmp, .move (.t 0), .none⟩]) (
 .cond (.t 0) (
 .seq (.reg [⟨.tmp, .fadr 2 (.v 4), .none⟩,
 ⟨.tmp, .load1 (.t 0), .none⟩,
 ⟨.tmp, .fadr 2 (.v 1), .none⟩,
 ⟨.no, .store 1 (.t 0) (.t 1), .none⟩]) (
 .seq (.reg [⟨.tmp, .loadN 7 (.v 1), .none⟩,
 ⟨.no, .store 7 (.v 8) (.t 0), .none⟩]) (
 .ret))) (
 .seq (.seq (.reg [⟨.tmp, .bin .eql (.v 3) (.c (.int .i64 (.ofNat 3))), .none⟩,
 ⟨(.var 9), .move (.t 0), .none⟩]) (
 .cond (.v 9) (
 .skip) (
 .reg [⟨.tmp, .bin .eql (.v 3) (.c (.int .i64 (.ofNat 14))), .none⟩,
 ⟨(.var 9), .move (.t 0), .none⟩]))) (
 .cond (.v 9) (
 .seq (.reg [⟨.tmp, .fadr 1 (.v 4), .none⟩,
 ⟨.tmp, .load1 (.t 0), .none⟩,
 ⟨.tmp, .fadr 1 (.v 1), .none⟩,
 ⟨.no, .store 1 (.t 0) (.t 1), .none⟩]) (
 .seq (.reg [⟨.tmp, .loadN 7 (.v 1), .none⟩,
 ⟨.no, .store 7 (.v 8) (.t 0), .none⟩]) (
 .ret))) (
 .seq (.seq (.reg [⟨.tmp, .bin .eql (.v 3) (.c (.int .i64 (.ofNat 4))), .none⟩,
 ⟨(.var 10), .move (.t 0), .none⟩]) (
 .cond (.v 10) (
 .skip) (
 .reg [⟨.tmp, .bin .eql (.v 3) (.c (.int .i64 (.ofNat 15))), .none⟩,
 ⟨(.var 10), .move (.t 0), .none⟩]))) (
 .cond (.v 10) (
 .seq (.reg [⟨.tmp, .loadN 7 (.v 1), .none⟩,
 ⟨.no, .store 7 (.v 8) (.t 0), .none⟩]) (
 .ret)) (
 .seq (.reg [⟨.tmp, .bin .eql (.v 3) (.c (.int .i64 (.ofNat 5))), .none⟩,
 ⟨.tmp, .move (.t 0), .none⟩]) (
 .cond (.t 0) (
 .reg [⟨.tmp, .fadr 3 (.v 4), .none⟩,
 ⟨.tmp, .load1 (.t 0), .none⟩,
 ⟨.tmp, .fadr 3 (.v 1), .none⟩,
 ⟨.no, .store 1 (.t 0) (.t 1), .none⟩]) (
 .seq (.reg [⟨.tmp, .bin .eql (.v 3) (.c (.int .i64 (.ofNat 9))), .none⟩,
 ⟨.tmp, .move (.t 0), .none⟩]) (
 .cond (.t 0) (
 .reg [⟨.tmp, .fadr 2 (.v 4), .none⟩,
 ⟨.tmp, .load1 (.t 0), .none⟩,
 ⟨.tmp, .fadr 2 (.v 1), .none⟩,
 ⟨.no, .store 1 (.t 0) (.t 1), .none⟩]) (
 .seq (.seq (.reg [⟨.tmp, .bin .eql (.v 3) (.c (.int .i64 (.ofNat 6))), .none⟩,
 ⟨(.var 7), .move (.t 0), .none⟩]) (
 .cond (.v 7) (
 .skip) (
 .seq (.reg [⟨.tmp, .bin .eql (.v 3) (.c (.int .i64 (.ofNat 7))), .none⟩,
 ⟨(.var 7), .move (.t 0), .none⟩]) (
 .cond (.v 7) (
 .skip) (
 .reg [⟨.tmp, .bin .eql (.v 3) (.c (.int .i64 (.ofNat 8))), .none⟩,
 ⟨(.var 7), .move (.t 0), .none⟩]))))) (
 .cond (.v 7) (
 .reg [⟨.tmp, .fadr 4 (.v 4), .none⟩,
 ⟨.tmp, .load1 (.t 0), .none⟩,
 ⟨.tmp, .call 88 [(.t 0)], .none⟩,
 ⟨.tmp, .fadr 4 (.v 1), .none⟩,
 ⟨.no, .store 1 (.t 0) (.t 1), .none⟩]) (
 .skip))))))))))))))) (
 .seq (.seq (.reg [⟨.tmp, .fadr 5 (.v 4), .none⟩,
 ⟨(.var 5), .load1 (.t 0), .none⟩,
 ⟨(.var 6), .len false (.v 5), .none⟩,
 ⟨(.var 0), .move (.c (.int .i64 (.ofNat 0))), .none⟩]) (
 .block 1 (
 .loop b86_0))) r86_1))),
 [.cellN 7 (.v 8)], 12, .none⟩
/-- slices.Clone[[][2]string,[2]string] -/
def vm87 : List Nat := [2, 0]

def d87 : DF := ⟨[.some 2, .some 0],
 .seq (.reg [⟨(.var 0), .move (.c (.nils)), .none⟩]) (
 .seq (.seq (.reg [⟨.tmp, .move (.v 1), .none⟩,
 ⟨.tmp, .binN false 1 (.t 0), .none⟩]) (
 .cond (.t 0) (
 .seq (.reg [⟨(.var 0), .move (.c (.nils)), .none⟩]) (
 .ret)) (
 .skip))) (
 .seq (.reg [⟨.tmp, .buildS 2 [] [], .none⟩,
 ⟨.tmp, .move (.v 1), .none⟩,
 ⟨.tmp, .append 2 32 (.t 1) (.t 0), .none⟩,
 ⟨(.var 0), .move (.t 0), .none⟩]) (
 .ret))),
 [.opd (.v 0)], 2, .none⟩
/-- telamon/gram.Binds -/
def vm88 : List Nat := [5, 8, 3, 6, 7, 2, 0]
def b88_0 : DC :=
 .seq (.reg [⟨.tmp, .bin .lss (.v 1) (.v 4), .none⟩]) (
 .seq (.cond (.t 0) (
 .skip) (
 .exit 0)) (
 .seq (.block 1 (
 .seq (.reg [⟨.tmp, .idxS 9 (.v 3) (.v 1), .none⟩,
 ⟨.tmp, .loadN 9 (.t 0), .none⟩,
 ⟨(.var 0), .alloc [.str 0 0, .bool false, .int .i64 (.ofNat 0), .int .i64 (.ofNat 0), .str 0 0, .bool false, .nils, .nils, .int .i64 (.ofNat 0)], .none⟩,
 ⟨.no, .store 9 (.v 0) (.t 0), .none⟩]) (
 .seq (.reg [⟨.tmp, .fadr 2 (.v 0), .none⟩,
 ⟨.tmp, .loadN 7 (.t 0), .none⟩,
 ⟨.tmp, .call 86 [(.t 0)], .none⟩,
 ⟨.tmp, .fadr 2 (.v 0), .none⟩,
 ⟨.no, .store 7 (.t 0) (.t 1), .none⟩]) (
 .reg [⟨.tmp, .move (.v 2), .none⟩,
 ⟨.tmp, .loadN 9 (.v 0), .none⟩,
 ⟨.tmp, .buildS 9 [[.str 0 0, .bool false, .int .i64 (.ofNat 0), .int .i64 (.ofNat 0), .str 0 0, .bool false, .nils, .nils, .int .i64 (.ofNat 0)]] [(0, (.t 0))], .none⟩,
 ⟨.tmp, .append 9 120 (.t 2) (.t 0), .none⟩,
 ⟨(.var 2), .move (.t 0), .none⟩])))) (
 .reg [⟨.tmp, .bin .add (.v 1) (.c (.int .i64 (.ofNat 1))), .none⟩,
 ⟨(.var 1), .move (.t 0), .none⟩])))
def r88_1 : DC :=
 .seq (.reg [⟨.tmp, .move (.v 2), .none⟩,
 ⟨(.var 5), .move (.t 0), .none⟩]) (
 .ret)
def d88 : DF := ⟨[.some 5, .some 8, .some 3, .some 6, .some 7, .some 2, .some 0],
 .seq (.reg [⟨(.var 5), .move (.c (.nils)), .none⟩]) (
 .seq (.reg [⟨(.var 2), .move (.c (.nils)), .none⟩]) (
 .seq (.seq (.reg [⟨(.var 3), .move (.v 6), .none⟩,
 ⟨(.var 4), .len false (.v 3), .none⟩,
 ⟨(.var 1), .move (.c (.int .i64 (.ofNat 0))), .none⟩]) (
 .block 0 (
 .loop b88_0))) r88_1)),
 [.opd (.v 5)], 7, .none⟩
/-- telamon/telamonref12.Rune -/
def vm92 : List Nat := [9, 10, 8, 4, 6, 5, 0, 1, 7]
def b92_0 : DC :=
 .seq (.seq (.reg [⟨.tmp, .move (.v 0), .none⟩,
 ⟨.tmp, .move (.v 4), .none⟩,
 ⟨.tmp, .bin .lss (.t 1) (.t 0), .none⟩]) (
 .cond (.t 0) (
 .skip) (
 .exit 1))) (
 .seq (.block 2 (
 .seq (.reg [⟨.tmp, .move (.v 6), .none⟩,
 ⟨.tmp, .move (.v 7), .none⟩,
 ⟨.tmp, .move (.v 0), .none⟩,
 ⟨.tmp, .bin .add (.t 1) (.t 0), .none⟩,
 ⟨.tmp, .idxStr (.t 3) (.t 0), .none⟩,
 ⟨.tmp, .conv .i64 (.t 0), .none⟩,
 ⟨(.var 1), .move (.t 0), .none⟩]) (
 .seq (.seq (.reg [⟨.tmp, .move (.v 1), .none⟩,
 ⟨.tmp, .bin .lss (.t 0) (.c (.int .i64 (.ofNat 128))), .none⟩,
 ⟨.tmp, .move (.t 0), .none⟩,
 ⟨.tmp, .move (.v 1), .some ((.t 0), false)⟩,
 ⟨.tmp, .bin .geq (.t 0) (.c (.int .i64 (.ofNat 192))), .some ((.t 1), false)⟩,
 ⟨.tmp, .pick (.t 2) (.c (.bool true)) (.t 0), .none⟩]) (
 .cond (.t 0) (
 .seq (.reg [⟨(.var 3), .move (.c (.int .i64 (.ofNat 0))), .none⟩]) (
 .ret)) (
 .skip))) (
 .reg [⟨.tmp, .move (.v 2), .none⟩,
 ⟨.tmp, .bin .mul (.c (.int .i64 (.ofNat 64))) (.t 0), .none⟩,
 ⟨.tmp, .move (.v 1), .none⟩,
 ⟨.tmp, .bin .add (.t 1) (.t 0), .none⟩,
 ⟨.tmp, .bin .sub (.t 0) (.c (.int .i64 (.ofNat 128))), .none⟩,
 ⟨(.var 2), .move (.t 0), .none⟩])))) (
 .reg [⟨.tmp, .move (.v 0), .none⟩,
 ⟨.tmp, .bin .add (.t 0) (.c (.int .i64 (.ofNat 1))), .none⟩,
 ⟨(.var 0), .move (.t 0), .none⟩]))
def r92_1 : DC :=
 .seq (.seq (.reg [⟨.tmp, .move (.v 2), .none⟩,
 ⟨.tmp, .move (.v 8), .none⟩,
 ⟨.tmp, .bin .lss (.t 1) (.t 0), .none⟩,
 ⟨.tmp, .move (.t 0), .none⟩,
 ⟨.tmp, .move (.v 2), .some ((.t 0), false)⟩,
 ⟨.tmp, .bin .geq (.t 0) (.c (.int .i64 (.ofNat 55296))), .some ((.t 1), false)⟩,
 ⟨.tmp, .move (.t 0), .some ((.t 2), false)⟩,
 ⟨.tmp, .move (.v 2), .some ((.t 0), true)⟩,
 ⟨.tmp, .bin .lss (.t 0) (.c (.int .i64 (.ofNat 57344))), .some ((.t 1), true)⟩,
 ⟨.tmp, .pick (.t 2) (.t 0) (.c (.bool false)), .some ((.t 5), false)⟩,
 ⟨.tmp, .pick (.t 6) (.c (.bool true)) (.t 0), .none⟩,
 ⟨.tmp, .move (.t 0), .none⟩,
 ⟨.tmp, .move (.v 2), .some ((.t 0), false)⟩,
 ⟨.tmp, .bin .gtr (.t 0) (.c (.int .i64 (.ofNat 1114111))), .some ((.t 1), false)⟩,
 ⟨.tmp, .pick (.t 2) (.c (.bool true)) (.t 0), .none⟩]) (
 .cond (.t 0) (
 .seq (.reg [⟨(.var 3), .move (.c (.int .i64 (.ofNat 0))), .none⟩]) (
 .ret)) (
 .skip))) (
 .seq (.reg [⟨.tmp, .move (.v 4), .none⟩,
 ⟨(.var 3), .move (.t 0), .none⟩]) (
 .ret))
def d92 : DF := ⟨[.some 9, .some 10, .some 8, .some 4, .some 6, .some 5, .some 0, .some 1, .some 7],
 .seq (.reg [⟨(.var 3), .move (.c (.int .i64 (.ofNat 0))), .none⟩]) (
 .seq (.reg [⟨.tmp, .move (.v 6), .none⟩,
 ⟨.tmp, .move (.v 7), .none⟩,
 ⟨.tmp, .idxStr (.t 1) (.t 0), .none⟩,
 ⟨.tmp, .conv .i64 (.t 0), .none⟩,
 ⟨(.var 5), .move (.t 0), .none⟩]) (
 .seq (.reg [⟨(.var 4), .move (.c (.int .i64 (.ofNat 0))), .none⟩]) (
 .seq (.reg [⟨(.var 8), .move (.c (.int .i64 (.ofNat 0))), .none⟩]) (
 .seq (.reg [⟨(.var 2), .move (.c (.int .i64 (.ofNat 0))), .none⟩]) (
 .seq (.block 0 (
 .seq (.reg [⟨.tmp, .move (.v 5), .none⟩,
 ⟨.tmp, .bin .lss (.t 0) (.c (.int .i64 (.ofNat 128))), .none⟩,
 ⟨.tmp, .move (.t 0), .none⟩]) (
 .cond (.t 0) (
 .seq (.reg [⟨(.var 3), .move (.c (.int .i64 (.ofNat 1))), .none⟩]) (
 .ret)) (
 .seq (.reg [⟨.tmp, .move (.v 5), .none⟩,
 ⟨.tmp, .bin .geq (.t 0) (.c (.int .i64 (.ofNat 192))), .none⟩,
 ⟨.tmp, .move (.t 0), .none⟩,
 ⟨.tmp, .move (.v 5), .some ((.t 0), true)⟩,
 ⟨.tmp, .bin .lss (.t 0) (.c (.int .i64 (.ofNat 224))), .some ((.t 1), true)⟩,
 ⟨.tmp, .pick (.t 2) (.t 0) (.c (.bool false)), .none⟩,
 ⟨.tmp, .move (.t 0), .none⟩]) (
 .cond (.t 0) (
 .seq (.reg [⟨(.var 4), .move (.c (.int .i64 (.ofNat 2))), .none⟩]) (
 .seq (.reg [⟨.tmp, .move (.v 5), .none⟩,
 ⟨.tmp, .bin .sub (.t 0) (.c (.int .i64 (.ofNat 192))), .none⟩,
 ⟨(.var 2), .move (.t 0), .none⟩]) (
 .reg [⟨(.var 8), .move (.c (.int .i64 (.ofNat 128))), .none⟩]))) (
 .seq (.reg [⟨.tmp, .move (.v 5), .none⟩,
 ⟨.tmp, .bin .geq (.t 0) (.c (.int .i64 (.ofNat 224))), .none⟩,
 ⟨.tmp, .move (.t 0), .none⟩,
 ⟨.tmp, .move (.v 5), .some ((.t 0), true)⟩,
 ⟨.tmp, .bin .lss (.t 0) (.c (.int .i64 (.ofNat 240))), .some ((.t 1), true)⟩,
 ⟨.tmp, .pick (.t 2) (.t 0) (.c (.bool false)), .none⟩,
 ⟨.tmp, .move (.t 0), .none⟩]) (
 .cond (.t 0) (
 .seq (.reg [⟨(.var 4), .move (.c (.int .i64 (.ofNat 3))), .none⟩]) (
 .seq (.reg [⟨.tmp, .move (.v 5), .none⟩,
 ⟨.tmp, .bin .sub (.t 0) (.c (.int .i64 (.ofNat 224))), .none⟩,
 ⟨(.var 2), .move (.t 0), .none⟩]) (
 .reg [⟨(.var 8), .move (.c (.int .i64 (.ofNat 2048))), .none⟩]))) (
 .seq (.reg [⟨.tmp, .move (.v 5), .none⟩,
 ⟨.tmp, .bin .geq (.t 0) (.c (.int .i64 (.ofNat 240))), .none⟩,
 ⟨.tmp, .move (.t 0), .none⟩,
 ⟨.tmp, .move (.v 5), .some ((.t 0), true)⟩,
 ⟨.tmp, .bin .lss (.t 0) (.c (.int .i64 (.ofNat 248))), .some ((.t 1), true)⟩,
 ⟨.tmp, .pick (.t 2) (.t 0) (.c (.bool false)), .none⟩,
 ⟨.tmp, .move (.t 0), .none⟩]) (
 .cond (.t 0) (
 .seq (.reg [⟨(.var 4), .move (.c (.int .i64 (.ofNat 4))), .none⟩]) (
 .seq (.reg [⟨.tmp, .move (.v 5), .none⟩,
 ⟨.tmp, .bin .sub (.t 0) (.c (.int .i64 (.ofNat 240))), .none⟩,
 ⟨(.var 2), .move (.t 0), .none⟩]) (
 .reg [⟨(.var 8), .move (.c (.int .i64 (.ofNat 65536))), .none⟩]))) (
 .seq (.reg [⟨(.var 3), .move (.c (.int .i64 (.ofNat 0))), .none⟩]) (
 .ret))))))))))) (
 .seq (.seq (.reg [⟨.tmp, .move (.v 7), .none⟩,
 ⟨.tmp, .move (.v 4), .none⟩,
 ⟨.tmp, .bin .add (.t 1) (.t 0), .none⟩,
 ⟨.tmp, .move (.v 6), .none⟩,
 ⟨.tmp, .len true (.t 0), .none⟩,
 ⟨.tmp, .bin .gtr (.t 2) (.t 0), .none⟩]) (
 .cond (.t 0) (
 .seq (.reg [⟨(.var 3), .move (.c (.int .i64 (.ofNat 0))), .none⟩]) (
 .ret)) (
 .skip))) (
 .seq (.seq (.reg [⟨(.var 0), .move (.c (.int .i64 (.ofNat 1))), .none⟩]) (
 .block 1 (
 .loop b92_0))) r92_1))))))),
 [.opd (.v 3)], 9, .none⟩
/-- telamon/telamonref12.digits -/
def vm93 : List Nat := [3, 0, 2]
def b93_0 : DC :=
 .seq (.seq (.reg [⟨.tmp, .move (.v 0), .none⟩,
 ⟨.tmp, .move (.v 1), .none⟩,
 ⟨.tmp, .len true (.t 0), .none⟩,
 ⟨.tmp, .bin .lss (.t 2) (.t 0), .none⟩]) (
 .cond (.t 0) (
 .skip) (
 .exit 0))) (
 .seq (.block 1 (
 .seq (.reg [⟨.tmp, .move (.v 1), .none⟩,
 ⟨.tmp, .move (.v 0), .none⟩,
 ⟨.tmp, .idxStr (.t 1) (.t 0), .none⟩,
 ⟨.tmp, .bin .lss (.t 0) (.c (.int .u8 (.ofNat 48))), .none⟩,
 ⟨.tmp, .move (.t 0), .none⟩,
 ⟨.tmp, .move (.v 1), .some ((.t 0), false)⟩,
 ⟨.tmp, .move (.v 0), .some ((.t 1), false)⟩,
 ⟨.tmp, .idxStr (.t 1) (.t 0), .some ((.t 2), false)⟩,
 ⟨.tmp, .bin .gtr (.t 0) (.c (.int .u8 (.ofNat 57))), .some ((.t 3), false)⟩,
 ⟨.tmp, .pick (.t 4) (.c (.bool true)) (.t 0), .none⟩]) (
 .cond (.t 0) (
 .seq (.reg [⟨(.var 2), .move (.c (.bool false)), .none⟩]) (
 .ret)) (
 .skip)))) (
 .reg [⟨.tmp, .move (.v 0), .none⟩,
 ⟨.tmp, .bin .add (.t 0) (.c (.int .i64 (.ofNat 1))), .none⟩,
 ⟨(.var 0), .move (.t 0), .none⟩]))
def r93_1 : DC :=
 .seq (.reg [⟨(.var 2), .move (.c (.bool true)), .none⟩]) (
 .ret)
def d93 : DF := ⟨[.some 3, .some 0, .some 2],
 .seq (.reg [⟨(.var 2), .move (.c (.bool false)), .none⟩]) (
 .seq (.seq (.reg [⟨(.var 0), .move (.c (.int .i64 (.ofNat 0))), .none⟩]) (
 .block 0 (
 .loop b93_0))) r93_1),
 [.opd (.v 2)], 3, .none⟩
/-- telamon/telamonref12.dots -/
def vm94 : List Nat := [3, 0, 2]
def b94_0 : DC :=
 .seq (.seq (.reg [⟨.tmp, .move (.v 0), .none⟩,
 ⟨.tmp, .move (.v 1), .none⟩,
 ⟨.tmp, .len true (.t 0), .none⟩,
 ⟨.tmp, .bin .lss (.t 2) (.t 0), .none⟩]) (
 .cond (.t 0) (
 .skip) (
 .exit 0))) (
 .seq (.block 1 (
 .seq (.reg [⟨.tmp, .move (.v 1), .none⟩,
 ⟨.tmp, .move (.v 0), .none⟩,
 ⟨.tmp, .idxStr (.t 1) (.t 0), .none⟩,
 ⟨.tmp, .bin .eql (.t 0) (.c (.int .u8 (.ofNat 46))), .none⟩,
 ⟨.tmp, .move (.t 0), .none⟩,
 ⟨.tmp, .move (.v 0), .some ((.t 0), true)⟩,
 ⟨.tmp, .bin .eql (.t 0) (.c (.int .i64 (.ofNat 0))), .some ((.t 1), true)⟩,
 ⟨.tmp, .move (.t 0), .some ((.t 2), true)⟩,
 ⟨.tmp, .move (.v 0), .some ((.t 0), false)⟩,
 ⟨.tmp, .move (.v 1), .some ((.t 1), false)⟩,
 ⟨.tmp, .len true (.t 0), .some ((.t 2), false)⟩,
 ⟨.tmp, .bin .sub (.t 0) (.c (.int .i64 (.ofNat 1))), .some ((.t 3), false)⟩,
 ⟨.tmp, .bin .eql (.t 3) (.t 0), .some ((.t 4), false)⟩,
 ⟨.tmp, .pick (.t 5) (.c (.bool true)) (.t 0), .some ((.t 8), true)⟩,
 ⟨.tmp, .move (.t 0), .some ((.t 9), true)⟩,
 ⟨.tmp, .move (.v 1), .some ((.t 0), false)⟩,
 ⟨.tmp, .move (.v 0), .some ((.t 1), false)⟩,
 ⟨.tmp, .bin .add (.t 0) (.c (.int .i64 (.ofNat 1))), .some ((.t 2), false)⟩,
 ⟨.tmp, .idxStr (.t 2) (.t 0), .some ((.t 3), false)⟩,
 ⟨.tmp, .bin .eql (.t 0) (.c (.int .u8 (.ofNat 46))), .some ((.t 4), false)⟩,
 ⟨.tmp, .pick (.t 5) (.c (.bool true)) (.t 0), .some ((.t 15), true)⟩,
 ⟨.tmp, .pick (.t 16) (.t 0) (.c (.bool false)), .none⟩]) (
 .cond (.t 0) (
 .seq (.reg [⟨(.var 2), .move (.c (.bool true)), .none⟩]) (
 .ret)) (
 .skip)))) (
 .reg [⟨.tmp, .move (.v 0), .none⟩,
 ⟨.tmp, .bin .add (.t 0) (.c (.int .i64 (.ofNat 1))), .none⟩,
 ⟨(.var 0), .move (.t 0), .none⟩]))
def r94_1 : DC :=
 .seq (.reg [⟨(.var 2), .move (.c (.bool false)), .none⟩]) (
 .ret)
def d94 : DF := ⟨[.some 3, .some 0, .some 2],
 .seq (.reg [⟨(.var 2), .move (.c (.bool false)), .none⟩]) (
 .seq (.seq (.reg [⟨(.var 0), .move (.c (.int .i64 (.ofNat 0))), .none⟩]) (
 .block 0 (
 .loop b94_0))) r94_1),
 [.opd (.v 2)], 3, .none⟩
/-- (*telamon/telamonref12.Parser).tok -/
def vm95 : List Nat := [0, 2]

def d95 : DF := ⟨[.some 0, .some 2],
 .seq (.reg [⟨(.var 1), .alloc [.int .i64 (.ofNat 0), .str 0 0, .int .i64 (.ofNat 0), .int .i64 (.ofNat 0), .int .i64 (.ofNat 0)], .none⟩]) (
 .seq (.reg [⟨.tmp, .move (.v 0), .none⟩,
 ⟨.tmp, .nilck (.t 0), .none⟩,
 ⟨.tmp, .fadr 0 (.t 0), .none⟩,
 ⟨.tmp, .load1 (.t 0), .none⟩,
 ⟨.tmp, .move (.v 0), .none⟩,
 ⟨.tmp, .nilck (.t 0), .none⟩,
 ⟨.tmp, .fadr 1 (.t 0), .none⟩,
 ⟨.tmp, .load1 (.t 0), .none⟩,
 ⟨.tmp, .idxS 5 (.t 4) (.t 0), .none⟩,
 ⟨.tmp, .loadN 5 (.t 0), .none⟩,
 ⟨.no, .store 5 (.v 1) (.t 0), .none⟩]) (
 .ret)),
 [.cellN 5 (.v 1)], 2, .none⟩
/-- (*telamon/telamonref12.Parser).name -/
def vm96 : List Nat := [0, 2, 3, 4]

def d96 : DF := ⟨[.some 0, .some 2, .some 3, .some 4],
 .seq (.reg [⟨(.var 1), .move (.c (.str 0 0)), .none⟩]) (
 .seq (.reg [⟨.tmp, .move (.v 0), .none⟩,
 ⟨.tmp, .call 50 [(.t 0), (.c (.int .i64 (.ofNat 1)))], .none⟩,
 ⟨(.var 2), .move (.t 0), .none⟩]) (
 .seq (.seq (.reg [⟨.tmp, .move (.v 2), .none⟩,
 ⟨.tmp, .not (.t 0), .none⟩]) (
 .cond (.t 0) (
 .seq (.reg [⟨.tmp, .move (.v 0), .none⟩,
 ⟨.tmp, .call 51 [(.t 0), (.c (.int .i64 (.ofNat 41)))], .none⟩]) (
 .seq (.reg [⟨(.var 1), .move (.c (.str 0 0)), .none⟩]) (
 .ret))) (
 .skip))) (
 .seq (.reg [⟨.tmp, .move (.v 0), .none⟩,
 ⟨.tmp, .call 95 [(.t 0)], .none⟩,
 ⟨.tmp, .fld1 1 (.t 0), .none⟩,
 ⟨(.var 3), .move (.t 0), .none⟩]) (
 .seq (.reg [⟨.tmp, .move (.v 0), .none⟩,
 ⟨.tmp, .nilck (.t 0), .none⟩,
 ⟨.tmp, .fadr 1 (.t 0), .none⟩,
 ⟨.tmp, .load1 (.t 0), .none⟩,
 ⟨.tmp, .bin .add (.t 0) (.c (.int .i64 (.ofNat 1))), .none⟩,
 ⟨.tmp, .nilck (.t 4), .none⟩,
 ⟨.tmp, .fadr 1 (.t 0), .none⟩,
 ⟨.no, .store 1 (.t 0) (.t 2), .none⟩]) (
 .seq (.reg [⟨.tmp, .move (.v 3), .none⟩,
 ⟨(.var 1), .move (.t 0), .none⟩]) (
 .ret)))))),
 [.opd (.v 1)], 4, .none⟩
/-- (*telamon/telamonref12.Parser).binds -/
def vm97 : List Nat := [0, 3, 4, 2]
def b97_0 : DC :=
 .seq (.seq (.reg [⟨.tmp, .move (.v 0), .none⟩,
 ⟨.tmp, .nilck (.t 0), .none⟩,
 ⟨.tmp, .fadr 2 (.t 0), .none⟩,
 ⟨.tmp, .load1 (.t 0), .none⟩,
 ⟨.tmp, .bin .eql (.t 0) (.c (.int .i64 (.ofNat 0))), .none⟩]) (
 .cond (.t 0) (
 .skip) (
 .exit 0))) (
 .block 1 (
 .seq (.reg [⟨.tmp, .move (.v 0), .none⟩,
 ⟨.tmp, .call 128 [(.t 0)], .none⟩,
 ⟨(.var 2), .move (.t 0), .none⟩]) (
 .seq (.seq (.reg [⟨.tmp, .move (.v 2), .none⟩,
 ⟨.tmp, .not (.t 0), .none⟩]) (
 .cond (.t 0) (
 .exit 0) (
 .skip))) (
 .reg [⟨.tmp, .move (.v 1), .none⟩,
 ⟨.tmp, .move (.v 0), .none⟩,
 ⟨.tmp, .call 129 [(.t 0)], .none⟩,
 ⟨.tmp, .append 9 120 (.t 2) (.t 0), .none⟩,
 ⟨(.var 1), .move (.t 0), .none⟩]))))
def r97_1 : DC :=
 .seq (.reg [⟨.tmp, .move (.v 1), .none⟩,
 ⟨(.var 3), .move (.t 0), .none⟩]) (
 .ret)
def d97 : DF := ⟨[.some 0, .some 3, .some 4, .some 2],
 .seq (.reg [⟨(.var 3), .move (.c (.nils)), .none⟩]) (
 .seq (.reg [⟨(.var 1), .move (.c (.nils)), .none⟩]) (
 .seq (.block 0 (
 .loop b97_0)) r97_1)),
 [.opd (.v 3)], 4, .none⟩
/-- (*telamon/telamonref12.Parser).take -/
def vm98 : List Nat := [0, 4, 1]

def d98 : DF := ⟨[.some 0, .some 4, .some 1],
 .seq (.reg [⟨.tmp, .move (.v 0), .none⟩,
 ⟨.tmp, .move (.v 2), .none⟩,
 ⟨.tmp, .call 130 [(.t 1), (.t 0)], .none⟩,
 ⟨(.var 1), .move (.t 0), .none⟩]) (
 .seq (.seq (.reg [⟨.tmp, .move (.v 1), .none⟩,
 ⟨.tmp, .not (.t 0), .none⟩]) (
 .cond (.t 0) (
 .seq (.reg [⟨.tmp, .move (.v 0), .none⟩,
 ⟨.tmp, .call 51 [(.t 0), (.c (.int .i64 (.ofNat 41)))], .none⟩]) (
 .ret)) (
 .skip))) (
 .reg [⟨.tmp, .move (.v 0), .none⟩,
 ⟨.tmp, .nilck (.t 0), .none⟩,
 ⟨.tmp, .fadr 1 (.t 0), .none⟩,
 ⟨.tmp, .load1 (.t 0), .none⟩,
 ⟨.tmp, .bin .add (.t 0) (.c (.int .i64 (.ofNat 1))), .none⟩,
 ⟨.tmp, .nilck (.t 4), .none⟩,
 ⟨.tmp, .fadr 1 (.t 0), .none⟩,
 ⟨.no, .store 1 (.t 0) (.t 2), .none⟩])),
 [], 3, .none⟩
/-- (*telamon/telamonref12.Parser).exp -/
def vm99 : List Nat := [0, 2, 4, 3]

def d99 : DF := ⟨[.some 0, .some 2, .some 4, .some 3],
 .seq (.reg [⟨(.var 1), .alloc [.int .i64 (.ofNat 0), .int .i64 (.ofNat 0), .str 0 0, .bool false, .nils, .nils, .int .i64 (.ofNat 0)], .none⟩]) (
 .seq (.reg [⟨.tmp, .move (.v 0), .none⟩,
 ⟨.tmp, .call 101 [(.t 0)], .none⟩,
 ⟨(.var 3), .move (.t 0), .none⟩]) (
 .seq (.seq (.reg [⟨.tmp, .move (.v 3), .none⟩,
 ⟨.tmp, .not (.t 0), .none⟩]) (
 .cond (.t 0) (
 .seq (.reg [⟨.tmp, .build [.int .i64 (.ofNat 0), .int .i64 (.ofNat 0), .str 0 0, .bool false, .nils, .nils, .int .i64 (.ofNat 0)] [], .none⟩,
 ⟨.no, .store 7 (.v 1) (.t 0), .none⟩]) (
 .ret)) (
 .skip))) (
 .seq (.reg [⟨.tmp, .move (.v 0), .none⟩,
 ⟨.tmp, .call 131 [(.t 0)], .none⟩,
 ⟨(.var 2), .alloc [.int .i64 (.ofNat 0), .int .i64 (.ofNat 0), .str 0 0, .bool false, .nils, .nils, .int .i64 (.ofNat 0)], .none⟩,
 ⟨.no, .store 7 (.v 2) (.t 0), .none⟩]) (
 .seq (.reg [⟨.tmp, .move (.v 0), .none⟩,
 ⟨.tmp, .nilck (.t 0), .none⟩,
 ⟨.tmp, .fadr 4 (.t 0), .none⟩,
 ⟨.tmp, .load1 (.t 0), .none⟩,
 ⟨.tmp, .bin .sub (.t 0) (.c (.int .i64 (.ofNat 1))), .none⟩,
 ⟨.tmp, .nilck (.t 4), .none⟩,
 ⟨.tmp, .fadr 4 (.t 0), .none⟩,
 ⟨.no, .store 1 (.t 0) (.t 2), .none⟩]) (
 .seq (.reg [⟨.tmp, .loadN 7 (.v 2), .none⟩,
 ⟨.no, .store 7 (.v 1) (.t 0), .none⟩]) (
 .ret)))))),
 [.cellN 7 (.v 1)], 4, .none⟩
/-- (*telamon/telamonref12.Parser).sigs -/
def vm100 : List Nat := [0, 5, 3, 4, 2]
def b100_0 : DC :=
 .seq (.seq (.reg [⟨.tmp, .move (.v 0), .none⟩,
 ⟨.tmp, .nilck (.t 0), .none⟩,
 ⟨.tmp, .fadr 2 (.t 0), .none⟩,
 ⟨.tmp, .load1 (.t 0), .none⟩,
 ⟨.tmp, .bin .eql (.t 0) (.c (.int .i64 (.ofNat 0))), .none⟩]) (
 .cond (.t 0) (
 .skip) (
 .exit 0))) (
 .block 1 (
 .seq (.reg [⟨.tmp, .move (.v 0), .none⟩,
 ⟨.tmp, .call 50 [(.t 0), (.c (.int .i64 (.ofNat 5)))], .none⟩,
 ⟨(.var 3), .move (.t 0), .none⟩]) (
 .seq (.reg [⟨.tmp, .move (.v 0), .none⟩,
 ⟨.tmp, .call 50 [(.t 0), (.c (.int .i64 (.ofNat 6)))], .none⟩,
 ⟨(.var 1), .move (.t 0), .none⟩]) (
 .seq (.seq (.reg [⟨.tmp, .move (.v 3), .none⟩,
 ⟨.tmp, .not (.t 0), .none⟩,
 ⟨.tmp, .move (.t 0), .none⟩,
 ⟨.tmp, .move (.v 1), .some ((.t 0), true)⟩,
 ⟨.tmp, .not (.t 0), .some ((.t 1), true)⟩,
 ⟨.tmp, .pick (.t 2) (.t 0) (.c (.bool false)), .none⟩]) (
 .cond (.t 0) (
 .seq (.reg [⟨.tmp, .move (.v 2), .none⟩,
 ⟨.tmp, .move (.v 0), .none⟩,
 ⟨.tmp, .call 105 [(.t 0)], .none⟩,
 ⟨.tmp, .buildS 26 [[.int .i64 (.ofNat 0), .int .i64 (.ofNat 0), .str 0 0, .str 0 0, .nils, .nils, .int .i64 (.ofNat 0), .int .i64 (.ofNat 0), .str 0 0, .bool false, .nils, .nils, .int .i64 (.ofNat 0), .int .i64 (.ofNat 0), .int .i64 (.ofNat 0), .str 0 0, .bool false, .nils, .nils, .int .i64 (.ofNat 0), .nils, .bool false, .nils, .nils, .nils, .int .i64 (.ofNat 0)]] [(0, (.t 0))], .none⟩,
 ⟨.tmp, .append 26 400 (.t 3) (.t 0), .none⟩,
 ⟨(.var 2), .move (.t 0), .none⟩]) (
 .reg [⟨.tmp, .move (.v 0), .none⟩,
 ⟨.tmp, .call 50 [(.t 0), (.c (.int .i64 (.ofNat 6)))], .none⟩,
 ⟨(.var 1), .move (.t 0), .none⟩])) (
 .skip))) (
 .seq (.seq (.reg [⟨.tmp, .move (.v 1), .none⟩,
 ⟨.tmp, .not (.t 0), .none⟩,
 ⟨.tmp, .move (.t 0), .none⟩,
 ⟨.tmp, .move (.v 0), .some ((.t 0), false)⟩,
 ⟨.tmp, .nilck (.t 0), .some ((.t 1), false)⟩,
 ⟨.tmp, .fadr 2 (.t 0), .some ((.t 2), false)⟩,
 ⟨.tmp, .load1 (.t 0), .some ((.t 3), false)⟩,
 ⟨.tmp, .bin .neq (.t 0) (.c (.int .i64 (.ofNat 0))), .some ((.t 4), false)⟩,
 ⟨.tmp, .pick (.t 5) (.c (.bool true)) (.t 0), .none⟩]) (
 .cond (.t 0) (
 .exit 0) (
 .skip))) (
 .reg [⟨.tmp, .move (.v 0), .none⟩,
 ⟨.tmp, .nilck (.t 0), .none⟩,
 ⟨.tmp, .fadr 1 (.t 0), .none⟩,
 ⟨.tmp, .load1 (.t 0), .none⟩,
 ⟨.tmp, .bin .add (.t 0) (.c (.int .i64 (.ofNat 1))), .none⟩,
 ⟨.tmp, .nilck (.t 4), .none⟩,
 ⟨.tmp, .fadr 1 (.t 0), .none⟩,
 ⟨.no, .store 1 (.t 0) (.t 2), .none⟩]))))))
def r100_1 : DC :=
 .seq (.reg [⟨.tmp, .move (.v 0), .none⟩,
 ⟨.tmp, .call 24 [(.t 0), (.c (.int .i64 (.ofNat 5)))], .none⟩]) (
 .seq (.reg [⟨.tmp, .move (.v 2), .none⟩,
 ⟨(.var 4), .move (.t 0), .none⟩]) (
 .ret))
def d100 : DF := ⟨[.some 0, .some 5, .some 3, .some 4, .some 2],
 .seq (.reg [⟨(.var 4), .move (.c (.nils)), .none⟩]) (
 .seq (.reg [⟨(.var 2), .move (.c (.nils)), .none⟩]) (
 .seq (.reg [⟨.tmp, .move (.v 0), .none⟩,
 ⟨.tmp, .call 24 [(.t 0), (.c (.int .i64 (.ofNat 4)))], .none⟩]) (
 .seq (.block 0 (
 .loop b100_0)) r100_1))),
 [.opd (.v 4)], 5, .none⟩
/-- (*telamon/telamonref12.Parser).open -/
def vm101 : List Nat := [0, 2]

def d101 : DF := ⟨[.some 0, .some 2],
 .seq (.reg [⟨(.var 1), .move (.c (.bool false)), .none⟩]) (
 .seq (.reg [⟨.tmp, .move (.v 0), .none⟩,
 ⟨.tmp, .nilck (.t 0), .none⟩,
 ⟨.tmp, .fadr 4 (.t 0), .none⟩,
 ⟨.tmp, .load1 (.t 0), .none⟩,
 ⟨.tmp, .bin .add (.t 0) (.c (.int .i64 (.ofNat 1))), .none⟩,
 ⟨.tmp, .nilck (.t 4), .none⟩,
 ⟨.tmp, .fadr 4 (.t 0), .none⟩,
 ⟨.no, .store 1 (.t 0) (.t 2), .none⟩]) (
 .seq (.seq (.reg [⟨.tmp, .move (.v 0), .none⟩,
 ⟨.tmp, .nilck (.t 0), .none⟩,
 ⟨.tmp, .fadr 4 (.t 0), .none⟩,
 ⟨.tmp, .load1 (.t 0), .none⟩,
 ⟨.tmp, .bin .gtr (.t 0) (.c (.int .i64 (.ofNat 60))), .none⟩]) (
 .cond (.t 0) (
 .seq (.reg [⟨.tmp, .move (.v 0), .none⟩,
 ⟨.tmp, .call 51 [(.t 0), (.c (.int .i64 (.ofNat 2)))], .none⟩]) (
 .seq (.reg [⟨(.var 1), .move (.c (.bool false)), .none⟩]) (
 .ret))) (
 .skip))) (
 .seq (.reg [⟨(.var 1), .move (.c (.bool true)), .none⟩]) (
 .ret)))),
 [.opd (.v 1)], 2, .none⟩
/-- (*telamon/telamonref12.Parser).opened -/
def vm102 : List Nat := [0, 1, 8, 9, 7, 4, 5, 6]
def b102_0 : DC :=
 .seq (.seq (.reg [⟨.tmp, .move (.v 4), .none⟩,
 ⟨.tmp, .not (.t 0), .none⟩,
 ⟨.tmp, .move (.t 0), .none⟩,
 ⟨.tmp, .move (.v 0), .some ((.t 0), true)⟩,
 ⟨.tmp, .nilck (.t 0), .some ((.t 1), true)⟩,
 ⟨.tmp, .fadr 2 (.t 0), .some ((.t 2), true)⟩,
 ⟨.tmp, .load1 (.t 0), .some ((.t 3), true)⟩,
 ⟨.tmp, .bin .eql (.t 0) (.c (.int .i64 (.ofNat 0))), .some ((.t 4), true)⟩,
 ⟨.tmp, .pick (.t 5) (.t 0) (.c (.bool false)), .none⟩]) (
 .cond (.t 0) (
 .skip) (
 .exit 0))) (
 .block 1 (
 .seq (.reg [⟨.tmp, .move (.v 0), .none⟩,
 ⟨.tmp, .call 96 [(.t 0)], .none⟩,
 ⟨(.var 2), .move (.t 0), .none⟩]) (
 .seq (.reg [⟨.tmp, .move (.v 0), .none⟩,
 ⟨.tmp, .call 98 [(.t 0), (.c (.str 2 28532))], .none⟩]) (
 .seq (.reg [⟨.tmp, .move (.v 1), .none⟩,
 ⟨.tmp, .move (.v 1), .none⟩,
 ⟨.tmp, .nilck (.t 0), .none⟩,
 ⟨.tmp, .fadr 24 (.t 0), .none⟩,
 ⟨.tmp, .load1 (.t 0), .none⟩,
 ⟨.tmp, .move (.v 2), .none⟩,
 ⟨.tmp, .move (.v 0), .none⟩,
 ⟨.tmp, .call 96 [(.t 0)], .none⟩,
 ⟨.no, .again1 (.t 4) (.t 3), .none⟩,
 ⟨.tmp, .build [.str 0 0, .str 0 0] [(0, 1, (.t 2)), (1, 1, (.t 0))], .none⟩,
 ⟨.tmp, .buildS 2 [[.str 0 0, .str 0 0]] [(0, (.t 0))], .none⟩,
 ⟨.tmp, .append 2 32 (.t 5) (.t 0), .none⟩,
 ⟨.tmp, .nilck (.t 10), .none⟩,
 ⟨.tmp, .fadr 24 (.t 0), .none⟩,
 ⟨.no, .store 1 (.t 0) (.t 2), .none⟩]) (
 .seq (.reg [⟨.tmp, .move (.v 0), .none⟩,
 ⟨.tmp, .call 50 [(.t 0), (.c (.int .i64 (.ofNat 6)))], .none⟩,
 ⟨(.var 3), .move (.t 0), .none⟩]) (
 .seq (.seq (.reg [⟨.tmp, .move (.v 3), .none⟩,
 ⟨.tmp, .not (.t 0), .none⟩]) (
 .cond (.t 0) (
 .exit 0) (
 .skip))) (
 .reg [⟨.tmp, .move (.v 0), .none⟩,
 ⟨.tmp, .nilck (.t 0), .none⟩,
 ⟨.tmp, .fadr 1 (.t 0), .none⟩,
 ⟨.tmp, .load1 (.t 0), .none⟩,
 ⟨.tmp, .bin .add (.t 0) (.c (.int .i64 (.ofNat 1))), .none⟩,
 ⟨.tmp, .nilck (.t 4), .none⟩,
 ⟨.tmp, .fadr 1 (.t 0), .none⟩,
 ⟨.no, .store 1 (.t 0) (.t 2), .none⟩])))))))
def r102_1 : DC :=
 .reg [⟨.tmp, .move (.v 0), .none⟩,
 ⟨.tmp, .call 98 [(.t 0), (.c (.str 1 41))], .none⟩]
def d102 : DF := ⟨[.some 0, .some 1, .some 8, .some 9, .some 7, .some 4, .some 5, .some 6],
 .seq (.reg [⟨.tmp, .move (.v 0), .none⟩,
 ⟨.tmp, .nilck (.t 0), .none⟩,
 ⟨.tmp, .fadr 1 (.t 0), .none⟩,
 ⟨.tmp, .load1 (.t 0), .none⟩,
 ⟨.tmp, .bin .add (.t 0) (.c (.int .i64 (.ofNat 1))), .none⟩,
 ⟨.tmp, .nilck (.t 4), .none⟩,
 ⟨.tmp, .fadr 1 (.t 0), .none⟩,
 ⟨.no, .store 1 (.t 0) (.t 2), .none⟩]) (
 .seq (.reg [⟨.tmp, .move (.v 1), .none⟩,
 ⟨.tmp, .nilck (.t 0), .none⟩,
 ⟨.tmp, .fadr 0 (.t 0), .none⟩,
 ⟨.no, .store 1 (.t 0) (.c (.int .i64 (.ofNat 7))), .none⟩]) (
 .seq (.reg [⟨.tmp, .move (.v 1), .none⟩,
 ⟨.tmp, .move (.v 0), .none⟩,
 ⟨.tmp, .call 96 [(.t 0)], .none⟩,
 ⟨.tmp, .nilck (.t 2), .none⟩,
 ⟨.tmp, .fadr 2 (.t 0), .none⟩,
 ⟨.no, .store 1 (.t 0) (.t 2), .none⟩]) (
 .seq (.reg [⟨.tmp, .move (.v 0), .none⟩,
 ⟨.tmp, .call 107 [(.t 0), (.c (.str 5 444234036085))], .none⟩,
 ⟨(.var 5), .move (.t 0), .none⟩]) (
 .seq (.seq (.reg [⟨.tmp, .move (.v 5), .none⟩]) (
 .cond (.t 0) (
 .seq (.reg [⟨.tmp, .move (.v 1), .none⟩,
 ⟨.tmp, .nilck (.t 0), .none⟩,
 ⟨.tmp, .fadr 21 (.t 0), .none⟩,
 ⟨.no, .store 1 (.t 0) (.c (.bool true)), .none⟩]) (
 .reg [⟨.tmp, .move (.v 1), .none⟩,
 ⟨.tmp, .move (.v 0), .none⟩,
 ⟨.tmp, .call 132 [(.t 0)], .none⟩,
 ⟨.tmp, .nilck (.t 2), .none⟩,
 ⟨.tmp, .fadr 22 (.t 0), .none⟩,
 ⟨.no, .store 1 (.t 0) (.t 2), .none⟩])) (
 .skip))) (
 .seq (.reg [⟨.tmp, .move (.v 0), .none⟩,
 ⟨.tmp, .call 107 [(.t 0), (.c (.str 6 113723912251752))], .none⟩,
 ⟨(.var 6), .move (.t 0), .none⟩]) (
 .seq (.seq (.reg [⟨.tmp, .move (.v 6), .none⟩]) (
 .cond (.t 0) (
 .reg [⟨.tmp, .move (.v 1), .none⟩,
 ⟨.tmp, .move (.v 0), .none⟩,
 ⟨.tmp, .call 132 [(.t 0)], .none⟩,
 ⟨.tmp, .nilck (.t 2), .none⟩,
 ⟨.tmp, .fadr 23 (.t 0), .none⟩,
 ⟨.no, .store 1 (.t 0) (.t 2), .none⟩]) (
 .skip))) (
 .seq (.reg [⟨.tmp, .move (.v 0), .none⟩,
 ⟨.tmp, .call 107 [(.t 0), (.c (.str 8 7453010351851726194))], .none⟩,
 ⟨(.var 7), .move (.t 0), .none⟩]) (
 .seq (.seq (.reg [⟨.tmp, .move (.v 7), .none⟩,
 ⟨.tmp, .not (.t 0), .none⟩]) (
 .cond (.t 0) (
 .ret) (
 .skip))) (
 .seq (.reg [⟨.tmp, .move (.v 0), .none⟩,
 ⟨.tmp, .call 98 [(.t 0), (.c (.str 1 40))], .none⟩]) (
 .seq (.reg [⟨.tmp, .move (.v 0), .none⟩,
 ⟨.tmp, .call 130 [(.t 0), (.c (.str 1 41))], .none⟩,
 ⟨(.var 4), .move (.t 0), .none⟩]) (
 .seq (.block 0 (
 .loop b102_0)) r102_1))))))))))),
 [], 8, .none⟩
/-- telamon/telamonref12.number -/
def vm103 : List Nat := [4, 3, 0, 2]
def b103_0 : DC :=
 .seq (.seq (.reg [⟨.tmp, .move (.v 0), .none⟩,
 ⟨.tmp, .move (.v 2), .none⟩,
 ⟨.tmp, .len true (.t 0), .none⟩,
 ⟨.tmp, .bin .lss (.t 2) (.t 0), .none⟩]) (
 .cond (.t 0) (
 .skip) (
 .exit 0))) (
 .seq (.block 1 (
 .reg [⟨.tmp, .move (.v 1), .none⟩,
 ⟨.tmp, .bin .mul (.c (.int .i64 (.ofNat 10))) (.t 0), .none⟩,
 ⟨.tmp, .move (.v 2), .none⟩,
 ⟨.tmp, .move (.v 0), .none⟩,
 ⟨.tmp, .idxStr (.t 1) (.t 0), .none⟩,
 ⟨.tmp, .bin .sub (.t 0) (.c (.int .u8 (.ofNat 48))), .none⟩,
 ⟨.tmp, .conv .i64 (.t 0), .none⟩,
 ⟨.tmp, .bin .add (.t 5) (.t 0), .none⟩,
 ⟨(.var 1), .move (.t 0), .none⟩])) (
 .reg [⟨.tmp, .move (.v 0), .none⟩,
 ⟨.tmp, .bin .add (.t 0) (.c (.int .i64 (.ofNat 1))), .none⟩,
 ⟨(.var 0), .move (.t 0), .none⟩]))
def r103_1 : DC :=
 .seq (.reg [⟨.tmp, .move (.v 1), .none⟩,
 ⟨(.var 3), .move (.t 0), .none⟩]) (
 .ret)
def d103 : DF := ⟨[.some 4, .some 3, .some 0, .some 2],
 .seq (.reg [⟨(.var 3), .move (.c (.int .i64 (.ofNat 0))), .none⟩]) (
 .seq (.reg [⟨(.var 1), .move (.c (.int .i64 (.ofNat 0))), .none⟩]) (
 .seq (.seq (.reg [⟨(.var 0), .move (.c (.int .i64 (.ofNat 0))), .none⟩]) (
 .block 0 (
 .loop b103_0))) r103_1)),
 [.opd (.v 3)], 4, .none⟩
/-- (*telamon/telamonref12.Parser).colon -/
def vm104 : List Nat := [8, 7, 1, 6, 0, 2]
def b104_0 : DC :=
 .block 1 (
 .seq (.reg [⟨.tmp, .move (.v 4), .none⟩,
 ⟨.tmp, .move (.v 1), .none⟩,
 ⟨.tmp, .call 133 [(.t 1), (.t 0)], .none⟩,
 ⟨(.var 0), .alloc [.int .i64 (.ofNat 0), .str 0 0, .int .i64 (.ofNat 0), .int .i64 (.ofNat 0), .int .i64 (.ofNat 0)], .none⟩,
 ⟨.no, .store 5 (.v 0) (.t 0), .none⟩]) (
 .seq (.seq (.reg [⟨.tmp, .fadr 0 (.v 0), .none⟩,
 ⟨.tmp, .load1 (.t 0), .none⟩,
 ⟨.tmp, .bin .eql (.t 0) (.c (.int .i64 (.ofNat 1))), .none⟩,
 ⟨.tmp, .move (.t 0), .none⟩,
 ⟨.tmp, .move (.v 5), .some ((.t 0), false)⟩,
 ⟨.tmp, .move (.t 0), .some ((.t 1), false)⟩,
 ⟨.tmp, .fadr 0 (.v 0), .some ((.t 0), true)⟩,
 ⟨.tmp, .load1 (.t 0), .some ((.t 1), true)⟩,
 ⟨.tmp, .bin .eql (.t 0) (.c (.int .i64 (.ofNat 2))), .some ((.t 2), true)⟩,
 ⟨.tmp, .pick (.t 3) (.t 0) (.c (.bool false)), .some ((.t 5), false)⟩,
 ⟨.tmp, .move (.t 0), .some ((.t 6), false)⟩,
 ⟨.tmp, .fadr 1 (.v 0), .some ((.t 0), true)⟩,
 ⟨.tmp, .load1 (.t 0), .some ((.t 1), true)⟩,
 ⟨.tmp, .bin .eql (.t 0) (.c (.str 1 95)), .some ((.t 2), true)⟩,
 ⟨.tmp, .pick (.t 3) (.t 0) (.c (.bool false)), .some ((.t 10), false)⟩,
 ⟨.tmp, .pick (.t 11) (.c (.bool true)) (.t 0), .none⟩]) (
 .cond (.t 0) (
 .seq (.reg [⟨.tmp, .move (.v 1), .none⟩,
 ⟨.tmp, .bin .add (.t 0) (.c (.int .i64 (.ofNat 1))), .none⟩,
 ⟨(.var 1), .move (.t 0), .none⟩]) (
 .exit 1)) (
 .skip))) (
 .seq (.reg [⟨.tmp, .move (.v 1), .none⟩,
 ⟨.tmp, .move (.v 2), .none⟩,
 ⟨.tmp, .bin .gtr (.t 1) (.t 0), .none⟩,
 ⟨.tmp, .move (.t 0), .none⟩,
 ⟨.tmp, .fadr 0 (.v 0), .some ((.t 0), true)⟩,
 ⟨.tmp, .load1 (.t 0), .some ((.t 1), true)⟩,
 ⟨.tmp, .bin .eql (.t 0) (.c (.int .i64 (.ofNat 2))), .some ((.t 2), true)⟩,
 ⟨.tmp, .pick (.t 3) (.t 0) (.c (.bool false)), .none⟩,
 ⟨.tmp, .move (.t 0), .none⟩,
 ⟨.tmp, .fadr 1 (.v 0), .some ((.t 0), true)⟩,
 ⟨.tmp, .load1 (.t 0), .some ((.t 1), true)⟩,
 ⟨.tmp, .bin .eql (.t 0) (.c (.str 1 58)), .some ((.t 2), true)⟩,
 ⟨.tmp, .pick (.t 3) (.t 0) (.c (.bool false)), .none⟩,
 ⟨(.var 3), .move (.t 0), .none⟩]) (
 .ret))))
def d104 : DF := ⟨[.some 8, .some 7, .some 1, .some 6, .some 0, .some 2],
 .seq (.reg [⟨(.var 3), .move (.c (.bool false)), .none⟩]) (
 .seq (.reg [⟨.tmp, .move (.v 2), .none⟩,
 ⟨(.var 1), .move (.t 0), .none⟩]) (
 .block 0 (
 .loop b104_0))),
 [.opd (.v 3)], 6, .none⟩
/-- (*telamon/telamonref12.Parser).sig -/
def vm105 : List Nat := [0, 3, 2]
def b105_0 : DC :=
 .seq (.seq (.reg [⟨.tmp, .move (.v 0), .none⟩,
 ⟨.tmp, .nilck (.t 0), .none⟩,
 ⟨.tmp, .fadr 2 (.t 0), .none⟩,
 ⟨.tmp, .load1 (.t 0), .none⟩,
 ⟨.tmp, .bin .eql (.t 0) (.c (.int .i64 (.ofNat 0))), .none⟩,
 ⟨.tmp, .move (.t 0), .none⟩,
 ⟨.tmp, .move (.v 0), .some ((.t 0), true)⟩,
 ⟨.tmp, .call 95 [(.t 0)], .some ((.t 1), true)⟩,
 ⟨.tmp, .fld1 0 (.t 0), .some ((.t 2), true)⟩,
 ⟨.tmp, .bin .eql (.t 0) (.c (.int .i64 (.ofNat 1))), .some ((.t 3), true)⟩,
 ⟨.tmp, .pick (.t 4) (.t 0) (.c (.bool false)), .none⟩]) (
 .cond (.t 0) (
 .skip) (
 .exit 0))) (
 .block 1 (
 .reg [⟨.tmp, .fadr 4 (.v 1), .none⟩,
 ⟨.tmp, .load1 (.t 0), .none⟩,
 ⟨.tmp, .move (.v 0), .none⟩,
 ⟨.tmp, .call 96 [(.t 0)], .none⟩,
 ⟨.no, .again1 (.t 3) (.t 2), .none⟩,
 ⟨.tmp, .buildS 1 [[.str 0 0]] [(0, (.t 0))], .none⟩,
 ⟨.tmp, .append 1 16 (.t 3) (.t 0), .none⟩,
 ⟨.tmp, .fadr 4 (.v 1), .none⟩,
 ⟨.no, .store 1 (.t 0) (.t 1), .none⟩]))
def r105_1 : DC :=
 .seq (.reg [⟨.tmp, .move (.v 0), .none⟩,
 ⟨.tmp, .call 98 [(.t 0), (.c (.str 1 58))], .none⟩]) (
 .seq (.reg [⟨.tmp, .move (.v 0), .none⟩,
 ⟨.tmp, .call 99 [(.t 0)], .none⟩,
 ⟨.tmp, .fadr 6 (.v 1), .none⟩,
 ⟨.no, .store 7 (.t 0) (.t 1), .none⟩]) (
 .seq (.reg [⟨.tmp, .loadN 26 (.v 1), .none⟩,
 ⟨.no, .store 26 (.v 2) (.t 0), .none⟩]) (
 .ret)))
def d105 : DF := ⟨[.some 0, .some 3, .some 2],
 .seq (.reg [⟨(.var 2), .alloc [.int .i64 (.ofNat 0), .int .i64 (.ofNat 0), .str 0 0, .str 0 0, .nils, .nils, .int .i64 (.ofNat 0), .int .i64 (.ofNat 0), .str 0 0, .bool false, .nils, .nils, .int .i64 (.ofNat 0), .int .i64 (.ofNat 0), .int .i64 (.ofNat 0), .str 0 0, .bool false, .nils, .nils, .int .i64 (.ofNat 0), .nils, .bool false, .nils, .nils, .nils, .int .i64 (.ofNat 0)], .none⟩]) (
 .seq (.reg [⟨.tmp, .move (.v 0), .none⟩,
 ⟨.tmp, .call 95 [(.t 0)], .none⟩,
 ⟨.tmp, .fld1 2 (.t 0), .none⟩,
 ⟨.tmp, .build [.int .i64 (.ofNat 0), .int .i64 (.ofNat 0), .str 0 0, .str 0 0, .nils, .nils, .int .i64 (.ofNat 0), .int .i64 (.ofNat 0), .str 0 0, .bool false, .nils, .nils, .int .i64 (.ofNat 0), .int .i64 (.ofNat 0), .int .i64 (.ofNat 0), .str 0 0, .bool false, .nils, .nils, .int .i64 (.ofNat 0), .nils, .bool false, .nils, .nils, .nils, .int .i64 (.ofNat 0)] [(0, 1, (.c (.int .i64 (.ofNat 1)))), (25, 1, (.t 0))], .none⟩,
 ⟨(.var 1), .alloc [.int .i64 (.ofNat 0), .int .i64 (.ofNat 0), .str 0 0, .str 0 0, .nils, .nils, .int .i64 (.ofNat 0), .int .i64 (.ofNat 0), .str 0 0, .bool false, .nils, .nils, .int .i64 (.ofNat 0), .int .i64 (.ofNat 0), .int .i64 (.ofNat 0), .str 0 0, .bool false, .nils, .nils, .int .i64 (.ofNat 0), .nils, .bool false, .nils, .nils, .nils, .int .i64 (.ofNat 0)], .none⟩,
 ⟨.no, .store 26 (.v 1) (.t 0), .none⟩]) (
 .seq (.reg [⟨.tmp, .move (.v 0), .none⟩,
 ⟨.tmp, .call 96 [(.t 0)], .none⟩,
 ⟨.tmp, .buildS 1 [[.str 0 0]] [(0, (.t 0))], .none⟩,
 ⟨.tmp, .fadr 4 (.v 1), .none⟩,
 ⟨.no, .store 1 (.t 0) (.t 1), .none⟩]) (
 .seq (.block 0 (
 .loop b105_0)) r105_1))),
 [.cellN 26 (.v 2)], 3, .none⟩

end Dt
