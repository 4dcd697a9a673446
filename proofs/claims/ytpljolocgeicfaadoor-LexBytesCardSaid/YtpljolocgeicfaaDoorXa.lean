/- A part of the abstract machine and of the proof that the program does what it reckons; no conditions. -/
import Derived.Test.YtpljolocgeicfaaDoorDa
namespace Dt
open Go
/-- telamon/telamonlaw12.LexTokens -/
def vm3 : List Nat := [0, 1, 4, 5, 6, 7, 8, 9, 12, 13, 14, 15]
def b3_0 : DC :=
 .seq (.seq (.reg [⟨.tmp, .move (.v 8), .none⟩,
   ⟨.tmp, .move (.v 7), .none⟩,
   ⟨.tmp, .len false (.t 0), .none⟩,
   ⟨.tmp, .bin .lss (.t 2) (.t 0), .none⟩]) (
 .cond (.t 0) (
  .skip) (
  .exit 0))) (
 .seq (.block 1 (
  .reg [⟨.tmp, .move (.v 7), .none⟩,
    ⟨.tmp, .move (.v 8), .none⟩,
    ⟨.tmp, .build [.int .i64 (.ofNat 0), .str 0 0, .int .i64 (.ofNat 0), .int .i64 (.ofNat 0), .int .i64 (.ofNat 0)] [(1, 1, (.c (.str 1 63)))], .none⟩,
    ⟨.tmp, .idxS 5 (.t 2) (.t 1), .none⟩,
    ⟨.no, .store 5 (.t 0) (.t 1), .none⟩])) (
 .reg [⟨.tmp, .move (.v 8), .none⟩,
   ⟨.tmp, .bin .add (.t 0) (.c (.int .i64 (.ofNat 1))), .none⟩,
   ⟨(.var 8), .move (.t 0), .none⟩]))
def r3_1 : DC :=
 .seq (.reg [⟨.tmp, .move (.v 0), .none⟩,
   ⟨.tmp, .call 10 [(.t 0)], .none⟩,
   ⟨.tmp, .move (.t 0), .none⟩,
   ⟨.tmp, .ext (.t 0) 0, .none⟩,
   ⟨.tmp, .ext (.t 1) 1, .none⟩,
   ⟨.tmp, .ext (.t 2) 2, .none⟩,
   ⟨(.var 9), .move (.t 2), .none⟩,
   ⟨(.var 10), .move (.t 1), .none⟩,
   ⟨(.var 11), .move (.t 0), .none⟩]) (
 .seq (.reg [⟨.tmp, .move (.v 6), .none⟩,
   ⟨.tmp, .call 11 [(.t 0)], .none⟩,
   ⟨.tmp, .move (.v 11), .none⟩,
   ⟨.tmp, .bin .eql (.t 1) (.t 0), .none⟩,
   ⟨.tmp, .move (.t 0), .none⟩,
   ⟨.tmp, .move (.v 5), .some ((.t 0), true)⟩,
   ⟨.tmp, .move (.v 10), .some ((.t 1), true)⟩,
   ⟨.tmp, .bin .eql (.t 1) (.t 0), .some ((.t 2), true)⟩,
   ⟨.tmp, .pick (.t 3) (.t 0) (.c (.bool false)), .none⟩,
   ⟨.tmp, .move (.t 0), .none⟩,
   ⟨.tmp, .move (.v 4), .some ((.t 0), true)⟩,
   ⟨.tmp, .move (.v 9), .some ((.t 1), true)⟩,
   ⟨.tmp, .call 12 [(.t 1), (.t 0)], .some ((.t 2), true)⟩,
   ⟨.tmp, .pick (.t 3) (.t 0) (.c (.bool false)), .none⟩,
   ⟨(.var 2), .move (.t 0), .none⟩]) (
 .ret))
def d3 : DF := ⟨[.some 0, .some 1, .some 4, .some 5, .some 6, .some 7, .some 8, .some 9, .some 12, .some 13, .some 14, .some 15],
  .seq (.reg [⟨(.var 2), .move (.c (.bool false)), .none⟩]) (
  .seq (.reg [⟨.tmp, .call 8 [], .none⟩,
    ⟨(.var 3), .move (.t 0), .none⟩]) (
  .seq (.seq (.reg [⟨.tmp, .move (.v 3), .none⟩,
    ⟨.tmp, .not (.t 0), .none⟩,
    ⟨.tmp, .move (.t 0), .none⟩,
    ⟨.tmp, .move (.v 0), .some ((.t 0), false)⟩,
    ⟨.tmp, .len true (.t 0), .some ((.t 1), false)⟩,
    ⟨.tmp, .bin .gtr (.t 0) (.c (.int .i64 (.ofNat 70000))), .some ((.t 2), false)⟩,
    ⟨.tmp, .pick (.t 3) (.c (.bool true)) (.t 0), .none⟩,
    ⟨.tmp, .move (.t 0), .none⟩,
    ⟨.tmp, .move (.v 1), .some ((.t 0), false)⟩,
    ⟨.tmp, .len true (.t 0), .some ((.t 1), false)⟩,
    ⟨.tmp, .bin .gtr (.t 0) (.c (.int .i64 (.ofNat 70000))), .some ((.t 2), false)⟩,
    ⟨.tmp, .pick (.t 3) (.c (.bool true)) (.t 0), .none⟩]) (
  .cond (.t 0) (
   .seq (.reg [⟨.tmp, .move (.v 3), .none⟩,
     ⟨(.var 2), .move (.t 0), .none⟩]) (
   .ret)) (
   .skip))) (
  .seq (.reg [⟨.tmp, .move (.v 0), .none⟩,
    ⟨.tmp, .call 9 [(.t 0)], .none⟩,
    ⟨.tmp, .move (.t 0), .none⟩,
    ⟨.tmp, .ext (.t 0) 0, .none⟩,
    ⟨.tmp, .ext (.t 1) 1, .none⟩,
    ⟨.tmp, .ext (.t 2) 2, .none⟩,
    ⟨(.var 4), .move (.t 2), .none⟩,
    ⟨(.var 5), .move (.t 1), .none⟩,
    ⟨(.var 6), .move (.t 0), .none⟩]) (
  .seq (.reg [⟨.tmp, .move (.v 1), .none⟩,
    ⟨.tmp, .call 9 [(.t 0)], .none⟩,
    ⟨.tmp, .move (.t 0), .none⟩,
    ⟨.tmp, .ext (.t 0) 0, .none⟩,
    ⟨.tmp, .ext (.t 1) 1, .none⟩,
    ⟨.tmp, .ext (.t 2) 2, .none⟩,
    ⟨(.var 7), .move (.t 2), .none⟩,
    ⟨.tmp, .move (.t 1), .none⟩,
    ⟨.tmp, .move (.t 1), .none⟩]) (
  .seq (.seq (.reg [⟨(.var 8), .move (.c (.int .i64 (.ofNat 0))), .none⟩]) (
  .block 0 (
   .loop b3_0))) r3_1))))),
  [.opd (.v 2)]⟩
/-- telamon/telamonlaw12.LexBytes -/
def vm4 : List Nat := [0, 1, 4, 5, 6, 7, 8, 10, 11, 13, 14]
def b4_0 : DC :=
 .seq (.seq (.reg [⟨.tmp, .move (.v 6), .none⟩,
   ⟨.tmp, .move (.v 4), .none⟩,
   ⟨.tmp, .len true (.t 0), .none⟩,
   ⟨.tmp, .bin .lss (.t 2) (.t 0), .none⟩]) (
 .cond (.t 0) (
  .skip) (
  .exit 0))) (
 .seq (.block 1 (
  .seq (.reg [⟨.tmp, .move (.v 4), .none⟩,
    ⟨.tmp, .move (.v 6), .none⟩,
    ⟨.tmp, .idxStr (.t 1) (.t 0), .none⟩,
    ⟨.tmp, .bin .eql (.t 0) (.c (.int .u8 (.ofNat 10))), .none⟩]) (
  .cond (.t 0) (
   .seq (.reg [⟨(.var 2), .move (.c (.bool true)), .none⟩]) (
   .ret)) (
   .skip)))) (
 .reg [⟨.tmp, .move (.v 6), .none⟩,
   ⟨.tmp, .bin .add (.t 0) (.c (.int .i64 (.ofNat 1))), .none⟩,
   ⟨(.var 6), .move (.t 0), .none⟩]))
def r4_1 : DC :=
 .seq (.reg [⟨.tmp, .move (.v 5), .none⟩,
   ⟨.tmp, .move (.v 4), .none⟩,
   ⟨.tmp, .bin .add (.t 1) (.t 0), .none⟩,
   ⟨.tmp, .call 9 [(.t 0)], .none⟩,
   ⟨.tmp, .move (.t 0), .none⟩,
   ⟨.tmp, .ext (.t 0) 0, .none⟩,
   ⟨.tmp, .ext (.t 1) 1, .none⟩,
   ⟨.tmp, .ext (.t 2) 2, .none⟩,
   ⟨.tmp, .move (.t 2), .none⟩,
   ⟨(.var 7), .move (.t 2), .none⟩,
   ⟨(.var 8), .move (.t 1), .none⟩]) (
 .seq (.reg [⟨.tmp, .move (.v 5), .none⟩,
   ⟨.tmp, .move (.v 4), .none⟩,
   ⟨.tmp, .bin .add (.t 1) (.t 0), .none⟩,
   ⟨.tmp, .call 10 [(.t 0)], .none⟩,
   ⟨.tmp, .move (.t 0), .none⟩,
   ⟨.tmp, .ext (.t 0) 0, .none⟩,
   ⟨.tmp, .ext (.t 1) 1, .none⟩,
   ⟨.tmp, .ext (.t 2) 2, .none⟩,
   ⟨.tmp, .move (.t 2), .none⟩,
   ⟨(.var 9), .move (.t 2), .none⟩,
   ⟨(.var 10), .move (.t 1), .none⟩]) (
 .seq (.reg [⟨.tmp, .move (.v 8), .none⟩,
   ⟨.tmp, .call 11 [(.t 0)], .none⟩,
   ⟨.tmp, .move (.v 10), .none⟩,
   ⟨.tmp, .bin .eql (.t 1) (.t 0), .none⟩,
   ⟨.tmp, .move (.t 0), .none⟩,
   ⟨.tmp, .move (.v 7), .some ((.t 0), true)⟩,
   ⟨.tmp, .move (.v 9), .some ((.t 1), true)⟩,
   ⟨.tmp, .bin .eql (.t 1) (.t 0), .some ((.t 2), true)⟩,
   ⟨.tmp, .pick (.t 3) (.t 0) (.c (.bool false)), .none⟩,
   ⟨(.var 2), .move (.t 0), .none⟩]) (
 .ret)))
def d4 : DF := ⟨[.some 0, .some 1, .some 4, .some 5, .some 6, .some 7, .some 8, .some 10, .some 11, .some 13, .some 14],
  .seq (.reg [⟨(.var 2), .move (.c (.bool false)), .none⟩]) (
  .seq (.reg [⟨.tmp, .call 8 [], .none⟩,
    ⟨(.var 3), .move (.t 0), .none⟩]) (
  .seq (.seq (.reg [⟨.tmp, .move (.v 3), .none⟩,
    ⟨.tmp, .not (.t 0), .none⟩,
    ⟨.tmp, .move (.t 0), .none⟩,
    ⟨.tmp, .move (.v 0), .some ((.t 0), false)⟩,
    ⟨.tmp, .len false (.t 0), .some ((.t 1), false)⟩,
    ⟨.tmp, .bin .gtr (.t 0) (.c (.int .i64 (.ofNat 200))), .some ((.t 2), false)⟩,
    ⟨.tmp, .pick (.t 3) (.c (.bool true)) (.t 0), .none⟩]) (
  .cond (.t 0) (
   .seq (.reg [⟨.tmp, .move (.v 3), .none⟩,
     ⟨(.var 2), .move (.t 0), .none⟩]) (
   .ret)) (
   .skip))) (
  .seq (.reg [⟨.tmp, .move (.v 0), .none⟩,
    ⟨.tmp, .convBS (.t 0), .none⟩,
    ⟨(.var 4), .move (.t 0), .none⟩]) (
  .seq (.reg [⟨(.var 5), .move (.c (.str 0 0)), .none⟩]) (
  .seq (.seq (.reg [⟨.tmp, .move (.v 1), .none⟩]) (
  .cond (.t 0) (
   .seq (.reg [⟨(.var 5), .move (.c (.str 3 2108717)), .none⟩]) (
   .seq (.reg [⟨(.var 6), .move (.c (.int .i64 (.ofNat 0))), .none⟩]) (
   .block 0 (
    .loop b4_0)))) (
   .skip))) r4_1))))),
  [.opd (.v 2)]⟩
/-- telamon/telamonlaw12.LexPlaces -/
def vm5 : List Nat := [0, 1, 2, 6, 7, 8, 9, 10, 11, 12, 14]
def b5_0 : DC :=
 .seq (.seq (.reg [⟨.tmp, .move (.v 6), .none⟩,
   ⟨.tmp, .move (.v 0), .none⟩,
   ⟨.tmp, .bin .lss (.t 1) (.t 0), .none⟩]) (
 .cond (.t 0) (
  .skip) (
  .exit 0))) (
 .seq (.block 1 (
  .reg [⟨.tmp, .move (.v 5), .none⟩,
    ⟨.tmp, .bin .add (.t 0) (.c (.str 1 10)), .none⟩,
    ⟨(.var 5), .move (.t 0), .none⟩])) (
 .reg [⟨.tmp, .move (.v 6), .none⟩,
   ⟨.tmp, .bin .add (.t 0) (.c (.int .i64 (.ofNat 1))), .none⟩,
   ⟨(.var 6), .move (.t 0), .none⟩]))
def b5_1 : DC :=
 .seq (.seq (.reg [⟨.tmp, .move (.v 7), .none⟩,
   ⟨.tmp, .move (.v 1), .none⟩,
   ⟨.tmp, .bin .lss (.t 1) (.t 0), .none⟩]) (
 .cond (.t 0) (
  .skip) (
  .exit 2))) (
 .seq (.block 3 (
  .reg [⟨.tmp, .move (.v 5), .none⟩,
    ⟨.tmp, .bin .add (.t 0) (.c (.str 1 32)), .none⟩,
    ⟨(.var 5), .move (.t 0), .none⟩])) (
 .reg [⟨.tmp, .move (.v 7), .none⟩,
   ⟨.tmp, .bin .add (.t 0) (.c (.int .i64 (.ofNat 1))), .none⟩,
   ⟨(.var 7), .move (.t 0), .none⟩]))
def r5_2 : DC :=
 .seq (.reg [⟨(.var 8), .move (.c (.str 2 25185)), .none⟩]) (
 .seq (.seq (.reg [⟨.tmp, .move (.v 2), .none⟩]) (
 .cond (.t 0) (
  .reg [⟨(.var 8), .move (.c (.str 5 746131335619)), .none⟩]) (
  .skip))) (
 .seq (.reg [⟨.tmp, .move (.v 5), .none⟩,
   ⟨.tmp, .move (.v 8), .none⟩,
   ⟨.tmp, .bin .add (.t 1) (.t 0), .none⟩,
   ⟨.tmp, .bin .add (.t 0) (.c (.str 2 30752)), .none⟩,
   ⟨.tmp, .call 9 [(.t 0)], .none⟩,
   ⟨.tmp, .move (.t 0), .none⟩,
   ⟨.tmp, .ext (.t 0) 0, .none⟩,
   ⟨.tmp, .ext (.t 1) 1, .none⟩,
   ⟨.tmp, .ext (.t 2) 2, .none⟩,
   ⟨(.var 9), .move (.t 2), .none⟩,
   ⟨.tmp, .move (.t 1), .none⟩,
   ⟨(.var 10), .move (.t 1), .none⟩]) (
 .seq (.seq (.reg [⟨.tmp, .move (.v 10), .none⟩,
   ⟨.tmp, .call 11 [(.t 0)], .none⟩,
   ⟨.tmp, .bin .neq (.t 0) (.c (.int .i64 (.ofNat 0))), .none⟩,
   ⟨.tmp, .move (.t 0), .none⟩,
   ⟨.tmp, .move (.v 9), .some ((.t 0), false)⟩,
   ⟨.tmp, .len false (.t 0), .some ((.t 1), false)⟩,
   ⟨.tmp, .bin .neq (.t 0) (.c (.int .i64 (.ofNat 3))), .some ((.t 2), false)⟩,
   ⟨.tmp, .pick (.t 3) (.c (.bool true)) (.t 0), .none⟩]) (
 .cond (.t 0) (
  .seq (.reg [⟨(.var 3), .move (.c (.bool false)), .none⟩]) (
  .ret)) (
  .skip))) (
 .seq (.reg [⟨.tmp, .move (.v 9), .none⟩,
   ⟨.tmp, .idxS 5 (.t 0) (.c (.int .i64 (.ofNat 0))), .none⟩,
   ⟨.tmp, .fadr 2 (.t 0), .none⟩,
   ⟨.tmp, .load1 (.t 0), .none⟩,
   ⟨.tmp, .move (.v 0), .none⟩,
   ⟨.tmp, .move (.v 1), .none⟩,
   ⟨.tmp, .bin .add (.t 1) (.t 0), .none⟩,
   ⟨.tmp, .bin .eql (.t 3) (.t 0), .none⟩,
   ⟨.tmp, .move (.t 0), .none⟩,
   ⟨.tmp, .move (.v 9), .some ((.t 0), true)⟩,
   ⟨.tmp, .idxS 5 (.t 0) (.c (.int .i64 (.ofNat 0))), .some ((.t 1), true)⟩,
   ⟨.tmp, .fadr 3 (.t 0), .some ((.t 2), true)⟩,
   ⟨.tmp, .load1 (.t 0), .some ((.t 3), true)⟩,
   ⟨.tmp, .move (.v 0), .some ((.t 4), true)⟩,
   ⟨.tmp, .bin .add (.t 0) (.c (.int .i64 (.ofNat 1))), .some ((.t 5), true)⟩,
   ⟨.tmp, .bin .eql (.t 2) (.t 0), .some ((.t 6), true)⟩,
   ⟨.tmp, .pick (.t 7) (.t 0) (.c (.bool false)), .none⟩,
   ⟨.tmp, .move (.t 0), .none⟩,
   ⟨.tmp, .move (.v 9), .some ((.t 0), true)⟩,
   ⟨.tmp, .idxS 5 (.t 0) (.c (.int .i64 (.ofNat 0))), .some ((.t 1), true)⟩,
   ⟨.tmp, .fadr 4 (.t 0), .some ((.t 2), true)⟩,
   ⟨.tmp, .load1 (.t 0), .some ((.t 3), true)⟩,
   ⟨.tmp, .move (.v 1), .some ((.t 4), true)⟩,
   ⟨.tmp, .bin .add (.t 0) (.c (.int .i64 (.ofNat 1))), .some ((.t 5), true)⟩,
   ⟨.tmp, .bin .eql (.t 2) (.t 0), .some ((.t 6), true)⟩,
   ⟨.tmp, .pick (.t 7) (.t 0) (.c (.bool false)), .none⟩,
   ⟨.tmp, .move (.t 0), .none⟩,
   ⟨.tmp, .move (.v 9), .some ((.t 0), true)⟩,
   ⟨.tmp, .idxS 5 (.t 0) (.c (.int .i64 (.ofNat 1))), .some ((.t 1), true)⟩,
   ⟨.tmp, .fadr 2 (.t 0), .some ((.t 2), true)⟩,
   ⟨.tmp, .load1 (.t 0), .some ((.t 3), true)⟩,
   ⟨.tmp, .move (.v 0), .some ((.t 4), true)⟩,
   ⟨.tmp, .move (.v 1), .some ((.t 5), true)⟩,
   ⟨.tmp, .bin .add (.t 1) (.t 0), .some ((.t 6), true)⟩,
   ⟨.tmp, .move (.v 8), .some ((.t 7), true)⟩,
   ⟨.tmp, .len true (.t 0), .some ((.t 8), true)⟩,
   ⟨.tmp, .bin .add (.t 2) (.t 0), .some ((.t 9), true)⟩,
   ⟨.tmp, .bin .add (.t 0) (.c (.int .i64 (.ofNat 1))), .some ((.t 10), true)⟩,
   ⟨.tmp, .bin .eql (.t 7) (.t 0), .some ((.t 11), true)⟩,
   ⟨.tmp, .pick (.t 12) (.t 0) (.c (.bool false)), .none⟩,
   ⟨.tmp, .move (.t 0), .none⟩,
   ⟨.tmp, .move (.v 9), .some ((.t 0), true)⟩,
   ⟨.tmp, .idxS 5 (.t 0) (.c (.int .i64 (.ofNat 1))), .some ((.t 1), true)⟩,
   ⟨.tmp, .fadr 3 (.t 0), .some ((.t 2), true)⟩,
   ⟨.tmp, .load1 (.t 0), .some ((.t 3), true)⟩,
   ⟨.tmp, .move (.v 0), .some ((.t 4), true)⟩,
   ⟨.tmp, .bin .add (.t 0) (.c (.int .i64 (.ofNat 1))), .some ((.t 5), true)⟩,
   ⟨.tmp, .bin .eql (.t 2) (.t 0), .some ((.t 6), true)⟩,
   ⟨.tmp, .pick (.t 7) (.t 0) (.c (.bool false)), .none⟩,
   ⟨.tmp, .move (.t 0), .none⟩,
   ⟨.tmp, .move (.v 9), .some ((.t 0), true)⟩,
   ⟨.tmp, .idxS 5 (.t 0) (.c (.int .i64 (.ofNat 1))), .some ((.t 1), true)⟩,
   ⟨.tmp, .fadr 4 (.t 0), .some ((.t 2), true)⟩,
   ⟨.tmp, .load1 (.t 0), .some ((.t 3), true)⟩,
   ⟨.tmp, .move (.v 1), .some ((.t 4), true)⟩,
   ⟨.tmp, .bin .add (.t 0) (.c (.int .i64 (.ofNat 4))), .some ((.t 5), true)⟩,
   ⟨.tmp, .bin .eql (.t 2) (.t 0), .some ((.t 6), true)⟩,
   ⟨.tmp, .pick (.t 7) (.t 0) (.c (.bool false)), .none⟩,
   ⟨.tmp, .move (.t 0), .none⟩,
   ⟨.tmp, .move (.v 9), .some ((.t 0), true)⟩,
   ⟨.tmp, .idxS 5 (.t 0) (.c (.int .i64 (.ofNat 2))), .some ((.t 1), true)⟩,
   ⟨.tmp, .fadr 4 (.t 0), .some ((.t 2), true)⟩,
   ⟨.tmp, .load1 (.t 0), .some ((.t 3), true)⟩,
   ⟨.tmp, .move (.v 1), .some ((.t 4), true)⟩,
   ⟨.tmp, .bin .add (.t 0) (.c (.int .i64 (.ofNat 5))), .some ((.t 5), true)⟩,
   ⟨.tmp, .bin .eql (.t 2) (.t 0), .some ((.t 6), true)⟩,
   ⟨.tmp, .pick (.t 7) (.t 0) (.c (.bool false)), .none⟩,
   ⟨(.var 3), .move (.t 0), .none⟩]) (
 .ret)))))
def r5_3 : DC :=
 .seq (.seq (.reg [⟨(.var 7), .move (.c (.int .i64 (.ofNat 0))), .none⟩]) (
 .block 2 (
  .loop b5_1))) r5_2
def d5 : DF := ⟨[.some 0, .some 1, .some 2, .some 6, .some 7, .some 8, .some 9, .some 10, .some 11, .some 12, .some 14],
  .seq (.reg [⟨(.var 3), .move (.c (.bool false)), .none⟩]) (
  .seq (.reg [⟨.tmp, .call 8 [], .none⟩,
    ⟨(.var 4), .move (.t 0), .none⟩]) (
  .seq (.seq (.reg [⟨.tmp, .move (.v 4), .none⟩,
    ⟨.tmp, .not (.t 0), .none⟩,
    ⟨.tmp, .move (.t 0), .none⟩,
    ⟨.tmp, .move (.v 0), .some ((.t 0), false)⟩,
    ⟨.tmp, .bin .lss (.t 0) (.c (.int .i64 (.ofNat 0))), .some ((.t 1), false)⟩,
    ⟨.tmp, .pick (.t 2) (.c (.bool true)) (.t 0), .none⟩,
    ⟨.tmp, .move (.t 0), .none⟩,
    ⟨.tmp, .move (.v 0), .some ((.t 0), false)⟩,
    ⟨.tmp, .bin .gtr (.t 0) (.c (.int .i64 (.ofNat 50))), .some ((.t 1), false)⟩,
    ⟨.tmp, .pick (.t 2) (.c (.bool true)) (.t 0), .none⟩,
    ⟨.tmp, .move (.t 0), .none⟩,
    ⟨.tmp, .move (.v 1), .some ((.t 0), false)⟩,
    ⟨.tmp, .bin .lss (.t 0) (.c (.int .i64 (.ofNat 0))), .some ((.t 1), false)⟩,
    ⟨.tmp, .pick (.t 2) (.c (.bool true)) (.t 0), .none⟩,
    ⟨.tmp, .move (.t 0), .none⟩,
    ⟨.tmp, .move (.v 1), .some ((.t 0), false)⟩,
    ⟨.tmp, .bin .gtr (.t 0) (.c (.int .i64 (.ofNat 50))), .some ((.t 1), false)⟩,
    ⟨.tmp, .pick (.t 2) (.c (.bool true)) (.t 0), .none⟩]) (
  .cond (.t 0) (
   .seq (.reg [⟨.tmp, .move (.v 4), .none⟩,
     ⟨(.var 3), .move (.t 0), .none⟩]) (
   .ret)) (
   .skip))) (
  .seq (.reg [⟨(.var 5), .move (.c (.str 0 0)), .none⟩]) (
  .seq (.seq (.reg [⟨(.var 6), .move (.c (.int .i64 (.ofNat 0))), .none⟩]) (
  .block 0 (
   .loop b5_0))) r5_3)))),
  [.opd (.v 3)]⟩
/-- telamon/telamonlaw12.LexLong -/
def vm6 : List Nat := [0, 1, 2, 3, 8, 9, 12, 15, 18, 20, 21, 22]

def d6 : DF := ⟨[.some 0, .some 1, .some 2, .some 3, .some 8, .some 9, .some 12, .some 15, .some 18, .some 20, .some 21, .some 22],
  .seq (.reg [⟨(.var 4), .move (.c (.bool false)), .none⟩]) (
  .seq (.reg [⟨.tmp, .call 8 [], .none⟩,
    ⟨(.var 5), .move (.t 0), .none⟩]) (
  .seq (.seq (.reg [⟨.tmp, .move (.v 5), .none⟩,
    ⟨.tmp, .not (.t 0), .none⟩,
    ⟨.tmp, .move (.t 0), .none⟩,
    ⟨.tmp, .move (.v 0), .some ((.t 0), false)⟩,
    ⟨.tmp, .bin .lss (.t 0) (.c (.int .i64 (.ofNat 1))), .some ((.t 1), false)⟩,
    ⟨.tmp, .pick (.t 2) (.c (.bool true)) (.t 0), .none⟩,
    ⟨.tmp, .move (.t 0), .none⟩,
    ⟨.tmp, .move (.v 0), .some ((.t 0), false)⟩,
    ⟨.tmp, .bin .gtr (.t 0) (.c (.int .i64 (.ofNat 80))), .some ((.t 1), false)⟩,
    ⟨.tmp, .pick (.t 2) (.c (.bool true)) (.t 0), .none⟩,
    ⟨.tmp, .move (.t 0), .none⟩,
    ⟨.tmp, .move (.v 1), .some ((.t 0), false)⟩,
    ⟨.tmp, .bin .lss (.t 0) (.c (.int .i64 (.ofNat 1))), .some ((.t 1), false)⟩,
    ⟨.tmp, .pick (.t 2) (.c (.bool true)) (.t 0), .none⟩,
    ⟨.tmp, .move (.t 0), .none⟩,
    ⟨.tmp, .move (.v 1), .some ((.t 0), false)⟩,
    ⟨.tmp, .bin .gtr (.t 0) (.c (.int .i64 (.ofNat 20))), .some ((.t 1), false)⟩,
    ⟨.tmp, .pick (.t 2) (.c (.bool true)) (.t 0), .none⟩,
    ⟨.tmp, .move (.t 0), .none⟩,
    ⟨.tmp, .move (.v 2), .some ((.t 0), false)⟩,
    ⟨.tmp, .bin .lss (.t 0) (.c (.int .i64 (.ofNat 0))), .some ((.t 1), false)⟩,
    ⟨.tmp, .pick (.t 2) (.c (.bool true)) (.t 0), .none⟩,
    ⟨.tmp, .move (.t 0), .none⟩,
    ⟨.tmp, .move (.v 2), .some ((.t 0), false)⟩,
    ⟨.tmp, .bin .gtr (.t 0) (.c (.int .i64 (.ofNat 65600))), .some ((.t 1), false)⟩,
    ⟨.tmp, .pick (.t 2) (.c (.bool true)) (.t 0), .none⟩,
    ⟨.tmp, .move (.t 0), .none⟩,
    ⟨.tmp, .move (.v 3), .some ((.t 0), false)⟩,
    ⟨.tmp, .bin .lss (.t 0) (.c (.int .i64 (.ofNat 0))), .some ((.t 1), false)⟩,
    ⟨.tmp, .pick (.t 2) (.c (.bool true)) (.t 0), .none⟩,
    ⟨.tmp, .move (.t 0), .none⟩,
    ⟨.tmp, .move (.v 3), .some ((.t 0), false)⟩,
    ⟨.tmp, .bin .gtr (.t 0) (.c (.int .i64 (.ofNat 20010))), .some ((.t 1), false)⟩,
    ⟨.tmp, .pick (.t 2) (.c (.bool true)) (.t 0), .none⟩]) (
  .cond (.t 0) (
   .seq (.reg [⟨.tmp, .move (.v 5), .none⟩,
     ⟨(.var 4), .move (.t 0), .none⟩]) (
   .ret)) (
   .skip))) (
  .seq (.reg [⟨.tmp, .move (.v 0), .none⟩,
    ⟨.tmp, .call 13 [(.t 0), (.c (.int .u8 (.ofNat 97)))], .none⟩,
    ⟨.tmp, .call 9 [(.t 0)], .none⟩,
    ⟨.tmp, .move (.t 0), .none⟩,
    ⟨.tmp, .ext (.t 0) 0, .none⟩,
    ⟨.tmp, .ext (.t 1) 1, .none⟩,
    ⟨.tmp, .ext (.t 2) 2, .none⟩,
    ⟨.tmp, .move (.t 2), .none⟩,
    ⟨.tmp, .move (.t 2), .none⟩,
    ⟨(.var 6), .move (.t 2), .none⟩]) (
  .seq (.reg [⟨.tmp, .move (.v 1), .none⟩,
    ⟨.tmp, .call 13 [(.t 0), (.c (.int .u8 (.ofNat 55)))], .none⟩,
    ⟨.tmp, .call 9 [(.t 0)], .none⟩,
    ⟨.tmp, .move (.t 0), .none⟩,
    ⟨.tmp, .ext (.t 0) 0, .none⟩,
    ⟨.tmp, .ext (.t 1) 1, .none⟩,
    ⟨.tmp, .ext (.t 2) 2, .none⟩,
    ⟨.tmp, .move (.t 2), .none⟩,
    ⟨.tmp, .move (.t 2), .none⟩,
    ⟨(.var 7), .move (.t 2), .none⟩]) (
  .seq (.reg [⟨.tmp, .move (.v 2), .none⟩,
    ⟨.tmp, .call 13 [(.t 0), (.c (.int .u8 (.ofNat 32)))], .none⟩,
    ⟨.tmp, .call 9 [(.t 0)], .none⟩,
    ⟨.tmp, .move (.t 0), .none⟩,
    ⟨.tmp, .ext (.t 0) 0, .none⟩,
    ⟨.tmp, .ext (.t 1) 1, .none⟩,
    ⟨.tmp, .ext (.t 2) 2, .none⟩,
    ⟨.tmp, .move (.t 2), .none⟩,
    ⟨.tmp, .move (.t 2), .none⟩,
    ⟨(.var 8), .move (.t 2), .none⟩]) (
  .seq (.reg [⟨.tmp, .move (.v 3), .none⟩,
    ⟨.tmp, .call 13 [(.t 0), (.c (.int .u8 (.ofNat 59)))], .none⟩,
    ⟨.tmp, .call 9 [(.t 0)], .none⟩,
    ⟨.tmp, .move (.t 0), .none⟩,
    ⟨.tmp, .ext (.t 0) 0, .none⟩,
    ⟨.tmp, .ext (.t 1) 1, .none⟩,
    ⟨.tmp, .ext (.t 2) 2, .none⟩,
    ⟨.tmp, .move (.t 2), .none⟩,
    ⟨(.var 9), .move (.t 2), .none⟩,
    ⟨(.var 10), .move (.t 1), .none⟩]) (
  .seq (.reg [⟨.tmp, .move (.v 6), .none⟩,
    ⟨.tmp, .call 11 [(.t 0)], .none⟩,
    ⟨.tmp, .bin .eql (.t 0) (.c (.int .i64 (.ofNat 2))), .none⟩,
    ⟨.tmp, .move (.v 0), .none⟩,
    ⟨.tmp, .bin .gtr (.t 0) (.c (.int .i64 (.ofNat 60))), .none⟩,
    ⟨.tmp, .binB .eql (.t 2) (.t 0), .none⟩,
    ⟨.tmp, .move (.t 0), .none⟩,
    ⟨.tmp, .move (.v 7), .some ((.t 0), true)⟩,
    ⟨.tmp, .call 11 [(.t 0)], .some ((.t 1), true)⟩,
    ⟨.tmp, .bin .eql (.t 0) (.c (.int .i64 (.ofNat 41))), .some ((.t 2), true)⟩,
    ⟨.tmp, .move (.v 1), .some ((.t 3), true)⟩,
    ⟨.tmp, .bin .gtr (.t 0) (.c (.int .i64 (.ofNat 9))), .some ((.t 4), true)⟩,
    ⟨.tmp, .binB .eql (.t 2) (.t 0), .some ((.t 5), true)⟩,
    ⟨.tmp, .pick (.t 6) (.t 0) (.c (.bool false)), .none⟩,
    ⟨(.var 11), .move (.t 0), .none⟩]) (
  .seq (.reg [⟨.tmp, .move (.v 11), .none⟩,
    ⟨.tmp, .move (.t 0), .none⟩,
    ⟨.tmp, .move (.v 8), .some ((.t 0), true)⟩,
    ⟨.tmp, .call 11 [(.t 0)], .some ((.t 1), true)⟩,
    ⟨.tmp, .bin .eql (.t 0) (.c (.int .i64 (.ofNat 2))), .some ((.t 2), true)⟩,
    ⟨.tmp, .move (.v 2), .some ((.t 3), true)⟩,
    ⟨.tmp, .bin .gtr (.t 0) (.c (.int .i64 (.ofNat 65536))), .some ((.t 4), true)⟩,
    ⟨.tmp, .binB .eql (.t 2) (.t 0), .some ((.t 5), true)⟩,
    ⟨.tmp, .pick (.t 6) (.t 0) (.c (.bool false)), .none⟩,
    ⟨.tmp, .move (.t 0), .none⟩,
    ⟨.tmp, .move (.v 10), .some ((.t 0), true)⟩,
    ⟨.tmp, .call 11 [(.t 0)], .some ((.t 1), true)⟩,
    ⟨.tmp, .bin .eql (.t 0) (.c (.int .i64 (.ofNat 2))), .some ((.t 2), true)⟩,
    ⟨.tmp, .move (.v 3), .some ((.t 3), true)⟩,
    ⟨.tmp, .bin .geq (.t 0) (.c (.int .i64 (.ofNat 20000))), .some ((.t 4), true)⟩,
    ⟨.tmp, .binB .eql (.t 2) (.t 0), .some ((.t 5), true)⟩,
    ⟨.tmp, .pick (.t 6) (.t 0) (.c (.bool false)), .none⟩,
    ⟨.tmp, .move (.t 0), .none⟩,
    ⟨.tmp, .move (.v 3), .some ((.t 0), true)⟩,
    ⟨.tmp, .bin .lss (.t 0) (.c (.int .i64 (.ofNat 20000))), .some ((.t 1), true)⟩,
    ⟨.tmp, .move (.t 0), .some ((.t 2), true)⟩,
    ⟨.tmp, .move (.v 9), .some ((.t 0), false)⟩,
    ⟨.tmp, .bin .eql (.t 0) (.c (.int .i64 (.ofNat 20000))), .some ((.t 1), false)⟩,
    ⟨.tmp, .pick (.t 2) (.c (.bool true)) (.t 0), .some ((.t 5), true)⟩,
    ⟨.tmp, .pick (.t 6) (.t 0) (.c (.bool false)), .none⟩,
    ⟨(.var 4), .move (.t 0), .none⟩]) (
  .ret))))))))),
  [.opd (.v 4)]⟩
/-- telamon/telamonlaw12.LexWords -/
def vm7 : List Nat := [0, 1, 4, 5, 6]

def d7 : DF := ⟨[.some 0, .some 1, .some 4, .some 5, .some 6],
  .seq (.reg [⟨(.var 2), .move (.c (.bool false)), .none⟩]) (
  .seq (.reg [⟨.tmp, .call 8 [], .none⟩,
    ⟨(.var 3), .move (.t 0), .none⟩]) (
  .seq (.reg [⟨.tmp, .buildS 1 [[.str 0 0], [.str 0 0], [.str 0 0], [.str 0 0], [.str 0 0], [.str 0 0], [.str 0 0], [.str 0 0], [.str 0 0], [.str 0 0], [.str 0 0], [.str 0 0], [.str 0 0], [.str 0 0], [.str 0 0], [.str 0 0], [.str 0 0], [.str 0 0], [.str 0 0], [.str 0 0], [.str 0 0], [.str 0 0], [.str 0 0], [.str 0 0], [.str 0 0], [.str 0 0]] [(0, (.c (.str 6 111516500389741))), (1, (.c (.str 5 435710945399))), (2, (.c (.str 4 1635017060))), (3, (.c (.str 3 7628140))), (4, (.c (.str 2 28265))), (5, (.c (.str 4 1852141679))), (6, (.c (.str 5 444234036085))), (7, (.c (.str 6 113723912251752))), (8, (.c (.str 8 7453010351851726194))), (9, (.c (.str 2 28532))), (10, (.c (.str 7 28556934595048048))), (11, (.c (.str 9 1871507254677525983088))), (12, (.c (.str 5 517164396137))), (13, (.c (.str 6 119264420195945))), (14, (.c (.str 6 125861489962601))), (15, (.c (.str 3 7628115))), (16, (.c (.str 3 7631718))), (17, (.c (.str 3 6581875))), (18, (.c (.str 1 58))), (19, (.c (.str 1 61))), (20, (.c (.str 2 15917))), (21, (.c (.str 1 92))), (22, (.c (.str 2 10794))), (23, (.c (.str 1 95))), (24, (.c (.str 3 9602786))), (25, (.c (.str 2 48078)))], .none⟩,
    ⟨(.var 4), .move (.t 0), .none⟩]) (
  .seq (.seq (.reg [⟨.tmp, .move (.v 3), .none⟩,
    ⟨.tmp, .not (.t 0), .none⟩,
    ⟨.tmp, .move (.t 0), .none⟩,
    ⟨.tmp, .move (.v 1), .some ((.t 0), false)⟩,
    ⟨.tmp, .bin .lss (.t 0) (.c (.int .i64 (.ofNat 0))), .some ((.t 1), false)⟩,
    ⟨.tmp, .pick (.t 2) (.c (.bool true)) (.t 0), .none⟩,
    ⟨.tmp, .move (.t 0), .none⟩,
    ⟨.tmp, .move (.v 1), .some ((.t 0), false)⟩,
    ⟨.tmp, .move (.v 4), .some ((.t 1), false)⟩,
    ⟨.tmp, .len false (.t 0), .some ((.t 2), false)⟩,
    ⟨.tmp, .bin .geq (.t 2) (.t 0), .some ((.t 3), false)⟩,
    ⟨.tmp, .pick (.t 4) (.c (.bool true)) (.t 0), .none⟩]) (
  .cond (.t 0) (
   .seq (.reg [⟨.tmp, .move (.v 3), .none⟩,
     ⟨(.var 2), .move (.t 0), .none⟩]) (
   .ret)) (
   .skip))) (
  .seq (.reg [⟨.tmp, .move (.v 0), .none⟩,
    ⟨.tmp, .call 14 [(.t 0)], .none⟩,
    ⟨.tmp, .move (.v 0), .none⟩,
    ⟨.tmp, .call 15 [(.t 0)], .none⟩,
    ⟨.tmp, .binB .eql (.t 2) (.t 0), .none⟩,
    ⟨.tmp, .move (.t 0), .none⟩,
    ⟨.tmp, .move (.v 4), .some ((.t 0), true)⟩,
    ⟨.tmp, .move (.v 1), .some ((.t 1), true)⟩,
    ⟨.tmp, .idxS 1 (.t 1) (.t 0), .some ((.t 2), true)⟩,
    ⟨.tmp, .load1 (.t 0), .some ((.t 3), true)⟩,
    ⟨.tmp, .call 14 [(.t 0)], .some ((.t 4), true)⟩,
    ⟨.tmp, .pick (.t 5) (.t 0) (.c (.bool false)), .none⟩,
    ⟨.tmp, .move (.t 0), .none⟩,
    ⟨.tmp, .move (.v 4), .some ((.t 0), true)⟩,
    ⟨.tmp, .move (.v 1), .some ((.t 1), true)⟩,
    ⟨.tmp, .idxS 1 (.t 1) (.t 0), .some ((.t 2), true)⟩,
    ⟨.tmp, .load1 (.t 0), .some ((.t 3), true)⟩,
    ⟨.tmp, .bin .add (.t 0) (.c (.str 1 120)), .some ((.t 4), true)⟩,
    ⟨.tmp, .call 14 [(.t 0)], .some ((.t 5), true)⟩,
    ⟨.tmp, .not (.t 0), .some ((.t 6), true)⟩,
    ⟨.tmp, .pick (.t 7) (.t 0) (.c (.bool false)), .none⟩,
    ⟨.tmp, .move (.t 0), .none⟩,
    ⟨.tmp, .move (.v 4), .some ((.t 0), true)⟩,
    ⟨.tmp, .move (.v 1), .some ((.t 1), true)⟩,
    ⟨.tmp, .idxS 1 (.t 1) (.t 0), .some ((.t 2), true)⟩,
    ⟨.tmp, .load1 (.t 0), .some ((.t 3), true)⟩,
    ⟨.tmp, .bin .add (.c (.str 1 120)) (.t 0), .some ((.t 4), true)⟩,
    ⟨.tmp, .call 14 [(.t 0)], .some ((.t 5), true)⟩,
    ⟨.tmp, .not (.t 0), .some ((.t 6), true)⟩,
    ⟨.tmp, .pick (.t 7) (.t 0) (.c (.bool false)), .none⟩,
    ⟨(.var 2), .move (.t 0), .none⟩]) (
  .ret))))),
  [.opd (.v 2)]⟩
/-- telamon/telamonlaw12.alive -/
def vm8 : List Nat := [0, 1, 3, 5, 6]

def d8 : DF := ⟨[.some 0, .some 1, .some 3, .some 5, .some 6],
  .seq (.reg [⟨(.var 0), .move (.c (.bool false)), .none⟩]) (
  .seq (.reg [⟨.tmp, .call 9 [(.c (.str 20 685796451753926739386152600962656424458444218470))], .none⟩,
    ⟨.tmp, .move (.t 0), .none⟩,
    ⟨.tmp, .ext (.t 0) 0, .none⟩,
    ⟨.tmp, .ext (.t 1) 1, .none⟩,
    ⟨.tmp, .ext (.t 2) 2, .none⟩,
    ⟨(.var 1), .move (.t 2), .none⟩,
    ⟨.tmp, .move (.t 1), .none⟩,
    ⟨(.var 2), .move (.t 1), .none⟩]) (
  .seq (.reg [⟨.tmp, .call 9 [(.c (.str 5 421681586464))], .none⟩,
    ⟨.tmp, .move (.t 0), .none⟩,
    ⟨.tmp, .ext (.t 0) 0, .none⟩,
    ⟨.tmp, .ext (.t 1) 1, .none⟩,
    ⟨.tmp, .ext (.t 2) 2, .none⟩,
    ⟨.tmp, .move (.t 2), .none⟩,
    ⟨(.var 3), .move (.t 2), .none⟩,
    ⟨(.var 4), .move (.t 1), .none⟩]) (
  .seq (.reg [⟨.tmp, .move (.v 2), .none⟩,
    ⟨.tmp, .call 11 [(.t 0)], .none⟩,
    ⟨.tmp, .bin .eql (.t 0) (.c (.int .i64 (.ofNat 0))), .none⟩,
    ⟨.tmp, .move (.t 0), .none⟩,
    ⟨.tmp, .move (.v 1), .some ((.t 0), true)⟩,
    ⟨.tmp, .len false (.t 0), .some ((.t 1), true)⟩,
    ⟨.tmp, .bin .eql (.t 0) (.c (.int .i64 (.ofNat 6))), .some ((.t 2), true)⟩,
    ⟨.tmp, .pick (.t 3) (.t 0) (.c (.bool false)), .none⟩,
    ⟨.tmp, .move (.t 0), .none⟩,
    ⟨.tmp, .move (.v 1), .some ((.t 0), true)⟩,
    ⟨.tmp, .idxS 5 (.t 0) (.c (.int .i64 (.ofNat 0))), .some ((.t 1), true)⟩,
    ⟨.tmp, .fadr 0 (.t 0), .some ((.t 2), true)⟩,
    ⟨.tmp, .load1 (.t 0), .some ((.t 3), true)⟩,
    ⟨.tmp, .bin .eql (.t 0) (.c (.int .i64 (.ofNat 1))), .some ((.t 4), true)⟩,
    ⟨.tmp, .pick (.t 5) (.t 0) (.c (.bool false)), .none⟩,
    ⟨.tmp, .move (.t 0), .none⟩,
    ⟨.tmp, .move (.v 1), .some ((.t 0), true)⟩,
    ⟨.tmp, .idxS 5 (.t 0) (.c (.int .i64 (.ofNat 3))), .some ((.t 1), true)⟩,
    ⟨.tmp, .fadr 0 (.t 0), .some ((.t 2), true)⟩,
    ⟨.tmp, .load1 (.t 0), .some ((.t 3), true)⟩,
    ⟨.tmp, .bin .eql (.t 0) (.c (.int .i64 (.ofNat 2))), .some ((.t 4), true)⟩,
    ⟨.tmp, .pick (.t 5) (.t 0) (.c (.bool false)), .none⟩,
    ⟨.tmp, .move (.t 0), .none⟩,
    ⟨.tmp, .move (.v 1), .some ((.t 0), true)⟩,
    ⟨.tmp, .idxS 5 (.t 0) (.c (.int .i64 (.ofNat 3))), .some ((.t 1), true)⟩,
    ⟨.tmp, .fadr 1 (.t 0), .some ((.t 2), true)⟩,
    ⟨.tmp, .load1 (.t 0), .some ((.t 3), true)⟩,
    ⟨.tmp, .bin .eql (.t 0) (.c (.str 2 15917)), .some ((.t 4), true)⟩,
    ⟨.tmp, .pick (.t 5) (.t 0) (.c (.bool false)), .none⟩,
    ⟨.tmp, .move (.t 0), .none⟩,
    ⟨.tmp, .move (.v 1), .some ((.t 0), true)⟩,
    ⟨.tmp, .idxS 5 (.t 0) (.c (.int .i64 (.ofNat 3))), .some ((.t 1), true)⟩,
    ⟨.tmp, .fadr 2 (.t 0), .some ((.t 2), true)⟩,
    ⟨.tmp, .load1 (.t 0), .some ((.t 3), true)⟩,
    ⟨.tmp, .bin .eql (.t 0) (.c (.int .i64 (.ofNat 8))), .some ((.t 4), true)⟩,
    ⟨.tmp, .pick (.t 5) (.t 0) (.c (.bool false)), .none⟩,
    ⟨.tmp, .move (.t 0), .none⟩,
    ⟨.tmp, .move (.v 1), .some ((.t 0), true)⟩,
    ⟨.tmp, .idxS 5 (.t 0) (.c (.int .i64 (.ofNat 4))), .some ((.t 1), true)⟩,
    ⟨.tmp, .fadr 2 (.t 0), .some ((.t 2), true)⟩,
    ⟨.tmp, .load1 (.t 0), .some ((.t 3), true)⟩,
    ⟨.tmp, .bin .eql (.t 0) (.c (.int .i64 (.ofNat 12))), .some ((.t 4), true)⟩,
    ⟨.tmp, .pick (.t 5) (.t 0) (.c (.bool false)), .none⟩,
    ⟨.tmp, .move (.t 0), .none⟩,
    ⟨.tmp, .move (.v 1), .some ((.t 0), true)⟩,
    ⟨.tmp, .idxS 5 (.t 0) (.c (.int .i64 (.ofNat 4))), .some ((.t 1), true)⟩,
    ⟨.tmp, .fadr 4 (.t 0), .some ((.t 2), true)⟩,
    ⟨.tmp, .load1 (.t 0), .some ((.t 3), true)⟩,
    ⟨.tmp, .bin .eql (.t 0) (.c (.int .i64 (.ofNat 11))), .some ((.t 4), true)⟩,
    ⟨.tmp, .pick (.t 5) (.t 0) (.c (.bool false)), .none⟩,
    ⟨.tmp, .move (.t 0), .none⟩,
    ⟨.tmp, .move (.v 1), .some ((.t 0), true)⟩,
    ⟨.tmp, .idxS 5 (.t 0) (.c (.int .i64 (.ofNat 5))), .some ((.t 1), true)⟩,
    ⟨.tmp, .fadr 0 (.t 0), .some ((.t 2), true)⟩,
    ⟨.tmp, .load1 (.t 0), .some ((.t 3), true)⟩,
    ⟨.tmp, .bin .eql (.t 0) (.c (.int .i64 (.ofNat 7))), .some ((.t 4), true)⟩,
    ⟨.tmp, .pick (.t 5) (.t 0) (.c (.bool false)), .none⟩,
    ⟨.tmp, .move (.t 0), .none⟩,
    ⟨.tmp, .move (.v 4), .some ((.t 0), true)⟩,
    ⟨.tmp, .call 11 [(.t 0)], .some ((.t 1), true)⟩,
    ⟨.tmp, .bin .eql (.t 0) (.c (.int .i64 (.ofNat 41))), .some ((.t 2), true)⟩,
    ⟨.tmp, .pick (.t 3) (.t 0) (.c (.bool false)), .none⟩,
    ⟨.tmp, .move (.t 0), .none⟩,
    ⟨.tmp, .move (.v 3), .some ((.t 0), true)⟩,
    ⟨.tmp, .bin .eql (.t 0) (.c (.int .i64 (.ofNat 1))), .some ((.t 1), true)⟩,
    ⟨.tmp, .pick (.t 2) (.t 0) (.c (.bool false)), .none⟩,
    ⟨(.var 0), .move (.t 0), .none⟩]) (
  .ret)))),
  [.opd (.v 0)]⟩
/-- telamon/lex.Tokens -/
def vm9 : List Nat := [0, 2, 3, 4, 5]
def b9_0 : DC :=
 .seq (.seq (.reg [⟨.tmp, .move (.v 4), .none⟩,
   ⟨.tmp, .call 17 [(.t 0)], .none⟩,
   ⟨.tmp, .move (.t 0), .none⟩,
   ⟨.tmp, .move (.v 4), .some ((.t 0), true)⟩,
   ⟨.tmp, .call 18 [(.t 0)], .some ((.t 1), true)⟩,
   ⟨.tmp, .pick (.t 2) (.t 0) (.c (.bool false)), .none⟩]) (
 .cond (.t 0) (
  .skip) (
  .exit 0))) (
 .block 1 (
  .exit 1))
def r9_1 : DC :=
 .seq (.seq (.reg [⟨.tmp, .move (.v 4), .none⟩,
   ⟨.tmp, .nilck (.t 0), .none⟩,
   ⟨.tmp, .fadr 6 (.t 0), .none⟩,
   ⟨.tmp, .load1 (.t 0), .none⟩,
   ⟨.tmp, .bin .neq (.t 0) (.c (.int .i64 (.ofNat 0))), .none⟩]) (
 .cond (.t 0) (
  .seq (.reg [⟨.tmp, .move (.v 4), .none⟩,
    ⟨.tmp, .nilck (.t 0), .none⟩,
    ⟨.tmp, .fadr 7 (.t 0), .none⟩,
    ⟨.tmp, .load1 (.t 0), .none⟩,
    ⟨.tmp, .move (.v 4), .none⟩,
    ⟨.tmp, .nilck (.t 0), .none⟩,
    ⟨.tmp, .fadr 6 (.t 0), .none⟩,
    ⟨.tmp, .load1 (.t 0), .none⟩,
    ⟨(.var 1), .move (.c (.nils)), .none⟩,
    ⟨(.var 2), .move (.t 4), .none⟩,
    ⟨(.var 3), .move (.t 0), .none⟩]) (
  .ret)) (
  .skip))) (
 .seq (.reg [⟨.tmp, .move (.v 4), .none⟩,
   ⟨.tmp, .nilck (.t 0), .none⟩,
   ⟨.tmp, .fadr 5 (.t 0), .none⟩,
   ⟨.tmp, .load1 (.t 0), .none⟩,
   ⟨(.var 1), .move (.t 0), .none⟩,
   ⟨(.var 2), .move (.c (.int .i64 (.ofNat 0))), .none⟩,
   ⟨(.var 3), .move (.c (.int .i64 (.ofNat 0))), .none⟩]) (
 .ret))
def d9 : DF := ⟨[.some 0, .some 2, .some 3, .some 4, .some 5],
  .seq (.reg [⟨(.var 1), .move (.c (.nils)), .none⟩,
    ⟨(.var 2), .move (.c (.int .i64 (.ofNat 0))), .none⟩,
    ⟨(.var 3), .move (.c (.int .i64 (.ofNat 0))), .none⟩]) (
  .seq (.seq (.reg [⟨.tmp, .move (.v 0), .none⟩,
    ⟨.tmp, .len true (.t 0), .none⟩,
    ⟨.tmp, .bin .gtr (.t 0) (.c (.int .i64 (.ofNat 65536))), .none⟩]) (
  .cond (.t 0) (
   .seq (.reg [⟨(.var 1), .move (.c (.nils)), .none⟩,
     ⟨(.var 2), .move (.c (.int .i64 (.ofNat 0))), .none⟩,
     ⟨(.var 3), .move (.c (.int .i64 (.ofNat 2))), .none⟩]) (
   .ret)) (
   .skip))) (
  .seq (.reg [⟨.tmp, .move (.v 0), .none⟩,
    ⟨.tmp, .call 16 [], .none⟩,
    ⟨.tmp, .build [.str 0 0, .int .i64 (.ofNat 0), .int .i64 (.ofNat 0), .int .i64 (.ofNat 0), .nilm, .nils, .int .i64 (.ofNat 0), .int .i64 (.ofNat 0)] [(0, 1, (.t 1)), (2, 1, (.c (.int .i64 (.ofNat 1)))), (3, 1, (.c (.int .i64 (.ofNat 1)))), (4, 1, (.t 0))], .none⟩,
    ⟨.tmp, .box 8 (.t 0), .none⟩,
    ⟨(.var 4), .move (.t 0), .none⟩]) (
  .seq (.block 0 (
   .loop b9_0)) r9_1))),
  [.opd (.v 1), .opd (.v 2), .opd (.v 3)]⟩
/-- telamon/telamonref12.Tokens -/
def vm10 : List Nat := [0, 2, 3, 4, 5, 6, 7, 8, 9, 10]
def b10_0 : DC :=
 .seq (.seq (.reg [⟨.tmp, .move (.v 4), .none⟩,
   ⟨.tmp, .nilck (.t 0), .none⟩,
   ⟨.tmp, .fadr 1 (.t 0), .none⟩,
   ⟨.tmp, .load1 (.t 0), .none⟩,
   ⟨.tmp, .move (.v 0), .none⟩,
   ⟨.tmp, .len true (.t 0), .none⟩,
   ⟨.tmp, .bin .lss (.t 2) (.t 0), .none⟩,
   ⟨.tmp, .move (.t 0), .none⟩,
   ⟨.tmp, .move (.v 0), .some ((.t 0), true)⟩,
   ⟨.tmp, .move (.v 4), .some ((.t 1), true)⟩,
   ⟨.tmp, .nilck (.t 0), .some ((.t 2), true)⟩,
   ⟨.tmp, .fadr 1 (.t 0), .some ((.t 3), true)⟩,
   ⟨.tmp, .load1 (.t 0), .some ((.t 4), true)⟩,
   ⟨.tmp, .idxStr (.t 4) (.t 0), .some ((.t 5), true)⟩,
   ⟨.tmp, .bin .neq (.t 0) (.c (.int .u8 (.ofNat 10))), .some ((.t 6), true)⟩,
   ⟨.tmp, .pick (.t 7) (.t 0) (.c (.bool false)), .none⟩,
   ⟨.tmp, .move (.t 0), .none⟩,
   ⟨.tmp, .move (.v 4), .some ((.t 0), true)⟩,
   ⟨.tmp, .nilck (.t 0), .some ((.t 1), true)⟩,
   ⟨.tmp, .fadr 4 (.t 0), .some ((.t 2), true)⟩,
   ⟨.tmp, .load1 (.t 0), .some ((.t 3), true)⟩,
   ⟨.tmp, .bin .eql (.t 0) (.c (.int .i64 (.ofNat 0))), .some ((.t 4), true)⟩,
   ⟨.tmp, .pick (.t 5) (.t 0) (.c (.bool false)), .none⟩]) (
 .cond (.t 0) (
  .skip) (
  .exit 4))) (
 .block 5 (
  .reg [⟨.tmp, .move (.v 4), .none⟩,
    ⟨.tmp, .call 19 [(.t 0)], .none⟩]))
def b10_1 : DC :=
 .seq (.seq (.reg [⟨.tmp, .move (.v 4), .none⟩,
   ⟨.tmp, .nilck (.t 0), .none⟩,
   ⟨.tmp, .fadr 1 (.t 0), .none⟩,
   ⟨.tmp, .load1 (.t 0), .none⟩,
   ⟨.tmp, .move (.v 0), .none⟩,
   ⟨.tmp, .len true (.t 0), .none⟩,
   ⟨.tmp, .bin .lss (.t 2) (.t 0), .none⟩,
   ⟨.tmp, .move (.t 0), .none⟩,
   ⟨.tmp, .move (.v 4), .some ((.t 0), true)⟩,
   ⟨.tmp, .nilck (.t 0), .some ((.t 1), true)⟩,
   ⟨.tmp, .fadr 4 (.t 0), .some ((.t 2), true)⟩,
   ⟨.tmp, .load1 (.t 0), .some ((.t 3), true)⟩,
   ⟨.tmp, .bin .eql (.t 0) (.c (.int .i64 (.ofNat 0))), .some ((.t 4), true)⟩,
   ⟨.tmp, .pick (.t 5) (.t 0) (.c (.bool false)), .none⟩]) (
 .cond (.t 0) (
  .skip) (
  .exit 2))) (
 .block 3 (
  .seq (.reg [⟨.tmp, .move (.v 0), .none⟩,
    ⟨.tmp, .move (.v 4), .none⟩,
    ⟨.tmp, .nilck (.t 0), .none⟩,
    ⟨.tmp, .fadr 1 (.t 0), .none⟩,
    ⟨.tmp, .load1 (.t 0), .none⟩,
    ⟨.tmp, .idxStr (.t 4) (.t 0), .none⟩,
    ⟨.tmp, .bin .eql (.t 0) (.c (.int .u8 (.ofNat 32))), .none⟩,
    ⟨.tmp, .move (.t 0), .none⟩,
    ⟨.tmp, .move (.v 0), .some ((.t 0), false)⟩,
    ⟨.tmp, .move (.v 4), .some ((.t 1), false)⟩,
    ⟨.tmp, .nilck (.t 0), .some ((.t 2), false)⟩,
    ⟨.tmp, .fadr 1 (.t 0), .some ((.t 3), false)⟩,
    ⟨.tmp, .load1 (.t 0), .some ((.t 4), false)⟩,
    ⟨.tmp, .idxStr (.t 4) (.t 0), .some ((.t 5), false)⟩,
    ⟨.tmp, .bin .eql (.t 0) (.c (.int .u8 (.ofNat 10))), .some ((.t 6), false)⟩,
    ⟨.tmp, .pick (.t 7) (.c (.bool true)) (.t 0), .none⟩]) (
  .cond (.t 0) (
   .reg [⟨.tmp, .move (.v 4), .none⟩,
     ⟨.tmp, .call 19 [(.t 0)], .none⟩]) (
   .seq (.reg [⟨.tmp, .move (.v 4), .none⟩,
     ⟨.tmp, .nilck (.t 0), .none⟩,
     ⟨.tmp, .fadr 1 (.t 0), .none⟩,
     ⟨.tmp, .load1 (.t 0), .none⟩,
     ⟨.tmp, .bin .add (.t 0) (.c (.int .i64 (.ofNat 1))), .none⟩,
     ⟨.tmp, .move (.v 0), .none⟩,
     ⟨.tmp, .len true (.t 0), .none⟩,
     ⟨.tmp, .bin .lss (.t 2) (.t 0), .none⟩,
     ⟨.tmp, .move (.t 0), .none⟩,
     ⟨.tmp, .move (.v 0), .some ((.t 0), true)⟩,
     ⟨.tmp, .move (.v 4), .some ((.t 1), true)⟩,
     ⟨.tmp, .nilck (.t 0), .some ((.t 2), true)⟩,
     ⟨.tmp, .fadr 1 (.t 0), .some ((.t 3), true)⟩,
     ⟨.tmp, .load1 (.t 0), .some ((.t 4), true)⟩,
     ⟨.tmp, .idxStr (.t 4) (.t 0), .some ((.t 5), true)⟩,
     ⟨.tmp, .bin .eql (.t 0) (.c (.int .u8 (.ofNat 45))), .some ((.t 6), true)⟩,
     ⟨.tmp, .pick (.t 7) (.t 0) (.c (.bool false)), .none⟩,
     ⟨.tmp, .move (.t 0), .none⟩,
     ⟨.tmp, .move (.v 0), .some ((.t 0), true)⟩,
     ⟨.tmp, .move (.v 4), .some ((.t 1), true)⟩,
     ⟨.tmp, .nilck (.t 0), .some ((.t 2), true)⟩,
     ⟨.tmp, .fadr 1 (.t 0), .some ((.t 3), true)⟩,
     ⟨.tmp, .load1 (.t 0), .some ((.t 4), true)⟩,
     ⟨.tmp, .bin .add (.t 0) (.c (.int .i64 (.ofNat 1))), .some ((.t 5), true)⟩,
     ⟨.tmp, .idxStr (.t 5) (.t 0), .some ((.t 6), true)⟩,
     ⟨.tmp, .bin .eql (.t 0) (.c (.int .u8 (.ofNat 45))), .some ((.t 7), true)⟩,
     ⟨.tmp, .pick (.t 8) (.t 0) (.c (.bool false)), .none⟩]) (
   .cond (.t 0) (
    .block 4 (
     .loop b10_0)) (
    .exit 2))))))
def b10_2 : DC :=
 .seq (.seq (.reg [⟨.tmp, .move (.v 4), .none⟩,
   ⟨.tmp, .nilck (.t 0), .none⟩,
   ⟨.tmp, .fadr 1 (.t 0), .none⟩,
   ⟨.tmp, .load1 (.t 0), .none⟩,
   ⟨.tmp, .move (.v 0), .none⟩,
   ⟨.tmp, .len true (.t 0), .none⟩,
   ⟨.tmp, .bin .lss (.t 2) (.t 0), .none⟩,
   ⟨.tmp, .move (.t 0), .none⟩,
   ⟨.tmp, .move (.v 0), .some ((.t 0), true)⟩,
   ⟨.tmp, .move (.v 4), .some ((.t 1), true)⟩,
   ⟨.tmp, .nilck (.t 0), .some ((.t 2), true)⟩,
   ⟨.tmp, .fadr 1 (.t 0), .some ((.t 3), true)⟩,
   ⟨.tmp, .load1 (.t 0), .some ((.t 4), true)⟩,
   ⟨.tmp, .idxStr (.t 4) (.t 0), .some ((.t 5), true)⟩,
   ⟨.tmp, .bin .neq (.t 0) (.c (.int .u8 (.ofNat 32))), .some ((.t 6), true)⟩,
   ⟨.tmp, .pick (.t 7) (.t 0) (.c (.bool false)), .none⟩,
   ⟨.tmp, .move (.t 0), .none⟩,
   ⟨.tmp, .move (.v 0), .some ((.t 0), true)⟩,
   ⟨.tmp, .move (.v 4), .some ((.t 1), true)⟩,
   ⟨.tmp, .nilck (.t 0), .some ((.t 2), true)⟩,
   ⟨.tmp, .fadr 1 (.t 0), .some ((.t 3), true)⟩,
   ⟨.tmp, .load1 (.t 0), .some ((.t 4), true)⟩,
   ⟨.tmp, .idxStr (.t 4) (.t 0), .some ((.t 5), true)⟩,
   ⟨.tmp, .bin .neq (.t 0) (.c (.int .u8 (.ofNat 10))), .some ((.t 6), true)⟩,
   ⟨.tmp, .pick (.t 7) (.t 0) (.c (.bool false)), .none⟩,
   ⟨.tmp, .move (.t 0), .none⟩,
   ⟨.tmp, .move (.v 0), .some ((.t 0), true)⟩,
   ⟨.tmp, .move (.v 4), .some ((.t 1), true)⟩,
   ⟨.tmp, .nilck (.t 0), .some ((.t 2), true)⟩,
   ⟨.tmp, .fadr 1 (.t 0), .some ((.t 3), true)⟩,
   ⟨.tmp, .load1 (.t 0), .some ((.t 4), true)⟩,
   ⟨.tmp, .idxStr (.t 4) (.t 0), .some ((.t 5), true)⟩,
   ⟨.tmp, .call 20 [(.t 0)], .some ((.t 6), true)⟩,
   ⟨.tmp, .not (.t 0), .some ((.t 7), true)⟩,
   ⟨.tmp, .pick (.t 8) (.t 0) (.c (.bool false)), .none⟩,
   ⟨.tmp, .move (.t 0), .none⟩,
   ⟨.tmp, .move (.v 4), .some ((.t 0), true)⟩,
   ⟨.tmp, .nilck (.t 0), .some ((.t 1), true)⟩,
   ⟨.tmp, .fadr 4 (.t 0), .some ((.t 2), true)⟩,
   ⟨.tmp, .load1 (.t 0), .some ((.t 3), true)⟩,
   ⟨.tmp, .bin .eql (.t 0) (.c (.int .i64 (.ofNat 0))), .some ((.t 4), true)⟩,
   ⟨.tmp, .pick (.t 5) (.t 0) (.c (.bool false)), .none⟩]) (
 .cond (.t 0) (
  .skip) (
  .exit 6))) (
 .block 7 (
  .reg [⟨.tmp, .move (.v 4), .none⟩,
    ⟨.tmp, .call 19 [(.t 0)], .none⟩]))
def r10_3 : DC :=
 .seq (.seq (.reg [⟨.tmp, .move (.v 4), .none⟩,
   ⟨.tmp, .nilck (.t 0), .none⟩,
   ⟨.tmp, .fadr 4 (.t 0), .none⟩,
   ⟨.tmp, .load1 (.t 0), .none⟩,
   ⟨.tmp, .bin .neq (.t 0) (.c (.int .i64 (.ofNat 0))), .none⟩]) (
 .cond (.t 0) (
  .seq (.reg [⟨.tmp, .move (.v 4), .none⟩,
    ⟨.tmp, .nilck (.t 0), .none⟩,
    ⟨.tmp, .fadr 1 (.t 0), .none⟩,
    ⟨.tmp, .load1 (.t 0), .none⟩,
    ⟨.tmp, .move (.v 4), .none⟩,
    ⟨.tmp, .nilck (.t 0), .none⟩,
    ⟨.tmp, .fadr 4 (.t 0), .none⟩,
    ⟨.tmp, .load1 (.t 0), .none⟩,
    ⟨(.var 1), .move (.c (.nils)), .none⟩,
    ⟨(.var 2), .move (.t 4), .none⟩,
    ⟨(.var 3), .move (.t 0), .none⟩]) (
  .ret)) (
  .skip))) (
 .seq (.reg [⟨.tmp, .move (.v 0), .none⟩,
   ⟨.tmp, .move (.v 7), .none⟩,
   ⟨.tmp, .move (.v 4), .none⟩,
   ⟨.tmp, .nilck (.t 0), .none⟩,
   ⟨.tmp, .fadr 1 (.t 0), .none⟩,
   ⟨.tmp, .load1 (.t 0), .none⟩,
   ⟨.tmp, .slcStr (.t 5) (.some (.t 4)) (.some (.t 0)), .none⟩,
   ⟨(.var 8), .move (.t 0), .none⟩]) (
 .seq (.reg [⟨.tmp, .move (.v 8), .none⟩,
   ⟨.tmp, .fadr 1 (.v 6), .none⟩,
   ⟨.no, .store 1 (.t 0) (.t 1), .none⟩]) (
 .seq (.reg [⟨.tmp, .move (.v 8), .none⟩,
   ⟨.tmp, .call 21 [(.v 6), (.t 0)], .none⟩,
   ⟨(.var 9), .move (.t 0), .none⟩]) (
 .seq (.reg [⟨.tmp, .move (.v 9), .none⟩,
   ⟨.tmp, .bin .neq (.t 0) (.c (.int .i64 (.ofNat 0))), .none⟩]) (
 .cond (.t 0) (
  .seq (.reg [⟨.tmp, .move (.v 7), .none⟩,
    ⟨.tmp, .move (.v 9), .none⟩,
    ⟨(.var 1), .move (.c (.nils)), .none⟩,
    ⟨(.var 2), .move (.t 1), .none⟩,
    ⟨(.var 3), .move (.t 0), .none⟩]) (
  .ret)) (
  .skip))))))
def r10_4 : DC :=
 .seq (.seq (.reg [⟨.tmp, .move (.v 5), .none⟩,
   ⟨.tmp, .len false (.t 0), .none⟩,
   ⟨.tmp, .bin .geq (.t 0) (.c (.int .i64 (.ofNat 20000))), .none⟩]) (
 .cond (.t 0) (
  .seq (.reg [⟨.tmp, .fadr 2 (.v 6), .none⟩,
    ⟨.tmp, .load1 (.t 0), .none⟩,
    ⟨(.var 1), .move (.c (.nils)), .none⟩,
    ⟨(.var 2), .move (.t 0), .none⟩,
    ⟨(.var 3), .move (.c (.int .i64 (.ofNat 2))), .none⟩]) (
  .ret)) (
  .skip))) (
 .seq (.reg [⟨.tmp, .move (.v 5), .none⟩,
   ⟨.tmp, .loadN 5 (.v 6), .none⟩,
   ⟨.tmp, .buildS 5 [[.int .i64 (.ofNat 0), .str 0 0, .int .i64 (.ofNat 0), .int .i64 (.ofNat 0), .int .i64 (.ofNat 0)]] [(0, (.t 0))], .none⟩,
   ⟨.tmp, .append 5 48 (.t 2) (.t 0), .none⟩,
   ⟨(.var 5), .move (.t 0), .none⟩]) (
 .seq (.reg [⟨.tmp, .fadr 0 (.v 6), .none⟩,
   ⟨.tmp, .load1 (.t 0), .none⟩,
   ⟨.tmp, .bin .eql (.t 0) (.c (.int .i64 (.ofNat 7))), .none⟩]) (
 .cond (.t 0) (
  .seq (.reg [⟨.tmp, .move (.v 5), .none⟩,
    ⟨(.var 1), .move (.t 0), .none⟩,
    ⟨(.var 2), .move (.c (.int .i64 (.ofNat 0))), .none⟩,
    ⟨(.var 3), .move (.c (.int .i64 (.ofNat 0))), .none⟩]) (
  .ret)) (
  .skip))))
def r10_5 : DC :=
 .seq (.seq (.reg [⟨.tmp, .move (.v 4), .none⟩,
   ⟨.tmp, .nilck (.t 0), .none⟩,
   ⟨.tmp, .fadr 4 (.t 0), .none⟩,
   ⟨.tmp, .load1 (.t 0), .none⟩,
   ⟨.tmp, .bin .neq (.t 0) (.c (.int .i64 (.ofNat 0))), .none⟩]) (
 .cond (.t 0) (
  .seq (.reg [⟨.tmp, .move (.v 4), .none⟩,
    ⟨.tmp, .nilck (.t 0), .none⟩,
    ⟨.tmp, .fadr 1 (.t 0), .none⟩,
    ⟨.tmp, .load1 (.t 0), .none⟩,
    ⟨.tmp, .move (.v 4), .none⟩,
    ⟨.tmp, .nilck (.t 0), .none⟩,
    ⟨.tmp, .fadr 4 (.t 0), .none⟩,
    ⟨.tmp, .load1 (.t 0), .none⟩,
    ⟨(.var 1), .move (.c (.nils)), .none⟩,
    ⟨(.var 2), .move (.t 4), .none⟩,
    ⟨(.var 3), .move (.t 0), .none⟩]) (
  .ret)) (
  .skip))) (
 .seq (.reg [⟨.tmp, .move (.v 4), .none⟩,
   ⟨.tmp, .nilck (.t 0), .none⟩,
   ⟨.tmp, .fadr 1 (.t 0), .none⟩,
   ⟨.tmp, .load1 (.t 0), .none⟩,
   ⟨.tmp, .move (.v 4), .none⟩,
   ⟨.tmp, .nilck (.t 0), .none⟩,
   ⟨.tmp, .fadr 2 (.t 0), .none⟩,
   ⟨.tmp, .load1 (.t 0), .none⟩,
   ⟨.tmp, .move (.v 4), .none⟩,
   ⟨.tmp, .nilck (.t 0), .none⟩,
   ⟨.tmp, .fadr 3 (.t 0), .none⟩,
   ⟨.tmp, .load1 (.t 0), .none⟩,
   ⟨.tmp, .build [.int .i64 (.ofNat 0), .str 0 0, .int .i64 (.ofNat 0), .int .i64 (.ofNat 0), .int .i64 (.ofNat 0)] [(0, 1, (.c (.int .i64 (.ofNat 7)))), (2, 1, (.t 8)), (3, 1, (.t 4)), (4, 1, (.t 0))], .none⟩,
   ⟨(.var 6), .alloc [.int .i64 (.ofNat 0), .str 0 0, .int .i64 (.ofNat 0), .int .i64 (.ofNat 0), .int .i64 (.ofNat 0)], .none⟩,
   ⟨.no, .store 5 (.v 6) (.t 0), .none⟩]) (
 .seq (.seq (.reg [⟨.tmp, .move (.v 4), .none⟩,
   ⟨.tmp, .nilck (.t 0), .none⟩,
   ⟨.tmp, .fadr 1 (.t 0), .none⟩,
   ⟨.tmp, .load1 (.t 0), .none⟩,
   ⟨.tmp, .move (.v 0), .none⟩,
   ⟨.tmp, .len true (.t 0), .none⟩,
   ⟨.tmp, .bin .lss (.t 2) (.t 0), .none⟩]) (
 .cond (.t 0) (
  .seq (.reg [⟨.tmp, .move (.v 4), .none⟩,
    ⟨.tmp, .nilck (.t 0), .none⟩,
    ⟨.tmp, .fadr 1 (.t 0), .none⟩,
    ⟨.tmp, .load1 (.t 0), .none⟩,
    ⟨(.var 7), .move (.t 0), .none⟩]) (
  .seq (.seq (.reg [⟨.tmp, .move (.v 0), .none⟩,
    ⟨.tmp, .move (.v 4), .none⟩,
    ⟨.tmp, .nilck (.t 0), .none⟩,
    ⟨.tmp, .fadr 1 (.t 0), .none⟩,
    ⟨.tmp, .load1 (.t 0), .none⟩,
    ⟨.tmp, .idxStr (.t 4) (.t 0), .none⟩,
    ⟨.tmp, .call 20 [(.t 0)], .none⟩]) (
  .cond (.t 0) (
   .seq (.reg [⟨.tmp, .move (.v 4), .none⟩,
     ⟨.tmp, .call 19 [(.t 0)], .none⟩]) (
   .reg [⟨.tmp, .fadr 0 (.v 6), .none⟩,
     ⟨.no, .store 1 (.t 0) (.c (.int .i64 (.ofNat 2))), .none⟩])) (
   .block 6 (
    .loop b10_2)))) r10_3)) (
  .skip))) r10_4))
def b10_6 : DC :=
 .block 1 (
  .seq (.block 2 (
   .loop b10_1)) r10_5)
def d10 : DF := ⟨[.some 0, .some 2, .some 3, .some 4, .some 5, .some 6, .some 7, .some 8, .some 9, .some 10],
  .seq (.reg [⟨(.var 1), .move (.c (.nils)), .none⟩,
    ⟨(.var 2), .move (.c (.int .i64 (.ofNat 0))), .none⟩,
    ⟨(.var 3), .move (.c (.int .i64 (.ofNat 0))), .none⟩]) (
  .seq (.seq (.reg [⟨.tmp, .move (.v 0), .none⟩,
    ⟨.tmp, .len true (.t 0), .none⟩,
    ⟨.tmp, .bin .gtr (.t 0) (.c (.int .i64 (.ofNat 65536))), .none⟩]) (
  .cond (.t 0) (
   .seq (.reg [⟨(.var 1), .move (.c (.nils)), .none⟩,
     ⟨(.var 2), .move (.c (.int .i64 (.ofNat 0))), .none⟩,
     ⟨(.var 3), .move (.c (.int .i64 (.ofNat 2))), .none⟩]) (
   .ret)) (
   .skip))) (
  .seq (.reg [⟨.tmp, .move (.v 0), .none⟩,
    ⟨.tmp, .build [.str 0 0, .int .i64 (.ofNat 0), .int .i64 (.ofNat 0), .int .i64 (.ofNat 0), .int .i64 (.ofNat 0)] [(0, 1, (.t 0)), (2, 1, (.c (.int .i64 (.ofNat 1)))), (3, 1, (.c (.int .i64 (.ofNat 1))))], .none⟩,
    ⟨.tmp, .box 5 (.t 0), .none⟩,
    ⟨(.var 4), .move (.t 0), .none⟩]) (
  .seq (.reg [⟨(.var 5), .move (.c (.nils)), .none⟩]) (
  .block 0 (
   .loop b10_6))))),
  [.opd (.v 1), .opd (.v 2), .opd (.v 3)]⟩
/-- telamon/telamonlaw12.num -/
def vm11 : List Nat := [0, 2]

def d11 : DF := ⟨[.some 0, .some 2],
  .seq (.reg [⟨(.var 1), .move (.c (.int .i64 (.ofNat 0))), .none⟩]) (
  .seq (.reg [⟨.tmp, .move (.v 0), .none⟩,
    ⟨(.var 1), .move (.t 0), .none⟩]) (
  .ret)),
  [.opd (.v 1)]⟩
/-- telamon/telamonlaw12.Same -/
def vm12 : List Nat := [0, 1, 4, 5]
def b12_0 : DC :=
 .seq (.seq (.reg [⟨.tmp, .move (.v 3), .none⟩,
   ⟨.tmp, .move (.v 0), .none⟩,
   ⟨.tmp, .len false (.t 0), .none⟩,
   ⟨.tmp, .bin .lss (.t 2) (.t 0), .none⟩]) (
 .cond (.t 0) (
  .skip) (
  .exit 0))) (
 .seq (.block 1 (
  .seq (.reg [⟨.tmp, .move (.v 0), .none⟩,
    ⟨.tmp, .move (.v 3), .none⟩,
    ⟨.tmp, .idxS 5 (.t 1) (.t 0), .none⟩,
    ⟨.tmp, .loadN 5 (.t 0), .none⟩,
    ⟨.tmp, .move (.v 1), .none⟩,
    ⟨.tmp, .move (.v 3), .none⟩,
    ⟨.tmp, .idxS 5 (.t 1) (.t 0), .none⟩,
    ⟨.tmp, .loadN 5 (.t 0), .none⟩,
    ⟨.tmp, .eqAgg true [0, 1, 0, 0, 0] (.t 4) (.t 0), .none⟩]) (
  .cond (.t 0) (
   .seq (.reg [⟨(.var 2), .move (.c (.bool false)), .none⟩]) (
   .ret)) (
   .skip)))) (
 .reg [⟨.tmp, .move (.v 3), .none⟩,
   ⟨.tmp, .bin .add (.t 0) (.c (.int .i64 (.ofNat 1))), .none⟩,
   ⟨(.var 3), .move (.t 0), .none⟩]))
def r12_1 : DC :=
 .seq (.reg [⟨(.var 2), .move (.c (.bool true)), .none⟩]) (
 .ret)
def d12 : DF := ⟨[.some 0, .some 1, .some 4, .some 5],
  .seq (.reg [⟨(.var 2), .move (.c (.bool false)), .none⟩]) (
  .seq (.seq (.reg [⟨.tmp, .move (.v 0), .none⟩,
    ⟨.tmp, .len false (.t 0), .none⟩,
    ⟨.tmp, .move (.v 1), .none⟩,
    ⟨.tmp, .len false (.t 0), .none⟩,
    ⟨.tmp, .bin .neq (.t 2) (.t 0), .none⟩]) (
  .cond (.t 0) (
   .seq (.reg [⟨(.var 2), .move (.c (.bool false)), .none⟩]) (
   .ret)) (
   .skip))) (
  .seq (.seq (.reg [⟨(.var 3), .move (.c (.int .i64 (.ofNat 0))), .none⟩]) (
  .block 0 (
   .loop b12_0))) r12_1)),
  [.opd (.v 2)]⟩
/-- telamon/telamonlaw12.fill -/
def vm13 : List Nat := [0, 1, 4, 5, 6]
def b13_0 : DC :=
 .seq (.seq (.reg [⟨.tmp, .move (.v 4), .none⟩,
   ⟨.tmp, .move (.v 0), .none⟩,
   ⟨.tmp, .bin .lss (.t 1) (.t 0), .none⟩]) (
 .cond (.t 0) (
  .skip) (
  .exit 0))) (
 .seq (.block 1 (
  .reg [⟨.tmp, .move (.v 3), .none⟩,
    ⟨.tmp, .move (.v 4), .none⟩,
    ⟨.tmp, .move (.v 1), .none⟩,
    ⟨.tmp, .idxS 1 (.t 2) (.t 1), .none⟩,
    ⟨.no, .store 1 (.t 0) (.t 1), .none⟩])) (
 .reg [⟨.tmp, .move (.v 4), .none⟩,
   ⟨.tmp, .bin .add (.t 0) (.c (.int .i64 (.ofNat 1))), .none⟩,
   ⟨(.var 4), .move (.t 0), .none⟩]))
def r13_1 : DC :=
 .seq (.reg [⟨.tmp, .move (.v 3), .none⟩,
   ⟨.tmp, .convBS (.t 0), .none⟩,
   ⟨(.var 2), .move (.t 0), .none⟩]) (
 .ret)
def d13 : DF := ⟨[.some 0, .some 1, .some 4, .some 5, .some 6],
  .seq (.reg [⟨(.var 2), .move (.c (.str 0 0)), .none⟩]) (
  .seq (.reg [⟨.tmp, .move (.v 0), .none⟩,
    ⟨.tmp, .mkS [.int .u8 (.ofNat 0)] 1 (.t 0) (.t 0), .none⟩,
    ⟨(.var 3), .move (.t 0), .none⟩]) (
  .seq (.seq (.reg [⟨(.var 4), .move (.c (.int .i64 (.ofNat 0))), .none⟩]) (
  .block 0 (
   .loop b13_0))) r13_1)),
  [.opd (.v 2)]⟩
/-- telamon/lex.Word -/
def vm14 : List Nat := [0, 2]

def d14 : DF := ⟨[.some 0, .some 2],
  .seq (.reg [⟨(.var 1), .move (.c (.bool false)), .none⟩]) (
  .seq (.reg [⟨.tmp, .call 16 [], .none⟩,
    ⟨.tmp, .move (.v 0), .none⟩,
    ⟨.tmp, .lkp (.int .i64 (.ofNat 0)) 1 false (.t 1) (.t 0), .none⟩,
    ⟨.tmp, .bin .neq (.t 0) (.c (.int .i64 (.ofNat 0))), .none⟩,
    ⟨(.var 1), .move (.t 0), .none⟩]) (
  .ret)),
  [.opd (.v 1)]⟩
/-- telamon/telamonref12.Word -/
def vm15 : List Nat := [0, 2, 3, 4]

def d15 : DF := ⟨[.some 0, .some 2, .some 3, .some 4],
  .seq (.reg [⟨(.var 1), .move (.c (.bool false)), .none⟩]) (
  .seq (.seq (.reg [⟨(.var 2), .move (.v 0), .none⟩]) (
  .block 0 (
   .seq (.seq (.reg [⟨.tmp, .bin .eql (.v 2) (.c (.str 6 111516500389741)), .none⟩,
     ⟨(.var 3), .move (.t 0), .none⟩]) (
   .cond (.v 3) (
    .skip) (
    .seq (.reg [⟨.tmp, .bin .eql (.v 2) (.c (.str 5 435710945399)), .none⟩,
      ⟨(.var 3), .move (.t 0), .none⟩]) (
    .cond (.v 3) (
     .skip) (
     .seq (.reg [⟨.tmp, .bin .eql (.v 2) (.c (.str 4 1635017060)), .none⟩,
       ⟨(.var 3), .move (.t 0), .none⟩]) (
     .cond (.v 3) (
      .skip) (
      .seq (.reg [⟨.tmp, .bin .eql (.v 2) (.c (.str 3 7628140)), .none⟩,
        ⟨(.var 3), .move (.t 0), .none⟩]) (
      .cond (.v 3) (
       .skip) (
       .seq (.reg [⟨.tmp, .bin .eql (.v 2) (.c (.str 2 28265)), .none⟩,
         ⟨(.var 3), .move (.t 0), .none⟩]) (
       .cond (.v 3) (
        .skip) (
        .seq (.reg [⟨.tmp, .bin .eql (.v 2) (.c (.str 4 1852141679)), .none⟩,
          ⟨(.var 3), .move (.t 0), .none⟩]) (
        .cond (.v 3) (
         .skip) (
         .seq (.reg [⟨.tmp, .bin .eql (.v 2) (.c (.str 5 444234036085)), .none⟩,
           ⟨(.var 3), .move (.t 0), .none⟩]) (
         .cond (.v 3) (
          .skip) (
          .seq (.reg [⟨.tmp, .bin .eql (.v 2) (.c (.str 6 113723912251752)), .none⟩,
            ⟨(.var 3), .move (.t 0), .none⟩]) (
          .cond (.v 3) (
           .skip) (
           .seq (.reg [⟨.tmp, .bin .eql (.v 2) (.c (.str 8 7453010351851726194)), .none⟩,
             ⟨(.var 3), .move (.t 0), .none⟩]) (
           .cond (.v 3) (
            .skip) (
            .seq (.reg [⟨.tmp, .bin .eql (.v 2) (.c (.str 2 28532)), .none⟩,
              ⟨(.var 3), .move (.t 0), .none⟩]) (
            .cond (.v 3) (
             .skip) (
             .seq (.reg [⟨.tmp, .bin .eql (.v 2) (.c (.str 7 28556934595048048)), .none⟩,
               ⟨(.var 3), .move (.t 0), .none⟩]) (
             .cond (.v 3) (
              .skip) (
              .seq (.reg [⟨.tmp, .bin .eql (.v 2) (.c (.str 9 1871507254677525983088)), .none⟩,
                ⟨(.var 3), .move (.t 0), .none⟩]) (
              .cond (.v 3) (
               .skip) (
               .seq (.reg [⟨.tmp, .bin .eql (.v 2) (.c (.str 5 517164396137)), .none⟩,
                 ⟨(.var 3), .move (.t 0), .none⟩]) (
               .cond (.v 3) (
                .skip) (
                .seq (.reg [⟨.tmp, .bin .eql (.v 2) (.c (.str 6 119264420195945)), .none⟩,
                  ⟨(.var 3), .move (.t 0), .none⟩]) (
                .cond (.v 3) (
                 .skip) (
                 .seq (.reg [⟨.tmp, .bin .eql (.v 2) (.c (.str 6 125861489962601)), .none⟩,
                   ⟨(.var 3), .move (.t 0), .none⟩]) (
                 .cond (.v 3) (
                  .skip) (
                  .seq (.reg [⟨.tmp, .bin .eql (.v 2) (.c (.str 3 7628115)), .none⟩,
                    ⟨(.var 3), .move (.t 0), .none⟩]) (
                  .cond (.v 3) (
                   .skip) (
                   .seq (.reg [⟨.tmp, .bin .eql (.v 2) (.c (.str 3 7631718)), .none⟩,
                     ⟨(.var 3), .move (.t 0), .none⟩]) (
                   .cond (.v 3) (
                    .skip) (
                    .seq (.reg [⟨.tmp, .bin .eql (.v 2) (.c (.str 3 6581875)), .none⟩,
                      ⟨(.var 3), .move (.t 0), .none⟩]) (
                    .cond (.v 3) (
                     .skip) (
                     .seq (.reg [⟨.tmp, .bin .eql (.v 2) (.c (.str 1 58)), .none⟩,
                       ⟨(.var 3), .move (.t 0), .none⟩]) (
                     .cond (.v 3) (
                      .skip) (
                      .seq (.reg [⟨.tmp, .bin .eql (.v 2) (.c (.str 1 61)), .none⟩,
                        ⟨(.var 3), .move (.t 0), .none⟩]) (
                      .cond (.v 3) (
                       .skip) (
                       .seq (.reg [⟨.tmp, .bin .eql (.v 2) (.c (.str 2 15917)), .none⟩,
                         ⟨(.var 3), .move (.t 0), .none⟩]) (
                       .cond (.v 3) (
                        .skip) (
                        .seq (.reg [⟨.tmp, .bin .eql (.v 2) (.c (.str 1 92)), .none⟩,
                          ⟨(.var 3), .move (.t 0), .none⟩]) (
                        .cond (.v 3) (
                         .skip) (
                         .seq (.reg [⟨.tmp, .bin .eql (.v 2) (.c (.str 2 10794)), .none⟩,
                           ⟨(.var 3), .move (.t 0), .none⟩]) (
                         .cond (.v 3) (
                          .skip) (
                          .seq (.reg [⟨.tmp, .bin .eql (.v 2) (.c (.str 1 95)), .none⟩,
                            ⟨(.var 3), .move (.t 0), .none⟩]) (
                          .cond (.v 3) (
                           .skip) (
                           .seq (.reg [⟨.tmp, .bin .eql (.v 2) (.c (.str 3 9602786)), .none⟩,
                             ⟨(.var 3), .move (.t 0), .none⟩]) (
                           .cond (.v 3) (
                            .skip) (
                            .reg [⟨.tmp, .bin .eql (.v 2) (.c (.str 2 48078)), .none⟩,
                              ⟨(.var 3), .move (.t 0), .none⟩]))))))))))))))))))))))))))))))))))))))))))))))))))) (
   .cond (.v 3) (
    .seq (.reg [⟨(.var 1), .move (.c (.bool true)), .none⟩]) (
    .ret)) (
    .skip))))) (
  .seq (.reg [⟨(.var 1), .move (.c (.bool false)), .none⟩]) (
  .ret))),
  [.opd (.v 1)]⟩
/-- telamon/lex.words -/
def vm16 : List Nat := [0, 1, 3, 6, 7, 8]
def b16_0 : DC :=
 .seq (.reg [⟨.tmp, .bin .lss (.v 5) (.v 4), .none⟩]) (
 .seq (.cond (.t 0) (
  .skip) (
  .exit 0)) (
 .seq (.block 1 (
  .seq (.reg [⟨.tmp, .idxS 1 (.v 3) (.v 5), .none⟩,
    ⟨.tmp, .load1 (.t 0), .none⟩,
    ⟨(.var 2), .move (.t 0), .none⟩]) (
  .reg [⟨.tmp, .move (.v 1), .none⟩,
    ⟨.tmp, .move (.v 2), .none⟩,
    ⟨.no, .mupd 1 (.t 1) (.t 0) (.c (.int .i64 (.ofNat 1))), .none⟩]))) (
 .reg [⟨.tmp, .bin .add (.v 5) (.c (.int .i64 (.ofNat 1))), .none⟩,
   ⟨(.var 5), .move (.t 0), .none⟩])))
def r16_1 : DC :=
 .seq (.reg [⟨.tmp, .move (.v 1), .none⟩,
   ⟨(.var 0), .move (.t 0), .none⟩]) (
 .ret)
def d16 : DF := ⟨[.some 0, .some 1, .some 3, .some 6, .some 7, .some 8],
  .seq (.reg [⟨(.var 0), .move (.c (.nilm)), .none⟩]) (
  .seq (.reg [⟨.tmp, .mkmap, .none⟩,
    ⟨.no, .mupd 1 (.t 0) (.c (.str 3 9602786)) (.c (.int .i64 (.ofNat 2))), .none⟩,
    ⟨.no, .mupd 1 (.t 0) (.c (.str 2 48078)) (.c (.int .i64 (.ofNat 3))), .none⟩,
    ⟨.tmp, .move (.t 0), .none⟩,
    ⟨(.var 1), .move (.t 0), .none⟩]) (
  .seq (.seq (.reg [⟨(.var 3), .call 22 [(.c (.str 118 55255250053121832751190772198885280888846012031891417560876817777378424578929838922099516950301949845771325302238700859964639101846457256641494265057194389186616688998610331152660785366917115534347631060295010209548172167811164626693287049802794730177234027812100682043649193922555757))], .none⟩,
    ⟨(.var 4), .len false (.v 3), .none⟩,
    ⟨(.var 5), .move (.c (.int .i64 (.ofNat 0))), .none⟩]) (
  .block 0 (
   .loop b16_0))) r16_1)),
  [.opd (.v 0)]⟩
/-- (*telamon/lex.scanner).blank -/
def vm17 : List Nat := [0, 2]
def b17_0 : DC :=
 .block 1 (
  .seq (.seq (.reg [⟨.tmp, .move (.v 0), .none⟩,
    ⟨.tmp, .call 23 [(.t 0), (.c (.fn 24 [] []))], .none⟩,
    ⟨.tmp, .not (.t 0), .none⟩]) (
  .cond (.t 0) (
   .seq (.reg [⟨(.var 1), .move (.c (.bool false)), .none⟩]) (
   .ret)) (
   .skip))) (
  .seq (.seq (.reg [⟨.tmp, .move (.v 0), .none⟩,
    ⟨.tmp, .nilck (.t 0), .none⟩,
    ⟨.tmp, .fadr 0 (.t 0), .none⟩,
    ⟨.tmp, .load1 (.t 0), .none⟩,
    ⟨.tmp, .move (.v 0), .none⟩,
    ⟨.tmp, .nilck (.t 0), .none⟩,
    ⟨.tmp, .fadr 1 (.t 0), .none⟩,
    ⟨.tmp, .load1 (.t 0), .none⟩,
    ⟨.tmp, .slcStr (.t 4) (.some (.t 0)) .none, .none⟩,
    ⟨.tmp, .call 25 [(.t 0), (.c (.str 2 11565))], .none⟩,
    ⟨.tmp, .not (.t 0), .none⟩]) (
  .cond (.t 0) (
   .seq (.reg [⟨(.var 1), .move (.c (.bool true)), .none⟩]) (
   .ret)) (
   .skip))) (
  .seq (.reg [⟨.tmp, .move (.v 0), .none⟩,
    ⟨.tmp, .call 23 [(.t 0), (.c (.fn 26 [] []))], .none⟩,
    ⟨.tmp, .not (.t 0), .none⟩]) (
  .cond (.t 0) (
   .seq (.reg [⟨(.var 1), .move (.c (.bool false)), .none⟩]) (
   .ret)) (
   .skip)))))
def d17 : DF := ⟨[.some 0, .some 2],
  .seq (.reg [⟨(.var 1), .move (.c (.bool false)), .none⟩]) (
  .block 0 (
   .loop b17_0)),
  [.opd (.v 1)]⟩
/-- (*telamon/lex.scanner).token -/
def vm18 : List Nat := [0, 2, 3, 4, 5, 6, 8, 9, 10, 51, 52, 53]
def b18_0 : DC :=
 .seq (.reg [⟨.tmp, .bin .lss (.v 11) (.v 10), .none⟩]) (
 .seq (.cond (.t 0) (
  .skip) (
  .exit 1)) (
 .seq (.block 2 (
  .seq (.reg [⟨.tmp, .idxS 1 (.v 9) (.v 11), .none⟩,
    ⟨.tmp, .load1 (.t 0), .none⟩,
    ⟨(.var 6), .move (.t 0), .none⟩]) (
  .seq (.reg [⟨.tmp, .move (.v 6), .none⟩,
    ⟨.tmp, .callv (.t 0) [(.v 2)], .none⟩,
    ⟨.tmp, .move (.t 0), .none⟩,
    ⟨.tmp, .ext (.t 0) 0, .none⟩,
    ⟨.tmp, .ext (.t 1) 1, .none⟩,
    ⟨(.var 7), .move (.t 1), .none⟩,
    ⟨(.var 8), .move (.t 0), .none⟩]) (
  .seq (.seq (.reg [⟨.tmp, .move (.v 8), .none⟩,
    ⟨.tmp, .bin .neq (.t 0) (.c (.int .i64 (.ofNat 0))), .none⟩]) (
  .cond (.t 0) (
   .seq (.reg [⟨.tmp, .move (.v 0), .none⟩,
     ⟨.tmp, .fadr 2 (.v 2), .none⟩,
     ⟨.tmp, .load1 (.t 0), .none⟩,
     ⟨.tmp, .move (.v 8), .none⟩,
     ⟨.tmp, .call 34 [(.t 3), (.t 1), (.t 0)], .none⟩,
     ⟨(.var 1), .move (.t 0), .none⟩]) (
   .ret)) (
   .skip))) (
  .seq (.reg [⟨.tmp, .move (.v 7), .none⟩]) (
  .cond (.t 0) (
   .exit 1) (
   .skip))))))) (
 .reg [⟨.tmp, .bin .add (.v 11) (.c (.int .i64 (.ofNat 1))), .none⟩,
   ⟨(.var 11), .move (.t 0), .none⟩])))
def r18_1 : DC :=
 .seq (.seq (.reg [⟨.tmp, .move (.v 0), .none⟩,
   ⟨.tmp, .nilck (.t 0), .none⟩,
   ⟨.tmp, .fadr 5 (.t 0), .none⟩,
   ⟨.tmp, .load1 (.t 0), .none⟩,
   ⟨.tmp, .len false (.t 0), .none⟩,
   ⟨.tmp, .bin .geq (.t 0) (.c (.int .i64 (.ofNat 20000))), .none⟩]) (
 .cond (.t 0) (
  .seq (.reg [⟨.tmp, .move (.v 0), .none⟩,
    ⟨.tmp, .fadr 2 (.v 2), .none⟩,
    ⟨.tmp, .load1 (.t 0), .none⟩,
    ⟨.tmp, .call 34 [(.t 2), (.t 0), (.c (.int .i64 (.ofNat 2)))], .none⟩,
    ⟨(.var 1), .move (.t 0), .none⟩]) (
  .ret)) (
  .skip))) (
 .seq (.reg [⟨.tmp, .move (.v 0), .none⟩,
   ⟨.tmp, .move (.v 0), .none⟩,
   ⟨.tmp, .nilck (.t 0), .none⟩,
   ⟨.tmp, .fadr 5 (.t 0), .none⟩,
   ⟨.tmp, .load1 (.t 0), .none⟩,
   ⟨.tmp, .loadN 5 (.v 2), .none⟩,
   ⟨.tmp, .buildS 5 [[.int .i64 (.ofNat 0), .str 0 0, .int .i64 (.ofNat 0), .int .i64 (.ofNat 0), .int .i64 (.ofNat 0)]] [(0, (.t 0))], .none⟩,
   ⟨.tmp, .append 5 48 (.t 2) (.t 0), .none⟩,
   ⟨.tmp, .nilck (.t 7), .none⟩,
   ⟨.tmp, .fadr 5 (.t 0), .none⟩,
   ⟨.no, .store 1 (.t 0) (.t 2), .none⟩]) (
 .seq (.reg [⟨.tmp, .fadr 0 (.v 2), .none⟩,
   ⟨.tmp, .load1 (.t 0), .none⟩,
   ⟨.tmp, .bin .neq (.t 0) (.c (.int .i64 (.ofNat 7))), .none⟩,
   ⟨(.var 1), .move (.t 0), .none⟩]) (
 .ret)))
def d18 : DF := ⟨[.some 0, .some 2, .some 3, .some 4, .some 5, .some 6, .some 8, .some 9, .some 10, .some 51, .some 52, .some 53],
  .seq (.reg [⟨(.var 1), .move (.c (.bool false)), .none⟩]) (
  .seq (.reg [⟨.tmp, .move (.v 0), .none⟩,
    ⟨.tmp, .nilck (.t 0), .none⟩,
    ⟨.tmp, .fadr 1 (.t 0), .none⟩,
    ⟨.tmp, .load1 (.t 0), .none⟩,
    ⟨.tmp, .move (.v 0), .none⟩,
    ⟨.tmp, .nilck (.t 0), .none⟩,
    ⟨.tmp, .fadr 2 (.t 0), .none⟩,
    ⟨.tmp, .load1 (.t 0), .none⟩,
    ⟨.tmp, .move (.v 0), .none⟩,
    ⟨.tmp, .nilck (.t 0), .none⟩,
    ⟨.tmp, .fadr 3 (.t 0), .none⟩,
    ⟨.tmp, .load1 (.t 0), .none⟩,
    ⟨.tmp, .build [.int .i64 (.ofNat 0), .str 0 0, .int .i64 (.ofNat 0), .int .i64 (.ofNat 0), .int .i64 (.ofNat 0)] [(2, 1, (.t 8)), (3, 1, (.t 4)), (4, 1, (.t 0))], .none⟩,
    ⟨(.var 2), .alloc [.int .i64 (.ofNat 0), .str 0 0, .int .i64 (.ofNat 0), .int .i64 (.ofNat 0), .int .i64 (.ofNat 0)], .none⟩,
    ⟨.no, .store 5 (.v 2) (.t 0), .none⟩]) (
  .seq (.reg [⟨.tmp, .move (.v 0), .none⟩,
    ⟨.tmp, .call 27 [(.t 0)], .none⟩,
    ⟨.tmp, .move (.t 0), .none⟩,
    ⟨.tmp, .ext (.t 0) 0, .none⟩,
    ⟨.tmp, .ext (.t 1) 1, .none⟩,
    ⟨.tmp, .ext (.t 2) 2, .none⟩,
    ⟨(.var 3), .move (.t 2), .none⟩,
    ⟨(.var 4), .move (.t 1), .none⟩,
    ⟨(.var 5), .move (.t 0), .none⟩]) (
  .seq (.block 0 (
   .seq (.reg [⟨.tmp, .move (.v 0), .none⟩,
     ⟨.tmp, .nilck (.t 0), .none⟩,
     ⟨.tmp, .fadr 1 (.t 0), .none⟩,
     ⟨.tmp, .load1 (.t 0), .none⟩,
     ⟨.tmp, .move (.v 0), .none⟩,
     ⟨.tmp, .nilck (.t 0), .none⟩,
     ⟨.tmp, .fadr 0 (.t 0), .none⟩,
     ⟨.tmp, .load1 (.t 0), .none⟩,
     ⟨.tmp, .len true (.t 0), .none⟩,
     ⟨.tmp, .bin .eql (.t 5) (.t 0), .none⟩,
     ⟨.tmp, .move (.t 0), .none⟩]) (
   .cond (.t 0) (
    .reg [⟨.tmp, .fadr 0 (.v 2), .none⟩,
      ⟨.no, .store 1 (.t 0) (.c (.int .i64 (.ofNat 7))), .none⟩]) (
    .seq (.reg [⟨.tmp, .move (.v 5), .none⟩,
      ⟨.tmp, .not (.t 0), .none⟩,
      ⟨.tmp, .move (.t 0), .none⟩]) (
    .cond (.t 0) (
     .seq (.reg [⟨(.var 1), .move (.c (.bool false)), .none⟩]) (
     .ret)) (
     .seq (.reg [⟨.tmp, .move (.v 3), .none⟩,
       ⟨.tmp, .call 28 [(.t 0)], .none⟩,
       ⟨.tmp, .move (.t 0), .none⟩]) (
     .cond (.t 0) (
      .seq (.reg [⟨.tmp, .move (.v 0), .none⟩,
        ⟨.tmp, .nilck (.t 0), .none⟩,
        ⟨.tmp, .fadr 0 (.t 0), .none⟩,
        ⟨.tmp, .load1 (.t 0), .none⟩,
        ⟨.tmp, .move (.v 0), .none⟩,
        ⟨.tmp, .nilck (.t 0), .none⟩,
        ⟨.tmp, .fadr 1 (.t 0), .none⟩,
        ⟨.tmp, .load1 (.t 0), .none⟩,
        ⟨.tmp, .move (.v 0), .none⟩,
        ⟨.tmp, .nilck (.t 0), .none⟩,
        ⟨.tmp, .fadr 1 (.t 0), .none⟩,
        ⟨.tmp, .load1 (.t 0), .none⟩,
        ⟨.tmp, .move (.v 4), .none⟩,
        ⟨.tmp, .bin .add (.t 1) (.t 0), .none⟩,
        ⟨.tmp, .slcStr (.t 10) (.some (.t 6)) (.some (.t 0)), .none⟩,
        ⟨.tmp, .fadr 0 (.v 2), .none⟩,
        ⟨.no, .store 1 (.t 0) (.c (.int .i64 (.ofNat 2))), .none⟩,
        ⟨.tmp, .fadr 1 (.v 2), .none⟩,
        ⟨.no, .store 1 (.t 0) (.t 2), .none⟩]) (
      .reg [⟨.tmp, .move (.v 0), .none⟩,
        ⟨.tmp, .move (.v 3), .none⟩,
        ⟨.tmp, .move (.v 4), .none⟩,
        ⟨.tmp, .call 29 [(.t 2), (.t 1), (.t 0)], .none⟩])) (
      .seq (.seq (.reg [⟨.tmp, .move (.v 0), .none⟩,
        ⟨.tmp, .call 23 [(.t 0), (.c (.fn 30 [] []))], .none⟩,
        ⟨.tmp, .not (.t 0), .none⟩]) (
      .cond (.t 0) (
       .seq (.reg [⟨(.var 1), .move (.c (.bool false)), .none⟩]) (
       .ret)) (
       .skip))) (
      .seq (.reg [⟨.tmp, .move (.v 0), .none⟩,
        ⟨.tmp, .nilck (.t 0), .none⟩,
        ⟨.tmp, .fadr 0 (.t 0), .none⟩,
        ⟨.tmp, .load1 (.t 0), .none⟩,
        ⟨.tmp, .fadr 2 (.v 2), .none⟩,
        ⟨.tmp, .load1 (.t 0), .none⟩,
        ⟨.tmp, .move (.v 0), .none⟩,
        ⟨.tmp, .nilck (.t 0), .none⟩,
        ⟨.tmp, .fadr 1 (.t 0), .none⟩,
        ⟨.tmp, .load1 (.t 0), .none⟩,
        ⟨.tmp, .slcStr (.t 6) (.some (.t 4)) (.some (.t 0)), .none⟩,
        ⟨.tmp, .fadr 1 (.v 2), .none⟩,
        ⟨.no, .store 1 (.t 0) (.t 1), .none⟩]) (
      .seq (.reg [⟨.tmp, .move (.v 0), .none⟩,
        ⟨.tmp, .mkfn 31 [(.t 0)] [], .none⟩,
        ⟨.tmp, .move (.v 0), .none⟩,
        ⟨.tmp, .mkfn 32 [(.t 0)] [], .none⟩,
        ⟨.tmp, .move (.v 0), .none⟩,
        ⟨.tmp, .mkfn 33 [(.t 0)] [], .none⟩,
        ⟨(.var 9), .buildS 1 [[.nilf], [.nilf], [.nilf]] [(0, (.t 4)), (1, (.t 2)), (2, (.t 0))], .none⟩,
        ⟨(.var 10), .len false (.v 9), .none⟩,
        ⟨(.var 11), .move (.c (.int .i64 (.ofNat 0))), .none⟩]) (
      .block 1 (
       .loop b18_0)))))))))))) r18_1))),
  [.opd (.v 1)]⟩
/-- (*telamon/telamonref12.lexer).pass -/
def vm19 : List Nat := [0, 2, 3]

def d19 : DF := ⟨[.some 0, .some 2, .some 3],
  .seq (.reg [⟨.tmp, .move (.v 0), .none⟩,
    ⟨.tmp, .nilck (.t 0), .none⟩,
    ⟨.tmp, .fadr 0 (.t 0), .none⟩,
    ⟨.tmp, .load1 (.t 0), .none⟩,
    ⟨.tmp, .move (.v 0), .none⟩,
    ⟨.tmp, .nilck (.t 0), .none⟩,
    ⟨.tmp, .fadr 1 (.t 0), .none⟩,
    ⟨.tmp, .load1 (.t 0), .none⟩,
    ⟨.tmp, .call 35 [(.t 4), (.t 0)], .none⟩,
    ⟨(.var 1), .move (.t 0), .none⟩]) (
  .seq (.seq (.reg [⟨.tmp, .move (.v 1), .none⟩,
    ⟨.tmp, .bin .eql (.t 0) (.c (.int .i64 (.ofNat 0))), .none⟩]) (
  .cond (.t 0) (
   .seq (.reg [⟨.tmp, .move (.v 0), .none⟩,
     ⟨.tmp, .nilck (.t 0), .none⟩,
     ⟨.tmp, .fadr 4 (.t 0), .none⟩,
     ⟨.no, .store 1 (.t 0) (.c (.int .i64 (.ofNat 40))), .none⟩]) (
   .ret)) (
   .skip))) (
  .seq (.reg [⟨.tmp, .move (.v 0), .none⟩,
    ⟨.tmp, .nilck (.t 0), .none⟩,
    ⟨.tmp, .fadr 0 (.t 0), .none⟩,
    ⟨.tmp, .load1 (.t 0), .none⟩,
    ⟨.tmp, .move (.v 0), .none⟩,
    ⟨.tmp, .nilck (.t 0), .none⟩,
    ⟨.tmp, .fadr 1 (.t 0), .none⟩,
    ⟨.tmp, .load1 (.t 0), .none⟩,
    ⟨.tmp, .idxStr (.t 4) (.t 0), .none⟩,
    ⟨(.var 2), .move (.t 0), .none⟩]) (
  .seq (.seq (.reg [⟨.tmp, .move (.v 2), .none⟩,
    ⟨.tmp, .bin .lss (.t 0) (.c (.int .u8 (.ofNat 32))), .none⟩,
    ⟨.tmp, .move (.t 0), .none⟩,
    ⟨.tmp, .move (.v 2), .some ((.t 0), true)⟩,
    ⟨.tmp, .bin .neq (.t 0) (.c (.int .u8 (.ofNat 10))), .some ((.t 1), true)⟩,
    ⟨.tmp, .pick (.t 2) (.t 0) (.c (.bool false)), .none⟩,
    ⟨.tmp, .move (.t 0), .none⟩,
    ⟨.tmp, .move (.v 2), .some ((.t 0), false)⟩,
    ⟨.tmp, .bin .eql (.t 0) (.c (.int .u8 (.ofNat 127))), .some ((.t 1), false)⟩,
    ⟨.tmp, .pick (.t 2) (.c (.bool true)) (.t 0), .none⟩]) (
  .cond (.t 0) (
   .seq (.reg [⟨.tmp, .move (.v 0), .none⟩,
     ⟨.tmp, .nilck (.t 0), .none⟩,
     ⟨.tmp, .fadr 4 (.t 0), .none⟩,
     ⟨.no, .store 1 (.t 0) (.c (.int .i64 (.ofNat 41))), .none⟩]) (
   .ret)) (
   .skip))) (
  .seq (.reg [⟨.tmp, .move (.v 0), .none⟩,
    ⟨.tmp, .move (.v 0), .none⟩,
    ⟨.tmp, .nilck (.t 0), .none⟩,
    ⟨.tmp, .fadr 1 (.t 0), .none⟩,
    ⟨.tmp, .load1 (.t 0), .none⟩,
    ⟨.tmp, .move (.v 1), .none⟩,
    ⟨.tmp, .bin .add (.t 1) (.t 0), .none⟩,
    ⟨.tmp, .nilck (.t 6), .none⟩,
    ⟨.tmp, .fadr 1 (.t 0), .none⟩,
    ⟨.no, .store 1 (.t 0) (.t 2), .none⟩]) (
  .seq (.reg [⟨.tmp, .move (.v 0), .none⟩,
    ⟨.tmp, .nilck (.t 0), .none⟩,
    ⟨.tmp, .fadr 3 (.t 0), .none⟩,
    ⟨.tmp, .load1 (.t 0), .none⟩,
    ⟨.tmp, .bin .add (.t 0) (.c (.int .i64 (.ofNat 1))), .none⟩,
    ⟨.tmp, .nilck (.t 4), .none⟩,
    ⟨.tmp, .fadr 3 (.t 0), .none⟩,
    ⟨.no, .store 1 (.t 0) (.t 2), .none⟩]) (
  .seq (.reg [⟨.tmp, .move (.v 2), .none⟩,
    ⟨.tmp, .bin .eql (.t 0) (.c (.int .u8 (.ofNat 10))), .none⟩]) (
  .cond (.t 0) (
   .seq (.reg [⟨.tmp, .move (.v 0), .none⟩,
     ⟨.tmp, .nilck (.t 0), .none⟩,
     ⟨.tmp, .fadr 2 (.t 0), .none⟩,
     ⟨.tmp, .load1 (.t 0), .none⟩,
     ⟨.tmp, .bin .add (.t 0) (.c (.int .i64 (.ofNat 1))), .none⟩,
     ⟨.tmp, .nilck (.t 4), .none⟩,
     ⟨.tmp, .fadr 2 (.t 0), .none⟩,
     ⟨.no, .store 1 (.t 0) (.t 2), .none⟩]) (
   .reg [⟨.tmp, .move (.v 0), .none⟩,
     ⟨.tmp, .nilck (.t 0), .none⟩,
     ⟨.tmp, .fadr 3 (.t 0), .none⟩,
     ⟨.no, .store 1 (.t 0) (.c (.int .i64 (.ofNat 1))), .none⟩])) (
   .skip)))))))),
  []⟩
/-- telamon/telamonref12.delim -/
def vm20 : List Nat := [0, 2]

def d20 : DF := ⟨[.some 0, .some 2],
  .seq (.reg [⟨(.var 1), .move (.c (.bool false)), .none⟩]) (
  .seq (.reg [⟨.tmp, .move (.v 0), .none⟩,
    ⟨.tmp, .bin .eql (.t 0) (.c (.int .u8 (.ofNat 40))), .none⟩,
    ⟨.tmp, .move (.t 0), .none⟩,
    ⟨.tmp, .move (.v 0), .some ((.t 0), false)⟩,
    ⟨.tmp, .bin .eql (.t 0) (.c (.int .u8 (.ofNat 41))), .some ((.t 1), false)⟩,
    ⟨.tmp, .pick (.t 2) (.c (.bool true)) (.t 0), .none⟩,
    ⟨.tmp, .move (.t 0), .none⟩,
    ⟨.tmp, .move (.v 0), .some ((.t 0), false)⟩,
    ⟨.tmp, .bin .eql (.t 0) (.c (.int .u8 (.ofNat 123))), .some ((.t 1), false)⟩,
    ⟨.tmp, .pick (.t 2) (.c (.bool true)) (.t 0), .none⟩,
    ⟨.tmp, .move (.t 0), .none⟩,
    ⟨.tmp, .move (.v 0), .some ((.t 0), false)⟩,
    ⟨.tmp, .bin .eql (.t 0) (.c (.int .u8 (.ofNat 125))), .some ((.t 1), false)⟩,
    ⟨.tmp, .pick (.t 2) (.c (.bool true)) (.t 0), .none⟩,
    ⟨.tmp, .move (.t 0), .none⟩,
    ⟨.tmp, .move (.v 0), .some ((.t 0), false)⟩,
    ⟨.tmp, .bin .eql (.t 0) (.c (.int .u8 (.ofNat 59))), .some ((.t 1), false)⟩,
    ⟨.tmp, .pick (.t 2) (.c (.bool true)) (.t 0), .none⟩,
    ⟨.tmp, .move (.t 0), .none⟩,
    ⟨.tmp, .move (.v 0), .some ((.t 0), false)⟩,
    ⟨.tmp, .bin .eql (.t 0) (.c (.int .u8 (.ofNat 44))), .some ((.t 1), false)⟩,
    ⟨.tmp, .pick (.t 2) (.c (.bool true)) (.t 0), .none⟩,
    ⟨(.var 1), .move (.t 0), .none⟩]) (
  .ret)),
  [.opd (.v 1)]⟩
/-- telamon/telamonref12.kind -/
def vm21 : List Nat := [0, 1, 4, 5, 6, 7]

def d21 : DF := ⟨[.some 0, .some 1, .some 4, .some 5, .some 6, .some 7],
  .seq (.reg [⟨(.var 2), .move (.c (.int .i64 (.ofNat 0))), .none⟩]) (
  .seq (.seq (.reg [⟨.tmp, .move (.v 0), .none⟩,
    ⟨.tmp, .nilck (.t 0), .none⟩,
    ⟨.tmp, .fadr 0 (.t 0), .none⟩,
    ⟨.tmp, .load1 (.t 0), .none⟩,
    ⟨.tmp, .bin .eql (.t 0) (.c (.int .i64 (.ofNat 2))), .none⟩]) (
  .cond (.t 0) (
   .seq (.reg [⟨(.var 2), .move (.c (.int .i64 (.ofNat 0))), .none⟩]) (
   .ret)) (
   .skip))) (
  .seq (.reg [⟨.tmp, .move (.v 1), .none⟩,
    ⟨.tmp, .call 15 [(.t 0)], .none⟩,
    ⟨(.var 3), .move (.t 0), .none⟩]) (
  .seq (.seq (.reg [⟨.tmp, .move (.v 3), .none⟩]) (
  .cond (.t 0) (
   .seq (.reg [⟨.tmp, .move (.v 0), .none⟩,
     ⟨.tmp, .nilck (.t 0), .none⟩,
     ⟨.tmp, .fadr 0 (.t 0), .none⟩,
     ⟨.no, .store 1 (.t 0) (.c (.int .i64 (.ofNat 2))), .none⟩]) (
   .seq (.seq (.reg [⟨.tmp, .move (.v 1), .none⟩,
     ⟨.tmp, .bin .eql (.t 0) (.c (.str 3 9602786)), .none⟩]) (
   .cond (.t 0) (
    .reg [⟨.tmp, .move (.v 0), .none⟩,
      ⟨.tmp, .nilck (.t 0), .none⟩,
      ⟨.tmp, .fadr 1 (.t 0), .none⟩,
      ⟨.no, .store 1 (.t 0) (.c (.str 2 15917)), .none⟩]) (
    .skip))) (
   .seq (.seq (.reg [⟨.tmp, .move (.v 1), .none⟩,
     ⟨.tmp, .bin .eql (.t 0) (.c (.str 2 48078)), .none⟩]) (
   .cond (.t 0) (
    .reg [⟨.tmp, .move (.v 0), .none⟩,
      ⟨.tmp, .nilck (.t 0), .none⟩,
      ⟨.tmp, .fadr 1 (.t 0), .none⟩,
      ⟨.no, .store 1 (.t 0) (.c (.str 1 92)), .none⟩]) (
    .skip))) (
   .seq (.reg [⟨(.var 2), .move (.c (.int .i64 (.ofNat 0))), .none⟩]) (
   .ret))))) (
   .skip))) (
  .seq (.reg [⟨.tmp, .move (.v 1), .none⟩,
    ⟨.tmp, .call 36 [(.t 0)], .none⟩,
    ⟨(.var 4), .move (.t 0), .none⟩]) (
  .seq (.seq (.reg [⟨.tmp, .move (.v 4), .none⟩]) (
  .cond (.t 0) (
   .seq (.reg [⟨.tmp, .move (.v 0), .none⟩,
     ⟨.tmp, .nilck (.t 0), .none⟩,
     ⟨.tmp, .fadr 0 (.t 0), .none⟩,
     ⟨.no, .store 1 (.t 0) (.c (.int .i64 (.ofNat 3))), .none⟩]) (
   .seq (.seq (.reg [⟨.tmp, .move (.v 1), .none⟩,
     ⟨.tmp, .len true (.t 0), .none⟩,
     ⟨.tmp, .bin .gtr (.t 0) (.c (.int .i64 (.ofNat 9))), .none⟩]) (
   .cond (.t 0) (
    .seq (.reg [⟨(.var 2), .move (.c (.int .i64 (.ofNat 41))), .none⟩]) (
    .ret)) (
    .skip))) (
   .seq (.reg [⟨(.var 2), .move (.c (.int .i64 (.ofNat 0))), .none⟩]) (
   .ret)))) (
   .skip))) (
  .seq (.reg [⟨.tmp, .move (.v 0), .none⟩,
    ⟨.tmp, .nilck (.t 0), .none⟩,
    ⟨.tmp, .fadr 0 (.t 0), .none⟩,
    ⟨.no, .store 1 (.t 0) (.c (.int .i64 (.ofNat 1))), .none⟩]) (
  .seq (.seq (.reg [⟨.tmp, .move (.v 1), .none⟩,
    ⟨.tmp, .len true (.t 0), .none⟩,
    ⟨.tmp, .bin .gtr (.t 0) (.c (.int .i64 (.ofNat 60))), .none⟩]) (
  .cond (.t 0) (
   .seq (.reg [⟨(.var 2), .move (.c (.int .i64 (.ofNat 2))), .none⟩]) (
   .ret)) (
   .skip))) (
  .seq (.reg [⟨.tmp, .move (.v 1), .none⟩,
    ⟨.tmp, .call 37 [(.t 0)], .none⟩,
    ⟨(.var 5), .move (.t 0), .none⟩]) (
  .seq (.seq (.reg [⟨.tmp, .move (.v 5), .none⟩]) (
  .cond (.t 0) (
   .seq (.reg [⟨(.var 2), .move (.c (.int .i64 (.ofNat 41))), .none⟩]) (
   .ret)) (
   .skip))) (
  .seq (.reg [⟨(.var 2), .move (.c (.int .i64 (.ofNat 0))), .none⟩]) (
  .ret))))))))))),
  [.opd (.v 2)]⟩
/-- strings.Fields -/
def vm22 : List Nat := [0, 2, 3, 4, 5, 6, 7, 8, 9, 10, 11, 12]
def b22_0 : DC :=
 .seq (.seq (.reg [⟨.tmp, .move (.v 5), .none⟩,
   ⟨.tmp, .move (.v 0), .none⟩,
   ⟨.tmp, .len true (.t 0), .none⟩,
   ⟨.tmp, .bin .lss (.t 2) (.t 0), .none⟩]) (
 .cond (.t 0) (
  .skip) (
  .exit 0))) (
 .seq (.block 1 (
  .seq (.reg [⟨.tmp, .move (.v 0), .none⟩,
    ⟨.tmp, .move (.v 5), .none⟩,
    ⟨.tmp, .idxStr (.t 1) (.t 0), .none⟩,
    ⟨(.var 6), .move (.t 0), .none⟩]) (
  .seq (.reg [⟨.tmp, .move (.v 4), .none⟩,
    ⟨.tmp, .move (.v 6), .none⟩,
    ⟨.tmp, .bin .or (.t 1) (.t 0), .none⟩,
    ⟨(.var 4), .move (.t 0), .none⟩]) (
  .seq (.reg [⟨.tmp, .move (.v 6), .none⟩,
    ⟨.tmp, .idxA 256 1 (.c (.gp 0 0)) (.t 0), .none⟩,
    ⟨.tmp, .load1 (.t 0), .none⟩,
    ⟨.tmp, .conv .i64 (.t 0), .none⟩,
    ⟨(.var 7), .move (.t 0), .none⟩]) (
  .seq (.reg [⟨.tmp, .move (.v 2), .none⟩,
    ⟨.tmp, .move (.v 3), .none⟩,
    ⟨.tmp, .move (.v 7), .none⟩,
    ⟨.tmp, .un1 false (.t 0), .none⟩,
    ⟨.tmp, .bin .and (.t 2) (.t 0), .none⟩,
    ⟨.tmp, .bin .add (.t 4) (.t 0), .none⟩,
    ⟨(.var 2), .move (.t 0), .none⟩]) (
  .reg [⟨.tmp, .move (.v 7), .none⟩,
    ⟨(.var 3), .move (.t 0), .none⟩])))))) (
 .reg [⟨.tmp, .move (.v 5), .none⟩,
   ⟨.tmp, .bin .add (.t 0) (.c (.int .i64 (.ofNat 1))), .none⟩,
   ⟨(.var 5), .move (.t 0), .none⟩]))
def b22_1 : DC :=
 .seq (.seq (.reg [⟨.tmp, .move (.v 11), .none⟩,
   ⟨.tmp, .move (.v 0), .none⟩,
   ⟨.tmp, .len true (.t 0), .none⟩,
   ⟨.tmp, .bin .lss (.t 2) (.t 0), .none⟩,
   ⟨.tmp, .move (.t 0), .none⟩,
   ⟨.tmp, .move (.v 0), .some ((.t 0), true)⟩,
   ⟨.tmp, .move (.v 11), .some ((.t 1), true)⟩,
   ⟨.tmp, .idxStr (.t 1) (.t 0), .some ((.t 2), true)⟩,
   ⟨.tmp, .idxA 256 1 (.c (.gp 0 0)) (.t 0), .some ((.t 3), true)⟩,
   ⟨.tmp, .load1 (.t 0), .some ((.t 4), true)⟩,
   ⟨.tmp, .bin .neq (.t 0) (.c (.int .u8 (.ofNat 0))), .some ((.t 5), true)⟩,
   ⟨.tmp, .pick (.t 6) (.t 0) (.c (.bool false)), .none⟩]) (
 .cond (.t 0) (
  .skip) (
  .exit 2))) (
 .block 3 (
  .reg [⟨.tmp, .move (.v 11), .none⟩,
    ⟨.tmp, .bin .add (.t 0) (.c (.int .i64 (.ofNat 1))), .none⟩,
    ⟨(.var 11), .move (.t 0), .none⟩]))
def b22_2 : DC :=
 .seq (.seq (.reg [⟨.tmp, .move (.v 11), .none⟩,
   ⟨.tmp, .move (.v 0), .none⟩,
   ⟨.tmp, .len true (.t 0), .none⟩,
   ⟨.tmp, .bin .lss (.t 2) (.t 0), .none⟩,
   ⟨.tmp, .move (.t 0), .none⟩,
   ⟨.tmp, .move (.v 0), .some ((.t 0), true)⟩,
   ⟨.tmp, .move (.v 11), .some ((.t 1), true)⟩,
   ⟨.tmp, .idxStr (.t 1) (.t 0), .some ((.t 2), true)⟩,
   ⟨.tmp, .idxA 256 1 (.c (.gp 0 0)) (.t 0), .some ((.t 3), true)⟩,
   ⟨.tmp, .load1 (.t 0), .some ((.t 4), true)⟩,
   ⟨.tmp, .bin .neq (.t 0) (.c (.int .u8 (.ofNat 0))), .some ((.t 5), true)⟩,
   ⟨.tmp, .pick (.t 6) (.t 0) (.c (.bool false)), .none⟩]) (
 .cond (.t 0) (
  .skip) (
  .exit 6))) (
 .block 7 (
  .reg [⟨.tmp, .move (.v 11), .none⟩,
    ⟨.tmp, .bin .add (.t 0) (.c (.int .i64 (.ofNat 1))), .none⟩,
    ⟨(.var 11), .move (.t 0), .none⟩]))
def r22_3 : DC :=
 .reg [⟨.tmp, .move (.v 11), .none⟩,
   ⟨(.var 10), .move (.t 0), .none⟩]
def b22_4 : DC :=
 .seq (.seq (.reg [⟨.tmp, .move (.v 11), .none⟩,
   ⟨.tmp, .move (.v 0), .none⟩,
   ⟨.tmp, .len true (.t 0), .none⟩,
   ⟨.tmp, .bin .lss (.t 2) (.t 0), .none⟩]) (
 .cond (.t 0) (
  .skip) (
  .exit 4))) (
 .block 5 (
  .seq (.seq (.reg [⟨.tmp, .move (.v 0), .none⟩,
    ⟨.tmp, .move (.v 11), .none⟩,
    ⟨.tmp, .idxStr (.t 1) (.t 0), .none⟩,
    ⟨.tmp, .idxA 256 1 (.c (.gp 0 0)) (.t 0), .none⟩,
    ⟨.tmp, .load1 (.t 0), .none⟩,
    ⟨.tmp, .bin .eql (.t 0) (.c (.int .u8 (.ofNat 0))), .none⟩]) (
  .cond (.t 0) (
   .seq (.reg [⟨.tmp, .move (.v 11), .none⟩,
     ⟨.tmp, .bin .add (.t 0) (.c (.int .i64 (.ofNat 1))), .none⟩,
     ⟨(.var 11), .move (.t 0), .none⟩]) (
   .exit 5)) (
   .skip))) (
  .seq (.reg [⟨.tmp, .move (.v 8), .none⟩,
    ⟨.tmp, .move (.v 9), .none⟩,
    ⟨.tmp, .move (.v 0), .none⟩,
    ⟨.tmp, .move (.v 10), .none⟩,
    ⟨.tmp, .move (.v 11), .none⟩,
    ⟨.tmp, .slcStr (.t 2) (.some (.t 1)) (.some (.t 0)), .none⟩,
    ⟨.tmp, .idxS 1 (.t 5) (.t 4), .none⟩,
    ⟨.no, .store 1 (.t 0) (.t 1), .none⟩]) (
  .seq (.reg [⟨.tmp, .move (.v 9), .none⟩,
    ⟨.tmp, .bin .add (.t 0) (.c (.int .i64 (.ofNat 1))), .none⟩,
    ⟨(.var 9), .move (.t 0), .none⟩]) (
  .seq (.reg [⟨.tmp, .move (.v 11), .none⟩,
    ⟨.tmp, .bin .add (.t 0) (.c (.int .i64 (.ofNat 1))), .none⟩,
    ⟨(.var 11), .move (.t 0), .none⟩]) (
  .seq (.block 6 (
   .loop b22_2)) r22_3))))))
def r22_5 : DC :=
 .seq (.seq (.reg [⟨.tmp, .move (.v 10), .none⟩,
   ⟨.tmp, .move (.v 0), .none⟩,
   ⟨.tmp, .len true (.t 0), .none⟩,
   ⟨.tmp, .bin .lss (.t 2) (.t 0), .none⟩]) (
 .cond (.t 0) (
  .reg [⟨.tmp, .move (.v 8), .none⟩,
    ⟨.tmp, .move (.v 9), .none⟩,
    ⟨.tmp, .move (.v 0), .none⟩,
    ⟨.tmp, .move (.v 10), .none⟩,
    ⟨.tmp, .slcStr (.t 1) (.some (.t 0)) .none, .none⟩,
    ⟨.tmp, .idxS 1 (.t 4) (.t 3), .none⟩,
    ⟨.no, .store 1 (.t 0) (.t 1), .none⟩]) (
  .skip))) (
 .seq (.reg [⟨.tmp, .move (.v 8), .none⟩,
   ⟨(.var 1), .move (.t 0), .none⟩]) (
 .ret))
def r22_6 : DC :=
 .seq (.reg [⟨.tmp, .move (.v 11), .none⟩,
   ⟨(.var 10), .move (.t 0), .none⟩]) (
 .seq (.block 4 (
  .loop b22_4)) r22_5)
def r22_7 : DC :=
 .seq (.seq (.reg [⟨.tmp, .move (.v 4), .none⟩,
   ⟨.tmp, .bin .geq (.t 0) (.c (.int .u8 (.ofNat 128))), .none⟩]) (
 .cond (.t 0) (
  .seq (.reg [⟨.tmp, .move (.v 0), .none⟩,
    ⟨.tmp, .call 38 [(.t 0), (.c (.fn 39 [] []))], .none⟩,
    ⟨(.var 1), .move (.t 0), .none⟩]) (
  .ret)) (
  .skip))) (
 .seq (.reg [⟨.tmp, .move (.v 2), .none⟩,
   ⟨.tmp, .mkS [.str 0 0] 16 (.t 0) (.t 0), .none⟩,
   ⟨(.var 8), .move (.t 0), .none⟩]) (
 .seq (.reg [⟨(.var 9), .move (.c (.int .i64 (.ofNat 0))), .none⟩]) (
 .seq (.reg [⟨(.var 10), .move (.c (.int .i64 (.ofNat 0))), .none⟩]) (
 .seq (.reg [⟨(.var 11), .move (.c (.int .i64 (.ofNat 0))), .none⟩]) (
 .seq (.block 2 (
  .loop b22_1)) r22_6)))))
def d22 : DF := ⟨[.some 0, .some 2, .some 3, .some 4, .some 5, .some 6, .some 7, .some 8, .some 9, .some 10, .some 11, .some 12],
  .seq (.reg [⟨(.var 1), .move (.c (.nils)), .none⟩]) (
  .seq (.reg [⟨(.var 2), .move (.c (.int .i64 (.ofNat 0))), .none⟩]) (
  .seq (.reg [⟨(.var 3), .move (.c (.int .i64 (.ofNat 1))), .none⟩]) (
  .seq (.reg [⟨(.var 4), .move (.c (.int .u8 (.ofNat 0))), .none⟩]) (
  .seq (.seq (.reg [⟨(.var 5), .move (.c (.int .i64 (.ofNat 0))), .none⟩]) (
  .block 0 (
   .loop b22_0))) r22_7)))),
  [.opd (.v 1)]⟩
/-- (*telamon/lex.scanner).till -/
def vm23 : List Nat := [0, 1, 4, 5, 6, 7]
def b23_0 : DC :=
 .seq (.seq (.reg [⟨.tmp, .move (.v 0), .none⟩,
   ⟨.tmp, .nilck (.t 0), .none⟩,
   ⟨.tmp, .fadr 1 (.t 0), .none⟩,
   ⟨.tmp, .load1 (.t 0), .none⟩,
   ⟨.tmp, .move (.v 0), .none⟩,
   ⟨.tmp, .nilck (.t 0), .none⟩,
   ⟨.tmp, .fadr 0 (.t 0), .none⟩,
   ⟨.tmp, .load1 (.t 0), .none⟩,
   ⟨.tmp, .len true (.t 0), .none⟩,
   ⟨.tmp, .bin .lss (.t 5) (.t 0), .none⟩]) (
 .cond (.t 0) (
  .skip) (
  .exit 0))) (
 .block 1 (
  .seq (.reg [⟨.tmp, .move (.v 0), .none⟩,
    ⟨.tmp, .call 27 [(.t 0)], .none⟩,
    ⟨.tmp, .move (.t 0), .none⟩,
    ⟨.tmp, .ext (.t 0) 0, .none⟩,
    ⟨.tmp, .ext (.t 1) 1, .none⟩,
    ⟨.tmp, .ext (.t 2) 2, .none⟩,
    ⟨(.var 3), .move (.t 2), .none⟩,
    ⟨(.var 4), .move (.t 1), .none⟩,
    ⟨(.var 5), .move (.t 0), .none⟩]) (
  .seq (.seq (.reg [⟨.tmp, .move (.v 5), .none⟩,
    ⟨.tmp, .not (.t 0), .none⟩]) (
  .cond (.t 0) (
   .seq (.reg [⟨(.var 2), .move (.c (.bool false)), .none⟩]) (
   .ret)) (
   .skip))) (
  .seq (.seq (.reg [⟨.tmp, .move (.v 1), .none⟩,
    ⟨.tmp, .move (.v 3), .none⟩,
    ⟨.tmp, .callv (.t 1) [(.t 0)], .none⟩]) (
  .cond (.t 0) (
   .seq (.reg [⟨(.var 2), .move (.c (.bool true)), .none⟩]) (
   .ret)) (
   .skip))) (
  .reg [⟨.tmp, .move (.v 0), .none⟩,
    ⟨.tmp, .move (.v 3), .none⟩,
    ⟨.tmp, .move (.v 4), .none⟩,
    ⟨.tmp, .call 29 [(.t 2), (.t 1), (.t 0)], .none⟩])))))
def r23_1 : DC :=
 .seq (.reg [⟨(.var 2), .move (.c (.bool true)), .none⟩]) (
 .ret)
def d23 : DF := ⟨[.some 0, .some 1, .some 4, .some 5, .some 6, .some 7],
  .seq (.reg [⟨(.var 2), .move (.c (.bool false)), .none⟩]) (
  .seq (.block 0 (
   .loop b23_0)) r23_1),
  [.opd (.v 2)]⟩
/-- telamon/lex.solid -/
def vm24 : List Nat := [0, 2]

def d24 : DF := ⟨[.some 0, .some 2],
  .seq (.reg [⟨(.var 1), .move (.c (.bool false)), .none⟩]) (
  .seq (.reg [⟨.tmp, .move (.v 0), .none⟩,
    ⟨.tmp, .bin .neq (.t 0) (.c (.int .i32 (.ofNat 32))), .none⟩,
    ⟨.tmp, .move (.t 0), .none⟩,
    ⟨.tmp, .move (.v 0), .some ((.t 0), true)⟩,
    ⟨.tmp, .bin .neq (.t 0) (.c (.int .i32 (.ofNat 10))), .some ((.t 1), true)⟩,
    ⟨.tmp, .pick (.t 2) (.t 0) (.c (.bool false)), .none⟩,
    ⟨(.var 1), .move (.t 0), .none⟩]) (
  .ret)),
  [.opd (.v 1)]⟩
/-- strings.HasPrefix -/
def vm25 : List Nat := [0, 1, 4]

def d25 : DF := ⟨[.some 0, .some 1, .some 4],
  .seq (.reg [⟨(.var 2), .move (.c (.bool false)), .none⟩]) (
  .seq (.reg [⟨.tmp, .move (.v 0), .none⟩,
    ⟨.tmp, .move (.v 1), .none⟩,
    ⟨.tmp, .call 40 [(.t 1), (.t 0)], .none⟩,
    ⟨(.var 2), .move (.t 0), .none⟩]) (
  .ret)),
  [.opd (.v 2)]⟩
/-- (*telamon/lex.scanner).blank$1 -/
def vm26 : List Nat := [0, 2]

def d26 : DF := ⟨[.some 0, .some 2],
  .seq (.reg [⟨(.var 1), .move (.c (.bool false)), .none⟩]) (
  .seq (.reg [⟨.tmp, .move (.v 0), .none⟩,
    ⟨.tmp, .bin .eql (.t 0) (.c (.int .i32 (.ofNat 10))), .none⟩,
    ⟨(.var 1), .move (.t 0), .none⟩]) (
  .ret)),
  [.opd (.v 1)]⟩
/-- (*telamon/lex.scanner).rune -/
def vm27 : List Nat := [0, 2, 3, 4, 5, 6, 43]

def d27 : DF := ⟨[.some 0, .some 2, .some 3, .some 4, .some 5, .some 6, .some 43],
  .seq (.reg [⟨(.var 1), .move (.c (.int .i32 (.ofNat 0))), .none⟩,
    ⟨(.var 2), .move (.c (.int .i64 (.ofNat 0))), .none⟩,
    ⟨(.var 3), .move (.c (.bool false)), .none⟩]) (
  .seq (.seq (.reg [⟨.tmp, .move (.v 0), .none⟩,
    ⟨.tmp, .nilck (.t 0), .none⟩,
    ⟨.tmp, .fadr 1 (.t 0), .none⟩,
    ⟨.tmp, .load1 (.t 0), .none⟩,
    ⟨.tmp, .move (.v 0), .none⟩,
    ⟨.tmp, .nilck (.t 0), .none⟩,
    ⟨.tmp, .fadr 0 (.t 0), .none⟩,
    ⟨.tmp, .load1 (.t 0), .none⟩,
    ⟨.tmp, .len true (.t 0), .none⟩,
    ⟨.tmp, .bin .geq (.t 5) (.t 0), .none⟩]) (
  .cond (.t 0) (
   .seq (.reg [⟨(.var 1), .move (.c (.int .i32 (.ofNat 0))), .none⟩,
     ⟨(.var 2), .move (.c (.int .i64 (.ofNat 0))), .none⟩,
     ⟨(.var 3), .move (.c (.bool false)), .none⟩]) (
   .ret)) (
   .skip))) (
  .seq (.reg [⟨.tmp, .move (.v 0), .none⟩,
    ⟨.tmp, .nilck (.t 0), .none⟩,
    ⟨.tmp, .fadr 0 (.t 0), .none⟩,
    ⟨.tmp, .load1 (.t 0), .none⟩,
    ⟨.tmp, .move (.v 0), .none⟩,
    ⟨.tmp, .nilck (.t 0), .none⟩,
    ⟨.tmp, .fadr 1 (.t 0), .none⟩,
    ⟨.tmp, .load1 (.t 0), .none⟩,
    ⟨.tmp, .slcStr (.t 4) (.some (.t 0)) .none, .none⟩,
    ⟨.tmp, .call 41 [(.t 0)], .none⟩,
    ⟨.tmp, .move (.t 0), .none⟩,
    ⟨.tmp, .ext (.t 0) 0, .none⟩,
    ⟨.tmp, .ext (.t 1) 1, .none⟩,
    ⟨(.var 4), .move (.t 1), .none⟩,
    ⟨(.var 5), .move (.t 0), .none⟩]) (
  .seq (.block 0 (
   .seq (.reg [⟨.tmp, .move (.v 4), .none⟩,
     ⟨.tmp, .bin .eql (.t 0) (.c (.int .i32 (.ofNat 65533))), .none⟩,
     ⟨.tmp, .move (.t 0), .none⟩,
     ⟨.tmp, .move (.v 5), .some ((.t 0), true)⟩,
     ⟨.tmp, .bin .leq (.t 0) (.c (.int .i64 (.ofNat 1))), .some ((.t 1), true)⟩,
     ⟨.tmp, .pick (.t 2) (.t 0) (.c (.bool false)), .none⟩,
     ⟨.tmp, .move (.t 0), .none⟩]) (
   .cond (.t 0) (
    .seq (.reg [⟨.tmp, .move (.v 0), .none⟩,
      ⟨.tmp, .move (.v 0), .none⟩,
      ⟨.tmp, .nilck (.t 0), .none⟩,
      ⟨.tmp, .fadr 1 (.t 0), .none⟩,
      ⟨.tmp, .load1 (.t 0), .none⟩,
      ⟨.tmp, .call 34 [(.t 4), (.t 0), (.c (.int .i64 (.ofNat 40)))], .none⟩,
      ⟨(.var 1), .move (.c (.int .i32 (.ofNat 0))), .none⟩,
      ⟨(.var 2), .move (.c (.int .i64 (.ofNat 0))), .none⟩,
      ⟨(.var 3), .move (.t 0), .none⟩]) (
    .ret)) (
    .seq (.seq (.reg [⟨.tmp, .move (.v 4), .none⟩,
      ⟨.tmp, .bin .lss (.t 0) (.c (.int .i32 (.ofNat 32))), .none⟩,
      ⟨.tmp, .move (.t 0), .none⟩,
      ⟨.tmp, .move (.v 4), .some ((.t 0), true)⟩,
      ⟨.tmp, .bin .neq (.t 0) (.c (.int .i32 (.ofNat 10))), .some ((.t 1), true)⟩,
      ⟨.tmp, .pick (.t 2) (.t 0) (.c (.bool false)), .none⟩,
      ⟨(.var 6), .move (.t 0), .none⟩]) (
    .cond (.v 6) (
     .skip) (
     .reg [⟨.tmp, .move (.v 4), .none⟩,
       ⟨.tmp, .bin .eql (.t 0) (.c (.int .i32 (.ofNat 127))), .none⟩,
       ⟨(.var 6), .move (.t 0), .none⟩]))) (
    .cond (.v 6) (
     .seq (.reg [⟨.tmp, .move (.v 0), .none⟩,
       ⟨.tmp, .move (.v 0), .none⟩,
       ⟨.tmp, .nilck (.t 0), .none⟩,
       ⟨.tmp, .fadr 1 (.t 0), .none⟩,
       ⟨.tmp, .load1 (.t 0), .none⟩,
       ⟨.tmp, .call 34 [(.t 4), (.t 0), (.c (.int .i64 (.ofNat 41)))], .none⟩,
       ⟨(.var 1), .move (.c (.int .i32 (.ofNat 0))), .none⟩,
       ⟨(.var 2), .move (.c (.int .i64 (.ofNat 0))), .none⟩,
       ⟨(.var 3), .move (.t 0), .none⟩]) (
     .ret)) (
     .skip)))))) (
  .seq (.reg [⟨.tmp, .move (.v 4), .none⟩,
    ⟨.tmp, .move (.v 5), .none⟩,
    ⟨(.var 1), .move (.t 1), .none⟩,
    ⟨(.var 2), .move (.t 0), .none⟩,
    ⟨(.var 3), .move (.c (.bool true)), .none⟩]) (
  .ret))))),
  [.opd (.v 1), .opd (.v 2), .opd (.v 3)]⟩
/-- telamon/lex.single -/
def vm28 : List Nat := [0, 2]

def d28 : DF := ⟨[.some 0, .some 2],
  .seq (.reg [⟨(.var 1), .move (.c (.bool false)), .none⟩]) (
  .seq (.reg [⟨.tmp, .move (.v 0), .none⟩,
    ⟨.tmp, .call 42 [(.c (.str 6 48634019916072)), (.t 0)], .none⟩,
    ⟨(.var 1), .move (.t 0), .none⟩]) (
  .ret)),
  [.opd (.v 1)]⟩
/-- (*telamon/lex.scanner).step -/
def vm29 : List Nat := [0, 1, 2]

def d29 : DF := ⟨[.some 0, .some 1, .some 2],
  .seq (.reg [⟨.tmp, .move (.v 0), .none⟩,
    ⟨.tmp, .nilck (.t 0), .none⟩,
    ⟨.tmp, .fadr 1 (.t 0), .none⟩,
    ⟨.tmp, .load1 (.t 0), .none⟩,
    ⟨.tmp, .move (.v 2), .none⟩,
    ⟨.tmp, .bin .add (.t 1) (.t 0), .none⟩,
    ⟨.tmp, .nilck (.t 5), .none⟩,
    ⟨.tmp, .fadr 1 (.t 0), .none⟩,
    ⟨.no, .store 1 (.t 0) (.t 2), .none⟩]) (
  .seq (.reg [⟨.tmp, .move (.v 0), .none⟩,
    ⟨.tmp, .nilck (.t 0), .none⟩,
    ⟨.tmp, .fadr 3 (.t 0), .none⟩,
    ⟨.tmp, .load1 (.t 0), .none⟩,
    ⟨.tmp, .bin .add (.t 0) (.c (.int .i64 (.ofNat 1))), .none⟩,
    ⟨.tmp, .nilck (.t 4), .none⟩,
    ⟨.tmp, .fadr 3 (.t 0), .none⟩,
    ⟨.no, .store 1 (.t 0) (.t 2), .none⟩]) (
  .seq (.reg [⟨.tmp, .move (.v 1), .none⟩,
    ⟨.tmp, .bin .eql (.t 0) (.c (.int .i32 (.ofNat 10))), .none⟩]) (
  .cond (.t 0) (
   .seq (.reg [⟨.tmp, .move (.v 0), .none⟩,
     ⟨.tmp, .nilck (.t 0), .none⟩,
     ⟨.tmp, .fadr 2 (.t 0), .none⟩,
     ⟨.tmp, .load1 (.t 0), .none⟩,
     ⟨.tmp, .bin .add (.t 0) (.c (.int .i64 (.ofNat 1))), .none⟩,
     ⟨.tmp, .nilck (.t 4), .none⟩,
     ⟨.tmp, .fadr 2 (.t 0), .none⟩,
     ⟨.no, .store 1 (.t 0) (.t 2), .none⟩]) (
   .reg [⟨.tmp, .move (.v 0), .none⟩,
     ⟨.tmp, .nilck (.t 0), .none⟩,
     ⟨.tmp, .fadr 3 (.t 0), .none⟩,
     ⟨.no, .store 1 (.t 0) (.c (.int .i64 (.ofNat 1))), .none⟩])) (
   .skip)))),
  []⟩
/-- telamon/lex.ends -/
def vm30 : List Nat := [0, 2]

def d30 : DF := ⟨[.some 0, .some 2],
  .seq (.reg [⟨(.var 1), .move (.c (.bool false)), .none⟩]) (
  .seq (.reg [⟨.tmp, .move (.v 0), .none⟩,
    ⟨.tmp, .call 24 [(.t 0)], .none⟩,
    ⟨.tmp, .not (.t 0), .none⟩,
    ⟨.tmp, .move (.t 0), .none⟩,
    ⟨.tmp, .move (.v 0), .some ((.t 0), false)⟩,
    ⟨.tmp, .call 28 [(.t 0)], .some ((.t 1), false)⟩,
    ⟨.tmp, .pick (.t 2) (.c (.bool true)) (.t 0), .none⟩,
    ⟨(.var 1), .move (.t 0), .none⟩]) (
  .ret)),
  [.opd (.v 1)]⟩
/-- (*telamon/lex.scanner).asWord -/
def vm31 : List Nat := [0, 1, 4, 5, 6, 21]

def d31 : DF := ⟨[.some 0, .some 1, .some 4, .some 5, .some 6, .some 21],
  .seq (.reg [⟨(.var 2), .move (.c (.bool false)), .none⟩,
    ⟨(.var 3), .move (.c (.int .i64 (.ofNat 0))), .none⟩]) (
  .seq (.reg [⟨.tmp, .move (.v 0), .none⟩,
    ⟨.tmp, .nilck (.t 0), .none⟩,
    ⟨.tmp, .fadr 4 (.t 0), .none⟩,
    ⟨.tmp, .load1 (.t 0), .none⟩,
    ⟨.tmp, .move (.v 1), .none⟩,
    ⟨.tmp, .nilck (.t 0), .none⟩,
    ⟨.tmp, .fadr 1 (.t 0), .none⟩,
    ⟨.tmp, .load1 (.t 0), .none⟩,
    ⟨.tmp, .lkp (.int .i64 (.ofNat 0)) 1 false (.t 4) (.t 0), .none⟩,
    ⟨(.var 4), .move (.t 0), .none⟩]) (
  .seq (.seq (.reg [⟨.tmp, .move (.v 4), .none⟩,
    ⟨.tmp, .bin .eql (.t 0) (.c (.int .i64 (.ofNat 0))), .none⟩]) (
  .cond (.t 0) (
   .seq (.reg [⟨(.var 2), .move (.c (.bool false)), .none⟩,
     ⟨(.var 3), .move (.c (.int .i64 (.ofNat 0))), .none⟩]) (
   .ret)) (
   .skip))) (
  .seq (.reg [⟨.tmp, .move (.v 1), .none⟩,
    ⟨.tmp, .nilck (.t 0), .none⟩,
    ⟨.tmp, .fadr 0 (.t 0), .none⟩,
    ⟨.no, .store 1 (.t 0) (.c (.int .i64 (.ofNat 2))), .none⟩]) (
  .seq (.seq (.reg [⟨(.var 5), .move (.v 4), .none⟩]) (
  .block 0 (
   .seq (.reg [⟨.tmp, .bin .eql (.v 5) (.c (.int .i64 (.ofNat 2))), .none⟩,
     ⟨.tmp, .move (.t 0), .none⟩]) (
   .cond (.t 0) (
    .reg [⟨.tmp, .move (.v 1), .none⟩,
      ⟨.tmp, .nilck (.t 0), .none⟩,
      ⟨.tmp, .fadr 1 (.t 0), .none⟩,
      ⟨.no, .store 1 (.t 0) (.c (.str 2 15917)), .none⟩]) (
    .seq (.reg [⟨.tmp, .bin .eql (.v 5) (.c (.int .i64 (.ofNat 3))), .none⟩,
      ⟨.tmp, .move (.t 0), .none⟩]) (
    .cond (.t 0) (
     .reg [⟨.tmp, .move (.v 1), .none⟩,
       ⟨.tmp, .nilck (.t 0), .none⟩,
       ⟨.tmp, .fadr 1 (.t 0), .none⟩,
       ⟨.no, .store 1 (.t 0) (.c (.str 1 92)), .none⟩]) (
     .skip))))))) (
  .seq (.reg [⟨(.var 2), .move (.c (.bool true)), .none⟩,
    ⟨(.var 3), .move (.c (.int .i64 (.ofNat 0))), .none⟩]) (
  .ret)))))),
  [.opd (.v 2), .opd (.v 3)]⟩
/-- (*telamon/lex.scanner).asNumber -/
def vm32 : List Nat := [1, 4, 5]

def d32 : DF := ⟨[.some 1, .some 4, .some 5],
  .seq (.reg [⟨(.var 1), .move (.c (.bool false)), .none⟩,
    ⟨(.var 2), .move (.c (.int .i64 (.ofNat 0))), .none⟩]) (
  .seq (.seq (.reg [⟨.tmp, .move (.v 0), .none⟩,
    ⟨.tmp, .nilck (.t 0), .none⟩,
    ⟨.tmp, .fadr 1 (.t 0), .none⟩,
    ⟨.tmp, .load1 (.t 0), .none⟩,
    ⟨.tmp, .call 43 [(.t 0), (.c (.str 10 270211885617516653982000))], .none⟩,
    ⟨.tmp, .bin .neq (.t 0) (.c (.str 0 0)), .none⟩]) (
  .cond (.t 0) (
   .seq (.reg [⟨(.var 1), .move (.c (.bool false)), .none⟩,
     ⟨(.var 2), .move (.c (.int .i64 (.ofNat 0))), .none⟩]) (
   .ret)) (
   .skip))) (
  .seq (.reg [⟨.tmp, .move (.v 0), .none⟩,
    ⟨.tmp, .nilck (.t 0), .none⟩,
    ⟨.tmp, .fadr 0 (.t 0), .none⟩,
    ⟨.no, .store 1 (.t 0) (.c (.int .i64 (.ofNat 3))), .none⟩]) (
  .seq (.seq (.reg [⟨.tmp, .move (.v 0), .none⟩,
    ⟨.tmp, .nilck (.t 0), .none⟩,
    ⟨.tmp, .fadr 1 (.t 0), .none⟩,
    ⟨.tmp, .load1 (.t 0), .none⟩,
    ⟨.tmp, .len true (.t 0), .none⟩,
    ⟨.tmp, .bin .gtr (.t 0) (.c (.int .i64 (.ofNat 9))), .none⟩]) (
  .cond (.t 0) (
   .seq (.reg [⟨(.var 1), .move (.c (.bool true)), .none⟩,
     ⟨(.var 2), .move (.c (.int .i64 (.ofNat 41))), .none⟩]) (
   .ret)) (
   .skip))) (
  .seq (.reg [⟨(.var 1), .move (.c (.bool true)), .none⟩,
    ⟨(.var 2), .move (.c (.int .i64 (.ofNat 0))), .none⟩]) (
  .ret))))),
  [.opd (.v 1), .opd (.v 2)]⟩
/-- (*telamon/lex.scanner).asName -/
def vm33 : List Nat := [1, 4, 5]

def d33 : DF := ⟨[.some 1, .some 4, .some 5],
  .seq (.reg [⟨(.var 1), .move (.c (.bool false)), .none⟩,
    ⟨(.var 2), .move (.c (.int .i64 (.ofNat 0))), .none⟩]) (
  .seq (.reg [⟨.tmp, .move (.v 0), .none⟩,
    ⟨.tmp, .nilck (.t 0), .none⟩,
    ⟨.tmp, .fadr 0 (.t 0), .none⟩,
    ⟨.no, .store 1 (.t 0) (.c (.int .i64 (.ofNat 1))), .none⟩]) (
  .seq (.block 0 (
   .seq (.reg [⟨.tmp, .move (.v 0), .none⟩,
     ⟨.tmp, .nilck (.t 0), .none⟩,
     ⟨.tmp, .fadr 1 (.t 0), .none⟩,
     ⟨.tmp, .load1 (.t 0), .none⟩,
     ⟨.tmp, .len true (.t 0), .none⟩,
     ⟨.tmp, .bin .gtr (.t 0) (.c (.int .i64 (.ofNat 60))), .none⟩,
     ⟨.tmp, .move (.t 0), .none⟩]) (
   .cond (.t 0) (
    .seq (.reg [⟨(.var 1), .move (.c (.bool true)), .none⟩,
      ⟨(.var 2), .move (.c (.int .i64 (.ofNat 2))), .none⟩]) (
    .ret)) (
    .seq (.reg [⟨.tmp, .move (.v 0), .none⟩,
      ⟨.tmp, .nilck (.t 0), .none⟩,
      ⟨.tmp, .fadr 1 (.t 0), .none⟩,
      ⟨.tmp, .load1 (.t 0), .none⟩,
      ⟨.tmp, .call 44 [(.t 0)], .none⟩,
      ⟨.tmp, .move (.t 0), .none⟩]) (
    .cond (.t 0) (
     .seq (.reg [⟨(.var 1), .move (.c (.bool true)), .none⟩,
       ⟨(.var 2), .move (.c (.int .i64 (.ofNat 41))), .none⟩]) (
     .ret)) (
     .skip)))))) (
  .seq (.reg [⟨(.var 1), .move (.c (.bool true)), .none⟩,
    ⟨(.var 2), .move (.c (.int .i64 (.ofNat 0))), .none⟩]) (
  .ret)))),
  [.opd (.v 1), .opd (.v 2)]⟩
/-- (*telamon/lex.scanner).fail -/
def vm34 : List Nat := [0, 1, 2, 6]

def d34 : DF := ⟨[.some 0, .some 1, .some 2, .some 6],
  .seq (.reg [⟨(.var 3), .move (.c (.bool false)), .none⟩]) (
  .seq (.seq (.reg [⟨.tmp, .move (.v 0), .none⟩,
    ⟨.tmp, .nilck (.t 0), .none⟩,
    ⟨.tmp, .fadr 6 (.t 0), .none⟩,
    ⟨.tmp, .load1 (.t 0), .none⟩,
    ⟨.tmp, .bin .eql (.t 0) (.c (.int .i64 (.ofNat 0))), .none⟩]) (
  .cond (.t 0) (
   .reg [⟨.tmp, .move (.v 0), .none⟩,
     ⟨.tmp, .move (.v 0), .none⟩,
     ⟨.tmp, .move (.v 2), .none⟩,
     ⟨.tmp, .move (.v 1), .none⟩,
     ⟨.tmp, .nilck (.t 3), .none⟩,
     ⟨.tmp, .fadr 6 (.t 0), .none⟩,
     ⟨.no, .store 1 (.t 0) (.t 3), .none⟩,
     ⟨.tmp, .nilck (.t 4), .none⟩,
     ⟨.tmp, .fadr 7 (.t 0), .none⟩,
     ⟨.no, .store 1 (.t 0) (.t 4), .none⟩]) (
   .skip))) (
  .seq (.reg [⟨(.var 3), .move (.c (.bool false)), .none⟩]) (
  .ret))),
  [.opd (.v 3)]⟩
/-- telamon/telamonref12.Rune -/
def vm35 : List Nat := [0, 1, 4, 5, 6, 7, 8, 9, 10]
def b35_0 : DC :=
 .seq (.seq (.reg [⟨.tmp, .move (.v 7), .none⟩,
   ⟨.tmp, .move (.v 4), .none⟩,
   ⟨.tmp, .bin .lss (.t 1) (.t 0), .none⟩]) (
 .cond (.t 0) (
  .skip) (
  .exit 1))) (
 .seq (.block 2 (
  .seq (.reg [⟨.tmp, .move (.v 0), .none⟩,
    ⟨.tmp, .move (.v 1), .none⟩,
    ⟨.tmp, .move (.v 7), .none⟩,
    ⟨.tmp, .bin .add (.t 1) (.t 0), .none⟩,
    ⟨.tmp, .idxStr (.t 3) (.t 0), .none⟩,
    ⟨.tmp, .conv .i64 (.t 0), .none⟩,
    ⟨(.var 8), .move (.t 0), .none⟩]) (
  .seq (.seq (.reg [⟨.tmp, .move (.v 8), .none⟩,
    ⟨.tmp, .bin .lss (.t 0) (.c (.int .i64 (.ofNat 128))), .none⟩,
    ⟨.tmp, .move (.t 0), .none⟩,
    ⟨.tmp, .move (.v 8), .some ((.t 0), false)⟩,
    ⟨.tmp, .bin .geq (.t 0) (.c (.int .i64 (.ofNat 192))), .some ((.t 1), false)⟩,
    ⟨.tmp, .pick (.t 2) (.c (.bool true)) (.t 0), .none⟩]) (
  .cond (.t 0) (
   .seq (.reg [⟨(.var 2), .move (.c (.int .i64 (.ofNat 0))), .none⟩]) (
   .ret)) (
   .skip))) (
  .reg [⟨.tmp, .move (.v 6), .none⟩,
    ⟨.tmp, .bin .mul (.c (.int .i64 (.ofNat 64))) (.t 0), .none⟩,
    ⟨.tmp, .move (.v 8), .none⟩,
    ⟨.tmp, .bin .add (.t 1) (.t 0), .none⟩,
    ⟨.tmp, .bin .sub (.t 0) (.c (.int .i64 (.ofNat 128))), .none⟩,
    ⟨(.var 6), .move (.t 0), .none⟩])))) (
 .reg [⟨.tmp, .move (.v 7), .none⟩,
   ⟨.tmp, .bin .add (.t 0) (.c (.int .i64 (.ofNat 1))), .none⟩,
   ⟨(.var 7), .move (.t 0), .none⟩]))
def r35_1 : DC :=
 .seq (.seq (.reg [⟨.tmp, .move (.v 6), .none⟩,
   ⟨.tmp, .move (.v 5), .none⟩,
   ⟨.tmp, .bin .lss (.t 1) (.t 0), .none⟩,
   ⟨.tmp, .move (.t 0), .none⟩,
   ⟨.tmp, .move (.v 6), .some ((.t 0), false)⟩,
   ⟨.tmp, .bin .geq (.t 0) (.c (.int .i64 (.ofNat 55296))), .some ((.t 1), false)⟩,
   ⟨.tmp, .move (.t 0), .some ((.t 2), false)⟩,
   ⟨.tmp, .move (.v 6), .some ((.t 0), true)⟩,
   ⟨.tmp, .bin .lss (.t 0) (.c (.int .i64 (.ofNat 57344))), .some ((.t 1), true)⟩,
   ⟨.tmp, .pick (.t 2) (.t 0) (.c (.bool false)), .some ((.t 5), false)⟩,
   ⟨.tmp, .pick (.t 6) (.c (.bool true)) (.t 0), .none⟩,
   ⟨.tmp, .move (.t 0), .none⟩,
   ⟨.tmp, .move (.v 6), .some ((.t 0), false)⟩,
   ⟨.tmp, .bin .gtr (.t 0) (.c (.int .i64 (.ofNat 1114111))), .some ((.t 1), false)⟩,
   ⟨.tmp, .pick (.t 2) (.c (.bool true)) (.t 0), .none⟩]) (
 .cond (.t 0) (
  .seq (.reg [⟨(.var 2), .move (.c (.int .i64 (.ofNat 0))), .none⟩]) (
  .ret)) (
  .skip))) (
 .seq (.reg [⟨.tmp, .move (.v 4), .none⟩,
   ⟨(.var 2), .move (.t 0), .none⟩]) (
 .ret))
def d35 : DF := ⟨[.some 0, .some 1, .some 4, .some 5, .some 6, .some 7, .some 8, .some 9, .some 10],
  .seq (.reg [⟨(.var 2), .move (.c (.int .i64 (.ofNat 0))), .none⟩]) (
  .seq (.reg [⟨.tmp, .move (.v 0), .none⟩,
    ⟨.tmp, .move (.v 1), .none⟩,
    ⟨.tmp, .idxStr (.t 1) (.t 0), .none⟩,
    ⟨.tmp, .conv .i64 (.t 0), .none⟩,
    ⟨(.var 3), .move (.t 0), .none⟩]) (
  .seq (.reg [⟨(.var 4), .move (.c (.int .i64 (.ofNat 0))), .none⟩]) (
  .seq (.reg [⟨(.var 5), .move (.c (.int .i64 (.ofNat 0))), .none⟩]) (
  .seq (.reg [⟨(.var 6), .move (.c (.int .i64 (.ofNat 0))), .none⟩]) (
  .seq (.block 0 (
   .seq (.reg [⟨.tmp, .move (.v 3), .none⟩,
     ⟨.tmp, .bin .lss (.t 0) (.c (.int .i64 (.ofNat 128))), .none⟩,
     ⟨.tmp, .move (.t 0), .none⟩]) (
   .cond (.t 0) (
    .seq (.reg [⟨(.var 2), .move (.c (.int .i64 (.ofNat 1))), .none⟩]) (
    .ret)) (
    .seq (.reg [⟨.tmp, .move (.v 3), .none⟩,
      ⟨.tmp, .bin .geq (.t 0) (.c (.int .i64 (.ofNat 192))), .none⟩,
      ⟨.tmp, .move (.t 0), .none⟩,
      ⟨.tmp, .move (.v 3), .some ((.t 0), true)⟩,
      ⟨.tmp, .bin .lss (.t 0) (.c (.int .i64 (.ofNat 224))), .some ((.t 1), true)⟩,
      ⟨.tmp, .pick (.t 2) (.t 0) (.c (.bool false)), .none⟩,
      ⟨.tmp, .move (.t 0), .none⟩]) (
    .cond (.t 0) (
     .seq (.reg [⟨(.var 4), .move (.c (.int .i64 (.ofNat 2))), .none⟩]) (
     .seq (.reg [⟨.tmp, .move (.v 3), .none⟩,
       ⟨.tmp, .bin .sub (.t 0) (.c (.int .i64 (.ofNat 192))), .none⟩,
       ⟨(.var 6), .move (.t 0), .none⟩]) (
     .reg [⟨(.var 5), .move (.c (.int .i64 (.ofNat 128))), .none⟩]))) (
     .seq (.reg [⟨.tmp, .move (.v 3), .none⟩,
       ⟨.tmp, .bin .geq (.t 0) (.c (.int .i64 (.ofNat 224))), .none⟩,
       ⟨.tmp, .move (.t 0), .none⟩,
       ⟨.tmp, .move (.v 3), .some ((.t 0), true)⟩,
       ⟨.tmp, .bin .lss (.t 0) (.c (.int .i64 (.ofNat 240))), .some ((.t 1), true)⟩,
       ⟨.tmp, .pick (.t 2) (.t 0) (.c (.bool false)), .none⟩,
       ⟨.tmp, .move (.t 0), .none⟩]) (
     .cond (.t 0) (
      .seq (.reg [⟨(.var 4), .move (.c (.int .i64 (.ofNat 3))), .none⟩]) (
      .seq (.reg [⟨.tmp, .move (.v 3), .none⟩,
        ⟨.tmp, .bin .sub (.t 0) (.c (.int .i64 (.ofNat 224))), .none⟩,
        ⟨(.var 6), .move (.t 0), .none⟩]) (
      .reg [⟨(.var 5), .move (.c (.int .i64 (.ofNat 2048))), .none⟩]))) (
      .seq (.reg [⟨.tmp, .move (.v 3), .none⟩,
        ⟨.tmp, .bin .geq (.t 0) (.c (.int .i64 (.ofNat 240))), .none⟩,
        ⟨.tmp, .move (.t 0), .none⟩,
        ⟨.tmp, .move (.v 3), .some ((.t 0), true)⟩,
        ⟨.tmp, .bin .lss (.t 0) (.c (.int .i64 (.ofNat 248))), .some ((.t 1), true)⟩,
        ⟨.tmp, .pick (.t 2) (.t 0) (.c (.bool false)), .none⟩,
        ⟨.tmp, .move (.t 0), .none⟩]) (
      .cond (.t 0) (
       .seq (.reg [⟨(.var 4), .move (.c (.int .i64 (.ofNat 4))), .none⟩]) (
       .seq (.reg [⟨.tmp, .move (.v 3), .none⟩,
         ⟨.tmp, .bin .sub (.t 0) (.c (.int .i64 (.ofNat 240))), .none⟩,
         ⟨(.var 6), .move (.t 0), .none⟩]) (
       .reg [⟨(.var 5), .move (.c (.int .i64 (.ofNat 65536))), .none⟩]))) (
       .seq (.reg [⟨(.var 2), .move (.c (.int .i64 (.ofNat 0))), .none⟩]) (
       .ret))))))))))) (
  .seq (.seq (.reg [⟨.tmp, .move (.v 1), .none⟩,
    ⟨.tmp, .move (.v 4), .none⟩,
    ⟨.tmp, .bin .add (.t 1) (.t 0), .none⟩,
    ⟨.tmp, .move (.v 0), .none⟩,
    ⟨.tmp, .len true (.t 0), .none⟩,
    ⟨.tmp, .bin .gtr (.t 2) (.t 0), .none⟩]) (
  .cond (.t 0) (
   .seq (.reg [⟨(.var 2), .move (.c (.int .i64 (.ofNat 0))), .none⟩]) (
   .ret)) (
   .skip))) (
  .seq (.seq (.reg [⟨(.var 7), .move (.c (.int .i64 (.ofNat 1))), .none⟩]) (
  .block 1 (
   .loop b35_0))) r35_1))))))),
  [.opd (.v 2)]⟩
/-- telamon/telamonref12.digits -/
def vm36 : List Nat := [0, 2, 3]
def b36_0 : DC :=
 .seq (.seq (.reg [⟨.tmp, .move (.v 2), .none⟩,
   ⟨.tmp, .move (.v 0), .none⟩,
   ⟨.tmp, .len true (.t 0), .none⟩,
   ⟨.tmp, .bin .lss (.t 2) (.t 0), .none⟩]) (
 .cond (.t 0) (
  .skip) (
  .exit 0))) (
 .seq (.block 1 (
  .seq (.reg [⟨.tmp, .move (.v 0), .none⟩,
    ⟨.tmp, .move (.v 2), .none⟩,
    ⟨.tmp, .idxStr (.t 1) (.t 0), .none⟩,
    ⟨.tmp, .bin .lss (.t 0) (.c (.int .u8 (.ofNat 48))), .none⟩,
    ⟨.tmp, .move (.t 0), .none⟩,
    ⟨.tmp, .move (.v 0), .some ((.t 0), false)⟩,
    ⟨.tmp, .move (.v 2), .some ((.t 1), false)⟩,
    ⟨.tmp, .idxStr (.t 1) (.t 0), .some ((.t 2), false)⟩,
    ⟨.tmp, .bin .gtr (.t 0) (.c (.int .u8 (.ofNat 57))), .some ((.t 3), false)⟩,
    ⟨.tmp, .pick (.t 4) (.c (.bool true)) (.t 0), .none⟩]) (
  .cond (.t 0) (
   .seq (.reg [⟨(.var 1), .move (.c (.bool false)), .none⟩]) (
   .ret)) (
   .skip)))) (
 .reg [⟨.tmp, .move (.v 2), .none⟩,
   ⟨.tmp, .bin .add (.t 0) (.c (.int .i64 (.ofNat 1))), .none⟩,
   ⟨(.var 2), .move (.t 0), .none⟩]))
def r36_1 : DC :=
 .seq (.reg [⟨(.var 1), .move (.c (.bool true)), .none⟩]) (
 .ret)
def d36 : DF := ⟨[.some 0, .some 2, .some 3],
  .seq (.reg [⟨(.var 1), .move (.c (.bool false)), .none⟩]) (
  .seq (.seq (.reg [⟨(.var 2), .move (.c (.int .i64 (.ofNat 0))), .none⟩]) (
  .block 0 (
   .loop b36_0))) r36_1),
  [.opd (.v 1)]⟩
/-- telamon/telamonref12.dots -/
def vm37 : List Nat := [0, 2, 3]
def b37_0 : DC :=
 .seq (.seq (.reg [⟨.tmp, .move (.v 2), .none⟩,
   ⟨.tmp, .move (.v 0), .none⟩,
   ⟨.tmp, .len true (.t 0), .none⟩,
   ⟨.tmp, .bin .lss (.t 2) (.t 0), .none⟩]) (
 .cond (.t 0) (
  .skip) (
  .exit 0))) (
 .seq (.block 1 (
  .seq (.reg [⟨.tmp, .move (.v 0), .none⟩,
    ⟨.tmp, .move (.v 2), .none⟩,
    ⟨.tmp, .idxStr (.t 1) (.t 0), .none⟩,
    ⟨.tmp, .bin .eql (.t 0) (.c (.int .u8 (.ofNat 46))), .none⟩,
    ⟨.tmp, .move (.t 0), .none⟩,
    ⟨.tmp, .move (.v 2), .some ((.t 0), true)⟩,
    ⟨.tmp, .bin .eql (.t 0) (.c (.int .i64 (.ofNat 0))), .some ((.t 1), true)⟩,
    ⟨.tmp, .move (.t 0), .some ((.t 2), true)⟩,
    ⟨.tmp, .move (.v 2), .some ((.t 0), false)⟩,
    ⟨.tmp, .move (.v 0), .some ((.t 1), false)⟩,
    ⟨.tmp, .len true (.t 0), .some ((.t 2), false)⟩,
    ⟨.tmp, .bin .sub (.t 0) (.c (.int .i64 (.ofNat 1))), .some ((.t 3), false)⟩,
    ⟨.tmp, .bin .eql (.t 3) (.t 0), .some ((.t 4), false)⟩,
    ⟨.tmp, .pick (.t 5) (.c (.bool true)) (.t 0), .some ((.t 8), true)⟩,
    ⟨.tmp, .move (.t 0), .some ((.t 9), true)⟩,
    ⟨.tmp, .move (.v 0), .some ((.t 0), false)⟩,
    ⟨.tmp, .move (.v 2), .some ((.t 1), false)⟩,
    ⟨.tmp, .bin .add (.t 0) (.c (.int .i64 (.ofNat 1))), .some ((.t 2), false)⟩,
    ⟨.tmp, .idxStr (.t 2) (.t 0), .some ((.t 3), false)⟩,
    ⟨.tmp, .bin .eql (.t 0) (.c (.int .u8 (.ofNat 46))), .some ((.t 4), false)⟩,
    ⟨.tmp, .pick (.t 5) (.c (.bool true)) (.t 0), .some ((.t 15), true)⟩,
    ⟨.tmp, .pick (.t 16) (.t 0) (.c (.bool false)), .none⟩]) (
  .cond (.t 0) (
   .seq (.reg [⟨(.var 1), .move (.c (.bool true)), .none⟩]) (
   .ret)) (
   .skip)))) (
 .reg [⟨.tmp, .move (.v 2), .none⟩,
   ⟨.tmp, .bin .add (.t 0) (.c (.int .i64 (.ofNat 1))), .none⟩,
   ⟨(.var 2), .move (.t 0), .none⟩]))
def r37_1 : DC :=
 .seq (.reg [⟨(.var 1), .move (.c (.bool false)), .none⟩]) (
 .ret)
def d37 : DF := ⟨[.some 0, .some 2, .some 3],
  .seq (.reg [⟨(.var 1), .move (.c (.bool false)), .none⟩]) (
  .seq (.seq (.reg [⟨(.var 2), .move (.c (.int .i64 (.ofNat 0))), .none⟩]) (
  .block 0 (
   .loop b37_0))) r37_1),
  [.opd (.v 1)]⟩
/-- strings.FieldsFunc -/
def vm38 : List Nat := [0, 1, 4, 5, 6, 7, 8, 9, 10, 11, 14, 15, 47, 48, 49]
def b38_0 : DC :=
 .seq (.reg [⟨(.var 11), .nxtS (.v 10), .none⟩,
   ⟨.tmp, .ext (.v 11) 0, .none⟩]) (
 .seq (.cond (.t 0) (
  .skip) (
  .exit 0)) (
 .block 1 (
  .seq (.reg [⟨.tmp, .ext (.v 11) 1, .none⟩,
    ⟨.tmp, .ext (.v 11) 2, .none⟩,
    ⟨(.var 5), .move (.t 1), .none⟩,
    ⟨(.var 6), .move (.t 0), .none⟩]) (
  .seq (.reg [⟨.tmp, .move (.v 1), .none⟩,
    ⟨.tmp, .move (.v 6), .none⟩,
    ⟨.tmp, .callv (.t 1) [(.t 0)], .none⟩]) (
  .cond (.t 0) (
   .seq (.reg [⟨.tmp, .move (.v 4), .none⟩,
     ⟨.tmp, .bin .geq (.t 0) (.c (.int .i64 (.ofNat 0))), .none⟩]) (
   .cond (.t 0) (
    .seq (.reg [⟨.tmp, .move (.v 3), .none⟩,
      ⟨.tmp, .move (.v 4), .none⟩,
      ⟨.tmp, .move (.v 5), .none⟩,
      ⟨.tmp, .build [.int .i64 (.ofNat 0), .int .i64 (.ofNat 0)] [(0, 1, (.t 1)), (1, 1, (.t 0))], .none⟩,
      ⟨.tmp, .buildS 2 [[.int .i64 (.ofNat 0), .int .i64 (.ofNat 0)]] [(0, (.t 0))], .none⟩,
      ⟨.tmp, .append 2 16 (.t 4) (.t 0), .none⟩,
      ⟨(.var 3), .move (.t 0), .none⟩]) (
    .reg [⟨.tmp, .move (.v 4), .none⟩,
      ⟨.tmp, .un1 false (.t 0), .none⟩,
      ⟨(.var 4), .move (.t 0), .none⟩])) (
    .skip))) (
   .seq (.reg [⟨.tmp, .move (.v 4), .none⟩,
     ⟨.tmp, .bin .lss (.t 0) (.c (.int .i64 (.ofNat 0))), .none⟩]) (
   .cond (.t 0) (
    .reg [⟨.tmp, .move (.v 5), .none⟩,
      ⟨(.var 4), .move (.t 0), .none⟩]) (
    .skip))))))))
def b38_1 : DC :=
 .seq (.reg [⟨.tmp, .bin .lss (.v 14) (.v 13), .none⟩]) (
 .seq (.cond (.t 0) (
  .skip) (
  .exit 2)) (
 .seq (.block 3 (
  .seq (.reg [⟨.tmp, .move (.v 14), .none⟩,
    ⟨.tmp, .idxS 2 (.v 12) (.v 14), .none⟩,
    ⟨.tmp, .loadN 2 (.t 0), .none⟩,
    ⟨(.var 9), .alloc [.int .i64 (.ofNat 0), .int .i64 (.ofNat 0)], .none⟩,
    ⟨(.var 8), .move (.t 2), .none⟩,
    ⟨.no, .store 2 (.v 9) (.t 0), .none⟩]) (
  .reg [⟨.tmp, .move (.v 7), .none⟩,
    ⟨.tmp, .move (.v 8), .none⟩,
    ⟨.tmp, .move (.v 0), .none⟩,
    ⟨.tmp, .fadr 0 (.v 9), .none⟩,
    ⟨.tmp, .load1 (.t 0), .none⟩,
    ⟨.tmp, .fadr 1 (.v 9), .none⟩,
    ⟨.tmp, .load1 (.t 0), .none⟩,
    ⟨.tmp, .slcStr (.t 4) (.some (.t 2)) (.some (.t 0)), .none⟩,
    ⟨.tmp, .idxS 1 (.t 7) (.t 6), .none⟩,
    ⟨.no, .store 1 (.t 0) (.t 1), .none⟩]))) (
 .reg [⟨.tmp, .bin .add (.v 14) (.c (.int .i64 (.ofNat 1))), .none⟩,
   ⟨(.var 14), .move (.t 0), .none⟩])))
def r38_2 : DC :=
 .seq (.reg [⟨.tmp, .move (.v 7), .none⟩,
   ⟨(.var 2), .move (.t 0), .none⟩]) (
 .ret)
def r38_3 : DC :=
 .seq (.seq (.reg [⟨.tmp, .move (.v 4), .none⟩,
   ⟨.tmp, .bin .geq (.t 0) (.c (.int .i64 (.ofNat 0))), .none⟩]) (
 .cond (.t 0) (
  .reg [⟨.tmp, .move (.v 3), .none⟩,
    ⟨.tmp, .move (.v 4), .none⟩,
    ⟨.tmp, .move (.v 0), .none⟩,
    ⟨.tmp, .len true (.t 0), .none⟩,
    ⟨.tmp, .build [.int .i64 (.ofNat 0), .int .i64 (.ofNat 0)] [(0, 1, (.t 2)), (1, 1, (.t 0))], .none⟩,
    ⟨.tmp, .buildS 2 [[.int .i64 (.ofNat 0), .int .i64 (.ofNat 0)]] [(0, (.t 0))], .none⟩,
    ⟨.tmp, .append 2 16 (.t 5) (.t 0), .none⟩,
    ⟨(.var 3), .move (.t 0), .none⟩]) (
  .skip))) (
 .seq (.reg [⟨.tmp, .move (.v 3), .none⟩,
   ⟨.tmp, .len false (.t 0), .none⟩,
   ⟨.tmp, .mkS [.str 0 0] 16 (.t 0) (.t 0), .none⟩,
   ⟨(.var 7), .move (.t 0), .none⟩]) (
 .seq (.seq (.reg [⟨(.var 12), .move (.v 3), .none⟩,
   ⟨(.var 13), .len false (.v 12), .none⟩,
   ⟨(.var 14), .move (.c (.int .i64 (.ofNat 0))), .none⟩]) (
 .block 2 (
  .loop b38_1))) r38_2))
def d38 : DF := ⟨[.some 0, .some 1, .some 4, .some 5, .some 6, .some 7, .some 8, .some 9, .some 10, .some 11, .some 14, .some 15, .some 47, .some 48, .some 49],
  .seq (.reg [⟨(.var 2), .move (.c (.nils)), .none⟩]) (
  .seq (.reg [⟨.tmp, .mkS [.int .i64 (.ofNat 0), .int .i64 (.ofNat 0)] 16 (.c (.int .i64 (.ofNat 0))) (.c (.int .i64 (.ofNat 32))), .none⟩,
    ⟨(.var 3), .move (.t 0), .none⟩]) (
  .seq (.reg [⟨(.var 4), .move (.c (.int .i64 (.negSucc 0))), .none⟩]) (
  .seq (.seq (.reg [⟨.tmp, .move (.v 0), .none⟩,
    ⟨(.var 10), .rngS (.t 0), .none⟩]) (
  .block 0 (
   .loop b38_0))) r38_3))),
  [.opd (.v 2)]⟩
/-- unicode.IsSpace -/
def vm39 : List Nat := [0, 2, 6, 7]

def d39 : DF := ⟨[.some 0, .some 2, .some 6, .some 7],
  .seq (.reg [⟨(.var 1), .move (.c (.bool false)), .none⟩]) (
  .seq (.seq (.reg [⟨.tmp, .move (.v 0), .none⟩,
    ⟨.tmp, .conv .u32 (.t 0), .none⟩,
    ⟨.tmp, .bin .leq (.t 0) (.c (.int .u32 (.ofNat 255))), .none⟩]) (
  .cond (.t 0) (
   .seq (.seq (.reg [⟨(.var 2), .move (.v 0), .none⟩]) (
   .block 0 (
    .seq (.seq (.reg [⟨.tmp, .bin .eql (.v 2) (.c (.int .i32 (.ofNat 9))), .none⟩,
      ⟨(.var 3), .move (.t 0), .none⟩]) (
    .cond (.v 3) (
     .skip) (
     .seq (.reg [⟨.tmp, .bin .eql (.v 2) (.c (.int .i32 (.ofNat 10))), .none⟩,
       ⟨(.var 3), .move (.t 0), .none⟩]) (
     .cond (.v 3) (
      .skip) (
      .seq (.reg [⟨.tmp, .bin .eql (.v 2) (.c (.int .i32 (.ofNat 11))), .none⟩,
        ⟨(.var 3), .move (.t 0), .none⟩]) (
      .cond (.v 3) (
       .skip) (
       .seq (.reg [⟨.tmp, .bin .eql (.v 2) (.c (.int .i32 (.ofNat 12))), .none⟩,
         ⟨(.var 3), .move (.t 0), .none⟩]) (
       .cond (.v 3) (
        .skip) (
        .seq (.reg [⟨.tmp, .bin .eql (.v 2) (.c (.int .i32 (.ofNat 13))), .none⟩,
          ⟨(.var 3), .move (.t 0), .none⟩]) (
        .cond (.v 3) (
         .skip) (
         .seq (.reg [⟨.tmp, .bin .eql (.v 2) (.c (.int .i32 (.ofNat 32))), .none⟩,
           ⟨(.var 3), .move (.t 0), .none⟩]) (
         .cond (.v 3) (
          .skip) (
          .seq (.reg [⟨.tmp, .bin .eql (.v 2) (.c (.int .i32 (.ofNat 133))), .none⟩,
            ⟨(.var 3), .move (.t 0), .none⟩]) (
          .cond (.v 3) (
           .skip) (
           .reg [⟨.tmp, .bin .eql (.v 2) (.c (.int .i32 (.ofNat 160))), .none⟩,
             ⟨(.var 3), .move (.t 0), .none⟩]))))))))))))))) (
    .cond (.v 3) (
     .seq (.reg [⟨(.var 1), .move (.c (.bool true)), .none⟩]) (
     .ret)) (
     .skip))))) (
   .seq (.reg [⟨(.var 1), .move (.c (.bool false)), .none⟩]) (
   .ret))) (
   .skip))) (
  .seq (.reg [⟨.tmp, .load1 (.c (.gp 1 0)), .none⟩,
    ⟨.tmp, .move (.v 0), .none⟩,
    ⟨.tmp, .call 45 [(.t 1), (.t 0)], .none⟩,
    ⟨(.var 1), .move (.t 0), .none⟩]) (
  .ret))),
  [.opd (.v 1)]⟩
/-- internal/stringslite.HasPrefix -/
def vm40 : List Nat := [0, 1, 4]

def d40 : DF := ⟨[.some 0, .some 1, .some 4],
  .seq (.reg [⟨(.var 2), .move (.c (.bool false)), .none⟩]) (
  .seq (.reg [⟨.tmp, .move (.v 0), .none⟩,
    ⟨.tmp, .len true (.t 0), .none⟩,
    ⟨.tmp, .move (.v 1), .none⟩,
    ⟨.tmp, .len true (.t 0), .none⟩,
    ⟨.tmp, .bin .geq (.t 2) (.t 0), .none⟩,
    ⟨.tmp, .move (.t 0), .none⟩,
    ⟨.tmp, .move (.v 0), .some ((.t 0), true)⟩,
    ⟨.tmp, .move (.v 1), .some ((.t 1), true)⟩,
    ⟨.tmp, .len true (.t 0), .some ((.t 2), true)⟩,
    ⟨.tmp, .slcStr (.t 2) .none (.some (.t 0)), .some ((.t 3), true)⟩,
    ⟨.tmp, .move (.v 1), .some ((.t 4), true)⟩,
    ⟨.tmp, .bin .eql (.t 1) (.t 0), .some ((.t 5), true)⟩,
    ⟨.tmp, .pick (.t 6) (.t 0) (.c (.bool false)), .none⟩,
    ⟨(.var 2), .move (.t 0), .none⟩]) (
  .ret)),
  [.opd (.v 2)]⟩
/-- unicode/utf8.DecodeRuneInString -/
def vm41 : List Nat := [0, 2, 3]

def d41 : DF := ⟨[.some 0, .some 2, .some 3],
  .seq (.reg [⟨(.var 1), .move (.c (.int .i32 (.ofNat 0))), .none⟩,
    ⟨(.var 2), .move (.c (.int .i64 (.ofNat 0))), .none⟩]) (
  .seq (.seq (.reg [⟨.tmp, .move (.v 0), .none⟩,
    ⟨.tmp, .bin .neq (.t 0) (.c (.str 0 0)), .none⟩,
    ⟨.tmp, .move (.t 0), .none⟩,
    ⟨.tmp, .move (.v 0), .some ((.t 0), true)⟩,
    ⟨.tmp, .idxStr (.t 0) (.c (.int .i64 (.ofNat 0))), .some ((.t 1), true)⟩,
    ⟨.tmp, .bin .lss (.t 0) (.c (.int .u8 (.ofNat 128))), .some ((.t 2), true)⟩,
    ⟨.tmp, .pick (.t 3) (.t 0) (.c (.bool false)), .none⟩]) (
  .cond (.t 0) (
   .seq (.reg [⟨.tmp, .move (.v 0), .none⟩,
     ⟨.tmp, .idxStr (.t 0) (.c (.int .i64 (.ofNat 0))), .none⟩,
     ⟨.tmp, .conv .i32 (.t 0), .none⟩,
     ⟨(.var 1), .move (.t 0), .none⟩,
     ⟨(.var 2), .move (.c (.int .i64 (.ofNat 1))), .none⟩]) (
   .ret)) (
   .reg [⟨.tmp, .move (.v 0), .none⟩,
     ⟨.tmp, .call 46 [(.t 0)], .none⟩,
     ⟨.tmp, .move (.t 0), .none⟩,
     ⟨.tmp, .ext (.t 0) 0, .none⟩,
     ⟨.tmp, .ext (.t 1) 1, .none⟩,
     ⟨(.var 1), .move (.t 1), .none⟩,
     ⟨(.var 2), .move (.t 0), .none⟩]))) (
  .ret)),
  [.opd (.v 1), .opd (.v 2)]⟩
/-- strings.ContainsRune -/
def vm42 : List Nat := [0, 1, 4]

def d42 : DF := ⟨[.some 0, .some 1, .some 4],
  .seq (.reg [⟨(.var 2), .move (.c (.bool false)), .none⟩]) (
  .seq (.reg [⟨.tmp, .move (.v 0), .none⟩,
    ⟨.tmp, .move (.v 1), .none⟩,
    ⟨.tmp, .call 47 [(.t 1), (.t 0)], .none⟩,
    ⟨.tmp, .bin .geq (.t 0) (.c (.int .i64 (.ofNat 0))), .none⟩,
    ⟨(.var 2), .move (.t 0), .none⟩]) (
  .ret)),
  [.opd (.v 2)]⟩
/-- strings.Trim -/
def vm43 : List Nat := [0, 1, 4, 5, 6]

def d43 : DF := ⟨[.some 0, .some 1, .some 4, .some 5, .some 6],
  .seq (.reg [⟨(.var 2), .move (.c (.str 0 0)), .none⟩]) (
  .seq (.seq (.reg [⟨.tmp, .move (.v 0), .none⟩,
    ⟨.tmp, .bin .eql (.t 0) (.c (.str 0 0)), .none⟩,
    ⟨.tmp, .move (.t 0), .none⟩,
    ⟨.tmp, .move (.v 1), .some ((.t 0), false)⟩,
    ⟨.tmp, .bin .eql (.t 0) (.c (.str 0 0)), .some ((.t 1), false)⟩,
    ⟨.tmp, .pick (.t 2) (.c (.bool true)) (.t 0), .none⟩]) (
  .cond (.t 0) (
   .seq (.reg [⟨.tmp, .move (.v 0), .none⟩,
     ⟨(.var 2), .move (.t 0), .none⟩]) (
   .ret)) (
   .skip))) (
  .seq (.seq (.reg [⟨.tmp, .move (.v 1), .none⟩,
    ⟨.tmp, .len true (.t 0), .none⟩,
    ⟨.tmp, .bin .eql (.t 0) (.c (.int .i64 (.ofNat 1))), .none⟩,
    ⟨.tmp, .move (.t 0), .none⟩,
    ⟨.tmp, .move (.v 1), .some ((.t 0), true)⟩,
    ⟨.tmp, .idxStr (.t 0) (.c (.int .i64 (.ofNat 0))), .some ((.t 1), true)⟩,
    ⟨.tmp, .bin .lss (.t 0) (.c (.int .u8 (.ofNat 128))), .some ((.t 2), true)⟩,
    ⟨.tmp, .pick (.t 3) (.t 0) (.c (.bool false)), .none⟩]) (
  .cond (.t 0) (
   .seq (.reg [⟨.tmp, .move (.v 0), .none⟩,
     ⟨.tmp, .move (.v 1), .none⟩,
     ⟨.tmp, .idxStr (.t 0) (.c (.int .i64 (.ofNat 0))), .none⟩,
     ⟨.tmp, .move (.v 1), .none⟩,
     ⟨.tmp, .idxStr (.t 0) (.c (.int .i64 (.ofNat 0))), .none⟩,
     ⟨.tmp, .call 49 [(.t 4), (.t 2)], .none⟩,
     ⟨.tmp, .call 48 [(.t 0), (.t 1)], .none⟩,
     ⟨(.var 2), .move (.t 0), .none⟩]) (
   .ret)) (
   .skip))) (
  .seq (.seq (.reg [⟨.tmp, .move (.v 1), .none⟩,
    ⟨.tmp, .call 50 [(.t 0)], .none⟩,
    ⟨.tmp, .move (.t 0), .none⟩,
    ⟨.tmp, .ext (.t 0) 0, .none⟩,
    ⟨.tmp, .ext (.t 1) 1, .none⟩,
    ⟨(.var 3), .alloc [.bool false, .bool false, .bool false, .bool false, .bool false, .bool false, .bool false, .bool false, .bool false, .bool false, .bool false, .bool false, .bool false, .bool false, .bool false, .bool false, .bool false, .bool false, .bool false, .bool false, .bool false, .bool false, .bool false, .bool false, .bool false, .bool false, .bool false, .bool false, .bool false, .bool false, .bool false, .bool false, .bool false, .bool false, .bool false, .bool false, .bool false, .bool false, .bool false, .bool false, .bool false, .bool false, .bool false, .bool false, .bool false, .bool false, .bool false, .bool false, .bool false, .bool false, .bool false, .bool false, .bool false, .bool false, .bool false, .bool false, .bool false, .bool false, .bool false, .bool false, .bool false, .bool false, .bool false, .bool false, .bool false, .bool false, .bool false, .bool false, .bool false, .bool false, .bool false, .bool false, .bool false, .bool false, .bool false, .bool false, .bool false, .bool false, .bool false, .bool false, .bool false, .bool false, .bool false, .bool false, .bool false, .bool false, .bool false, .bool false, .bool false, .bool false, .bool false, .bool false, .bool false, .bool false, .bool false, .bool false, .bool false, .bool false, .bool false, .bool false, .bool false, .bool false, .bool false, .bool false, .bool false, .bool false, .bool false, .bool false, .bool false, .bool false, .bool false, .bool false, .bool false, .bool false, .bool false, .bool false, .bool false, .bool false, .bool false, .bool false, .bool false, .bool false, .bool false, .bool false, .bool false, .bool false, .bool false, .bool false, .bool false, .bool false, .bool false, .bool false, .bool false, .bool false, .bool false, .bool false, .bool false, .bool false, .bool false, .bool false, .bool false, .bool false, .bool false, .bool false, .bool false, .bool false, .bool false, .bool false, .bool false, .bool false, .bool false, .bool false, .bool false, .bool false, .bool false, .bool false, .bool false, .bool false, .bool false, .bool false, .bool false, .bool false, .bool false, .bool false, .bool false, .bool false, .bool false, .bool false, .bool false, .bool false, .bool false, .bool false, .bool false, .bool false, .bool false, .bool false, .bool false, .bool false, .bool false, .bool false, .bool false, .bool false, .bool false, .bool false, .bool false, .bool false, .bool false, .bool false, .bool false, .bool false, .bool false, .bool false, .bool false, .bool false, .bool false, .bool false, .bool false, .bool false, .bool false, .bool false, .bool false, .bool false, .bool false, .bool false, .bool false, .bool false, .bool false, .bool false, .bool false, .bool false, .bool false, .bool false, .bool false, .bool false, .bool false, .bool false, .bool false, .bool false, .bool false, .bool false, .bool false, .bool false, .bool false, .bool false, .bool false, .bool false, .bool false, .bool false, .bool false, .bool false, .bool false, .bool false, .bool false, .bool false, .bool false, .bool false, .bool false, .bool false, .bool false, .bool false, .bool false, .bool false, .bool false, .bool false, .bool false, .bool false, .bool false, .bool false, .bool false, .bool false, .bool false, .bool false, .bool false, .bool false, .bool false, .bool false], .none⟩,
    ⟨.no, .store 256 (.v 3) (.t 1), .none⟩,
    ⟨(.var 4), .move (.t 0), .none⟩]) (
  .seq (.reg [⟨.tmp, .move (.v 4), .none⟩]) (
  .cond (.t 0) (
   .seq (.reg [⟨.tmp, .move (.v 0), .none⟩,
     ⟨.tmp, .call 52 [(.t 0), (.v 3)], .none⟩,
     ⟨.tmp, .call 51 [(.t 0), (.v 3)], .none⟩,
     ⟨(.var 2), .move (.t 0), .none⟩]) (
   .ret)) (
   .skip)))) (
  .seq (.reg [⟨.tmp, .move (.v 0), .none⟩,
    ⟨.tmp, .move (.v 1), .none⟩,
    ⟨.tmp, .call 54 [(.t 1), (.t 0)], .none⟩,
    ⟨.tmp, .move (.v 1), .none⟩,
    ⟨.tmp, .call 53 [(.t 1), (.t 0)], .none⟩,
    ⟨(.var 2), .move (.t 0), .none⟩]) (
  .ret))))),
  [.opd (.v 2)]⟩
/-- telamon/lex.dotted -/
def vm44 : List Nat := [0, 2, 3, 5, 7, 8]
def b44_0 : DC :=
 .seq (.reg [⟨(.var 5), .nxtS (.v 4), .none⟩,
   ⟨.tmp, .ext (.v 5) 0, .none⟩]) (
 .seq (.cond (.t 0) (
  .skip) (
  .exit 0)) (
 .block 1 (
  .seq (.reg [⟨.tmp, .ext (.v 5) 2, .none⟩,
    ⟨(.var 3), .move (.t 0), .none⟩]) (
  .seq (.seq (.reg [⟨.tmp, .move (.v 3), .none⟩,
    ⟨.tmp, .bin .eql (.t 0) (.c (.int .i32 (.ofNat 46))), .none⟩,
    ⟨.tmp, .move (.t 0), .none⟩,
    ⟨.tmp, .move (.v 2), .some ((.t 0), true)⟩,
    ⟨.tmp, .bin .eql (.t 0) (.c (.int .i32 (.ofNat 46))), .some ((.t 1), true)⟩,
    ⟨.tmp, .pick (.t 2) (.t 0) (.c (.bool false)), .none⟩]) (
  .cond (.t 0) (
   .seq (.reg [⟨(.var 1), .move (.c (.bool true)), .none⟩]) (
   .ret)) (
   .skip))) (
  .reg [⟨.tmp, .move (.v 3), .none⟩,
    ⟨(.var 2), .move (.t 0), .none⟩])))))
def r44_1 : DC :=
 .seq (.reg [⟨.tmp, .move (.v 2), .none⟩,
   ⟨.tmp, .bin .eql (.t 0) (.c (.int .i32 (.ofNat 46))), .none⟩,
   ⟨(.var 1), .move (.t 0), .none⟩]) (
 .ret)
def d44 : DF := ⟨[.some 0, .some 2, .some 3, .some 5, .some 7, .some 8],
  .seq (.reg [⟨(.var 1), .move (.c (.bool false)), .none⟩]) (
  .seq (.reg [⟨(.var 2), .move (.c (.int .i32 (.ofNat 46))), .none⟩]) (
  .seq (.seq (.reg [⟨.tmp, .move (.v 0), .none⟩,
    ⟨(.var 4), .rngS (.t 0), .none⟩]) (
  .block 0 (
   .loop b44_0))) r44_1)),
  [.opd (.v 1)]⟩
/-- unicode.isExcludingLatin -/
def vm45 : List Nat := [0, 1, 4, 5, 6, 7]

def d45 : DF := ⟨[.some 0, .some 1, .some 4, .some 5, .some 6, .some 7],
  .seq (.reg [⟨(.var 2), .move (.c (.bool false)), .none⟩]) (
  .seq (.reg [⟨.tmp, .move (.v 0), .none⟩,
    ⟨.tmp, .nilck (.t 0), .none⟩,
    ⟨.tmp, .fadr 0 (.t 0), .none⟩,
    ⟨.tmp, .load1 (.t 0), .none⟩,
    ⟨(.var 3), .move (.t 0), .none⟩]) (
  .seq (.seq (.reg [⟨.tmp, .move (.v 0), .none⟩,
    ⟨.tmp, .nilck (.t 0), .none⟩,
    ⟨.tmp, .fadr 2 (.t 0), .none⟩,
    ⟨.tmp, .load1 (.t 0), .none⟩,
    ⟨(.var 4), .move (.t 0), .none⟩]) (
  .seq (.reg [⟨.tmp, .move (.v 3), .none⟩,
    ⟨.tmp, .len false (.t 0), .none⟩,
    ⟨.tmp, .move (.v 4), .none⟩,
    ⟨.tmp, .bin .gtr (.t 1) (.t 0), .none⟩,
    ⟨.tmp, .move (.t 0), .none⟩,
    ⟨.tmp, .move (.v 1), .some ((.t 0), true)⟩,
    ⟨.tmp, .conv .u32 (.t 0), .some ((.t 1), true)⟩,
    ⟨.tmp, .move (.v 3), .some ((.t 2), true)⟩,
    ⟨.tmp, .move (.v 3), .some ((.t 3), true)⟩,
    ⟨.tmp, .len false (.t 0), .some ((.t 4), true)⟩,
    ⟨.tmp, .bin .sub (.t 0) (.c (.int .i64 (.ofNat 1))), .some ((.t 5), true)⟩,
    ⟨.tmp, .idxS 3 (.t 3) (.t 0), .some ((.t 6), true)⟩,
    ⟨.tmp, .fadr 1 (.t 0), .some ((.t 7), true)⟩,
    ⟨.tmp, .load1 (.t 0), .some ((.t 8), true)⟩,
    ⟨.tmp, .conv .u32 (.t 0), .some ((.t 9), true)⟩,
    ⟨.tmp, .bin .leq (.t 8) (.t 0), .some ((.t 10), true)⟩,
    ⟨.tmp, .pick (.t 11) (.t 0) (.c (.bool false)), .none⟩]) (
  .cond (.t 0) (
   .seq (.reg [⟨.tmp, .move (.v 3), .none⟩,
     ⟨.tmp, .move (.v 4), .none⟩,
     ⟨.tmp, .slcS 3 (.t 1) (.some (.t 0)) .none .none, .none⟩,
     ⟨.tmp, .move (.v 1), .none⟩,
     ⟨.tmp, .conv .u16 (.t 0), .none⟩,
     ⟨.tmp, .call 55 [(.t 2), (.t 0)], .none⟩,
     ⟨(.var 2), .move (.t 0), .none⟩]) (
   .ret)) (
   .skip)))) (
  .seq (.reg [⟨.tmp, .move (.v 0), .none⟩,
    ⟨.tmp, .nilck (.t 0), .none⟩,
    ⟨.tmp, .fadr 1 (.t 0), .none⟩,
    ⟨.tmp, .load1 (.t 0), .none⟩,
    ⟨(.var 5), .move (.t 0), .none⟩]) (
  .seq (.seq (.reg [⟨.tmp, .move (.v 5), .none⟩,
    ⟨.tmp, .len false (.t 0), .none⟩,
    ⟨.tmp, .bin .gtr (.t 0) (.c (.int .i64 (.ofNat 0))), .none⟩,
    ⟨.tmp, .move (.t 0), .none⟩,
    ⟨.tmp, .move (.v 1), .some ((.t 0), true)⟩,
    ⟨.tmp, .move (.v 5), .some ((.t 1), true)⟩,
    ⟨.tmp, .idxS 3 (.t 0) (.c (.int .i64 (.ofNat 0))), .some ((.t 2), true)⟩,
    ⟨.tmp, .fadr 0 (.t 0), .some ((.t 3), true)⟩,
    ⟨.tmp, .load1 (.t 0), .some ((.t 4), true)⟩,
    ⟨.tmp, .conv .i32 (.t 0), .some ((.t 5), true)⟩,
    ⟨.tmp, .bin .geq (.t 5) (.t 0), .some ((.t 6), true)⟩,
    ⟨.tmp, .pick (.t 7) (.t 0) (.c (.bool false)), .none⟩]) (
  .cond (.t 0) (
   .seq (.reg [⟨.tmp, .move (.v 5), .none⟩,
     ⟨.tmp, .move (.v 1), .none⟩,
     ⟨.tmp, .conv .u32 (.t 0), .none⟩,
     ⟨.tmp, .call 56 [(.t 2), (.t 0)], .none⟩,
     ⟨(.var 2), .move (.t 0), .none⟩]) (
   .ret)) (
   .skip))) (
  .seq (.reg [⟨(.var 2), .move (.c (.bool false)), .none⟩]) (
  .ret)))))),
  [.opd (.v 2)]⟩
/-- unicode/utf8.decodeRuneInStringSlow -/
def vm46 : List Nat := [0, 2, 3, 4, 5, 6, 7, 8, 9, 10, 11, 12]

def d46 : DF := ⟨[.some 0, .some 2, .some 3, .some 4, .some 5, .some 6, .some 7, .some 8, .some 9, .some 10, .some 11, .some 12],
  .seq (.reg [⟨(.var 1), .move (.c (.int .i32 (.ofNat 0))), .none⟩,
    ⟨(.var 2), .move (.c (.int .i64 (.ofNat 0))), .none⟩]) (
  .seq (.reg [⟨.tmp, .move (.v 0), .none⟩,
    ⟨.tmp, .len true (.t 0), .none⟩,
    ⟨(.var 3), .move (.t 0), .none⟩]) (
  .seq (.seq (.reg [⟨.tmp, .move (.v 3), .none⟩,
    ⟨.tmp, .bin .lss (.t 0) (.c (.int .i64 (.ofNat 1))), .none⟩]) (
  .cond (.t 0) (
   .seq (.reg [⟨(.var 1), .move (.c (.int .i32 (.ofNat 65533))), .none⟩,
     ⟨(.var 2), .move (.c (.int .i64 (.ofNat 0))), .none⟩]) (
   .ret)) (
   .skip))) (
  .seq (.reg [⟨.tmp, .move (.v 0), .none⟩,
    ⟨.tmp, .idxStr (.t 0) (.c (.int .i64 (.ofNat 0))), .none⟩,
    ⟨(.var 4), .move (.t 0), .none⟩]) (
  .seq (.reg [⟨.tmp, .move (.v 4), .none⟩,
    ⟨.tmp, .idxA 256 1 (.c (.gp 2 0)) (.t 0), .none⟩,
    ⟨.tmp, .load1 (.t 0), .none⟩,
    ⟨(.var 5), .move (.t 0), .none⟩]) (
  .seq (.seq (.reg [⟨.tmp, .move (.v 5), .none⟩,
    ⟨.tmp, .bin .geq (.t 0) (.c (.int .u8 (.ofNat 240))), .none⟩]) (
  .cond (.t 0) (
   .seq (.reg [⟨.tmp, .move (.v 5), .none⟩,
     ⟨.tmp, .conv .i32 (.t 0), .none⟩,
     ⟨.tmp, .bin .shl (.t 0) (.c (.int .u64 (.ofNat 31))), .none⟩,
     ⟨.tmp, .bin .shr (.t 0) (.c (.int .u64 (.ofNat 31))), .none⟩,
     ⟨(.var 6), .move (.t 0), .none⟩]) (
   .seq (.reg [⟨.tmp, .move (.v 0), .none⟩,
     ⟨.tmp, .idxStr (.t 0) (.c (.int .i64 (.ofNat 0))), .none⟩,
     ⟨.tmp, .conv .i32 (.t 0), .none⟩,
     ⟨.tmp, .move (.v 6), .none⟩,
     ⟨.tmp, .bin .andNot (.t 1) (.t 0), .none⟩,
     ⟨.tmp, .move (.v 6), .none⟩,
     ⟨.tmp, .bin .and (.c (.int .i32 (.ofNat 65533))) (.t 0), .none⟩,
     ⟨.tmp, .bin .or (.t 2) (.t 0), .none⟩,
     ⟨(.var 1), .move (.t 0), .none⟩,
     ⟨(.var 2), .move (.c (.int .i64 (.ofNat 1))), .none⟩]) (
   .ret))) (
   .skip))) (
  .seq (.reg [⟨.tmp, .move (.v 5), .none⟩,
    ⟨.tmp, .bin .and (.t 0) (.c (.int .u8 (.ofNat 7))), .none⟩,
    ⟨.tmp, .conv .i64 (.t 0), .none⟩,
    ⟨(.var 7), .move (.t 0), .none⟩]) (
  .seq (.reg [⟨.tmp, .move (.v 5), .none⟩,
    ⟨.tmp, .bin .shr (.t 0) (.c (.int .u64 (.ofNat 4))), .none⟩,
    ⟨.tmp, .idxA 16 2 (.c (.gp 3 0)) (.t 0), .none⟩,
    ⟨.tmp, .loadN 2 (.t 0), .none⟩,
    ⟨(.var 8), .alloc [.int .u8 (.ofNat 0), .int .u8 (.ofNat 0)], .none⟩,
    ⟨.no, .store 2 (.v 8) (.t 0), .none⟩]) (
  .seq (.seq (.reg [⟨.tmp, .move (.v 3), .none⟩,
    ⟨.tmp, .move (.v 7), .none⟩,
    ⟨.tmp, .bin .lss (.t 1) (.t 0), .none⟩]) (
  .cond (.t 0) (
   .seq (.reg [⟨(.var 1), .move (.c (.int .i32 (.ofNat 65533))), .none⟩,
     ⟨(.var 2), .move (.c (.int .i64 (.ofNat 1))), .none⟩]) (
   .ret)) (
   .skip))) (
  .seq (.reg [⟨.tmp, .move (.v 0), .none⟩,
    ⟨.tmp, .idxStr (.t 0) (.c (.int .i64 (.ofNat 1))), .none⟩,
    ⟨(.var 9), .move (.t 0), .none⟩]) (
  .seq (.seq (.reg [⟨.tmp, .move (.v 9), .none⟩,
    ⟨.tmp, .fadr 0 (.v 8), .none⟩,
    ⟨.tmp, .load1 (.t 0), .none⟩,
    ⟨.tmp, .bin .lss (.t 2) (.t 0), .none⟩,
    ⟨.tmp, .move (.t 0), .none⟩,
    ⟨.tmp, .fadr 1 (.v 8), .some ((.t 0), false)⟩,
    ⟨.tmp, .load1 (.t 0), .some ((.t 1), false)⟩,
    ⟨.tmp, .move (.v 9), .some ((.t 2), false)⟩,
    ⟨.tmp, .bin .lss (.t 1) (.t 0), .some ((.t 3), false)⟩,
    ⟨.tmp, .pick (.t 4) (.c (.bool true)) (.t 0), .none⟩]) (
  .cond (.t 0) (
   .seq (.reg [⟨(.var 1), .move (.c (.int .i32 (.ofNat 65533))), .none⟩,
     ⟨(.var 2), .move (.c (.int .i64 (.ofNat 1))), .none⟩]) (
   .ret)) (
   .skip))) (
  .seq (.seq (.reg [⟨.tmp, .move (.v 7), .none⟩,
    ⟨.tmp, .bin .leq (.t 0) (.c (.int .i64 (.ofNat 2))), .none⟩]) (
  .cond (.t 0) (
   .seq (.reg [⟨.tmp, .move (.v 4), .none⟩,
     ⟨.tmp, .bin .and (.t 0) (.c (.int .u8 (.ofNat 31))), .none⟩,
     ⟨.tmp, .conv .i32 (.t 0), .none⟩,
     ⟨.tmp, .bin .shl (.t 0) (.c (.int .u64 (.ofNat 6))), .none⟩,
     ⟨.tmp, .move (.v 9), .none⟩,
     ⟨.tmp, .bin .and (.t 0) (.c (.int .u8 (.ofNat 63))), .none⟩,
     ⟨.tmp, .conv .i32 (.t 0), .none⟩,
     ⟨.tmp, .bin .or (.t 3) (.t 0), .none⟩,
     ⟨(.var 1), .move (.t 0), .none⟩,
     ⟨(.var 2), .move (.c (.int .i64 (.ofNat 2))), .none⟩]) (
   .ret)) (
   .skip))) (
  .seq (.reg [⟨.tmp, .move (.v 0), .none⟩,
    ⟨.tmp, .idxStr (.t 0) (.c (.int .i64 (.ofNat 2))), .none⟩,
    ⟨(.var 10), .move (.t 0), .none⟩]) (
  .seq (.seq (.reg [⟨.tmp, .move (.v 10), .none⟩,
    ⟨.tmp, .bin .lss (.t 0) (.c (.int .u8 (.ofNat 128))), .none⟩,
    ⟨.tmp, .move (.t 0), .none⟩,
    ⟨.tmp, .move (.v 10), .some ((.t 0), false)⟩,
    ⟨.tmp, .bin .lss (.c (.int .u8 (.ofNat 191))) (.t 0), .some ((.t 1), false)⟩,
    ⟨.tmp, .pick (.t 2) (.c (.bool true)) (.t 0), .none⟩]) (
  .cond (.t 0) (
   .seq (.reg [⟨(.var 1), .move (.c (.int .i32 (.ofNat 65533))), .none⟩,
     ⟨(.var 2), .move (.c (.int .i64 (.ofNat 1))), .none⟩]) (
   .ret)) (
   .skip))) (
  .seq (.seq (.reg [⟨.tmp, .move (.v 7), .none⟩,
    ⟨.tmp, .bin .leq (.t 0) (.c (.int .i64 (.ofNat 3))), .none⟩]) (
  .cond (.t 0) (
   .seq (.reg [⟨.tmp, .move (.v 4), .none⟩,
     ⟨.tmp, .bin .and (.t 0) (.c (.int .u8 (.ofNat 15))), .none⟩,
     ⟨.tmp, .conv .i32 (.t 0), .none⟩,
     ⟨.tmp, .bin .shl (.t 0) (.c (.int .u64 (.ofNat 12))), .none⟩,
     ⟨.tmp, .move (.v 9), .none⟩,
     ⟨.tmp, .bin .and (.t 0) (.c (.int .u8 (.ofNat 63))), .none⟩,
     ⟨.tmp, .conv .i32 (.t 0), .none⟩,
     ⟨.tmp, .bin .shl (.t 0) (.c (.int .u64 (.ofNat 6))), .none⟩,
     ⟨.tmp, .bin .or (.t 4) (.t 0), .none⟩,
     ⟨.tmp, .move (.v 10), .none⟩,
     ⟨.tmp, .bin .and (.t 0) (.c (.int .u8 (.ofNat 63))), .none⟩,
     ⟨.tmp, .conv .i32 (.t 0), .none⟩,
     ⟨.tmp, .bin .or (.t 3) (.t 0), .none⟩,
     ⟨(.var 1), .move (.t 0), .none⟩,
     ⟨(.var 2), .move (.c (.int .i64 (.ofNat 3))), .none⟩]) (
   .ret)) (
   .skip))) (
  .seq (.reg [⟨.tmp, .move (.v 0), .none⟩,
    ⟨.tmp, .idxStr (.t 0) (.c (.int .i64 (.ofNat 3))), .none⟩,
    ⟨(.var 11), .move (.t 0), .none⟩]) (
  .seq (.seq (.reg [⟨.tmp, .move (.v 11), .none⟩,
    ⟨.tmp, .bin .lss (.t 0) (.c (.int .u8 (.ofNat 128))), .none⟩,
    ⟨.tmp, .move (.t 0), .none⟩,
    ⟨.tmp, .move (.v 11), .some ((.t 0), false)⟩,
    ⟨.tmp, .bin .lss (.c (.int .u8 (.ofNat 191))) (.t 0), .some ((.t 1), false)⟩,
    ⟨.tmp, .pick (.t 2) (.c (.bool true)) (.t 0), .none⟩]) (
  .cond (.t 0) (
   .seq (.reg [⟨(.var 1), .move (.c (.int .i32 (.ofNat 65533))), .none⟩,
     ⟨(.var 2), .move (.c (.int .i64 (.ofNat 1))), .none⟩]) (
   .ret)) (
   .skip))) (
  .seq (.reg [⟨.tmp, .move (.v 4), .none⟩,
    ⟨.tmp, .bin .and (.t 0) (.c (.int .u8 (.ofNat 7))), .none⟩,
    ⟨.tmp, .conv .i32 (.t 0), .none⟩,
    ⟨.tmp, .bin .shl (.t 0) (.c (.int .u64 (.ofNat 18))), .none⟩,
    ⟨.tmp, .move (.v 9), .none⟩,
    ⟨.tmp, .bin .and (.t 0) (.c (.int .u8 (.ofNat 63))), .none⟩,
    ⟨.tmp, .conv .i32 (.t 0), .none⟩,
    ⟨.tmp, .bin .shl (.t 0) (.c (.int .u64 (.ofNat 12))), .none⟩,
    ⟨.tmp, .bin .or (.t 4) (.t 0), .none⟩,
    ⟨.tmp, .move (.v 10), .none⟩,
    ⟨.tmp, .bin .and (.t 0) (.c (.int .u8 (.ofNat 63))), .none⟩,
    ⟨.tmp, .conv .i32 (.t 0), .none⟩,
    ⟨.tmp, .bin .shl (.t 0) (.c (.int .u64 (.ofNat 6))), .none⟩,
    ⟨.tmp, .bin .or (.t 4) (.t 0), .none⟩,
    ⟨.tmp, .move (.v 11), .none⟩,
    ⟨.tmp, .bin .and (.t 0) (.c (.int .u8 (.ofNat 63))), .none⟩,
    ⟨.tmp, .conv .i32 (.t 0), .none⟩,
    ⟨.tmp, .bin .or (.t 3) (.t 0), .none⟩,
    ⟨(.var 1), .move (.t 0), .none⟩,
    ⟨(.var 2), .move (.c (.int .i64 (.ofNat 4))), .none⟩]) (
  .ret)))))))))))))))))),
  [.opd (.v 1), .opd (.v 2)]⟩
/-- strings.IndexRune -/
def vm47 : List Nat := [0, 1, 4, 5, 6, 7, 8, 9, 10, 11, 12, 13, 14, 15, 16, 175, 176]
def b47_0 : DC :=
 .seq (.reg [⟨(.var 16), .nxtS (.v 15), .none⟩,
   ⟨.tmp, .ext (.v 16) 0, .none⟩]) (
 .seq (.cond (.t 0) (
  .skip) (
  .exit 9)) (
 .block 10 (
  .seq (.reg [⟨.tmp, .ext (.v 16) 1, .none⟩,
    ⟨.tmp, .ext (.v 16) 2, .none⟩,
    ⟨(.var 3), .move (.t 1), .none⟩,
    ⟨(.var 4), .move (.t 0), .none⟩]) (
  .seq (.reg [⟨.tmp, .move (.v 4), .none⟩,
    ⟨.tmp, .bin .eql (.t 0) (.c (.int .i32 (.ofNat 65533))), .none⟩]) (
  .cond (.t 0) (
   .seq (.reg [⟨.tmp, .move (.v 3), .none⟩,
     ⟨(.var 2), .move (.t 0), .none⟩]) (
   .ret)) (
   .skip))))))
def r47_1 : DC :=
 .seq (.reg [⟨(.var 2), .move (.c (.int .i64 (.negSucc 0))), .none⟩]) (
 .ret)
def b47_2 : DC :=
 .seq (.seq (.reg [⟨.tmp, .move (.v 10), .none⟩,
   ⟨.tmp, .move (.v 5), .none⟩,
   ⟨.tmp, .len true (.t 0), .none⟩,
   ⟨.tmp, .bin .lss (.t 2) (.t 0), .none⟩]) (
 .cond (.t 0) (
  .skip) (
  .exit 3))) (
 .seq (.block 4 (
  .seq (.reg [⟨.tmp, .move (.v 0), .none⟩,
    ⟨.tmp, .move (.v 7), .none⟩,
    ⟨.tmp, .move (.v 10), .none⟩,
    ⟨.tmp, .bin .sub (.t 1) (.t 0), .none⟩,
    ⟨.tmp, .idxStr (.t 3) (.t 0), .none⟩,
    ⟨.tmp, .move (.v 5), .none⟩,
    ⟨.tmp, .move (.v 6), .none⟩,
    ⟨.tmp, .move (.v 10), .none⟩,
    ⟨.tmp, .bin .sub (.t 1) (.t 0), .none⟩,
    ⟨.tmp, .idxStr (.t 3) (.t 0), .none⟩,
    ⟨.tmp, .bin .neq (.t 5) (.t 0), .none⟩]) (
  .cond (.t 0) (
   .die) (
   .skip)))) (
 .reg [⟨.tmp, .move (.v 10), .none⟩,
   ⟨.tmp, .bin .add (.t 0) (.c (.int .i64 (.ofNat 1))), .none⟩,
   ⟨(.var 10), .move (.t 0), .none⟩]))
def r47_3 : DC :=
 .seq (.seq (.reg [⟨.tmp, .move (.v 7), .none⟩,
   ⟨.tmp, .move (.v 6), .none⟩,
   ⟨.tmp, .bin .sub (.t 1) (.t 0), .none⟩,
   ⟨(.var 2), .move (.t 0), .none⟩]) (
 .ret)) (
 .seq (.skip) (
 .seq (.reg [⟨.tmp, .move (.v 8), .none⟩,
   ⟨.tmp, .bin .add (.t 0) (.c (.int .i64 (.ofNat 1))), .none⟩,
   ⟨(.var 8), .move (.t 0), .none⟩]) (
 .seq (.reg [⟨.tmp, .move (.v 7), .none⟩,
   ⟨.tmp, .bin .add (.t 0) (.c (.int .i64 (.ofNat 1))), .none⟩,
   ⟨(.var 7), .move (.t 0), .none⟩]) (
 .seq (.reg [⟨.tmp, .move (.c (.bool true)), .none⟩,
   ⟨.tmp, .move (.v 8), .some ((.t 0), true)⟩,
   ⟨.tmp, .move (.v 7), .some ((.t 1), true)⟩,
   ⟨.tmp, .call 59 [(.t 0)], .some ((.t 2), true)⟩,
   ⟨.tmp, .bin .gtr (.t 2) (.t 0), .some ((.t 3), true)⟩,
   ⟨.tmp, .pick (.t 4) (.t 0) (.c (.bool false)), .none⟩,
   ⟨.tmp, .move (.t 0), .none⟩,
   ⟨.tmp, .move (.v 7), .some ((.t 0), true)⟩,
   ⟨.tmp, .move (.v 0), .some ((.t 1), true)⟩,
   ⟨.tmp, .len true (.t 0), .some ((.t 2), true)⟩,
   ⟨.tmp, .bin .lss (.t 2) (.t 0), .some ((.t 3), true)⟩,
   ⟨.tmp, .pick (.t 4) (.t 0) (.c (.bool false)), .none⟩,
   ⟨.tmp, .move (.t 0), .none⟩,
   ⟨.tmp, .move (.c (.bool false)), .some ((.t 0), false)⟩,
   ⟨.tmp, .move (.v 8), .some ((.t 0), true)⟩,
   ⟨.tmp, .move (.v 7), .some ((.t 1), true)⟩,
   ⟨.tmp, .bin .shr (.t 0) (.c (.int .u64 (.ofNat 4))), .some ((.t 2), true)⟩,
   ⟨.tmp, .bin .add (.c (.int .i64 (.ofNat 4))) (.t 0), .some ((.t 3), true)⟩,
   ⟨.tmp, .bin .geq (.t 3) (.t 0), .some ((.t 4), true)⟩,
   ⟨.tmp, .pick (.t 5) (.t 0) (.c (.bool false)), .some ((.t 6), false)⟩,
   ⟨.tmp, .move (.t 0), .some ((.t 7), false)⟩,
   ⟨.tmp, .move (.v 7), .some ((.t 0), true)⟩,
   ⟨.tmp, .move (.v 0), .some ((.t 1), true)⟩,
   ⟨.tmp, .len true (.t 0), .some ((.t 2), true)⟩,
   ⟨.tmp, .bin .lss (.t 2) (.t 0), .some ((.t 3), true)⟩,
   ⟨.tmp, .pick (.t 4) (.t 0) (.c (.bool false)), .some ((.t 12), false)⟩,
   ⟨.tmp, .pick (.t 13) (.c (.bool true)) (.t 0), .none⟩]) (
 .cond (.t 0) (
  .die) (
  .skip))))))
def b47_4 : DC :=
 .seq (.seq (.reg [⟨.tmp, .move (.v 7), .none⟩,
   ⟨.tmp, .move (.v 0), .none⟩,
   ⟨.tmp, .len true (.t 0), .none⟩,
   ⟨.tmp, .bin .lss (.t 2) (.t 0), .none⟩]) (
 .cond (.t 0) (
  .skip) (
  .exit 1))) (
 .block 2 (
  .seq (.seq (.reg [⟨.tmp, .move (.v 0), .none⟩,
    ⟨.tmp, .move (.v 7), .none⟩,
    ⟨.tmp, .idxStr (.t 1) (.t 0), .none⟩,
    ⟨.tmp, .move (.v 5), .none⟩,
    ⟨.tmp, .move (.v 6), .none⟩,
    ⟨.tmp, .idxStr (.t 1) (.t 0), .none⟩,
    ⟨.tmp, .bin .neq (.t 3) (.t 0), .none⟩]) (
  .cond (.t 0) (
   .seq (.reg [⟨.tmp, .move (.v 0), .none⟩,
     ⟨.tmp, .move (.v 7), .none⟩,
     ⟨.tmp, .bin .add (.t 0) (.c (.int .i64 (.ofNat 1))), .none⟩,
     ⟨.tmp, .slcStr (.t 2) (.some (.t 0)) .none, .none⟩,
     ⟨.tmp, .move (.v 5), .none⟩,
     ⟨.tmp, .move (.v 6), .none⟩,
     ⟨.tmp, .idxStr (.t 1) (.t 0), .none⟩,
     ⟨.tmp, .call 57 [(.t 3), (.t 0)], .none⟩,
     ⟨(.var 9), .move (.t 0), .none⟩]) (
   .seq (.seq (.reg [⟨.tmp, .move (.v 9), .none⟩,
     ⟨.tmp, .bin .lss (.t 0) (.c (.int .i64 (.ofNat 0))), .none⟩]) (
   .cond (.t 0) (
    .seq (.reg [⟨(.var 2), .move (.c (.int .i64 (.negSucc 0))), .none⟩]) (
    .ret)) (
    .skip))) (
   .reg [⟨.tmp, .move (.v 7), .none⟩,
     ⟨.tmp, .move (.v 9), .none⟩,
     ⟨.tmp, .bin .add (.t 0) (.c (.int .i64 (.ofNat 1))), .none⟩,
     ⟨.tmp, .bin .add (.t 2) (.t 0), .none⟩,
     ⟨(.var 7), .move (.t 0), .none⟩]))) (
   .skip))) (
  .seq (.seq (.reg [⟨(.var 10), .move (.c (.int .i64 (.ofNat 1))), .none⟩]) (
  .block 3 (
   .loop b47_2))) r47_3)))
def b47_5 : DC :=
 .seq (.seq (.reg [⟨.tmp, .move (.v 14), .none⟩,
   ⟨.tmp, .move (.v 5), .none⟩,
   ⟨.tmp, .len true (.t 0), .none⟩,
   ⟨.tmp, .bin .lss (.t 2) (.t 0), .none⟩]) (
 .cond (.t 0) (
  .skip) (
  .exit 7))) (
 .seq (.block 8 (
  .seq (.reg [⟨.tmp, .move (.v 0), .none⟩,
    ⟨.tmp, .move (.v 7), .none⟩,
    ⟨.tmp, .move (.v 14), .none⟩,
    ⟨.tmp, .bin .sub (.t 1) (.t 0), .none⟩,
    ⟨.tmp, .idxStr (.t 3) (.t 0), .none⟩,
    ⟨.tmp, .move (.v 5), .none⟩,
    ⟨.tmp, .move (.v 6), .none⟩,
    ⟨.tmp, .move (.v 14), .none⟩,
    ⟨.tmp, .bin .sub (.t 1) (.t 0), .none⟩,
    ⟨.tmp, .idxStr (.t 3) (.t 0), .none⟩,
    ⟨.tmp, .bin .neq (.t 5) (.t 0), .none⟩]) (
  .cond (.t 0) (
   .exit 6) (
   .skip)))) (
 .reg [⟨.tmp, .move (.v 14), .none⟩,
   ⟨.tmp, .bin .add (.t 0) (.c (.int .i64 (.ofNat 1))), .none⟩,
   ⟨(.var 14), .move (.t 0), .none⟩]))
def r47_6 : DC :=
 .seq (.reg [⟨.tmp, .move (.v 7), .none⟩,
   ⟨.tmp, .move (.v 6), .none⟩,
   ⟨.tmp, .bin .sub (.t 1) (.t 0), .none⟩,
   ⟨(.var 2), .move (.t 0), .none⟩]) (
 .ret)
def r47_7 : DC :=
 .reg [⟨.tmp, .move (.v 7), .none⟩,
   ⟨.tmp, .bin .add (.t 0) (.c (.int .i64 (.ofNat 1))), .none⟩,
   ⟨(.var 7), .move (.t 0), .none⟩]
def b47_8 : DC :=
 .seq (.seq (.reg [⟨.tmp, .move (.v 7), .none⟩,
   ⟨.tmp, .move (.v 0), .none⟩,
   ⟨.tmp, .len true (.t 0), .none⟩,
   ⟨.tmp, .bin .lss (.t 2) (.t 0), .none⟩]) (
 .cond (.t 0) (
  .skip) (
  .exit 5))) (
 .seq (.block 6 (
  .seq (.reg [⟨.tmp, .move (.v 0), .none⟩,
    ⟨.tmp, .move (.v 7), .none⟩,
    ⟨.tmp, .idxStr (.t 1) (.t 0), .none⟩,
    ⟨.tmp, .move (.v 12), .none⟩,
    ⟨.tmp, .bin .eql (.t 1) (.t 0), .none⟩,
    ⟨.tmp, .move (.t 0), .none⟩,
    ⟨.tmp, .move (.v 0), .some ((.t 0), true)⟩,
    ⟨.tmp, .move (.v 7), .some ((.t 1), true)⟩,
    ⟨.tmp, .bin .sub (.t 0) (.c (.int .i64 (.ofNat 1))), .some ((.t 2), true)⟩,
    ⟨.tmp, .idxStr (.t 2) (.t 0), .some ((.t 3), true)⟩,
    ⟨.tmp, .move (.v 13), .some ((.t 4), true)⟩,
    ⟨.tmp, .bin .eql (.t 1) (.t 0), .some ((.t 5), true)⟩,
    ⟨.tmp, .pick (.t 6) (.t 0) (.c (.bool false)), .none⟩]) (
  .cond (.t 0) (
   .seq (.seq (.reg [⟨(.var 14), .move (.c (.int .i64 (.ofNat 2))), .none⟩]) (
   .block 7 (
    .loop b47_5))) r47_6) (
   .skip)))) r47_7)
def r47_9 : DC :=
 .seq (.reg [⟨(.var 2), .move (.c (.int .i64 (.negSucc 0))), .none⟩]) (
 .ret)
def r47_10 : DC :=
 .seq (.seq (.reg [⟨(.var 2), .move (.c (.int .i64 (.negSucc 0))), .none⟩]) (
 .ret)) (
 .seq (.skip) (
 .seq (.cond (.c (.bool true)) (
  .seq (.reg [⟨.tmp, .move (.v 0), .none⟩,
    ⟨.tmp, .move (.v 7), .none⟩,
    ⟨.tmp, .move (.v 6), .none⟩,
    ⟨.tmp, .bin .sub (.t 1) (.t 0), .none⟩,
    ⟨.tmp, .slcStr (.t 3) (.some (.t 0)) .none, .none⟩,
    ⟨.tmp, .move (.v 1), .none⟩,
    ⟨.tmp, .convIS (.t 0), .none⟩,
    ⟨.tmp, .call 60 [(.t 2), (.t 0)], .none⟩,
    ⟨(.var 11), .move (.t 0), .none⟩]) (
  .seq (.reg [⟨.tmp, .move (.v 11), .none⟩,
    ⟨.tmp, .bin .geq (.t 0) (.c (.int .i64 (.ofNat 0))), .none⟩]) (
  .cond (.t 0) (
   .seq (.reg [⟨.tmp, .move (.v 7), .none⟩,
     ⟨.tmp, .move (.v 11), .none⟩,
     ⟨.tmp, .bin .add (.t 1) (.t 0), .none⟩,
     ⟨.tmp, .move (.v 6), .none⟩,
     ⟨.tmp, .bin .sub (.t 1) (.t 0), .none⟩,
     ⟨(.var 2), .move (.t 0), .none⟩]) (
   .ret)) (
   .skip)))) (
  .seq (.reg [⟨.tmp, .move (.v 5), .none⟩,
    ⟨.tmp, .move (.v 6), .none⟩,
    ⟨.tmp, .idxStr (.t 1) (.t 0), .none⟩,
    ⟨(.var 12), .move (.t 0), .none⟩]) (
  .seq (.reg [⟨.tmp, .move (.v 5), .none⟩,
    ⟨.tmp, .move (.v 6), .none⟩,
    ⟨.tmp, .bin .sub (.t 0) (.c (.int .i64 (.ofNat 1))), .none⟩,
    ⟨.tmp, .idxStr (.t 2) (.t 0), .none⟩,
    ⟨(.var 13), .move (.t 0), .none⟩]) (
  .seq (.skip) (
  .block 5 (
   .loop b47_8)))))) r47_9))
def d47 : DF := ⟨[.some 0, .some 1, .some 4, .some 5, .some 6, .some 7, .some 8, .some 9, .some 10, .some 11, .some 12, .some 13, .some 14, .some 15, .some 16, .some 175, .some 176],
  .seq (.reg [⟨(.var 2), .move (.c (.int .i64 (.ofNat 0))), .none⟩]) (
  .block 0 (
   .seq (.reg [⟨.tmp, .move (.v 1), .none⟩,
     ⟨.tmp, .bin .leq (.c (.int .i32 (.ofNat 0))) (.t 0), .none⟩,
     ⟨.tmp, .move (.t 0), .none⟩,
     ⟨.tmp, .move (.v 1), .some ((.t 0), true)⟩,
     ⟨.tmp, .bin .lss (.t 0) (.c (.int .i32 (.ofNat 128))), .some ((.t 1), true)⟩,
     ⟨.tmp, .pick (.t 2) (.t 0) (.c (.bool false)), .none⟩,
     ⟨.tmp, .move (.t 0), .none⟩]) (
   .cond (.t 0) (
    .seq (.reg [⟨.tmp, .move (.v 0), .none⟩,
      ⟨.tmp, .move (.v 1), .none⟩,
      ⟨.tmp, .conv .u8 (.t 0), .none⟩,
      ⟨.tmp, .call 57 [(.t 2), (.t 0)], .none⟩,
      ⟨(.var 2), .move (.t 0), .none⟩]) (
    .ret)) (
    .seq (.reg [⟨.tmp, .move (.v 1), .none⟩,
      ⟨.tmp, .bin .eql (.t 0) (.c (.int .i32 (.ofNat 65533))), .none⟩,
      ⟨.tmp, .move (.t 0), .none⟩]) (
    .cond (.t 0) (
     .seq (.seq (.reg [⟨.tmp, .move (.v 0), .none⟩,
       ⟨(.var 15), .rngS (.t 0), .none⟩]) (
     .block 9 (
      .loop b47_0))) r47_1) (
     .seq (.reg [⟨.tmp, .move (.v 1), .none⟩,
       ⟨.tmp, .call 58 [(.t 0)], .none⟩,
       ⟨.tmp, .not (.t 0), .none⟩,
       ⟨.tmp, .move (.t 0), .none⟩]) (
     .cond (.t 0) (
      .seq (.reg [⟨(.var 2), .move (.c (.int .i64 (.negSucc 0))), .none⟩]) (
      .ret)) (
      .seq (.reg [⟨.tmp, .move (.v 1), .none⟩,
        ⟨.tmp, .convIS (.t 0), .none⟩,
        ⟨(.var 5), .move (.t 0), .none⟩]) (
      .seq (.reg [⟨.tmp, .move (.v 5), .none⟩,
        ⟨.tmp, .len true (.t 0), .none⟩,
        ⟨.tmp, .bin .sub (.t 0) (.c (.int .i64 (.ofNat 1))), .none⟩,
        ⟨(.var 6), .move (.t 0), .none⟩]) (
      .seq (.reg [⟨.tmp, .move (.v 6), .none⟩,
        ⟨(.var 7), .move (.t 0), .none⟩]) (
      .seq (.reg [⟨(.var 8), .move (.c (.int .i64 (.ofNat 0))), .none⟩]) (
      .seq (.block 1 (
       .loop b47_4)) r47_10)))))))))))),
  [.opd (.v 2)]⟩
/-- strings.trimLeftByte -/
def vm48 : List Nat := [0, 1, 4]
def b48_0 : DC :=
 .seq (.seq (.reg [⟨.tmp, .move (.v 0), .none⟩,
   ⟨.tmp, .len true (.t 0), .none⟩,
   ⟨.tmp, .bin .gtr (.t 0) (.c (.int .i64 (.ofNat 0))), .none⟩,
   ⟨.tmp, .move (.t 0), .none⟩,
   ⟨.tmp, .move (.v 0), .some ((.t 0), true)⟩,
   ⟨.tmp, .idxStr (.t 0) (.c (.int .i64 (.ofNat 0))), .some ((.t 1), true)⟩,
   ⟨.tmp, .move (.v 1), .some ((.t 2), true)⟩,
   ⟨.tmp, .bin .eql (.t 1) (.t 0), .some ((.t 3), true)⟩,
   ⟨.tmp, .pick (.t 4) (.t 0) (.c (.bool false)), .none⟩]) (
 .cond (.t 0) (
  .skip) (
  .exit 0))) (
 .block 1 (
  .reg [⟨.tmp, .move (.v 0), .none⟩,
    ⟨.tmp, .slcStr (.t 0) (.some (.c (.int .i64 (.ofNat 1)))) .none, .none⟩,
    ⟨(.var 0), .move (.t 0), .none⟩]))
def r48_1 : DC :=
 .seq (.reg [⟨.tmp, .move (.v 0), .none⟩,
   ⟨(.var 2), .move (.t 0), .none⟩]) (
 .ret)
def d48 : DF := ⟨[.some 0, .some 1, .some 4],
  .seq (.reg [⟨(.var 2), .move (.c (.str 0 0)), .none⟩]) (
  .seq (.block 0 (
   .loop b48_0)) r48_1),
  [.opd (.v 2)]⟩
/-- strings.trimRightByte -/
def vm49 : List Nat := [0, 1, 4]
def b49_0 : DC :=
 .seq (.seq (.reg [⟨.tmp, .move (.v 0), .none⟩,
   ⟨.tmp, .len true (.t 0), .none⟩,
   ⟨.tmp, .bin .gtr (.t 0) (.c (.int .i64 (.ofNat 0))), .none⟩,
   ⟨.tmp, .move (.t 0), .none⟩,
   ⟨.tmp, .move (.v 0), .some ((.t 0), true)⟩,
   ⟨.tmp, .move (.v 0), .some ((.t 1), true)⟩,
   ⟨.tmp, .len true (.t 0), .some ((.t 2), true)⟩,
   ⟨.tmp, .bin .sub (.t 0) (.c (.int .i64 (.ofNat 1))), .some ((.t 3), true)⟩,
   ⟨.tmp, .idxStr (.t 3) (.t 0), .some ((.t 4), true)⟩,
   ⟨.tmp, .move (.v 1), .some ((.t 5), true)⟩,
   ⟨.tmp, .bin .eql (.t 1) (.t 0), .some ((.t 6), true)⟩,
   ⟨.tmp, .pick (.t 7) (.t 0) (.c (.bool false)), .none⟩]) (
 .cond (.t 0) (
  .skip) (
  .exit 0))) (
 .block 1 (
  .reg [⟨.tmp, .move (.v 0), .none⟩,
    ⟨.tmp, .move (.v 0), .none⟩,
    ⟨.tmp, .len true (.t 0), .none⟩,
    ⟨.tmp, .bin .sub (.t 0) (.c (.int .i64 (.ofNat 1))), .none⟩,
    ⟨.tmp, .slcStr (.t 3) .none (.some (.t 0)), .none⟩,
    ⟨(.var 0), .move (.t 0), .none⟩]))
def r49_1 : DC :=
 .seq (.reg [⟨.tmp, .move (.v 0), .none⟩,
   ⟨(.var 2), .move (.t 0), .none⟩]) (
 .ret)
def d49 : DF := ⟨[.some 0, .some 1, .some 4],
  .seq (.reg [⟨(.var 2), .move (.c (.str 0 0)), .none⟩]) (
  .seq (.block 0 (
   .loop b49_0)) r49_1),
  [.opd (.v 2)]⟩
/-- strings.makeASCIISet -/
def vm50 : List Nat := [0, 2, 3, 4, 5]
def b50_0 : DC :=
 .seq (.seq (.reg [⟨.tmp, .move (.v 3), .none⟩,
   ⟨.tmp, .move (.v 0), .none⟩,
   ⟨.tmp, .len true (.t 0), .none⟩,
   ⟨.tmp, .bin .lss (.t 2) (.t 0), .none⟩]) (
 .cond (.t 0) (
  .skip) (
  .exit 0))) (
 .seq (.block 1 (
  .seq (.reg [⟨.tmp, .move (.v 0), .none⟩,
    ⟨.tmp, .move (.v 3), .none⟩,
    ⟨.tmp, .idxStr (.t 1) (.t 0), .none⟩,
    ⟨(.var 4), .move (.t 0), .none⟩]) (
  .seq (.seq (.reg [⟨.tmp, .move (.v 4), .none⟩,
    ⟨.tmp, .bin .geq (.t 0) (.c (.int .u8 (.ofNat 128))), .none⟩]) (
  .cond (.t 0) (
   .seq (.reg [⟨.tmp, .loadN 256 (.v 1), .none⟩,
     ⟨.no, .store 256 (.v 1) (.t 0), .none⟩,
     ⟨(.var 2), .move (.c (.bool false)), .none⟩]) (
   .ret)) (
   .skip))) (
  .reg [⟨.tmp, .move (.v 4), .none⟩,
    ⟨.tmp, .idxA 256 1 (.v 1) (.t 0), .none⟩,
    ⟨.no, .store 1 (.t 0) (.c (.bool true)), .none⟩])))) (
 .reg [⟨.tmp, .move (.v 3), .none⟩,
   ⟨.tmp, .bin .add (.t 0) (.c (.int .i64 (.ofNat 1))), .none⟩,
   ⟨(.var 3), .move (.t 0), .none⟩]))
def r50_1 : DC :=
 .seq (.reg [⟨.tmp, .loadN 256 (.v 1), .none⟩,
   ⟨.no, .store 256 (.v 1) (.t 0), .none⟩,
   ⟨(.var 2), .move (.c (.bool true)), .none⟩]) (
 .ret)
def d50 : DF := ⟨[.some 0, .some 2, .some 3, .some 4, .some 5],
  .seq (.reg [⟨(.var 1), .alloc [.bool false, .bool false, .bool false, .bool false, .bool false, .bool false, .bool false, .bool false, .bool false, .bool false, .bool false, .bool false, .bool false, .bool false, .bool false, .bool false, .bool false, .bool false, .bool false, .bool false, .bool false, .bool false, .bool false, .bool false, .bool false, .bool false, .bool false, .bool false, .bool false, .bool false, .bool false, .bool false, .bool false, .bool false, .bool false, .bool false, .bool false, .bool false, .bool false, .bool false, .bool false, .bool false, .bool false, .bool false, .bool false, .bool false, .bool false, .bool false, .bool false, .bool false, .bool false, .bool false, .bool false, .bool false, .bool false, .bool false, .bool false, .bool false, .bool false, .bool false, .bool false, .bool false, .bool false, .bool false, .bool false, .bool false, .bool false, .bool false, .bool false, .bool false, .bool false, .bool false, .bool false, .bool false, .bool false, .bool false, .bool false, .bool false, .bool false, .bool false, .bool false, .bool false, .bool false, .bool false, .bool false, .bool false, .bool false, .bool false, .bool false, .bool false, .bool false, .bool false, .bool false, .bool false, .bool false, .bool false, .bool false, .bool false, .bool false, .bool false, .bool false, .bool false, .bool false, .bool false, .bool false, .bool false, .bool false, .bool false, .bool false, .bool false, .bool false, .bool false, .bool false, .bool false, .bool false, .bool false, .bool false, .bool false, .bool false, .bool false, .bool false, .bool false, .bool false, .bool false, .bool false, .bool false, .bool false, .bool false, .bool false, .bool false, .bool false, .bool false, .bool false, .bool false, .bool false, .bool false, .bool false, .bool false, .bool false, .bool false, .bool false, .bool false, .bool false, .bool false, .bool false, .bool false, .bool false, .bool false, .bool false, .bool false, .bool false, .bool false, .bool false, .bool false, .bool false, .bool false, .bool false, .bool false, .bool false, .bool false, .bool false, .bool false, .bool false, .bool false, .bool false, .bool false, .bool false, .bool false, .bool false, .bool false, .bool false, .bool false, .bool false, .bool false, .bool false, .bool false, .bool false, .bool false, .bool false, .bool false, .bool false, .bool false, .bool false, .bool false, .bool false, .bool false, .bool false, .bool false, .bool false, .bool false, .bool false, .bool false, .bool false, .bool false, .bool false, .bool false, .bool false, .bool false, .bool false, .bool false, .bool false, .bool false, .bool false, .bool false, .bool false, .bool false, .bool false, .bool false, .bool false, .bool false, .bool false, .bool false, .bool false, .bool false, .bool false, .bool false, .bool false, .bool false, .bool false, .bool false, .bool false, .bool false, .bool false, .bool false, .bool false, .bool false, .bool false, .bool false, .bool false, .bool false, .bool false, .bool false, .bool false, .bool false, .bool false, .bool false, .bool false, .bool false, .bool false, .bool false, .bool false, .bool false, .bool false, .bool false, .bool false, .bool false, .bool false, .bool false, .bool false, .bool false, .bool false, .bool false, .bool false, .bool false, .bool false, .bool false], .none⟩,
    ⟨(.var 2), .move (.c (.bool false)), .none⟩]) (
  .seq (.seq (.reg [⟨(.var 3), .move (.c (.int .i64 (.ofNat 0))), .none⟩]) (
  .block 0 (
   .loop b50_0))) r50_1),
  [.cellN 256 (.v 1), .opd (.v 2)]⟩
/-- strings.trimLeftASCII -/
def vm51 : List Nat := [0, 1, 4]
def b51_0 : DC :=
 .seq (.seq (.reg [⟨.tmp, .move (.v 0), .none⟩,
   ⟨.tmp, .len true (.t 0), .none⟩,
   ⟨.tmp, .bin .gtr (.t 0) (.c (.int .i64 (.ofNat 0))), .none⟩]) (
 .cond (.t 0) (
  .skip) (
  .exit 0))) (
 .block 1 (
  .seq (.seq (.reg [⟨.tmp, .move (.v 1), .none⟩,
    ⟨.tmp, .move (.v 0), .none⟩,
    ⟨.tmp, .idxStr (.t 0) (.c (.int .i64 (.ofNat 0))), .none⟩,
    ⟨.tmp, .call 61 [(.t 2), (.t 0)], .none⟩,
    ⟨.tmp, .not (.t 0), .none⟩]) (
  .cond (.t 0) (
   .exit 0) (
   .skip))) (
  .reg [⟨.tmp, .move (.v 0), .none⟩,
    ⟨.tmp, .slcStr (.t 0) (.some (.c (.int .i64 (.ofNat 1)))) .none, .none⟩,
    ⟨(.var 0), .move (.t 0), .none⟩])))
def r51_1 : DC :=
 .seq (.reg [⟨.tmp, .move (.v 0), .none⟩,
   ⟨(.var 2), .move (.t 0), .none⟩]) (
 .ret)
def d51 : DF := ⟨[.some 0, .some 1, .some 4],
  .seq (.reg [⟨(.var 2), .move (.c (.str 0 0)), .none⟩]) (
  .seq (.block 0 (
   .loop b51_0)) r51_1),
  [.opd (.v 2)]⟩
/-- strings.trimRightASCII -/
def vm52 : List Nat := [0, 1, 4]
def b52_0 : DC :=
 .seq (.seq (.reg [⟨.tmp, .move (.v 0), .none⟩,
   ⟨.tmp, .len true (.t 0), .none⟩,
   ⟨.tmp, .bin .gtr (.t 0) (.c (.int .i64 (.ofNat 0))), .none⟩]) (
 .cond (.t 0) (
  .skip) (
  .exit 0))) (
 .block 1 (
  .seq (.seq (.reg [⟨.tmp, .move (.v 1), .none⟩,
    ⟨.tmp, .move (.v 0), .none⟩,
    ⟨.tmp, .move (.v 0), .none⟩,
    ⟨.tmp, .len true (.t 0), .none⟩,
    ⟨.tmp, .bin .sub (.t 0) (.c (.int .i64 (.ofNat 1))), .none⟩,
    ⟨.tmp, .idxStr (.t 3) (.t 0), .none⟩,
    ⟨.tmp, .call 61 [(.t 5), (.t 0)], .none⟩,
    ⟨.tmp, .not (.t 0), .none⟩]) (
  .cond (.t 0) (
   .exit 0) (
   .skip))) (
  .reg [⟨.tmp, .move (.v 0), .none⟩,
    ⟨.tmp, .move (.v 0), .none⟩,
    ⟨.tmp, .len true (.t 0), .none⟩,
    ⟨.tmp, .bin .sub (.t 0) (.c (.int .i64 (.ofNat 1))), .none⟩,
    ⟨.tmp, .slcStr (.t 3) .none (.some (.t 0)), .none⟩,
    ⟨(.var 0), .move (.t 0), .none⟩])))
def r52_1 : DC :=
 .seq (.reg [⟨.tmp, .move (.v 0), .none⟩,
   ⟨(.var 2), .move (.t 0), .none⟩]) (
 .ret)
def d52 : DF := ⟨[.some 0, .some 1, .some 4],
  .seq (.reg [⟨(.var 2), .move (.c (.str 0 0)), .none⟩]) (
  .seq (.block 0 (
   .loop b52_0)) r52_1),
  [.opd (.v 2)]⟩
/-- strings.trimLeftUnicode -/
def vm53 : List Nat := [0, 1, 4, 5, 6]
def b53_0 : DC :=
 .seq (.seq (.reg [⟨.tmp, .move (.v 0), .none⟩,
   ⟨.tmp, .len true (.t 0), .none⟩,
   ⟨.tmp, .bin .gtr (.t 0) (.c (.int .i64 (.ofNat 0))), .none⟩]) (
 .cond (.t 0) (
  .skip) (
  .exit 0))) (
 .block 1 (
  .seq (.reg [⟨.tmp, .move (.v 0), .none⟩,
    ⟨.tmp, .call 41 [(.t 0)], .none⟩,
    ⟨.tmp, .move (.t 0), .none⟩,
    ⟨.tmp, .ext (.t 0) 0, .none⟩,
    ⟨.tmp, .ext (.t 1) 1, .none⟩,
    ⟨(.var 3), .move (.t 1), .none⟩,
    ⟨(.var 4), .move (.t 0), .none⟩]) (
  .seq (.seq (.reg [⟨.tmp, .move (.v 1), .none⟩,
    ⟨.tmp, .move (.v 3), .none⟩,
    ⟨.tmp, .call 42 [(.t 1), (.t 0)], .none⟩,
    ⟨.tmp, .not (.t 0), .none⟩]) (
  .cond (.t 0) (
   .exit 0) (
   .skip))) (
  .reg [⟨.tmp, .move (.v 0), .none⟩,
    ⟨.tmp, .move (.v 4), .none⟩,
    ⟨.tmp, .slcStr (.t 1) (.some (.t 0)) .none, .none⟩,
    ⟨(.var 0), .move (.t 0), .none⟩]))))
def r53_1 : DC :=
 .seq (.reg [⟨.tmp, .move (.v 0), .none⟩,
   ⟨(.var 2), .move (.t 0), .none⟩]) (
 .ret)
def d53 : DF := ⟨[.some 0, .some 1, .some 4, .some 5, .some 6],
  .seq (.reg [⟨(.var 2), .move (.c (.str 0 0)), .none⟩]) (
  .seq (.block 0 (
   .loop b53_0)) r53_1),
  [.opd (.v 2)]⟩
/-- strings.trimRightUnicode -/
def vm54 : List Nat := [0, 1, 4, 5, 6]
def b54_0 : DC :=
 .seq (.seq (.reg [⟨.tmp, .move (.v 0), .none⟩,
   ⟨.tmp, .len true (.t 0), .none⟩,
   ⟨.tmp, .bin .gtr (.t 0) (.c (.int .i64 (.ofNat 0))), .none⟩]) (
 .cond (.t 0) (
  .skip) (
  .exit 0))) (
 .block 1 (
  .seq (.reg [⟨.tmp, .move (.v 0), .none⟩,
    ⟨.tmp, .move (.v 0), .none⟩,
    ⟨.tmp, .len true (.t 0), .none⟩,
    ⟨.tmp, .bin .sub (.t 0) (.c (.int .i64 (.ofNat 1))), .none⟩,
    ⟨.tmp, .idxStr (.t 3) (.t 0), .none⟩,
    ⟨.tmp, .conv .i32 (.t 0), .none⟩,
    ⟨(.var 3), .move (.t 0), .none⟩,
    ⟨(.var 4), .move (.c (.int .i64 (.ofNat 1))), .none⟩]) (
  .seq (.seq (.reg [⟨.tmp, .move (.v 3), .none⟩,
    ⟨.tmp, .bin .geq (.t 0) (.c (.int .i32 (.ofNat 128))), .none⟩]) (
  .cond (.t 0) (
   .reg [⟨.tmp, .move (.v 0), .none⟩,
     ⟨.tmp, .call 62 [(.t 0)], .none⟩,
     ⟨.tmp, .move (.t 0), .none⟩,
     ⟨.tmp, .ext (.t 0) 0, .none⟩,
     ⟨.tmp, .ext (.t 1) 1, .none⟩,
     ⟨(.var 3), .move (.t 1), .none⟩,
     ⟨(.var 4), .move (.t 0), .none⟩]) (
   .skip))) (
  .seq (.seq (.reg [⟨.tmp, .move (.v 1), .none⟩,
    ⟨.tmp, .move (.v 3), .none⟩,
    ⟨.tmp, .call 42 [(.t 1), (.t 0)], .none⟩,
    ⟨.tmp, .not (.t 0), .none⟩]) (
  .cond (.t 0) (
   .exit 0) (
   .skip))) (
  .reg [⟨.tmp, .move (.v 0), .none⟩,
    ⟨.tmp, .move (.v 0), .none⟩,
    ⟨.tmp, .len true (.t 0), .none⟩,
    ⟨.tmp, .move (.v 4), .none⟩,
    ⟨.tmp, .bin .sub (.t 1) (.t 0), .none⟩,
    ⟨.tmp, .slcStr (.t 4) .none (.some (.t 0)), .none⟩,
    ⟨(.var 0), .move (.t 0), .none⟩])))))
def r54_1 : DC :=
 .seq (.reg [⟨.tmp, .move (.v 0), .none⟩,
   ⟨(.var 2), .move (.t 0), .none⟩]) (
 .ret)
def d54 : DF := ⟨[.some 0, .some 1, .some 4, .some 5, .some 6],
  .seq (.reg [⟨(.var 2), .move (.c (.str 0 0)), .none⟩]) (
  .seq (.block 0 (
   .loop b54_0)) r54_1),
  [.opd (.v 2)]⟩
/-- unicode.is16 -/
def vm55 : List Nat := [0, 1, 4, 5, 6, 7, 8, 9, 10, 19, 20]
def b55_0 : DC :=
 .seq (.reg [⟨.tmp, .bin .lss (.v 10) (.v 9), .none⟩]) (
 .seq (.cond (.t 0) (
  .skip) (
  .exit 0)) (
 .seq (.block 1 (
  .seq (.reg [⟨.tmp, .move (.v 10), .none⟩,
    ⟨(.var 3), .move (.t 0), .none⟩]) (
  .seq (.reg [⟨.tmp, .move (.v 0), .none⟩,
    ⟨.tmp, .move (.v 3), .none⟩,
    ⟨.tmp, .idxS 3 (.t 1) (.t 0), .none⟩,
    ⟨(.var 4), .move (.t 0), .none⟩]) (
  .seq (.seq (.reg [⟨.tmp, .move (.v 1), .none⟩,
    ⟨.tmp, .move (.v 4), .none⟩,
    ⟨.tmp, .nilck (.t 0), .none⟩,
    ⟨.tmp, .fadr 0 (.t 0), .none⟩,
    ⟨.tmp, .load1 (.t 0), .none⟩,
    ⟨.tmp, .bin .lss (.t 4) (.t 0), .none⟩]) (
  .cond (.t 0) (
   .seq (.reg [⟨(.var 2), .move (.c (.bool false)), .none⟩]) (
   .ret)) (
   .skip))) (
  .seq (.reg [⟨.tmp, .move (.v 1), .none⟩,
    ⟨.tmp, .move (.v 4), .none⟩,
    ⟨.tmp, .nilck (.t 0), .none⟩,
    ⟨.tmp, .fadr 1 (.t 0), .none⟩,
    ⟨.tmp, .load1 (.t 0), .none⟩,
    ⟨.tmp, .bin .leq (.t 4) (.t 0), .none⟩]) (
  .cond (.t 0) (
   .seq (.reg [⟨.tmp, .move (.v 4), .none⟩,
     ⟨.tmp, .nilck (.t 0), .none⟩,
     ⟨.tmp, .fadr 2 (.t 0), .none⟩,
     ⟨.tmp, .load1 (.t 0), .none⟩,
     ⟨.tmp, .bin .eql (.t 0) (.c (.int .u16 (.ofNat 1))), .none⟩,
     ⟨.tmp, .move (.t 0), .none⟩,
     ⟨.tmp, .move (.v 1), .some ((.t 0), false)⟩,
     ⟨.tmp, .move (.v 4), .some ((.t 1), false)⟩,
     ⟨.tmp, .nilck (.t 0), .some ((.t 2), false)⟩,
     ⟨.tmp, .fadr 0 (.t 0), .some ((.t 3), false)⟩,
     ⟨.tmp, .load1 (.t 0), .some ((.t 4), false)⟩,
     ⟨.tmp, .bin .sub (.t 4) (.t 0), .some ((.t 5), false)⟩,
     ⟨.tmp, .move (.v 4), .some ((.t 6), false)⟩,
     ⟨.tmp, .nilck (.t 0), .some ((.t 7), false)⟩,
     ⟨.tmp, .fadr 2 (.t 0), .some ((.t 8), false)⟩,
     ⟨.tmp, .load1 (.t 0), .some ((.t 9), false)⟩,
     ⟨.tmp, .bin .rem (.t 4) (.t 0), .some ((.t 10), false)⟩,
     ⟨.tmp, .bin .eql (.t 0) (.c (.int .u16 (.ofNat 0))), .some ((.t 11), false)⟩,
     ⟨.tmp, .pick (.t 12) (.c (.bool true)) (.t 0), .none⟩,
     ⟨(.var 2), .move (.t 0), .none⟩]) (
   .ret)) (
   .skip))))))) (
 .reg [⟨.tmp, .bin .add (.v 10) (.c (.int .i64 (.ofNat 1))), .none⟩,
   ⟨(.var 10), .move (.t 0), .none⟩])))
def r55_1 : DC :=
 .seq (.reg [⟨(.var 2), .move (.c (.bool false)), .none⟩]) (
 .ret)
def b55_2 : DC :=
 .seq (.seq (.reg [⟨.tmp, .move (.v 5), .none⟩,
   ⟨.tmp, .move (.v 6), .none⟩,
   ⟨.tmp, .bin .lss (.t 1) (.t 0), .none⟩]) (
 .cond (.t 0) (
  .skip) (
  .exit 2))) (
 .block 3 (
  .seq (.reg [⟨.tmp, .move (.v 5), .none⟩,
    ⟨.tmp, .move (.v 6), .none⟩,
    ⟨.tmp, .bin .add (.t 1) (.t 0), .none⟩,
    ⟨.tmp, .conv .u64 (.t 0), .none⟩,
    ⟨.tmp, .bin .shr (.t 0) (.c (.int .u64 (.ofNat 1))), .none⟩,
    ⟨.tmp, .conv .i64 (.t 0), .none⟩,
    ⟨(.var 7), .move (.t 0), .none⟩]) (
  .seq (.reg [⟨.tmp, .move (.v 0), .none⟩,
    ⟨.tmp, .move (.v 7), .none⟩,
    ⟨.tmp, .idxS 3 (.t 1) (.t 0), .none⟩,
    ⟨(.var 8), .move (.t 0), .none⟩]) (
  .seq (.seq (.reg [⟨.tmp, .move (.v 8), .none⟩,
    ⟨.tmp, .nilck (.t 0), .none⟩,
    ⟨.tmp, .fadr 0 (.t 0), .none⟩,
    ⟨.tmp, .load1 (.t 0), .none⟩,
    ⟨.tmp, .move (.v 1), .none⟩,
    ⟨.tmp, .bin .leq (.t 1) (.t 0), .none⟩,
    ⟨.tmp, .move (.t 0), .none⟩,
    ⟨.tmp, .move (.v 1), .some ((.t 0), true)⟩,
    ⟨.tmp, .move (.v 8), .some ((.t 1), true)⟩,
    ⟨.tmp, .nilck (.t 0), .some ((.t 2), true)⟩,
    ⟨.tmp, .fadr 1 (.t 0), .some ((.t 3), true)⟩,
    ⟨.tmp, .load1 (.t 0), .some ((.t 4), true)⟩,
    ⟨.tmp, .bin .leq (.t 4) (.t 0), .some ((.t 5), true)⟩,
    ⟨.tmp, .pick (.t 6) (.t 0) (.c (.bool false)), .none⟩]) (
  .cond (.t 0) (
   .seq (.reg [⟨.tmp, .move (.v 8), .none⟩,
     ⟨.tmp, .nilck (.t 0), .none⟩,
     ⟨.tmp, .fadr 2 (.t 0), .none⟩,
     ⟨.tmp, .load1 (.t 0), .none⟩,
     ⟨.tmp, .bin .eql (.t 0) (.c (.int .u16 (.ofNat 1))), .none⟩,
     ⟨.tmp, .move (.t 0), .none⟩,
     ⟨.tmp, .move (.v 1), .some ((.t 0), false)⟩,
     ⟨.tmp, .move (.v 8), .some ((.t 1), false)⟩,
     ⟨.tmp, .nilck (.t 0), .some ((.t 2), false)⟩,
     ⟨.tmp, .fadr 0 (.t 0), .some ((.t 3), false)⟩,
     ⟨.tmp, .load1 (.t 0), .some ((.t 4), false)⟩,
     ⟨.tmp, .bin .sub (.t 4) (.t 0), .some ((.t 5), false)⟩,
     ⟨.tmp, .move (.v 8), .some ((.t 6), false)⟩,
     ⟨.tmp, .nilck (.t 0), .some ((.t 7), false)⟩,
     ⟨.tmp, .fadr 2 (.t 0), .some ((.t 8), false)⟩,
     ⟨.tmp, .load1 (.t 0), .some ((.t 9), false)⟩,
     ⟨.tmp, .bin .rem (.t 4) (.t 0), .some ((.t 10), false)⟩,
     ⟨.tmp, .bin .eql (.t 0) (.c (.int .u16 (.ofNat 0))), .some ((.t 11), false)⟩,
     ⟨.tmp, .pick (.t 12) (.c (.bool true)) (.t 0), .none⟩,
     ⟨(.var 2), .move (.t 0), .none⟩]) (
   .ret)) (
   .skip))) (
  .seq (.reg [⟨.tmp, .move (.v 1), .none⟩,
    ⟨.tmp, .move (.v 8), .none⟩,
    ⟨.tmp, .nilck (.t 0), .none⟩,
    ⟨.tmp, .fadr 0 (.t 0), .none⟩,
    ⟨.tmp, .load1 (.t 0), .none⟩,
    ⟨.tmp, .bin .lss (.t 4) (.t 0), .none⟩]) (
  .cond (.t 0) (
   .reg [⟨.tmp, .move (.v 7), .none⟩,
     ⟨(.var 6), .move (.t 0), .none⟩]) (
   .reg [⟨.tmp, .move (.v 7), .none⟩,
     ⟨.tmp, .bin .add (.t 0) (.c (.int .i64 (.ofNat 1))), .none⟩,
     ⟨(.var 5), .move (.t 0), .none⟩])))))))
def r55_3 : DC :=
 .seq (.reg [⟨(.var 2), .move (.c (.bool false)), .none⟩]) (
 .ret)
def r55_4 : DC :=
 .seq (.reg [⟨(.var 5), .move (.c (.int .i64 (.ofNat 0))), .none⟩]) (
 .seq (.reg [⟨.tmp, .move (.v 0), .none⟩,
   ⟨.tmp, .len false (.t 0), .none⟩,
   ⟨(.var 6), .move (.t 0), .none⟩]) (
 .seq (.block 2 (
  .loop b55_2)) r55_3))
def d55 : DF := ⟨[.some 0, .some 1, .some 4, .some 5, .some 6, .some 7, .some 8, .some 9, .some 10, .some 19, .some 20],
  .seq (.reg [⟨(.var 2), .move (.c (.bool false)), .none⟩]) (
  .seq (.seq (.reg [⟨.tmp, .move (.v 0), .none⟩,
    ⟨.tmp, .len false (.t 0), .none⟩,
    ⟨.tmp, .bin .leq (.t 0) (.c (.int .i64 (.ofNat 18))), .none⟩,
    ⟨.tmp, .move (.t 0), .none⟩,
    ⟨.tmp, .move (.v 1), .some ((.t 0), false)⟩,
    ⟨.tmp, .bin .leq (.t 0) (.c (.int .u16 (.ofNat 255))), .some ((.t 1), false)⟩,
    ⟨.tmp, .pick (.t 2) (.c (.bool true)) (.t 0), .none⟩]) (
  .cond (.t 0) (
   .seq (.seq (.reg [⟨.tmp, .move (.v 0), .none⟩,
     ⟨(.var 9), .len false (.t 0), .none⟩,
     ⟨(.var 10), .move (.c (.int .i64 (.ofNat 0))), .none⟩]) (
   .block 0 (
    .loop b55_0))) r55_1) (
   .skip))) r55_4),
  [.opd (.v 2)]⟩
/-- unicode.is32 -/
def vm56 : List Nat := [0, 1, 4, 5, 6, 7, 8, 9, 10, 15, 16]
def b56_0 : DC :=
 .seq (.reg [⟨.tmp, .bin .lss (.v 10) (.v 9), .none⟩]) (
 .seq (.cond (.t 0) (
  .skip) (
  .exit 0)) (
 .seq (.block 1 (
  .seq (.reg [⟨.tmp, .move (.v 10), .none⟩,
    ⟨(.var 3), .move (.t 0), .none⟩]) (
  .seq (.reg [⟨.tmp, .move (.v 0), .none⟩,
    ⟨.tmp, .move (.v 3), .none⟩,
    ⟨.tmp, .idxS 3 (.t 1) (.t 0), .none⟩,
    ⟨(.var 4), .move (.t 0), .none⟩]) (
  .seq (.seq (.reg [⟨.tmp, .move (.v 1), .none⟩,
    ⟨.tmp, .move (.v 4), .none⟩,
    ⟨.tmp, .nilck (.t 0), .none⟩,
    ⟨.tmp, .fadr 0 (.t 0), .none⟩,
    ⟨.tmp, .load1 (.t 0), .none⟩,
    ⟨.tmp, .bin .lss (.t 4) (.t 0), .none⟩]) (
  .cond (.t 0) (
   .seq (.reg [⟨(.var 2), .move (.c (.bool false)), .none⟩]) (
   .ret)) (
   .skip))) (
  .seq (.reg [⟨.tmp, .move (.v 1), .none⟩,
    ⟨.tmp, .move (.v 4), .none⟩,
    ⟨.tmp, .nilck (.t 0), .none⟩,
    ⟨.tmp, .fadr 1 (.t 0), .none⟩,
    ⟨.tmp, .load1 (.t 0), .none⟩,
    ⟨.tmp, .bin .leq (.t 4) (.t 0), .none⟩]) (
  .cond (.t 0) (
   .seq (.reg [⟨.tmp, .move (.v 4), .none⟩,
     ⟨.tmp, .nilck (.t 0), .none⟩,
     ⟨.tmp, .fadr 2 (.t 0), .none⟩,
     ⟨.tmp, .load1 (.t 0), .none⟩,
     ⟨.tmp, .bin .eql (.t 0) (.c (.int .u32 (.ofNat 1))), .none⟩,
     ⟨.tmp, .move (.t 0), .none⟩,
     ⟨.tmp, .move (.v 1), .some ((.t 0), false)⟩,
     ⟨.tmp, .move (.v 4), .some ((.t 1), false)⟩,
     ⟨.tmp, .nilck (.t 0), .some ((.t 2), false)⟩,
     ⟨.tmp, .fadr 0 (.t 0), .some ((.t 3), false)⟩,
     ⟨.tmp, .load1 (.t 0), .some ((.t 4), false)⟩,
     ⟨.tmp, .bin .sub (.t 4) (.t 0), .some ((.t 5), false)⟩,
     ⟨.tmp, .move (.v 4), .some ((.t 6), false)⟩,
     ⟨.tmp, .nilck (.t 0), .some ((.t 7), false)⟩,
     ⟨.tmp, .fadr 2 (.t 0), .some ((.t 8), false)⟩,
     ⟨.tmp, .load1 (.t 0), .some ((.t 9), false)⟩,
     ⟨.tmp, .bin .rem (.t 4) (.t 0), .some ((.t 10), false)⟩,
     ⟨.tmp, .bin .eql (.t 0) (.c (.int .u32 (.ofNat 0))), .some ((.t 11), false)⟩,
     ⟨.tmp, .pick (.t 12) (.c (.bool true)) (.t 0), .none⟩,
     ⟨(.var 2), .move (.t 0), .none⟩]) (
   .ret)) (
   .skip))))))) (
 .reg [⟨.tmp, .bin .add (.v 10) (.c (.int .i64 (.ofNat 1))), .none⟩,
   ⟨(.var 10), .move (.t 0), .none⟩])))
def r56_1 : DC :=
 .seq (.reg [⟨(.var 2), .move (.c (.bool false)), .none⟩]) (
 .ret)
def b56_2 : DC :=
 .seq (.seq (.reg [⟨.tmp, .move (.v 5), .none⟩,
   ⟨.tmp, .move (.v 6), .none⟩,
   ⟨.tmp, .bin .lss (.t 1) (.t 0), .none⟩]) (
 .cond (.t 0) (
  .skip) (
  .exit 2))) (
 .block 3 (
  .seq (.reg [⟨.tmp, .move (.v 5), .none⟩,
    ⟨.tmp, .move (.v 6), .none⟩,
    ⟨.tmp, .bin .add (.t 1) (.t 0), .none⟩,
    ⟨.tmp, .conv .u64 (.t 0), .none⟩,
    ⟨.tmp, .bin .shr (.t 0) (.c (.int .u64 (.ofNat 1))), .none⟩,
    ⟨.tmp, .conv .i64 (.t 0), .none⟩,
    ⟨(.var 7), .move (.t 0), .none⟩]) (
  .seq (.reg [⟨.tmp, .move (.v 0), .none⟩,
    ⟨.tmp, .move (.v 7), .none⟩,
    ⟨.tmp, .idxS 3 (.t 1) (.t 0), .none⟩,
    ⟨.tmp, .loadN 3 (.t 0), .none⟩,
    ⟨(.var 8), .alloc [.int .u32 (.ofNat 0), .int .u32 (.ofNat 0), .int .u32 (.ofNat 0)], .none⟩,
    ⟨.no, .store 3 (.v 8) (.t 0), .none⟩]) (
  .seq (.seq (.reg [⟨.tmp, .fadr 0 (.v 8), .none⟩,
    ⟨.tmp, .load1 (.t 0), .none⟩,
    ⟨.tmp, .move (.v 1), .none⟩,
    ⟨.tmp, .bin .leq (.t 1) (.t 0), .none⟩,
    ⟨.tmp, .move (.t 0), .none⟩,
    ⟨.tmp, .move (.v 1), .some ((.t 0), true)⟩,
    ⟨.tmp, .fadr 1 (.v 8), .some ((.t 1), true)⟩,
    ⟨.tmp, .load1 (.t 0), .some ((.t 2), true)⟩,
    ⟨.tmp, .bin .leq (.t 2) (.t 0), .some ((.t 3), true)⟩,
    ⟨.tmp, .pick (.t 4) (.t 0) (.c (.bool false)), .none⟩]) (
  .cond (.t 0) (
   .seq (.reg [⟨.tmp, .fadr 2 (.v 8), .none⟩,
     ⟨.tmp, .load1 (.t 0), .none⟩,
     ⟨.tmp, .bin .eql (.t 0) (.c (.int .u32 (.ofNat 1))), .none⟩,
     ⟨.tmp, .move (.t 0), .none⟩,
     ⟨.tmp, .move (.v 1), .some ((.t 0), false)⟩,
     ⟨.tmp, .fadr 0 (.v 8), .some ((.t 1), false)⟩,
     ⟨.tmp, .load1 (.t 0), .some ((.t 2), false)⟩,
     ⟨.tmp, .bin .sub (.t 2) (.t 0), .some ((.t 3), false)⟩,
     ⟨.tmp, .fadr 2 (.v 8), .some ((.t 4), false)⟩,
     ⟨.tmp, .load1 (.t 0), .some ((.t 5), false)⟩,
     ⟨.tmp, .bin .rem (.t 2) (.t 0), .some ((.t 6), false)⟩,
     ⟨.tmp, .bin .eql (.t 0) (.c (.int .u32 (.ofNat 0))), .some ((.t 7), false)⟩,
     ⟨.tmp, .pick (.t 8) (.c (.bool true)) (.t 0), .none⟩,
     ⟨(.var 2), .move (.t 0), .none⟩]) (
   .ret)) (
   .skip))) (
  .seq (.reg [⟨.tmp, .move (.v 1), .none⟩,
    ⟨.tmp, .fadr 0 (.v 8), .none⟩,
    ⟨.tmp, .load1 (.t 0), .none⟩,
    ⟨.tmp, .bin .lss (.t 2) (.t 0), .none⟩]) (
  .cond (.t 0) (
   .reg [⟨.tmp, .move (.v 7), .none⟩,
     ⟨(.var 6), .move (.t 0), .none⟩]) (
   .reg [⟨.tmp, .move (.v 7), .none⟩,
     ⟨.tmp, .bin .add (.t 0) (.c (.int .i64 (.ofNat 1))), .none⟩,
     ⟨(.var 5), .move (.t 0), .none⟩])))))))
def r56_3 : DC :=
 .seq (.reg [⟨(.var 2), .move (.c (.bool false)), .none⟩]) (
 .ret)
def r56_4 : DC :=
 .seq (.reg [⟨(.var 5), .move (.c (.int .i64 (.ofNat 0))), .none⟩]) (
 .seq (.reg [⟨.tmp, .move (.v 0), .none⟩,
   ⟨.tmp, .len false (.t 0), .none⟩,
   ⟨(.var 6), .move (.t 0), .none⟩]) (
 .seq (.block 2 (
  .loop b56_2)) r56_3))
def d56 : DF := ⟨[.some 0, .some 1, .some 4, .some 5, .some 6, .some 7, .some 8, .some 9, .some 10, .some 15, .some 16],
  .seq (.reg [⟨(.var 2), .move (.c (.bool false)), .none⟩]) (
  .seq (.seq (.reg [⟨.tmp, .move (.v 0), .none⟩,
    ⟨.tmp, .len false (.t 0), .none⟩,
    ⟨.tmp, .bin .leq (.t 0) (.c (.int .i64 (.ofNat 18))), .none⟩]) (
  .cond (.t 0) (
   .seq (.seq (.reg [⟨.tmp, .move (.v 0), .none⟩,
     ⟨(.var 9), .len false (.t 0), .none⟩,
     ⟨(.var 10), .move (.c (.int .i64 (.ofNat 0))), .none⟩]) (
   .block 0 (
    .loop b56_0))) r56_1) (
   .skip))) r56_4),
  [.opd (.v 2)]⟩
/-- strings.IndexByte -/
def vm57 : List Nat := [0, 1, 4]

def d57 : DF := ⟨[.some 0, .some 1, .some 4],
  .seq (.reg [⟨(.var 2), .move (.c (.int .i64 (.ofNat 0))), .none⟩]) (
  .seq (.reg [⟨.tmp, .move (.v 0), .none⟩,
    ⟨.tmp, .move (.v 1), .none⟩,
    ⟨.tmp, .call 63 [(.t 1), (.t 0)], .none⟩,
    ⟨(.var 2), .move (.t 0), .none⟩]) (
  .ret)),
  [.opd (.v 2)]⟩
/-- unicode/utf8.ValidRune -/
def vm58 : List Nat := [0, 2]

def d58 : DF := ⟨[.some 0, .some 2],
  .seq (.reg [⟨(.var 1), .move (.c (.bool false)), .none⟩]) (
  .seq (.block 0 (
   .seq (.reg [⟨.tmp, .move (.v 0), .none⟩,
     ⟨.tmp, .bin .leq (.c (.int .i32 (.ofNat 0))) (.t 0), .none⟩,
     ⟨.tmp, .move (.t 0), .none⟩,
     ⟨.tmp, .move (.v 0), .some ((.t 0), true)⟩,
     ⟨.tmp, .bin .lss (.t 0) (.c (.int .i32 (.ofNat 55296))), .some ((.t 1), true)⟩,
     ⟨.tmp, .pick (.t 2) (.t 0) (.c (.bool false)), .none⟩,
     ⟨.tmp, .move (.t 0), .none⟩]) (
   .cond (.t 0) (
    .seq (.reg [⟨(.var 1), .move (.c (.bool true)), .none⟩]) (
    .ret)) (
    .seq (.reg [⟨.tmp, .move (.v 0), .none⟩,
      ⟨.tmp, .bin .lss (.c (.int .i32 (.ofNat 57343))) (.t 0), .none⟩,
      ⟨.tmp, .move (.t 0), .none⟩,
      ⟨.tmp, .move (.v 0), .some ((.t 0), true)⟩,
      ⟨.tmp, .bin .leq (.t 0) (.c (.int .i32 (.ofNat 1114111))), .some ((.t 1), true)⟩,
      ⟨.tmp, .pick (.t 2) (.t 0) (.c (.bool false)), .none⟩,
      ⟨.tmp, .move (.t 0), .none⟩]) (
    .cond (.t 0) (
     .seq (.reg [⟨(.var 1), .move (.c (.bool true)), .none⟩]) (
     .ret)) (
     .skip)))))) (
  .seq (.reg [⟨(.var 1), .move (.c (.bool false)), .none⟩]) (
  .ret))),
  [.opd (.v 1)]⟩
/-- internal/bytealg.Cutover -/
def vm59 : List Nat := [0, 2]

def d59 : DF := ⟨[.some 0, .some 2],
  .seq (.reg [⟨(.var 1), .move (.c (.int .i64 (.ofNat 0))), .none⟩]) (
  .seq (.reg [⟨.tmp, .move (.v 0), .none⟩,
    ⟨.tmp, .bin .add (.t 0) (.c (.int .i64 (.ofNat 16))), .none⟩,
    ⟨.tmp, .bin .quo (.t 0) (.c (.int .i64 (.ofNat 8))), .none⟩,
    ⟨(.var 1), .move (.t 0), .none⟩]) (
  .ret)),
  [.opd (.v 1)]⟩
-- FAILED 60 internal/bytealg.IndexString body false
/-- (*strings.asciiSet).contains -/
def vm61 : List Nat := [0, 1, 4]

def d61 : DF := ⟨[.some 0, .some 1, .some 4],
  .seq (.reg [⟨(.var 2), .move (.c (.bool false)), .none⟩]) (
  .seq (.reg [⟨.tmp, .move (.v 0), .none⟩,
    ⟨.tmp, .move (.v 1), .none⟩,
    ⟨.tmp, .nilck (.t 1), .none⟩,
    ⟨.tmp, .idxA 256 1 (.t 0) (.t 1), .none⟩,
    ⟨.tmp, .load1 (.t 0), .none⟩,
    ⟨(.var 2), .move (.t 0), .none⟩]) (
  .ret)),
  [.opd (.v 2)]⟩
-- FAILED 62 unicode/utf8.DecodeLastRuneInString body true
/-- internal/stringslite.IndexByte -/
def vm63 : List Nat := [0, 1, 4]

def d63 : DF := ⟨[.some 0, .some 1, .some 4],
  .seq (.reg [⟨(.var 2), .move (.c (.int .i64 (.ofNat 0))), .none⟩]) (
  .seq (.reg [⟨.tmp, .move (.v 0), .none⟩,
    ⟨.tmp, .move (.v 1), .none⟩,
    ⟨.tmp, .call 65 [(.t 1), (.t 0)], .none⟩,
    ⟨(.var 2), .move (.t 0), .none⟩]) (
  .ret)),
  [.opd (.v 2)]⟩
/-- unicode/utf8.RuneStart -/
def vm64 : List Nat := [0, 2]

def d64 : DF := ⟨[.some 0, .some 2],
  .seq (.reg [⟨(.var 1), .move (.c (.bool false)), .none⟩]) (
  .seq (.reg [⟨.tmp, .move (.v 0), .none⟩,
    ⟨.tmp, .bin .and (.t 0) (.c (.int .u8 (.ofNat 192))), .none⟩,
    ⟨.tmp, .bin .neq (.t 0) (.c (.int .u8 (.ofNat 128))), .none⟩,
    ⟨(.var 1), .move (.t 0), .none⟩]) (
  .ret)),
  [.opd (.v 1)]⟩
-- FAILED 65 internal/bytealg.IndexByteString body false

end Dt
