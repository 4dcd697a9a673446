/- A part of the abstract machine and of the proof that the program does what it reckons; no conditions. -/
import Derived.Test.YtmndopeencbamaaDa
namespace Dt
open Go
/-- telamon/telamonlaw13.LayoutBlocks -/
def vm3 : List Nat := [0, 1, 4, 5, 6, 8, 9, 11, 12, 13, 14, 15, 16, 17, 20, 21, 22, 23]
def b3_0 : DC :=
 .seq (.seq (.reg [⟨.tmp, .move (.v 14), .none⟩,
   ⟨.tmp, .move (.v 13), .none⟩,
   ⟨.tmp, .len false (.t 0), .none⟩,
   ⟨.tmp, .bin .lss (.t 2) (.t 0), .none⟩]) (
 .cond (.t 0) (
  .skip) (
  .exit 0))) (
 .seq (.block 1 (
  .reg [⟨.tmp, .move (.v 13), .none⟩,
    ⟨.tmp, .move (.v 14), .none⟩,
    ⟨.tmp, .build [.int .i64 (.ofNat 0), .str 0 0, .int .i64 (.ofNat 0), .int .i64 (.ofNat 0), .int .i64 (.ofNat 0)] [], .none⟩,
    ⟨.tmp, .idxS 5 (.t 2) (.t 1), .none⟩,
    ⟨.no, .store 5 (.t 0) (.t 1), .none⟩])) (
 .reg [⟨.tmp, .move (.v 14), .none⟩,
   ⟨.tmp, .bin .add (.t 0) (.c (.int .i64 (.ofNat 1))), .none⟩,
   ⟨(.var 14), .move (.t 0), .none⟩]))
def r3_1 : DC :=
 .seq (.reg [⟨.tmp, .move (.v 4), .none⟩,
   ⟨.tmp, .call 10 [(.t 0)], .none⟩,
   ⟨.tmp, .move (.t 0), .none⟩,
   ⟨.tmp, .ext (.t 0) 0, .none⟩,
   ⟨.tmp, .ext (.t 1) 1, .none⟩,
   ⟨.tmp, .ext (.t 2) 2, .none⟩,
   ⟨(.var 15), .move (.t 2), .none⟩,
   ⟨(.var 16), .move (.t 1), .none⟩,
   ⟨(.var 17), .move (.t 0), .none⟩]) (
 .seq (.reg [⟨.tmp, .move (.v 12), .none⟩,
   ⟨.tmp, .move (.t 0), .none⟩,
   ⟨.tmp, .move (.v 11), .some ((.t 0), true)⟩,
   ⟨.tmp, .call 11 [(.t 0)], .some ((.t 1), true)⟩,
   ⟨.tmp, .move (.v 17), .some ((.t 2), true)⟩,
   ⟨.tmp, .bin .eql (.t 1) (.t 0), .some ((.t 3), true)⟩,
   ⟨.tmp, .pick (.t 4) (.t 0) (.c (.bool false)), .none⟩,
   ⟨.tmp, .move (.t 0), .none⟩,
   ⟨.tmp, .move (.v 10), .some ((.t 0), true)⟩,
   ⟨.tmp, .move (.v 16), .some ((.t 1), true)⟩,
   ⟨.tmp, .bin .eql (.t 1) (.t 0), .some ((.t 2), true)⟩,
   ⟨.tmp, .pick (.t 3) (.t 0) (.c (.bool false)), .none⟩,
   ⟨.tmp, .move (.t 0), .none⟩,
   ⟨.tmp, .move (.v 9), .some ((.t 0), true)⟩,
   ⟨.tmp, .move (.v 15), .some ((.t 1), true)⟩,
   ⟨.tmp, .call 9 [(.t 1), (.t 0)], .some ((.t 2), true)⟩,
   ⟨.tmp, .pick (.t 3) (.t 0) (.c (.bool false)), .none⟩,
   ⟨(.var 2), .move (.t 0), .none⟩]) (
 .ret))
def d3 : DF := ⟨[.some 0, .some 1, .some 4, .some 5, .some 6, .some 8, .some 9, .some 11, .some 12, .some 13, .some 14, .some 15, .some 16, .some 17, .some 20, .some 21, .some 22, .some 23],
  .seq (.reg [⟨(.var 2), .move (.c (.bool false)), .none⟩]) (
  .seq (.reg [⟨.tmp, .call 6 [], .none⟩,
    ⟨(.var 3), .move (.t 0), .none⟩]) (
  .seq (.seq (.reg [⟨.tmp, .move (.v 3), .none⟩,
    ⟨.tmp, .not (.t 0), .none⟩,
    ⟨.tmp, .move (.t 0), .none⟩,
    ⟨.tmp, .move (.v 0), .some ((.t 0), false)⟩,
    ⟨.tmp, .len true (.t 0), .some ((.t 1), false)⟩,
    ⟨.tmp, .bin .gtr (.t 0) (.c (.int .i64 (.ofNat 20000))), .some ((.t 2), false)⟩,
    ⟨.tmp, .pick (.t 3) (.c (.bool true)) (.t 0), .none⟩,
    ⟨.tmp, .move (.t 0), .none⟩,
    ⟨.tmp, .move (.v 1), .some ((.t 0), false)⟩,
    ⟨.tmp, .len true (.t 0), .some ((.t 1), false)⟩,
    ⟨.tmp, .bin .gtr (.t 0) (.c (.int .i64 (.ofNat 20000))), .some ((.t 2), false)⟩,
    ⟨.tmp, .pick (.t 3) (.c (.bool true)) (.t 0), .none⟩]) (
  .cond (.t 0) (
   .seq (.reg [⟨.tmp, .move (.v 3), .none⟩,
     ⟨(.var 2), .move (.t 0), .none⟩]) (
   .ret)) (
   .skip))) (
  .seq (.reg [⟨.tmp, .move (.v 0), .none⟩,
    ⟨.tmp, .call 7 [(.t 0)], .none⟩,
    ⟨.tmp, .move (.t 0), .none⟩,
    ⟨.tmp, .ext (.t 0) 0, .none⟩,
    ⟨.tmp, .ext (.t 1) 1, .none⟩,
    ⟨.tmp, .ext (.t 2) 2, .none⟩,
    ⟨(.var 4), .move (.t 2), .none⟩,
    ⟨.tmp, .move (.t 1), .none⟩,
    ⟨(.var 5), .move (.t 1), .none⟩]) (
  .seq (.reg [⟨.tmp, .move (.v 1), .none⟩,
    ⟨.tmp, .call 7 [(.t 0)], .none⟩,
    ⟨.tmp, .move (.t 0), .none⟩,
    ⟨.tmp, .ext (.t 0) 0, .none⟩,
    ⟨.tmp, .ext (.t 1) 1, .none⟩,
    ⟨.tmp, .ext (.t 2) 2, .none⟩,
    ⟨(.var 6), .move (.t 2), .none⟩,
    ⟨.tmp, .move (.t 1), .none⟩,
    ⟨(.var 7), .move (.t 1), .none⟩]) (
  .seq (.seq (.reg [⟨.tmp, .move (.v 5), .none⟩,
    ⟨.tmp, .bin .neq (.t 0) (.c (.int .i64 (.ofNat 0))), .none⟩,
    ⟨.tmp, .move (.t 0), .none⟩,
    ⟨.tmp, .move (.v 7), .some ((.t 0), false)⟩,
    ⟨.tmp, .bin .neq (.t 0) (.c (.int .i64 (.ofNat 0))), .some ((.t 1), false)⟩,
    ⟨.tmp, .pick (.t 2) (.c (.bool true)) (.t 0), .none⟩]) (
  .cond (.t 0) (
   .seq (.reg [⟨(.var 2), .move (.c (.bool true)), .none⟩]) (
   .ret)) (
   .skip))) (
  .seq (.reg [⟨.tmp, .move (.v 4), .none⟩,
    ⟨.tmp, .append 5 48 (.c (.nils)) (.t 0), .none⟩,
    ⟨.tmp, .build [.int .i64 (.ofNat 0), .str 0 0, .int .i64 (.ofNat 0), .int .i64 (.ofNat 0), .int .i64 (.ofNat 0)] [(0, 1, (.c (.int .i64 (.negSucc 70))))], .none⟩,
    ⟨.tmp, .buildS 5 [[.int .i64 (.ofNat 0), .str 0 0, .int .i64 (.ofNat 0), .int .i64 (.ofNat 0), .int .i64 (.ofNat 0)]] [(0, (.t 0))], .none⟩,
    ⟨.tmp, .append 5 48 (.t 2) (.t 0), .none⟩,
    ⟨(.var 8), .move (.t 0), .none⟩]) (
  .seq (.reg [⟨.tmp, .move (.v 8), .none⟩,
    ⟨.tmp, .move (.v 4), .none⟩,
    ⟨.tmp, .len false (.t 0), .none⟩,
    ⟨.tmp, .slcS 5 (.t 2) .none (.some (.t 0)) .none, .none⟩,
    ⟨.tmp, .call 8 [(.t 0)], .none⟩,
    ⟨.tmp, .move (.t 0), .none⟩,
    ⟨.tmp, .ext (.t 0) 0, .none⟩,
    ⟨.tmp, .ext (.t 1) 1, .none⟩,
    ⟨.tmp, .ext (.t 2) 2, .none⟩,
    ⟨(.var 9), .move (.t 2), .none⟩,
    ⟨(.var 10), .move (.t 1), .none⟩,
    ⟨(.var 11), .move (.t 0), .none⟩]) (
  .seq (.reg [⟨.tmp, .move (.v 8), .none⟩,
    ⟨.tmp, .move (.v 4), .none⟩,
    ⟨.tmp, .len false (.t 0), .none⟩,
    ⟨.tmp, .slcS 5 (.t 2) .none (.some (.t 0)) .none, .none⟩,
    ⟨.tmp, .move (.v 4), .none⟩,
    ⟨.tmp, .call 9 [(.t 1), (.t 0)], .none⟩,
    ⟨.tmp, .move (.t 0), .none⟩,
    ⟨.tmp, .move (.v 8), .some ((.t 0), true)⟩,
    ⟨.tmp, .move (.v 4), .some ((.t 1), true)⟩,
    ⟨.tmp, .len false (.t 0), .some ((.t 2), true)⟩,
    ⟨.tmp, .idxS 5 (.t 2) (.t 0), .some ((.t 3), true)⟩,
    ⟨.tmp, .fadr 0 (.t 0), .some ((.t 4), true)⟩,
    ⟨.tmp, .load1 (.t 0), .some ((.t 5), true)⟩,
    ⟨.tmp, .bin .eql (.t 0) (.c (.int .i64 (.negSucc 70))), .some ((.t 6), true)⟩,
    ⟨.tmp, .pick (.t 7) (.t 0) (.c (.bool false)), .none⟩,
    ⟨(.var 12), .move (.t 0), .none⟩]) (
  .seq (.reg [⟨.tmp, .move (.v 6), .none⟩,
    ⟨.tmp, .call 8 [(.t 0)], .none⟩,
    ⟨.tmp, .move (.t 0), .none⟩,
    ⟨.tmp, .ext (.t 0) 0, .none⟩,
    ⟨.tmp, .ext (.t 1) 1, .none⟩,
    ⟨.tmp, .ext (.t 2) 2, .none⟩,
    ⟨(.var 13), .move (.t 2), .none⟩,
    ⟨.tmp, .move (.t 1), .none⟩,
    ⟨.tmp, .move (.t 1), .none⟩]) (
  .seq (.seq (.reg [⟨(.var 14), .move (.c (.int .i64 (.ofNat 0))), .none⟩]) (
  .block 0 (
   .loop b3_0))) r3_1)))))))))),
  [.opd (.v 2)]⟩
/-- telamon/telamonlaw13.LayoutNests -/
def vm4 : List Nat := [0, 1, 4, 5, 6, 7, 8, 9, 10, 11]
def b4_0 : DC :=
 .seq (.seq (.reg [⟨.tmp, .move (.v 7), .none⟩,
   ⟨.tmp, .move (.v 0), .none⟩,
   ⟨.tmp, .bin .lss (.t 1) (.t 0), .none⟩]) (
 .cond (.t 0) (
  .skip) (
  .exit 0))) (
 .seq (.block 1 (
  .seq (.reg [⟨.tmp, .move (.v 6), .none⟩,
    ⟨.tmp, .bin .add (.t 0) (.c (.str 1 32)), .none⟩,
    ⟨(.var 6), .move (.t 0), .none⟩]) (
  .seq (.reg [⟨.tmp, .move (.v 4), .none⟩,
    ⟨.tmp, .bin .add (.t 0) (.c (.str 6 111542002022176)), .none⟩,
    ⟨.tmp, .move (.v 6), .none⟩,
    ⟨.tmp, .bin .add (.t 1) (.t 0), .none⟩,
    ⟨.tmp, .bin .add (.t 0) (.c (.str 1 98)), .none⟩,
    ⟨(.var 4), .move (.t 0), .none⟩]) (
  .reg [⟨.tmp, .move (.v 5), .none⟩,
    ⟨.tmp, .bin .add (.t 0) (.c (.str 9 597374378693108263031)), .none⟩,
    ⟨(.var 5), .move (.t 0), .none⟩])))) (
 .reg [⟨.tmp, .move (.v 7), .none⟩,
   ⟨.tmp, .bin .add (.t 0) (.c (.int .i64 (.ofNat 1))), .none⟩,
   ⟨(.var 7), .move (.t 0), .none⟩]))
def b4_1 : DC :=
 .seq (.seq (.reg [⟨.tmp, .move (.v 8), .none⟩,
   ⟨.tmp, .move (.v 1), .none⟩,
   ⟨.tmp, .bin .gtr (.t 1) (.t 0), .none⟩]) (
 .cond (.t 0) (
  .skip) (
  .exit 2))) (
 .seq (.block 3 (
  .reg [⟨.tmp, .move (.v 5), .none⟩,
    ⟨.tmp, .bin .add (.t 0) (.c (.str 1 62)), .none⟩,
    ⟨(.var 5), .move (.t 0), .none⟩])) (
 .reg [⟨.tmp, .move (.v 8), .none⟩,
   ⟨.tmp, .bin .sub (.t 0) (.c (.int .i64 (.ofNat 1))), .none⟩,
   ⟨(.var 8), .move (.t 0), .none⟩]))
def b4_2 : DC :=
 .seq (.seq (.reg [⟨.tmp, .move (.v 9), .none⟩,
   ⟨.tmp, .bin .gtr (.t 0) (.c (.int .i64 (.ofNat 0))), .none⟩]) (
 .cond (.t 0) (
  .skip) (
  .exit 4))) (
 .seq (.block 5 (
  .reg [⟨.tmp, .move (.v 5), .none⟩,
    ⟨.tmp, .bin .add (.t 0) (.c (.str 1 62)), .none⟩,
    ⟨(.var 5), .move (.t 0), .none⟩])) (
 .reg [⟨.tmp, .move (.v 9), .none⟩,
   ⟨.tmp, .bin .sub (.t 0) (.c (.int .i64 (.ofNat 1))), .none⟩,
   ⟨(.var 9), .move (.t 0), .none⟩]))
def r4_3 : DC :=
 .seq (.reg [⟨.tmp, .move (.v 4), .none⟩,
   ⟨.tmp, .call 12 [(.t 0)], .none⟩,
   ⟨.tmp, .move (.v 5), .none⟩,
   ⟨.tmp, .bin .add (.t 0) (.c (.str 2 11838)), .none⟩,
   ⟨.tmp, .bin .eql (.t 2) (.t 0), .none⟩,
   ⟨(.var 2), .move (.t 0), .none⟩]) (
 .ret)
def r4_4 : DC :=
 .seq (.reg [⟨.tmp, .move (.v 5), .none⟩,
   ⟨.tmp, .bin .add (.t 0) (.c (.str 3 2122555)), .none⟩,
   ⟨(.var 5), .move (.t 0), .none⟩]) (
 .seq (.seq (.reg [⟨.tmp, .move (.v 1), .none⟩,
   ⟨(.var 9), .move (.t 0), .none⟩]) (
 .block 4 (
  .loop b4_2))) r4_3)
def r4_5 : DC :=
 .seq (.reg [⟨.tmp, .move (.v 4), .none⟩,
   ⟨.tmp, .move (.v 6), .none⟩,
   ⟨.tmp, .move (.v 1), .none⟩,
   ⟨.tmp, .bin .add (.c (.int .i64 (.ofNat 1))) (.t 0), .none⟩,
   ⟨.tmp, .slcStr (.t 2) .none (.some (.t 0)), .none⟩,
   ⟨.tmp, .bin .add (.t 4) (.t 0), .none⟩,
   ⟨.tmp, .bin .add (.t 0) (.c (.str 1 99)), .none⟩,
   ⟨(.var 4), .move (.t 0), .none⟩]) (
 .seq (.seq (.reg [⟨.tmp, .move (.v 0), .none⟩,
   ⟨(.var 8), .move (.t 0), .none⟩]) (
 .block 2 (
  .loop b4_1))) r4_4)
def d4 : DF := ⟨[.some 0, .some 1, .some 4, .some 5, .some 6, .some 7, .some 8, .some 9, .some 10, .some 11],
  .seq (.reg [⟨(.var 2), .move (.c (.bool false)), .none⟩]) (
  .seq (.reg [⟨.tmp, .call 6 [], .none⟩,
    ⟨(.var 3), .move (.t 0), .none⟩]) (
  .seq (.seq (.reg [⟨.tmp, .move (.v 3), .none⟩,
    ⟨.tmp, .not (.t 0), .none⟩,
    ⟨.tmp, .move (.t 0), .none⟩,
    ⟨.tmp, .move (.v 0), .some ((.t 0), false)⟩,
    ⟨.tmp, .bin .lss (.t 0) (.c (.int .i64 (.ofNat 1))), .some ((.t 1), false)⟩,
    ⟨.tmp, .pick (.t 2) (.c (.bool true)) (.t 0), .none⟩,
    ⟨.tmp, .move (.t 0), .none⟩,
    ⟨.tmp, .move (.v 0), .some ((.t 0), false)⟩,
    ⟨.tmp, .bin .gtr (.t 0) (.c (.int .i64 (.ofNat 20))), .some ((.t 1), false)⟩,
    ⟨.tmp, .pick (.t 2) (.c (.bool true)) (.t 0), .none⟩,
    ⟨.tmp, .move (.t 0), .none⟩,
    ⟨.tmp, .move (.v 1), .some ((.t 0), false)⟩,
    ⟨.tmp, .bin .lss (.t 0) (.c (.int .i64 (.ofNat 0))), .some ((.t 1), false)⟩,
    ⟨.tmp, .pick (.t 2) (.c (.bool true)) (.t 0), .none⟩,
    ⟨.tmp, .move (.t 0), .none⟩,
    ⟨.tmp, .move (.v 1), .some ((.t 0), false)⟩,
    ⟨.tmp, .move (.v 0), .some ((.t 1), false)⟩,
    ⟨.tmp, .bin .gtr (.t 1) (.t 0), .some ((.t 2), false)⟩,
    ⟨.tmp, .pick (.t 3) (.c (.bool true)) (.t 0), .none⟩]) (
  .cond (.t 0) (
   .seq (.reg [⟨.tmp, .move (.v 3), .none⟩,
     ⟨(.var 2), .move (.t 0), .none⟩]) (
   .ret)) (
   .skip))) (
  .seq (.reg [⟨(.var 4), .move (.c (.str 1 97)), .none⟩]) (
  .seq (.reg [⟨(.var 5), .move (.c (.str 3 2122044)), .none⟩]) (
  .seq (.reg [⟨(.var 6), .move (.c (.str 1 10)), .none⟩]) (
  .seq (.seq (.reg [⟨(.var 7), .move (.c (.int .i64 (.ofNat 0))), .none⟩]) (
  .block 0 (
   .loop b4_0))) r4_5)))))),
  [.opd (.v 2)]⟩
/-- telamon/telamonlaw13.LayoutForms -/
def vm5 : List Nat := [0, 2, 3, 4, 5]

def d5 : DF := ⟨[.some 0, .some 2, .some 3, .some 4, .some 5],
  .seq (.reg [⟨(.var 1), .move (.c (.bool false)), .none⟩]) (
  .seq (.reg [⟨.tmp, .call 6 [], .none⟩,
    ⟨(.var 2), .move (.t 0), .none⟩]) (
  .seq (.reg [⟨.tmp, .buildS 1 [[.str 0 0], [.str 0 0], [.str 0 0], [.str 0 0], [.str 0 0], [.str 0 0], [.str 0 0], [.str 0 0], [.str 0 0], [.str 0 0], [.str 0 0], [.str 0 0], [.str 0 0], [.str 0 0], [.str 0 0], [.str 0 0], [.str 0 0], [.str 0 0], [.str 0 0], [.str 0 0], [.str 0 0], [.str 0 0]] [(0, (.c (.str 0 0))), (1, (.c (.str 1 97))), (2, (.c (.str 3 6425185))), (3, (.c (.str 4 1646266977))), (4, (.c (.str 5 435710945399))), (5, (.c (.str 7 27595978544867447))), (6, (.c (.str 11 119732689921993970015477857))), (7, (.c (.str 19 2232904691348730735057506208687322078478016609))), (8, (.c (.str 10 463390167057402191701356))), (9, (.c (.str 16 131761964476215398336035356036453131628))), (10, (.c (.str 12 12807513285441842778791570472))), (11, (.c (.str 36 196455664604259917019427368271107686202535412561216587115309830103798011838093772791928))), (12, (.c (.str 5 421080932384))), (13, (.c (.str 9 2271283918828006219873))), (14, (.c (.str 19 2208678287887467429208399611761322993541934960))), (15, (.c (.str 21 143286416360537347025103151653357505461397855236720))), (16, (.c (.str 17 33390856950202318264375080810080558850145))), (17, (.c (.str 5 442922377318))), (18, (.c (.str 19 2210598938601792624637789702963879587918144876))), (19, (.c (.str 18 8635152103913252429154808303157008647087468))), (20, (.c (.str 19 2210603946145012352429253911722342086404939873))), (21, (.c (.str 5 421451866209)))], .none⟩,
    ⟨(.var 3), .move (.t 0), .none⟩]) (
  .seq (.reg [⟨.tmp, .buildS 1 [[.str 0 0], [.str 0 0], [.str 0 0], [.str 0 0], [.str 0 0], [.str 0 0], [.str 0 0], [.str 0 0], [.str 0 0], [.str 0 0], [.str 0 0], [.str 0 0], [.str 0 0], [.str 0 0], [.str 0 0], [.str 0 0], [.str 0 0], [.str 0 0], [.str 0 0], [.str 0 0], [.str 0 0], [.str 0 0]] [(0, (.c (.str 3 3030588))), (1, (.c (.str 5 198610805052))), (2, (.c (.str 8 3332136380571607356))), (3, (.c (.str 7 13016157734854972))), (4, (.c (.str 11 55904522454917813564372796))), (5, (.c (.str 14 937913010118673486904494190524220))), (6, (.c (.str 18 4028305710144907977705613893141065459851580))), (7, (.c (.str 20 263999043364172327052411398659173105186950373692))), (8, (.c (.str 16 61467067022839531866855363507850144828))), (9, (.c (.str 19 1031246261657883755254036251147872001621060668))), (10, (.c (.str 20 263999023247977175577899473679254362450483488828))), (11, (.c (.str 31 81703746621482961722860307780500876047932437533570026037994313592250333244))), (12, (.c (.str 1 33))), (13, (.c (.str 1 33))), (14, (.c (.str 23 4429168968540783407399635218814087891007678885928071228))), (15, (.c (.str 30 319155259049124370344612395638286972191294086382424895879083047592816700))), (16, (.c (.str 21 67583754927003678320941815954309948010811592040764))), (17, (.c (.str 8 3332136402046445116))), (18, (.c (.str 27 19023135865772696767408676998967252944632773198128937228044692540))), (19, (.c (.str 26 74309124475674596750281141936907235533575510725853939870559292))), (20, (.c (.str 1 33))), (21, (.c (.str 9 853026913311923396924)))], .none⟩,
    ⟨(.var 4), .move (.t 0), .none⟩]) (
  .seq (.seq (.reg [⟨.tmp, .move (.v 2), .none⟩,
    ⟨.tmp, .not (.t 0), .none⟩,
    ⟨.tmp, .move (.t 0), .none⟩,
    ⟨.tmp, .move (.v 0), .some ((.t 0), false)⟩,
    ⟨.tmp, .bin .lss (.t 0) (.c (.int .i64 (.ofNat 0))), .some ((.t 1), false)⟩,
    ⟨.tmp, .pick (.t 2) (.c (.bool true)) (.t 0), .none⟩,
    ⟨.tmp, .move (.t 0), .none⟩,
    ⟨.tmp, .move (.v 0), .some ((.t 0), false)⟩,
    ⟨.tmp, .move (.v 3), .some ((.t 1), false)⟩,
    ⟨.tmp, .len false (.t 0), .some ((.t 2), false)⟩,
    ⟨.tmp, .bin .geq (.t 2) (.t 0), .some ((.t 3), false)⟩,
    ⟨.tmp, .pick (.t 4) (.c (.bool true)) (.t 0), .none⟩]) (
  .cond (.t 0) (
   .seq (.reg [⟨.tmp, .move (.v 2), .none⟩,
     ⟨(.var 1), .move (.t 0), .none⟩]) (
   .ret)) (
   .skip))) (
  .seq (.reg [⟨.tmp, .move (.v 3), .none⟩,
    ⟨.tmp, .move (.v 0), .none⟩,
    ⟨.tmp, .idxS 1 (.t 1) (.t 0), .none⟩,
    ⟨.tmp, .load1 (.t 0), .none⟩,
    ⟨.tmp, .move (.v 4), .none⟩,
    ⟨.tmp, .move (.v 0), .none⟩,
    ⟨.tmp, .idxS 1 (.t 1) (.t 0), .none⟩,
    ⟨.tmp, .load1 (.t 0), .none⟩,
    ⟨.tmp, .call 12 [(.t 4)], .none⟩,
    ⟨.no, .again1 (.t 2) (.t 1), .none⟩,
    ⟨.tmp, .bin .eql (.t 0) (.t 1), .none⟩,
    ⟨(.var 1), .move (.t 0), .none⟩]) (
  .ret)))))),
  [.opd (.v 1)]⟩
/-- telamon/telamonlaw13.alive -/
def vm6 : List Nat := [0]

def d6 : DF := ⟨[.some 0],
  .seq (.reg [⟨(.var 0), .move (.c (.bool false)), .none⟩]) (
  .seq (.reg [⟨.tmp, .call 12 [(.c (.str 36 136231379099318838728364169370169928667822569217679545631788743809900387722715004694381))], .none⟩,
    ⟨.tmp, .bin .eql (.t 0) (.c (.str 40 385835019152748059047881741070621659644133655960875806415636729542432874261955168485637002063164)), .none⟩,
    ⟨(.var 0), .move (.t 0), .none⟩]) (
  .ret)),
  [.opd (.v 0)]⟩
/-- telamon/telamonref12.Tokens -/
def vm7 : List Nat := [0, 2, 3, 4, 5, 6, 7, 8, 9, 10]
def b7_0 : DC :=
 .seq (.seq (.reg [⟨.tmp, .move (.v 4), .none⟩,
   ⟨.tmp, .nilck (.t 0), .none⟩,
   ⟨.tmp, .fadr 1 (.t 0), .none⟩,
   ⟨.tmp, .load1 (.t 0), .none⟩,
   ⟨.tmp, .move (.v 0), .none⟩,
   ⟨.tmp, .len true (.t 0), .none⟩,
   ⟨.tmp, .bin .lss (.t 2) (.t 0), .none⟩,
   ⟨.tmp, .move (.t 0), .none⟩,
   ⟨.tmp, .move (.v 0), .some ((.t 0), true)⟩,
   ⟨.tmp, .move (.v 4), .some ((.t 1), true)⟩,
   ⟨.tmp, .nilck (.t 0), .some ((.t 2), true)⟩,
   ⟨.tmp, .fadr 1 (.t 0), .some ((.t 3), true)⟩,
   ⟨.tmp, .load1 (.t 0), .some ((.t 4), true)⟩,
   ⟨.tmp, .idxStr (.t 4) (.t 0), .some ((.t 5), true)⟩,
   ⟨.tmp, .bin .neq (.t 0) (.c (.int .u8 (.ofNat 10))), .some ((.t 6), true)⟩,
   ⟨.tmp, .pick (.t 7) (.t 0) (.c (.bool false)), .none⟩,
   ⟨.tmp, .move (.t 0), .none⟩,
   ⟨.tmp, .move (.v 4), .some ((.t 0), true)⟩,
   ⟨.tmp, .nilck (.t 0), .some ((.t 1), true)⟩,
   ⟨.tmp, .fadr 4 (.t 0), .some ((.t 2), true)⟩,
   ⟨.tmp, .load1 (.t 0), .some ((.t 3), true)⟩,
   ⟨.tmp, .bin .eql (.t 0) (.c (.int .i64 (.ofNat 0))), .some ((.t 4), true)⟩,
   ⟨.tmp, .pick (.t 5) (.t 0) (.c (.bool false)), .none⟩]) (
 .cond (.t 0) (
  .skip) (
  .exit 4))) (
 .block 5 (
  .reg [⟨.tmp, .move (.v 4), .none⟩,
    ⟨.tmp, .call 13 [(.t 0)], .none⟩]))
def b7_1 : DC :=
 .seq (.seq (.reg [⟨.tmp, .move (.v 4), .none⟩,
   ⟨.tmp, .nilck (.t 0), .none⟩,
   ⟨.tmp, .fadr 1 (.t 0), .none⟩,
   ⟨.tmp, .load1 (.t 0), .none⟩,
   ⟨.tmp, .move (.v 0), .none⟩,
   ⟨.tmp, .len true (.t 0), .none⟩,
   ⟨.tmp, .bin .lss (.t 2) (.t 0), .none⟩,
   ⟨.tmp, .move (.t 0), .none⟩,
   ⟨.tmp, .move (.v 4), .some ((.t 0), true)⟩,
   ⟨.tmp, .nilck (.t 0), .some ((.t 1), true)⟩,
   ⟨.tmp, .fadr 4 (.t 0), .some ((.t 2), true)⟩,
   ⟨.tmp, .load1 (.t 0), .some ((.t 3), true)⟩,
   ⟨.tmp, .bin .eql (.t 0) (.c (.int .i64 (.ofNat 0))), .some ((.t 4), true)⟩,
   ⟨.tmp, .pick (.t 5) (.t 0) (.c (.bool false)), .none⟩]) (
 .cond (.t 0) (
  .skip) (
  .exit 2))) (
 .block 3 (
  .seq (.reg [⟨.tmp, .move (.v 0), .none⟩,
    ⟨.tmp, .move (.v 4), .none⟩,
    ⟨.tmp, .nilck (.t 0), .none⟩,
    ⟨.tmp, .fadr 1 (.t 0), .none⟩,
    ⟨.tmp, .load1 (.t 0), .none⟩,
    ⟨.tmp, .idxStr (.t 4) (.t 0), .none⟩,
    ⟨.tmp, .bin .eql (.t 0) (.c (.int .u8 (.ofNat 32))), .none⟩,
    ⟨.tmp, .move (.t 0), .none⟩,
    ⟨.tmp, .move (.v 0), .some ((.t 0), false)⟩,
    ⟨.tmp, .move (.v 4), .some ((.t 1), false)⟩,
    ⟨.tmp, .nilck (.t 0), .some ((.t 2), false)⟩,
    ⟨.tmp, .fadr 1 (.t 0), .some ((.t 3), false)⟩,
    ⟨.tmp, .load1 (.t 0), .some ((.t 4), false)⟩,
    ⟨.tmp, .idxStr (.t 4) (.t 0), .some ((.t 5), false)⟩,
    ⟨.tmp, .bin .eql (.t 0) (.c (.int .u8 (.ofNat 10))), .some ((.t 6), false)⟩,
    ⟨.tmp, .pick (.t 7) (.c (.bool true)) (.t 0), .none⟩]) (
  .cond (.t 0) (
   .reg [⟨.tmp, .move (.v 4), .none⟩,
     ⟨.tmp, .call 13 [(.t 0)], .none⟩]) (
   .seq (.reg [⟨.tmp, .move (.v 4), .none⟩,
     ⟨.tmp, .nilck (.t 0), .none⟩,
     ⟨.tmp, .fadr 1 (.t 0), .none⟩,
     ⟨.tmp, .load1 (.t 0), .none⟩,
     ⟨.tmp, .bin .add (.t 0) (.c (.int .i64 (.ofNat 1))), .none⟩,
     ⟨.tmp, .move (.v 0), .none⟩,
     ⟨.tmp, .len true (.t 0), .none⟩,
     ⟨.tmp, .bin .lss (.t 2) (.t 0), .none⟩,
     ⟨.tmp, .move (.t 0), .none⟩,
     ⟨.tmp, .move (.v 0), .some ((.t 0), true)⟩,
     ⟨.tmp, .move (.v 4), .some ((.t 1), true)⟩,
     ⟨.tmp, .nilck (.t 0), .some ((.t 2), true)⟩,
     ⟨.tmp, .fadr 1 (.t 0), .some ((.t 3), true)⟩,
     ⟨.tmp, .load1 (.t 0), .some ((.t 4), true)⟩,
     ⟨.tmp, .idxStr (.t 4) (.t 0), .some ((.t 5), true)⟩,
     ⟨.tmp, .bin .eql (.t 0) (.c (.int .u8 (.ofNat 45))), .some ((.t 6), true)⟩,
     ⟨.tmp, .pick (.t 7) (.t 0) (.c (.bool false)), .none⟩,
     ⟨.tmp, .move (.t 0), .none⟩,
     ⟨.tmp, .move (.v 0), .some ((.t 0), true)⟩,
     ⟨.tmp, .move (.v 4), .some ((.t 1), true)⟩,
     ⟨.tmp, .nilck (.t 0), .some ((.t 2), true)⟩,
     ⟨.tmp, .fadr 1 (.t 0), .some ((.t 3), true)⟩,
     ⟨.tmp, .load1 (.t 0), .some ((.t 4), true)⟩,
     ⟨.tmp, .bin .add (.t 0) (.c (.int .i64 (.ofNat 1))), .some ((.t 5), true)⟩,
     ⟨.tmp, .idxStr (.t 5) (.t 0), .some ((.t 6), true)⟩,
     ⟨.tmp, .bin .eql (.t 0) (.c (.int .u8 (.ofNat 45))), .some ((.t 7), true)⟩,
     ⟨.tmp, .pick (.t 8) (.t 0) (.c (.bool false)), .none⟩]) (
   .cond (.t 0) (
    .block 4 (
     .loop b7_0)) (
    .exit 2))))))
def b7_2 : DC :=
 .seq (.seq (.reg [⟨.tmp, .move (.v 4), .none⟩,
   ⟨.tmp, .nilck (.t 0), .none⟩,
   ⟨.tmp, .fadr 1 (.t 0), .none⟩,
   ⟨.tmp, .load1 (.t 0), .none⟩,
   ⟨.tmp, .move (.v 0), .none⟩,
   ⟨.tmp, .len true (.t 0), .none⟩,
   ⟨.tmp, .bin .lss (.t 2) (.t 0), .none⟩,
   ⟨.tmp, .move (.t 0), .none⟩,
   ⟨.tmp, .move (.v 0), .some ((.t 0), true)⟩,
   ⟨.tmp, .move (.v 4), .some ((.t 1), true)⟩,
   ⟨.tmp, .nilck (.t 0), .some ((.t 2), true)⟩,
   ⟨.tmp, .fadr 1 (.t 0), .some ((.t 3), true)⟩,
   ⟨.tmp, .load1 (.t 0), .some ((.t 4), true)⟩,
   ⟨.tmp, .idxStr (.t 4) (.t 0), .some ((.t 5), true)⟩,
   ⟨.tmp, .bin .neq (.t 0) (.c (.int .u8 (.ofNat 32))), .some ((.t 6), true)⟩,
   ⟨.tmp, .pick (.t 7) (.t 0) (.c (.bool false)), .none⟩,
   ⟨.tmp, .move (.t 0), .none⟩,
   ⟨.tmp, .move (.v 0), .some ((.t 0), true)⟩,
   ⟨.tmp, .move (.v 4), .some ((.t 1), true)⟩,
   ⟨.tmp, .nilck (.t 0), .some ((.t 2), true)⟩,
   ⟨.tmp, .fadr 1 (.t 0), .some ((.t 3), true)⟩,
   ⟨.tmp, .load1 (.t 0), .some ((.t 4), true)⟩,
   ⟨.tmp, .idxStr (.t 4) (.t 0), .some ((.t 5), true)⟩,
   ⟨.tmp, .bin .neq (.t 0) (.c (.int .u8 (.ofNat 10))), .some ((.t 6), true)⟩,
   ⟨.tmp, .pick (.t 7) (.t 0) (.c (.bool false)), .none⟩,
   ⟨.tmp, .move (.t 0), .none⟩,
   ⟨.tmp, .move (.v 0), .some ((.t 0), true)⟩,
   ⟨.tmp, .move (.v 4), .some ((.t 1), true)⟩,
   ⟨.tmp, .nilck (.t 0), .some ((.t 2), true)⟩,
   ⟨.tmp, .fadr 1 (.t 0), .some ((.t 3), true)⟩,
   ⟨.tmp, .load1 (.t 0), .some ((.t 4), true)⟩,
   ⟨.tmp, .idxStr (.t 4) (.t 0), .some ((.t 5), true)⟩,
   ⟨.tmp, .call 14 [(.t 0)], .some ((.t 6), true)⟩,
   ⟨.tmp, .not (.t 0), .some ((.t 7), true)⟩,
   ⟨.tmp, .pick (.t 8) (.t 0) (.c (.bool false)), .none⟩,
   ⟨.tmp, .move (.t 0), .none⟩,
   ⟨.tmp, .move (.v 4), .some ((.t 0), true)⟩,
   ⟨.tmp, .nilck (.t 0), .some ((.t 1), true)⟩,
   ⟨.tmp, .fadr 4 (.t 0), .some ((.t 2), true)⟩,
   ⟨.tmp, .load1 (.t 0), .some ((.t 3), true)⟩,
   ⟨.tmp, .bin .eql (.t 0) (.c (.int .i64 (.ofNat 0))), .some ((.t 4), true)⟩,
   ⟨.tmp, .pick (.t 5) (.t 0) (.c (.bool false)), .none⟩]) (
 .cond (.t 0) (
  .skip) (
  .exit 6))) (
 .block 7 (
  .reg [⟨.tmp, .move (.v 4), .none⟩,
    ⟨.tmp, .call 13 [(.t 0)], .none⟩]))
def r7_3 : DC :=
 .seq (.seq (.reg [⟨.tmp, .move (.v 4), .none⟩,
   ⟨.tmp, .nilck (.t 0), .none⟩,
   ⟨.tmp, .fadr 4 (.t 0), .none⟩,
   ⟨.tmp, .load1 (.t 0), .none⟩,
   ⟨.tmp, .bin .neq (.t 0) (.c (.int .i64 (.ofNat 0))), .none⟩]) (
 .cond (.t 0) (
  .seq (.reg [⟨.tmp, .move (.v 4), .none⟩,
    ⟨.tmp, .nilck (.t 0), .none⟩,
    ⟨.tmp, .fadr 1 (.t 0), .none⟩,
    ⟨.tmp, .load1 (.t 0), .none⟩,
    ⟨.tmp, .move (.v 4), .none⟩,
    ⟨.tmp, .nilck (.t 0), .none⟩,
    ⟨.tmp, .fadr 4 (.t 0), .none⟩,
    ⟨.tmp, .load1 (.t 0), .none⟩,
    ⟨(.var 1), .move (.c (.nils)), .none⟩,
    ⟨(.var 2), .move (.t 4), .none⟩,
    ⟨(.var 3), .move (.t 0), .none⟩]) (
  .ret)) (
  .skip))) (
 .seq (.reg [⟨.tmp, .move (.v 0), .none⟩,
   ⟨.tmp, .move (.v 7), .none⟩,
   ⟨.tmp, .move (.v 4), .none⟩,
   ⟨.tmp, .nilck (.t 0), .none⟩,
   ⟨.tmp, .fadr 1 (.t 0), .none⟩,
   ⟨.tmp, .load1 (.t 0), .none⟩,
   ⟨.tmp, .slcStr (.t 5) (.some (.t 4)) (.some (.t 0)), .none⟩,
   ⟨(.var 8), .move (.t 0), .none⟩]) (
 .seq (.reg [⟨.tmp, .move (.v 8), .none⟩,
   ⟨.tmp, .fadr 1 (.v 6), .none⟩,
   ⟨.no, .store 1 (.t 0) (.t 1), .none⟩]) (
 .seq (.reg [⟨.tmp, .move (.v 8), .none⟩,
   ⟨.tmp, .call 15 [(.v 6), (.t 0)], .none⟩,
   ⟨(.var 9), .move (.t 0), .none⟩]) (
 .seq (.reg [⟨.tmp, .move (.v 9), .none⟩,
   ⟨.tmp, .bin .neq (.t 0) (.c (.int .i64 (.ofNat 0))), .none⟩]) (
 .cond (.t 0) (
  .seq (.reg [⟨.tmp, .move (.v 7), .none⟩,
    ⟨.tmp, .move (.v 9), .none⟩,
    ⟨(.var 1), .move (.c (.nils)), .none⟩,
    ⟨(.var 2), .move (.t 1), .none⟩,
    ⟨(.var 3), .move (.t 0), .none⟩]) (
  .ret)) (
  .skip))))))
def r7_4 : DC :=
 .seq (.seq (.reg [⟨.tmp, .move (.v 5), .none⟩,
   ⟨.tmp, .len false (.t 0), .none⟩,
   ⟨.tmp, .bin .geq (.t 0) (.c (.int .i64 (.ofNat 20000))), .none⟩]) (
 .cond (.t 0) (
  .seq (.reg [⟨.tmp, .fadr 2 (.v 6), .none⟩,
    ⟨.tmp, .load1 (.t 0), .none⟩,
    ⟨(.var 1), .move (.c (.nils)), .none⟩,
    ⟨(.var 2), .move (.t 0), .none⟩,
    ⟨(.var 3), .move (.c (.int .i64 (.ofNat 2))), .none⟩]) (
  .ret)) (
  .skip))) (
 .seq (.reg [⟨.tmp, .move (.v 5), .none⟩,
   ⟨.tmp, .loadN 5 (.v 6), .none⟩,
   ⟨.tmp, .buildS 5 [[.int .i64 (.ofNat 0), .str 0 0, .int .i64 (.ofNat 0), .int .i64 (.ofNat 0), .int .i64 (.ofNat 0)]] [(0, (.t 0))], .none⟩,
   ⟨.tmp, .append 5 48 (.t 2) (.t 0), .none⟩,
   ⟨(.var 5), .move (.t 0), .none⟩]) (
 .seq (.reg [⟨.tmp, .fadr 0 (.v 6), .none⟩,
   ⟨.tmp, .load1 (.t 0), .none⟩,
   ⟨.tmp, .bin .eql (.t 0) (.c (.int .i64 (.ofNat 7))), .none⟩]) (
 .cond (.t 0) (
  .seq (.reg [⟨.tmp, .move (.v 5), .none⟩,
    ⟨(.var 1), .move (.t 0), .none⟩,
    ⟨(.var 2), .move (.c (.int .i64 (.ofNat 0))), .none⟩,
    ⟨(.var 3), .move (.c (.int .i64 (.ofNat 0))), .none⟩]) (
  .ret)) (
  .skip))))
def r7_5 : DC :=
 .seq (.seq (.reg [⟨.tmp, .move (.v 4), .none⟩,
   ⟨.tmp, .nilck (.t 0), .none⟩,
   ⟨.tmp, .fadr 4 (.t 0), .none⟩,
   ⟨.tmp, .load1 (.t 0), .none⟩,
   ⟨.tmp, .bin .neq (.t 0) (.c (.int .i64 (.ofNat 0))), .none⟩]) (
 .cond (.t 0) (
  .seq (.reg [⟨.tmp, .move (.v 4), .none⟩,
    ⟨.tmp, .nilck (.t 0), .none⟩,
    ⟨.tmp, .fadr 1 (.t 0), .none⟩,
    ⟨.tmp, .load1 (.t 0), .none⟩,
    ⟨.tmp, .move (.v 4), .none⟩,
    ⟨.tmp, .nilck (.t 0), .none⟩,
    ⟨.tmp, .fadr 4 (.t 0), .none⟩,
    ⟨.tmp, .load1 (.t 0), .none⟩,
    ⟨(.var 1), .move (.c (.nils)), .none⟩,
    ⟨(.var 2), .move (.t 4), .none⟩,
    ⟨(.var 3), .move (.t 0), .none⟩]) (
  .ret)) (
  .skip))) (
 .seq (.reg [⟨.tmp, .move (.v 4), .none⟩,
   ⟨.tmp, .nilck (.t 0), .none⟩,
   ⟨.tmp, .fadr 1 (.t 0), .none⟩,
   ⟨.tmp, .load1 (.t 0), .none⟩,
   ⟨.tmp, .move (.v 4), .none⟩,
   ⟨.tmp, .nilck (.t 0), .none⟩,
   ⟨.tmp, .fadr 2 (.t 0), .none⟩,
   ⟨.tmp, .load1 (.t 0), .none⟩,
   ⟨.tmp, .move (.v 4), .none⟩,
   ⟨.tmp, .nilck (.t 0), .none⟩,
   ⟨.tmp, .fadr 3 (.t 0), .none⟩,
   ⟨.tmp, .load1 (.t 0), .none⟩,
   ⟨.tmp, .build [.int .i64 (.ofNat 0), .str 0 0, .int .i64 (.ofNat 0), .int .i64 (.ofNat 0), .int .i64 (.ofNat 0)] [(0, 1, (.c (.int .i64 (.ofNat 7)))), (2, 1, (.t 8)), (3, 1, (.t 4)), (4, 1, (.t 0))], .none⟩,
   ⟨(.var 6), .alloc [.int .i64 (.ofNat 0), .str 0 0, .int .i64 (.ofNat 0), .int .i64 (.ofNat 0), .int .i64 (.ofNat 0)], .none⟩,
   ⟨.no, .store 5 (.v 6) (.t 0), .none⟩]) (
 .seq (.seq (.reg [⟨.tmp, .move (.v 4), .none⟩,
   ⟨.tmp, .nilck (.t 0), .none⟩,
   ⟨.tmp, .fadr 1 (.t 0), .none⟩,
   ⟨.tmp, .load1 (.t 0), .none⟩,
   ⟨.tmp, .move (.v 0), .none⟩,
   ⟨.tmp, .len true (.t 0), .none⟩,
   ⟨.tmp, .bin .lss (.t 2) (.t 0), .none⟩]) (
 .cond (.t 0) (
  .seq (.reg [⟨.tmp, .move (.v 4), .none⟩,
    ⟨.tmp, .nilck (.t 0), .none⟩,
    ⟨.tmp, .fadr 1 (.t 0), .none⟩,
    ⟨.tmp, .load1 (.t 0), .none⟩,
    ⟨(.var 7), .move (.t 0), .none⟩]) (
  .seq (.seq (.reg [⟨.tmp, .move (.v 0), .none⟩,
    ⟨.tmp, .move (.v 4), .none⟩,
    ⟨.tmp, .nilck (.t 0), .none⟩,
    ⟨.tmp, .fadr 1 (.t 0), .none⟩,
    ⟨.tmp, .load1 (.t 0), .none⟩,
    ⟨.tmp, .idxStr (.t 4) (.t 0), .none⟩,
    ⟨.tmp, .call 14 [(.t 0)], .none⟩]) (
  .cond (.t 0) (
   .seq (.reg [⟨.tmp, .move (.v 4), .none⟩,
     ⟨.tmp, .call 13 [(.t 0)], .none⟩]) (
   .reg [⟨.tmp, .fadr 0 (.v 6), .none⟩,
     ⟨.no, .store 1 (.t 0) (.c (.int .i64 (.ofNat 2))), .none⟩])) (
   .block 6 (
    .loop b7_2)))) r7_3)) (
  .skip))) r7_4))
def b7_6 : DC :=
 .block 1 (
  .seq (.block 2 (
   .loop b7_1)) r7_5)
def d7 : DF := ⟨[.some 0, .some 2, .some 3, .some 4, .some 5, .some 6, .some 7, .some 8, .some 9, .some 10],
  .seq (.reg [⟨(.var 1), .move (.c (.nils)), .none⟩,
    ⟨(.var 2), .move (.c (.int .i64 (.ofNat 0))), .none⟩,
    ⟨(.var 3), .move (.c (.int .i64 (.ofNat 0))), .none⟩]) (
  .seq (.seq (.reg [⟨.tmp, .move (.v 0), .none⟩,
    ⟨.tmp, .len true (.t 0), .none⟩,
    ⟨.tmp, .bin .gtr (.t 0) (.c (.int .i64 (.ofNat 65536))), .none⟩]) (
  .cond (.t 0) (
   .seq (.reg [⟨(.var 1), .move (.c (.nils)), .none⟩,
     ⟨(.var 2), .move (.c (.int .i64 (.ofNat 0))), .none⟩,
     ⟨(.var 3), .move (.c (.int .i64 (.ofNat 2))), .none⟩]) (
   .ret)) (
   .skip))) (
  .seq (.reg [⟨.tmp, .move (.v 0), .none⟩,
    ⟨.tmp, .build [.str 0 0, .int .i64 (.ofNat 0), .int .i64 (.ofNat 0), .int .i64 (.ofNat 0), .int .i64 (.ofNat 0)] [(0, 1, (.t 0)), (2, 1, (.c (.int .i64 (.ofNat 1)))), (3, 1, (.c (.int .i64 (.ofNat 1))))], .none⟩,
    ⟨.tmp, .box 5 (.t 0), .none⟩,
    ⟨(.var 4), .move (.t 0), .none⟩]) (
  .seq (.reg [⟨(.var 5), .move (.c (.nils)), .none⟩]) (
  .block 0 (
   .loop b7_6))))),
  [.opd (.v 1), .opd (.v 2), .opd (.v 3)]⟩
/-- telamon/layout.Blocks -/
def vm8 : List Nat := [0, 2, 3, 4, 6, 7, 8, 26, 27, 28]
def b8_0 : DC :=
 .seq (.reg [⟨.tmp, .bin .lss (.v 9) (.v 8), .none⟩]) (
 .seq (.cond (.t 0) (
  .skip) (
  .exit 0)) (
 .seq (.block 1 (
  .seq (.reg [⟨.tmp, .idxS 5 (.v 7) (.v 9), .none⟩,
    ⟨.tmp, .loadN 5 (.t 0), .none⟩,
    ⟨(.var 4), .alloc [.int .i64 (.ofNat 0), .str 0 0, .int .i64 (.ofNat 0), .int .i64 (.ofNat 0), .int .i64 (.ofNat 0)], .none⟩,
    ⟨.no, .store 5 (.v 4) (.t 0), .none⟩]) (
  .seq (.reg [⟨.tmp, .fadr 0 (.v 4), .none⟩,
    ⟨.tmp, .load1 (.t 0), .none⟩,
    ⟨.tmp, .bin .eql (.t 0) (.c (.int .i64 (.ofNat 7))), .none⟩]) (
  .cond (.t 0) (
   .seq (.reg [⟨.tmp, .fadr 2 (.v 4), .none⟩,
     ⟨.tmp, .load1 (.t 0), .none⟩,
     ⟨(.var 1), .move (.c (.nils)), .none⟩,
     ⟨(.var 2), .move (.t 0), .none⟩,
     ⟨(.var 3), .move (.c (.int .i64 (.ofNat 1))), .none⟩]) (
   .ret)) (
   .skip))))) (
 .reg [⟨.tmp, .bin .add (.v 9) (.c (.int .i64 (.ofNat 1))), .none⟩,
   ⟨(.var 9), .move (.t 0), .none⟩])))
def b8_1 : DC :=
 .seq (.seq (.reg [⟨.tmp, .move (.v 6), .none⟩,
   ⟨.tmp, .move (.t 0), .none⟩,
   ⟨.tmp, .move (.v 5), .some ((.t 0), true)⟩,
   ⟨.tmp, .nilck (.t 0), .some ((.t 1), true)⟩,
   ⟨.tmp, .fadr 2 (.t 0), .some ((.t 2), true)⟩,
   ⟨.tmp, .load1 (.t 0), .some ((.t 3), true)⟩,
   ⟨.tmp, .move (.v 0), .some ((.t 4), true)⟩,
   ⟨.tmp, .len false (.t 0), .some ((.t 5), true)⟩,
   ⟨.tmp, .bin .lss (.t 2) (.t 0), .some ((.t 6), true)⟩,
   ⟨.tmp, .pick (.t 7) (.t 0) (.c (.bool false)), .none⟩]) (
 .cond (.t 0) (
  .skip) (
  .exit 2))) (
 .seq (.block 3 (
  .reg [⟨.tmp, .move (.v 5), .none⟩,
    ⟨.tmp, .call 17 [(.t 0)], .none⟩,
    ⟨(.var 6), .move (.t 0), .none⟩])) (
 .reg [⟨.tmp, .move (.v 5), .none⟩,
   ⟨.tmp, .nilck (.t 0), .none⟩,
   ⟨.tmp, .fadr 2 (.t 0), .none⟩,
   ⟨.tmp, .load1 (.t 0), .none⟩,
   ⟨.tmp, .bin .add (.t 0) (.c (.int .i64 (.ofNat 1))), .none⟩,
   ⟨.tmp, .nilck (.t 4), .none⟩,
   ⟨.tmp, .fadr 2 (.t 0), .none⟩,
   ⟨.no, .store 1 (.t 0) (.t 2), .none⟩]))
def r8_2 : DC :=
 .seq (.seq (.reg [⟨.tmp, .move (.v 5), .none⟩,
   ⟨.tmp, .nilck (.t 0), .none⟩,
   ⟨.tmp, .fadr 4 (.t 0), .none⟩,
   ⟨.tmp, .load1 (.t 0), .none⟩,
   ⟨.tmp, .bin .neq (.t 0) (.c (.int .i64 (.ofNat 0))), .none⟩]) (
 .cond (.t 0) (
  .seq (.reg [⟨.tmp, .move (.v 5), .none⟩,
    ⟨.tmp, .nilck (.t 0), .none⟩,
    ⟨.tmp, .fadr 5 (.t 0), .none⟩,
    ⟨.tmp, .load1 (.t 0), .none⟩,
    ⟨.tmp, .move (.v 5), .none⟩,
    ⟨.tmp, .nilck (.t 0), .none⟩,
    ⟨.tmp, .fadr 4 (.t 0), .none⟩,
    ⟨.tmp, .load1 (.t 0), .none⟩,
    ⟨(.var 1), .move (.c (.nils)), .none⟩,
    ⟨(.var 2), .move (.t 4), .none⟩,
    ⟨(.var 3), .move (.t 0), .none⟩]) (
  .ret)) (
  .skip))) (
 .seq (.reg [⟨.tmp, .move (.v 5), .none⟩,
   ⟨.tmp, .nilck (.t 0), .none⟩,
   ⟨.tmp, .fadr 3 (.t 0), .none⟩,
   ⟨.tmp, .load1 (.t 0), .none⟩,
   ⟨(.var 1), .move (.t 0), .none⟩,
   ⟨(.var 2), .move (.c (.int .i64 (.ofNat 0))), .none⟩,
   ⟨(.var 3), .move (.c (.int .i64 (.ofNat 0))), .none⟩]) (
 .ret))
def r8_3 : DC :=
 .seq (.reg [⟨.tmp, .move (.v 0), .none⟩,
   ⟨.tmp, .build [.nils, .nils, .int .i64 (.ofNat 0), .nils, .int .i64 (.ofNat 0), .int .i64 (.ofNat 0), .bool false, .bool false] [(1, 1, (.t 0))], .none⟩,
   ⟨.tmp, .box 8 (.t 0), .none⟩,
   ⟨(.var 5), .move (.t 0), .none⟩]) (
 .seq (.reg [⟨.tmp, .move (.v 5), .none⟩,
   ⟨.tmp, .move (.v 0), .none⟩,
   ⟨.tmp, .idxS 5 (.t 0) (.c (.int .i64 (.ofNat 0))), .none⟩,
   ⟨.tmp, .fadr 4 (.t 0), .none⟩,
   ⟨.tmp, .load1 (.t 0), .none⟩,
   ⟨.tmp, .build [.bool false, .int .i64 (.ofNat 0), .bool false, .int .i64 (.ofNat 0)] [(1, 1, (.t 0))], .none⟩,
   ⟨.tmp, .move (.v 0), .none⟩,
   ⟨.tmp, .idxS 5 (.t 0) (.c (.int .i64 (.ofNat 0))), .none⟩,
   ⟨.tmp, .loadN 5 (.t 0), .none⟩,
   ⟨.tmp, .call 16 [(.t 8), (.t 3), (.t 0), (.c (.str 0 0))], .none⟩,
   ⟨(.var 6), .move (.t 0), .none⟩]) (
 .seq (.block 2 (
  .loop b8_1)) r8_2))
def d8 : DF := ⟨[.some 0, .some 2, .some 3, .some 4, .some 6, .some 7, .some 8, .some 26, .some 27, .some 28],
  .seq (.reg [⟨(.var 1), .move (.c (.nils)), .none⟩,
    ⟨(.var 2), .move (.c (.int .i64 (.ofNat 0))), .none⟩,
    ⟨(.var 3), .move (.c (.int .i64 (.ofNat 0))), .none⟩]) (
  .seq (.seq (.reg [⟨.tmp, .move (.v 0), .none⟩,
    ⟨.tmp, .len false (.t 0), .none⟩,
    ⟨.tmp, .bin .eql (.t 0) (.c (.int .i64 (.ofNat 0))), .none⟩,
    ⟨.tmp, .move (.t 0), .none⟩,
    ⟨.tmp, .move (.v 0), .some ((.t 0), false)⟩,
    ⟨.tmp, .move (.v 0), .some ((.t 1), false)⟩,
    ⟨.tmp, .len false (.t 0), .some ((.t 2), false)⟩,
    ⟨.tmp, .bin .sub (.t 0) (.c (.int .i64 (.ofNat 1))), .some ((.t 3), false)⟩,
    ⟨.tmp, .idxS 5 (.t 3) (.t 0), .some ((.t 4), false)⟩,
    ⟨.tmp, .fadr 0 (.t 0), .some ((.t 5), false)⟩,
    ⟨.tmp, .load1 (.t 0), .some ((.t 6), false)⟩,
    ⟨.tmp, .bin .neq (.t 0) (.c (.int .i64 (.ofNat 7))), .some ((.t 7), false)⟩,
    ⟨.tmp, .pick (.t 8) (.c (.bool true)) (.t 0), .none⟩]) (
  .cond (.t 0) (
   .seq (.reg [⟨(.var 1), .move (.c (.nils)), .none⟩,
     ⟨(.var 2), .move (.c (.int .i64 (.ofNat 0))), .none⟩,
     ⟨(.var 3), .move (.c (.int .i64 (.ofNat 1))), .none⟩]) (
   .ret)) (
   .skip))) (
  .seq (.seq (.reg [⟨.tmp, .move (.v 0), .none⟩,
    ⟨.tmp, .move (.v 0), .none⟩,
    ⟨.tmp, .len false (.t 0), .none⟩,
    ⟨.tmp, .bin .sub (.t 0) (.c (.int .i64 (.ofNat 1))), .none⟩,
    ⟨(.var 7), .slcS 5 (.t 3) .none (.some (.t 0)) .none, .none⟩,
    ⟨(.var 8), .len false (.v 7), .none⟩,
    ⟨(.var 9), .move (.c (.int .i64 (.ofNat 0))), .none⟩]) (
  .block 0 (
   .loop b8_0))) r8_3)),
  [.opd (.v 1), .opd (.v 2), .opd (.v 3)]⟩
/-- telamon/telamonlaw12.Same -/
def vm9 : List Nat := [0, 1, 4, 5]
def b9_0 : DC :=
 .seq (.seq (.reg [⟨.tmp, .move (.v 3), .none⟩,
   ⟨.tmp, .move (.v 0), .none⟩,
   ⟨.tmp, .len false (.t 0), .none⟩,
   ⟨.tmp, .bin .lss (.t 2) (.t 0), .none⟩]) (
 .cond (.t 0) (
  .skip) (
  .exit 0))) (
 .seq (.block 1 (
  .seq (.reg [⟨.tmp, .move (.v 0), .none⟩,
    ⟨.tmp, .move (.v 3), .none⟩,
    ⟨.tmp, .idxS 5 (.t 1) (.t 0), .none⟩,
    ⟨.tmp, .loadN 5 (.t 0), .none⟩,
    ⟨.tmp, .move (.v 1), .none⟩,
    ⟨.tmp, .move (.v 3), .none⟩,
    ⟨.tmp, .idxS 5 (.t 1) (.t 0), .none⟩,
    ⟨.tmp, .loadN 5 (.t 0), .none⟩,
    ⟨.tmp, .eqAgg true [0, 1, 0, 0, 0] (.t 4) (.t 0), .none⟩]) (
  .cond (.t 0) (
   .seq (.reg [⟨(.var 2), .move (.c (.bool false)), .none⟩]) (
   .ret)) (
   .skip)))) (
 .reg [⟨.tmp, .move (.v 3), .none⟩,
   ⟨.tmp, .bin .add (.t 0) (.c (.int .i64 (.ofNat 1))), .none⟩,
   ⟨(.var 3), .move (.t 0), .none⟩]))
def r9_1 : DC :=
 .seq (.reg [⟨(.var 2), .move (.c (.bool true)), .none⟩]) (
 .ret)
def d9 : DF := ⟨[.some 0, .some 1, .some 4, .some 5],
  .seq (.reg [⟨(.var 2), .move (.c (.bool false)), .none⟩]) (
  .seq (.seq (.reg [⟨.tmp, .move (.v 0), .none⟩,
    ⟨.tmp, .len false (.t 0), .none⟩,
    ⟨.tmp, .move (.v 1), .none⟩,
    ⟨.tmp, .len false (.t 0), .none⟩,
    ⟨.tmp, .bin .neq (.t 2) (.t 0), .none⟩]) (
  .cond (.t 0) (
   .seq (.reg [⟨(.var 2), .move (.c (.bool false)), .none⟩]) (
   .ret)) (
   .skip))) (
  .seq (.seq (.reg [⟨(.var 3), .move (.c (.int .i64 (.ofNat 0))), .none⟩]) (
  .block 0 (
   .loop b9_0))) r9_1)),
  [.opd (.v 2)]⟩
/-- telamon/telamonref12.Blocks -/
def vm10 : List Nat := [0, 2, 3, 4, 5, 6, 7, 8, 9, 10, 11, 12, 13, 14, 15, 16]
def b10_0 : DC :=
 .seq (.seq (.reg [⟨.tmp, .move (.v 4), .none⟩,
   ⟨.tmp, .nilck (.t 0), .none⟩,
   ⟨.tmp, .fadr 1 (.t 0), .none⟩,
   ⟨.tmp, .load1 (.t 0), .none⟩,
   ⟨.tmp, .len false (.t 0), .none⟩,
   ⟨.tmp, .bin .gtr (.t 0) (.c (.int .i64 (.ofNat 0))), .none⟩,
   ⟨.tmp, .move (.t 0), .none⟩,
   ⟨.tmp, .move (.v 4), .some ((.t 0), true)⟩,
   ⟨.tmp, .nilck (.t 0), .some ((.t 1), true)⟩,
   ⟨.tmp, .fadr 2 (.t 0), .some ((.t 2), true)⟩,
   ⟨.tmp, .load1 (.t 0), .some ((.t 3), true)⟩,
   ⟨.tmp, .bin .eql (.t 0) (.c (.int .i64 (.ofNat 0))), .some ((.t 4), true)⟩,
   ⟨.tmp, .pick (.t 5) (.t 0) (.c (.bool false)), .none⟩]) (
 .cond (.t 0) (
  .skip) (
  .exit 2))) (
 .block 3 (
  .seq (.seq (.reg [⟨.tmp, .move (.v 4), .none⟩,
    ⟨.tmp, .nilck (.t 0), .none⟩,
    ⟨.tmp, .fadr 1 (.t 0), .none⟩,
    ⟨.tmp, .load1 (.t 0), .none⟩,
    ⟨.tmp, .move (.v 4), .none⟩,
    ⟨.tmp, .nilck (.t 0), .none⟩,
    ⟨.tmp, .fadr 1 (.t 0), .none⟩,
    ⟨.tmp, .load1 (.t 0), .none⟩,
    ⟨.tmp, .len false (.t 0), .none⟩,
    ⟨.tmp, .bin .sub (.t 0) (.c (.int .i64 (.ofNat 1))), .none⟩,
    ⟨.tmp, .idxS 4 (.t 6) (.t 0), .none⟩,
    ⟨.tmp, .fadr 3 (.t 0), .none⟩,
    ⟨.tmp, .load1 (.t 0), .none⟩]) (
  .cond (.t 0) (
   .seq (.reg [⟨.tmp, .fadr 2 (.v 7), .none⟩,
     ⟨.tmp, .load1 (.t 0), .none⟩,
     ⟨(.var 1), .move (.c (.nils)), .none⟩,
     ⟨(.var 2), .move (.t 0), .none⟩,
     ⟨(.var 3), .move (.c (.int .i64 (.ofNat 42))), .none⟩]) (
   .ret)) (
   .skip))) (
  .reg [⟨.tmp, .move (.v 4), .none⟩,
    ⟨.tmp, .loadN 5 (.v 7), .none⟩,
    ⟨.tmp, .call 20 [(.t 1), (.t 0), (.c (.bool false))], .none⟩])))
def r10_1 : DC :=
 .seq (.seq (.reg [⟨.tmp, .move (.v 4), .none⟩,
   ⟨.tmp, .nilck (.t 0), .none⟩,
   ⟨.tmp, .fadr 2 (.t 0), .none⟩,
   ⟨.tmp, .load1 (.t 0), .none⟩,
   ⟨.tmp, .bin .eql (.t 0) (.c (.int .i64 (.ofNat 0))), .none⟩,
   ⟨.tmp, .move (.t 0), .none⟩,
   ⟨.tmp, .move (.v 4), .some ((.t 0), true)⟩,
   ⟨.tmp, .nilck (.t 0), .some ((.t 1), true)⟩,
   ⟨.tmp, .fadr 0 (.t 0), .some ((.t 2), true)⟩,
   ⟨.tmp, .load1 (.t 0), .some ((.t 3), true)⟩,
   ⟨.tmp, .len false (.t 0), .some ((.t 4), true)⟩,
   ⟨.tmp, .bin .geq (.t 0) (.c (.int .i64 (.ofNat 60000))), .some ((.t 5), true)⟩,
   ⟨.tmp, .pick (.t 6) (.t 0) (.c (.bool false)), .none⟩]) (
 .cond (.t 0) (
  .seq (.reg [⟨.tmp, .fadr 2 (.v 7), .none⟩,
    ⟨.tmp, .load1 (.t 0), .none⟩,
    ⟨(.var 1), .move (.c (.nils)), .none⟩,
    ⟨(.var 2), .move (.t 0), .none⟩,
    ⟨(.var 3), .move (.c (.int .i64 (.ofNat 2))), .none⟩]) (
  .ret)) (
  .skip))) (
 .seq (.seq (.reg [⟨.tmp, .move (.v 4), .none⟩,
   ⟨.tmp, .nilck (.t 0), .none⟩,
   ⟨.tmp, .fadr 2 (.t 0), .none⟩,
   ⟨.tmp, .load1 (.t 0), .none⟩,
   ⟨.tmp, .bin .eql (.t 0) (.c (.int .i64 (.ofNat 0))), .none⟩]) (
 .cond (.t 0) (
  .reg [⟨.tmp, .move (.v 4), .none⟩,
    ⟨.tmp, .move (.v 4), .none⟩,
    ⟨.tmp, .nilck (.t 0), .none⟩,
    ⟨.tmp, .fadr 0 (.t 0), .none⟩,
    ⟨.tmp, .load1 (.t 0), .none⟩,
    ⟨.tmp, .loadN 5 (.v 7), .none⟩,
    ⟨.tmp, .buildS 5 [[.int .i64 (.ofNat 0), .str 0 0, .int .i64 (.ofNat 0), .int .i64 (.ofNat 0), .int .i64 (.ofNat 0)]] [(0, (.t 0))], .none⟩,
    ⟨.tmp, .append 5 48 (.t 2) (.t 0), .none⟩,
    ⟨.tmp, .nilck (.t 7), .none⟩,
    ⟨.tmp, .fadr 0 (.t 0), .none⟩,
    ⟨.no, .store 1 (.t 0) (.t 2), .none⟩]) (
  .skip))) (
 .exit 0))
def b10_2 : DC :=
 .seq (.seq (.reg [⟨.tmp, .move (.v 4), .none⟩,
   ⟨.tmp, .nilck (.t 0), .none⟩,
   ⟨.tmp, .fadr 2 (.t 0), .none⟩,
   ⟨.tmp, .load1 (.t 0), .none⟩,
   ⟨.tmp, .bin .eql (.t 0) (.c (.int .i64 (.ofNat 0))), .none⟩,
   ⟨.tmp, .move (.t 0), .none⟩,
   ⟨.tmp, .move (.v 4), .some ((.t 0), true)⟩,
   ⟨.tmp, .nilck (.t 0), .some ((.t 1), true)⟩,
   ⟨.tmp, .fadr 1 (.t 0), .some ((.t 2), true)⟩,
   ⟨.tmp, .load1 (.t 0), .some ((.t 3), true)⟩,
   ⟨.tmp, .move (.v 4), .some ((.t 4), true)⟩,
   ⟨.tmp, .nilck (.t 0), .some ((.t 5), true)⟩,
   ⟨.tmp, .fadr 1 (.t 0), .some ((.t 6), true)⟩,
   ⟨.tmp, .load1 (.t 0), .some ((.t 7), true)⟩,
   ⟨.tmp, .len false (.t 0), .some ((.t 8), true)⟩,
   ⟨.tmp, .bin .sub (.t 0) (.c (.int .i64 (.ofNat 1))), .some ((.t 9), true)⟩,
   ⟨.tmp, .idxS 4 (.t 6) (.t 0), .some ((.t 10), true)⟩,
   ⟨.tmp, .fadr 3 (.t 0), .some ((.t 11), true)⟩,
   ⟨.tmp, .load1 (.t 0), .some ((.t 12), true)⟩,
   ⟨.tmp, .not (.t 0), .some ((.t 13), true)⟩,
   ⟨.tmp, .pick (.t 14) (.t 0) (.c (.bool false)), .none⟩]) (
 .cond (.t 0) (
  .skip) (
  .exit 4))) (
 .block 5 (
  .seq (.reg [⟨.tmp, .move (.v 4), .none⟩,
    ⟨.tmp, .nilck (.t 0), .none⟩,
    ⟨.tmp, .fadr 1 (.t 0), .none⟩,
    ⟨.tmp, .load1 (.t 0), .none⟩,
    ⟨.tmp, .move (.v 4), .none⟩,
    ⟨.tmp, .nilck (.t 0), .none⟩,
    ⟨.tmp, .fadr 1 (.t 0), .none⟩,
    ⟨.tmp, .load1 (.t 0), .none⟩,
    ⟨.tmp, .len false (.t 0), .none⟩,
    ⟨.tmp, .bin .sub (.t 0) (.c (.int .i64 (.ofNat 1))), .none⟩,
    ⟨.tmp, .idxS 4 (.t 6) (.t 0), .none⟩,
    ⟨.tmp, .fadr 0 (.t 0), .none⟩,
    ⟨.tmp, .load1 (.t 0), .none⟩,
    ⟨(.var 8), .move (.t 0), .none⟩]) (
  .seq (.seq (.reg [⟨.tmp, .move (.v 8), .none⟩,
    ⟨.tmp, .fadr 4 (.v 7), .none⟩,
    ⟨.tmp, .load1 (.t 0), .none⟩,
    ⟨.tmp, .bin .eql (.t 2) (.t 0), .none⟩]) (
  .cond (.t 0) (
   .reg [⟨.tmp, .move (.v 4), .none⟩,
     ⟨.tmp, .loadN 5 (.v 7), .none⟩,
     ⟨.tmp, .call 18 [(.t 1), (.c (.int .i64 (.ofNat 6))), (.t 0), (.c (.bool false))], .none⟩]) (
   .skip))) (
  .seq (.seq (.reg [⟨.tmp, .move (.v 8), .none⟩,
    ⟨.tmp, .fadr 4 (.v 7), .none⟩,
    ⟨.tmp, .load1 (.t 0), .none⟩,
    ⟨.tmp, .bin .leq (.t 2) (.t 0), .none⟩]) (
  .cond (.t 0) (
   .exit 4) (
   .skip))) (
  .seq (.seq (.reg [⟨.tmp, .move (.v 4), .none⟩,
    ⟨.tmp, .nilck (.t 0), .none⟩,
    ⟨.tmp, .fadr 1 (.t 0), .none⟩,
    ⟨.tmp, .load1 (.t 0), .none⟩,
    ⟨.tmp, .len false (.t 0), .none⟩,
    ⟨.tmp, .bin .eql (.t 0) (.c (.int .i64 (.ofNat 1))), .none⟩]) (
  .cond (.t 0) (
   .seq (.reg [⟨.tmp, .fadr 2 (.v 7), .none⟩,
     ⟨.tmp, .load1 (.t 0), .none⟩,
     ⟨(.var 1), .move (.c (.nils)), .none⟩,
     ⟨(.var 2), .move (.t 0), .none⟩,
     ⟨(.var 3), .move (.c (.int .i64 (.ofNat 42))), .none⟩]) (
   .ret)) (
   .skip))) (
  .reg [⟨.tmp, .move (.v 4), .none⟩,
    ⟨.tmp, .loadN 5 (.v 7), .none⟩,
    ⟨.tmp, .call 20 [(.t 1), (.t 0), (.c (.bool false))], .none⟩]))))))
def b10_3 : DC :=
 .seq (.seq (.reg [⟨.tmp, .move (.v 9), .none⟩,
   ⟨.tmp, .bin .gtr (.t 0) (.c (.int .i64 (.ofNat 0))), .none⟩,
   ⟨.tmp, .move (.t 0), .none⟩,
   ⟨.tmp, .move (.v 4), .some ((.t 0), true)⟩,
   ⟨.tmp, .nilck (.t 0), .some ((.t 1), true)⟩,
   ⟨.tmp, .fadr 2 (.t 0), .some ((.t 2), true)⟩,
   ⟨.tmp, .load1 (.t 0), .some ((.t 3), true)⟩,
   ⟨.tmp, .bin .eql (.t 0) (.c (.int .i64 (.ofNat 0))), .some ((.t 4), true)⟩,
   ⟨.tmp, .pick (.t 5) (.t 0) (.c (.bool false)), .none⟩]) (
 .cond (.t 0) (
  .skip) (
  .exit 8))) (
 .block 9 (
  .seq (.reg [⟨.tmp, .move (.v 4), .none⟩,
    ⟨.tmp, .loadN 5 (.v 7), .none⟩,
    ⟨.tmp, .call 20 [(.t 1), (.t 0), (.c (.bool false))], .none⟩]) (
  .reg [⟨.tmp, .move (.v 9), .none⟩,
    ⟨.tmp, .bin .sub (.t 0) (.c (.int .i64 (.ofNat 1))), .none⟩,
    ⟨(.var 9), .move (.t 0), .none⟩])))
def r10_4 : DC :=
 .exit 6
def r10_5 : DC :=
 .reg [⟨.tmp, .move (.v 10), .none⟩,
   ⟨.tmp, .bin .sub (.t 0) (.c (.int .i64 (.ofNat 1))), .none⟩,
   ⟨(.var 10), .move (.t 0), .none⟩]
def b10_6 : DC :=
 .seq (.seq (.reg [⟨.tmp, .move (.v 10), .none⟩,
   ⟨.tmp, .bin .geq (.t 0) (.c (.int .i64 (.ofNat 0))), .none⟩,
   ⟨.tmp, .move (.t 0), .none⟩,
   ⟨.tmp, .move (.v 4), .some ((.t 0), true)⟩,
   ⟨.tmp, .nilck (.t 0), .some ((.t 1), true)⟩,
   ⟨.tmp, .fadr 1 (.t 0), .some ((.t 2), true)⟩,
   ⟨.tmp, .load1 (.t 0), .some ((.t 3), true)⟩,
   ⟨.tmp, .move (.v 10), .some ((.t 4), true)⟩,
   ⟨.tmp, .idxS 4 (.t 1) (.t 0), .some ((.t 5), true)⟩,
   ⟨.tmp, .fadr 3 (.t 0), .some ((.t 6), true)⟩,
   ⟨.tmp, .load1 (.t 0), .some ((.t 7), true)⟩,
   ⟨.tmp, .not (.t 0), .some ((.t 8), true)⟩,
   ⟨.tmp, .pick (.t 9) (.t 0) (.c (.bool false)), .none⟩]) (
 .cond (.t 0) (
  .skip) (
  .exit 6))) (
 .seq (.block 7 (
  .seq (.reg [⟨.tmp, .move (.v 9), .none⟩,
    ⟨.tmp, .bin .add (.t 0) (.c (.int .i64 (.ofNat 1))), .none⟩,
    ⟨(.var 9), .move (.t 0), .none⟩]) (
  .seq (.reg [⟨.tmp, .move (.v 4), .none⟩,
    ⟨.tmp, .nilck (.t 0), .none⟩,
    ⟨.tmp, .fadr 1 (.t 0), .none⟩,
    ⟨.tmp, .load1 (.t 0), .none⟩,
    ⟨.tmp, .move (.v 10), .none⟩,
    ⟨.tmp, .idxS 4 (.t 1) (.t 0), .none⟩,
    ⟨.tmp, .fadr 1 (.t 0), .none⟩,
    ⟨.tmp, .load1 (.t 0), .none⟩]) (
  .cond (.t 0) (
   .seq (.block 8 (
    .loop b10_3)) r10_4) (
   .skip))))) r10_5)
def b10_7 : DC :=
 .seq (.seq (.reg [⟨.tmp, .move (.v 15), .none⟩,
   ⟨.tmp, .bin .geq (.t 0) (.c (.int .i64 (.ofNat 0))), .none⟩]) (
 .cond (.t 0) (
  .skip) (
  .exit 10))) (
 .seq (.block 11 (
  .seq (.reg [⟨.tmp, .move (.v 4), .none⟩,
    ⟨.tmp, .nilck (.t 0), .none⟩,
    ⟨.tmp, .fadr 1 (.t 0), .none⟩,
    ⟨.tmp, .load1 (.t 0), .none⟩,
    ⟨.tmp, .move (.v 15), .none⟩,
    ⟨.tmp, .idxS 4 (.t 1) (.t 0), .none⟩,
    ⟨.tmp, .fadr 3 (.t 0), .none⟩,
    ⟨.tmp, .load1 (.t 0), .none⟩,
    ⟨.tmp, .not (.t 0), .none⟩]) (
  .cond (.t 0) (
   .seq (.reg [⟨.tmp, .move (.v 4), .none⟩,
     ⟨.tmp, .nilck (.t 0), .none⟩,
     ⟨.tmp, .fadr 1 (.t 0), .none⟩,
     ⟨.tmp, .load1 (.t 0), .none⟩,
     ⟨.tmp, .move (.v 15), .none⟩,
     ⟨.tmp, .idxS 4 (.t 1) (.t 0), .none⟩,
     ⟨.tmp, .fadr 0 (.t 0), .none⟩,
     ⟨.tmp, .load1 (.t 0), .none⟩,
     ⟨(.var 14), .move (.t 0), .none⟩]) (
   .exit 10)) (
   .skip)))) (
 .reg [⟨.tmp, .move (.v 15), .none⟩,
   ⟨.tmp, .bin .sub (.t 0) (.c (.int .i64 (.ofNat 1))), .none⟩,
   ⟨(.var 15), .move (.t 0), .none⟩]))
def r10_8 : DC :=
 .seq (.reg [⟨.tmp, .move (.v 4), .none⟩,
   ⟨.tmp, .loadN 5 (.v 13), .none⟩,
   ⟨.tmp, .call 18 [(.t 1), (.c (.int .i64 (.ofNat 4))), (.t 0), (.c (.bool false))], .none⟩]) (
 .seq (.seq (.reg [⟨.tmp, .fadr 0 (.v 13), .none⟩,
   ⟨.tmp, .load1 (.t 0), .none⟩,
   ⟨.tmp, .bin .eql (.t 0) (.c (.int .i64 (.ofNat 7))), .none⟩,
   ⟨.tmp, .move (.t 0), .none⟩,
   ⟨.tmp, .fadr 4 (.v 13), .some ((.t 0), false)⟩,
   ⟨.tmp, .load1 (.t 0), .some ((.t 1), false)⟩,
   ⟨.tmp, .move (.v 14), .some ((.t 2), false)⟩,
   ⟨.tmp, .bin .leq (.t 1) (.t 0), .some ((.t 3), false)⟩,
   ⟨.tmp, .pick (.t 4) (.c (.bool true)) (.t 0), .none⟩]) (
 .cond (.t 0) (
  .seq (.reg [⟨.tmp, .move (.v 4), .none⟩,
    ⟨.tmp, .loadN 5 (.v 13), .none⟩,
    ⟨.tmp, .call 18 [(.t 1), (.c (.int .i64 (.ofNat 5))), (.t 0), (.c (.bool false))], .none⟩]) (
  .exit 1)) (
  .skip))) (
 .seq (.reg [⟨.tmp, .move (.v 4), .none⟩,
   ⟨.tmp, .fadr 4 (.v 13), .none⟩,
   ⟨.tmp, .load1 (.t 0), .none⟩,
   ⟨.tmp, .fadr 1 (.v 7), .none⟩,
   ⟨.tmp, .load1 (.t 0), .none⟩,
   ⟨.tmp, .bin .eql (.t 0) (.c (.str 3 7628140)), .none⟩,
   ⟨.tmp, .build [.int .i64 (.ofNat 0), .bool false, .int .i64 (.ofNat 0), .bool false] [(0, 1, (.t 3)), (1, 1, (.t 0))], .none⟩,
   ⟨.tmp, .loadN 5 (.v 13), .none⟩,
   ⟨.tmp, .call 19 [(.t 7), (.t 1), (.t 0)], .none⟩]) (
 .reg [⟨(.var 5), .move (.c (.bool true)), .none⟩])))
def r10_9 : DC :=
 .seq (.reg [⟨.tmp, .move (.v 4), .none⟩,
   ⟨.tmp, .loadN 5 (.v 7), .none⟩,
   ⟨.tmp, .call 21 [(.t 1), (.t 0)], .none⟩,
   ⟨(.var 11), .move (.t 0), .none⟩]) (
 .seq (.seq (.reg [⟨.tmp, .move (.v 11), .none⟩,
   ⟨.tmp, .not (.t 0), .none⟩,
   ⟨.tmp, .move (.t 0), .none⟩,
   ⟨.tmp, .move (.v 4), .some ((.t 0), true)⟩,
   ⟨.tmp, .nilck (.t 0), .some ((.t 1), true)⟩,
   ⟨.tmp, .fadr 2 (.t 0), .some ((.t 2), true)⟩,
   ⟨.tmp, .load1 (.t 0), .some ((.t 3), true)⟩,
   ⟨.tmp, .bin .eql (.t 0) (.c (.int .i64 (.ofNat 0))), .some ((.t 4), true)⟩,
   ⟨.tmp, .pick (.t 5) (.t 0) (.c (.bool false)), .none⟩]) (
 .cond (.t 0) (
  .seq (.seq (.reg [⟨.tmp, .move (.v 4), .none⟩,
    ⟨.tmp, .nilck (.t 0), .none⟩,
    ⟨.tmp, .fadr 0 (.t 0), .none⟩,
    ⟨.tmp, .load1 (.t 0), .none⟩,
    ⟨.tmp, .len false (.t 0), .none⟩,
    ⟨.tmp, .bin .geq (.t 0) (.c (.int .i64 (.ofNat 60000))), .none⟩]) (
  .cond (.t 0) (
   .seq (.reg [⟨.tmp, .fadr 2 (.v 7), .none⟩,
     ⟨.tmp, .load1 (.t 0), .none⟩,
     ⟨(.var 1), .move (.c (.nils)), .none⟩,
     ⟨(.var 2), .move (.t 0), .none⟩,
     ⟨(.var 3), .move (.c (.int .i64 (.ofNat 2))), .none⟩]) (
   .ret)) (
   .skip))) (
  .reg [⟨.tmp, .move (.v 4), .none⟩,
    ⟨.tmp, .move (.v 4), .none⟩,
    ⟨.tmp, .nilck (.t 0), .none⟩,
    ⟨.tmp, .fadr 0 (.t 0), .none⟩,
    ⟨.tmp, .load1 (.t 0), .none⟩,
    ⟨.tmp, .loadN 5 (.v 7), .none⟩,
    ⟨.tmp, .buildS 5 [[.int .i64 (.ofNat 0), .str 0 0, .int .i64 (.ofNat 0), .int .i64 (.ofNat 0), .int .i64 (.ofNat 0)]] [(0, (.t 0))], .none⟩,
    ⟨.tmp, .append 5 48 (.t 2) (.t 0), .none⟩,
    ⟨.tmp, .nilck (.t 7), .none⟩,
    ⟨.tmp, .fadr 0 (.t 0), .none⟩,
    ⟨.no, .store 1 (.t 0) (.t 2), .none⟩])) (
  .skip))) (
 .seq (.reg [⟨.tmp, .loadN 5 (.v 7), .none⟩,
   ⟨.tmp, .call 22 [(.t 0)], .none⟩,
   ⟨(.var 12), .move (.t 0), .none⟩]) (
 .seq (.seq (.reg [⟨.tmp, .move (.v 12), .none⟩,
   ⟨.tmp, .not (.t 0), .none⟩,
   ⟨.tmp, .move (.t 0), .none⟩,
   ⟨.tmp, .move (.v 4), .some ((.t 0), false)⟩,
   ⟨.tmp, .nilck (.t 0), .some ((.t 1), false)⟩,
   ⟨.tmp, .fadr 2 (.t 0), .some ((.t 2), false)⟩,
   ⟨.tmp, .load1 (.t 0), .some ((.t 3), false)⟩,
   ⟨.tmp, .bin .neq (.t 0) (.c (.int .i64 (.ofNat 0))), .some ((.t 4), false)⟩,
   ⟨.tmp, .pick (.t 5) (.c (.bool true)) (.t 0), .none⟩]) (
 .cond (.t 0) (
  .exit 1) (
  .skip))) (
 .seq (.reg [⟨.tmp, .move (.v 0), .none⟩,
   ⟨.tmp, .move (.v 6), .none⟩,
   ⟨.tmp, .bin .add (.t 0) (.c (.int .i64 (.ofNat 1))), .none⟩,
   ⟨.tmp, .idxS 5 (.t 2) (.t 0), .none⟩,
   ⟨.tmp, .loadN 5 (.t 0), .none⟩,
   ⟨(.var 13), .alloc [.int .i64 (.ofNat 0), .str 0 0, .int .i64 (.ofNat 0), .int .i64 (.ofNat 0), .int .i64 (.ofNat 0)], .none⟩,
   ⟨.no, .store 5 (.v 13) (.t 0), .none⟩]) (
 .seq (.seq (.reg [⟨.tmp, .fadr 0 (.v 13), .none⟩,
   ⟨.tmp, .load1 (.t 0), .none⟩,
   ⟨.tmp, .bin .eql (.t 0) (.c (.int .i64 (.ofNat 2))), .none⟩,
   ⟨.tmp, .move (.t 0), .none⟩,
   ⟨.tmp, .fadr 1 (.v 13), .some ((.t 0), true)⟩,
   ⟨.tmp, .load1 (.t 0), .some ((.t 1), true)⟩,
   ⟨.tmp, .bin .eql (.t 0) (.c (.str 1 123)), .some ((.t 2), true)⟩,
   ⟨.tmp, .pick (.t 3) (.t 0) (.c (.bool false)), .none⟩]) (
 .cond (.t 0) (
  .seq (.reg [⟨.tmp, .move (.v 4), .none⟩,
    ⟨.tmp, .loadN 5 (.v 13), .none⟩,
    ⟨.tmp, .call 18 [(.t 1), (.c (.int .i64 (.ofNat 4))), (.t 0), (.c (.bool true))], .none⟩]) (
  .seq (.reg [⟨.tmp, .move (.v 4), .none⟩,
    ⟨.tmp, .build [.int .i64 (.ofNat 0), .bool false, .int .i64 (.ofNat 0), .bool false] [(3, 1, (.c (.bool true)))], .none⟩,
    ⟨.tmp, .loadN 5 (.v 13), .none⟩,
    ⟨.tmp, .call 19 [(.t 2), (.t 1), (.t 0)], .none⟩]) (
  .seq (.reg [⟨.tmp, .move (.v 6), .none⟩,
    ⟨.tmp, .bin .add (.t 0) (.c (.int .i64 (.ofNat 1))), .none⟩,
    ⟨(.var 6), .move (.t 0), .none⟩]) (
  .exit 1)))) (
  .skip))) (
 .seq (.reg [⟨(.var 14), .move (.c (.int .i64 (.ofNat 0))), .none⟩]) (
 .seq (.seq (.reg [⟨.tmp, .move (.v 4), .none⟩,
   ⟨.tmp, .nilck (.t 0), .none⟩,
   ⟨.tmp, .fadr 1 (.t 0), .none⟩,
   ⟨.tmp, .load1 (.t 0), .none⟩,
   ⟨.tmp, .len false (.t 0), .none⟩,
   ⟨.tmp, .bin .sub (.t 0) (.c (.int .i64 (.ofNat 1))), .none⟩,
   ⟨(.var 15), .move (.t 0), .none⟩]) (
 .block 10 (
  .loop b10_7))) r10_8)))))))
def r10_10 : DC :=
 .seq (.reg [⟨(.var 5), .move (.c (.bool false)), .none⟩]) (
 .seq (.seq (.reg [⟨.tmp, .fadr 0 (.v 7), .none⟩,
   ⟨.tmp, .load1 (.t 0), .none⟩,
   ⟨.tmp, .bin .eql (.t 0) (.c (.int .i64 (.ofNat 2))), .none⟩,
   ⟨.tmp, .move (.t 0), .none⟩,
   ⟨.tmp, .fadr 1 (.v 7), .some ((.t 0), true)⟩,
   ⟨.tmp, .load1 (.t 0), .some ((.t 1), true)⟩,
   ⟨.tmp, .bin .eql (.t 0) (.c (.str 2 28265)), .some ((.t 2), true)⟩,
   ⟨.tmp, .pick (.t 3) (.t 0) (.c (.bool false)), .none⟩]) (
 .cond (.t 0) (
  .seq (.reg [⟨(.var 9), .move (.c (.int .i64 (.ofNat 0))), .none⟩]) (
  .seq (.reg [⟨.tmp, .move (.v 4), .none⟩,
    ⟨.tmp, .nilck (.t 0), .none⟩,
    ⟨.tmp, .fadr 1 (.t 0), .none⟩,
    ⟨.tmp, .load1 (.t 0), .none⟩,
    ⟨.tmp, .len false (.t 0), .none⟩,
    ⟨.tmp, .bin .sub (.t 0) (.c (.int .i64 (.ofNat 1))), .none⟩,
    ⟨(.var 10), .move (.t 0), .none⟩]) (
  .block 6 (
   .loop b10_6)))) (
  .skip))) r10_9)
def r10_11 : DC :=
 .seq (.seq (.reg [⟨.tmp, .move (.v 5), .none⟩,
   ⟨.tmp, .not (.t 0), .none⟩,
   ⟨.tmp, .move (.t 0), .none⟩,
   ⟨.tmp, .move (.v 6), .some ((.t 0), true)⟩,
   ⟨.tmp, .bin .gtr (.t 0) (.c (.int .i64 (.ofNat 0))), .some ((.t 1), true)⟩,
   ⟨.tmp, .pick (.t 2) (.t 0) (.c (.bool false)), .none⟩,
   ⟨.tmp, .move (.t 0), .none⟩,
   ⟨.tmp, .fadr 3 (.v 7), .some ((.t 0), true)⟩,
   ⟨.tmp, .load1 (.t 0), .some ((.t 1), true)⟩,
   ⟨.tmp, .move (.v 0), .some ((.t 2), true)⟩,
   ⟨.tmp, .move (.v 6), .some ((.t 3), true)⟩,
   ⟨.tmp, .bin .sub (.t 0) (.c (.int .i64 (.ofNat 1))), .some ((.t 4), true)⟩,
   ⟨.tmp, .idxS 5 (.t 2) (.t 0), .some ((.t 5), true)⟩,
   ⟨.tmp, .fadr 3 (.t 0), .some ((.t 6), true)⟩,
   ⟨.tmp, .load1 (.t 0), .some ((.t 7), true)⟩,
   ⟨.tmp, .bin .gtr (.t 6) (.t 0), .some ((.t 8), true)⟩,
   ⟨.tmp, .pick (.t 9) (.t 0) (.c (.bool false)), .none⟩]) (
 .cond (.t 0) (
  .block 4 (
   .loop b10_2)) (
  .skip))) r10_10
def r10_12 : DC :=
 .reg [⟨.tmp, .move (.v 6), .none⟩,
   ⟨.tmp, .bin .add (.t 0) (.c (.int .i64 (.ofNat 1))), .none⟩,
   ⟨(.var 6), .move (.t 0), .none⟩]
def b10_13 : DC :=
 .seq (.seq (.reg [⟨.tmp, .move (.v 6), .none⟩,
   ⟨.tmp, .move (.v 0), .none⟩,
   ⟨.tmp, .len false (.t 0), .none⟩,
   ⟨.tmp, .bin .lss (.t 2) (.t 0), .none⟩,
   ⟨.tmp, .move (.t 0), .none⟩,
   ⟨.tmp, .move (.v 4), .some ((.t 0), true)⟩,
   ⟨.tmp, .nilck (.t 0), .some ((.t 1), true)⟩,
   ⟨.tmp, .fadr 2 (.t 0), .some ((.t 2), true)⟩,
   ⟨.tmp, .load1 (.t 0), .some ((.t 3), true)⟩,
   ⟨.tmp, .bin .eql (.t 0) (.c (.int .i64 (.ofNat 0))), .some ((.t 4), true)⟩,
   ⟨.tmp, .pick (.t 5) (.t 0) (.c (.bool false)), .none⟩]) (
 .cond (.t 0) (
  .skip) (
  .exit 0))) (
 .seq (.block 1 (
  .seq (.reg [⟨.tmp, .move (.v 0), .none⟩,
    ⟨.tmp, .move (.v 6), .none⟩,
    ⟨.tmp, .idxS 5 (.t 1) (.t 0), .none⟩,
    ⟨.tmp, .loadN 5 (.t 0), .none⟩,
    ⟨(.var 7), .alloc [.int .i64 (.ofNat 0), .str 0 0, .int .i64 (.ofNat 0), .int .i64 (.ofNat 0), .int .i64 (.ofNat 0)], .none⟩,
    ⟨.no, .store 5 (.v 7) (.t 0), .none⟩]) (
  .seq (.seq (.reg [⟨.tmp, .fadr 0 (.v 7), .none⟩,
    ⟨.tmp, .load1 (.t 0), .none⟩,
    ⟨.tmp, .bin .eql (.t 0) (.c (.int .i64 (.ofNat 7))), .none⟩]) (
  .cond (.t 0) (
   .seq (.block 2 (
    .loop b10_0)) r10_1) (
   .skip))) r10_11))) r10_12)
def r10_14 : DC :=
 .seq (.seq (.reg [⟨.tmp, .move (.v 4), .none⟩,
   ⟨.tmp, .nilck (.t 0), .none⟩,
   ⟨.tmp, .fadr 2 (.t 0), .none⟩,
   ⟨.tmp, .load1 (.t 0), .none⟩,
   ⟨.tmp, .bin .neq (.t 0) (.c (.int .i64 (.ofNat 0))), .none⟩]) (
 .cond (.t 0) (
  .seq (.reg [⟨.tmp, .move (.v 4), .none⟩,
    ⟨.tmp, .nilck (.t 0), .none⟩,
    ⟨.tmp, .fadr 3 (.t 0), .none⟩,
    ⟨.tmp, .load1 (.t 0), .none⟩,
    ⟨.tmp, .move (.v 4), .none⟩,
    ⟨.tmp, .nilck (.t 0), .none⟩,
    ⟨.tmp, .fadr 2 (.t 0), .none⟩,
    ⟨.tmp, .load1 (.t 0), .none⟩,
    ⟨(.var 1), .move (.c (.nils)), .none⟩,
    ⟨(.var 2), .move (.t 4), .none⟩,
    ⟨(.var 3), .move (.t 0), .none⟩]) (
  .ret)) (
  .skip))) (
 .seq (.reg [⟨.tmp, .move (.v 4), .none⟩,
   ⟨.tmp, .nilck (.t 0), .none⟩,
   ⟨.tmp, .fadr 0 (.t 0), .none⟩,
   ⟨.tmp, .load1 (.t 0), .none⟩,
   ⟨(.var 1), .move (.t 0), .none⟩,
   ⟨(.var 2), .move (.c (.int .i64 (.ofNat 0))), .none⟩,
   ⟨(.var 3), .move (.c (.int .i64 (.ofNat 0))), .none⟩]) (
 .ret))
def d10 : DF := ⟨[.some 0, .some 2, .some 3, .some 4, .some 5, .some 6, .some 7, .some 8, .some 9, .some 10, .some 11, .some 12, .some 13, .some 14, .some 15, .some 16],
  .seq (.reg [⟨(.var 1), .move (.c (.nils)), .none⟩,
    ⟨(.var 2), .move (.c (.int .i64 (.ofNat 0))), .none⟩,
    ⟨(.var 3), .move (.c (.int .i64 (.ofNat 0))), .none⟩]) (
  .seq (.reg [⟨.tmp, .build [.nils, .nils, .int .i64 (.ofNat 0), .int .i64 (.ofNat 0)] [], .none⟩,
    ⟨.tmp, .box 4 (.t 0), .none⟩,
    ⟨(.var 4), .move (.t 0), .none⟩]) (
  .seq (.seq (.reg [⟨.tmp, .move (.v 0), .none⟩,
    ⟨.tmp, .len false (.t 0), .none⟩,
    ⟨.tmp, .bin .eql (.t 0) (.c (.int .i64 (.ofNat 0))), .none⟩]) (
  .cond (.t 0) (
   .seq (.reg [⟨(.var 1), .move (.c (.nils)), .none⟩,
     ⟨(.var 2), .move (.c (.int .i64 (.ofNat 0))), .none⟩,
     ⟨(.var 3), .move (.c (.int .i64 (.ofNat 0))), .none⟩]) (
   .ret)) (
   .skip))) (
  .seq (.reg [⟨.tmp, .move (.v 4), .none⟩,
    ⟨.tmp, .move (.v 0), .none⟩,
    ⟨.tmp, .idxS 5 (.t 0) (.c (.int .i64 (.ofNat 0))), .none⟩,
    ⟨.tmp, .loadN 5 (.t 0), .none⟩,
    ⟨.tmp, .call 18 [(.t 3), (.c (.int .i64 (.ofNat 4))), (.t 0), (.c (.bool false))], .none⟩]) (
  .seq (.reg [⟨.tmp, .move (.v 4), .none⟩,
    ⟨.tmp, .move (.v 0), .none⟩,
    ⟨.tmp, .idxS 5 (.t 0) (.c (.int .i64 (.ofNat 0))), .none⟩,
    ⟨.tmp, .fadr 4 (.t 0), .none⟩,
    ⟨.tmp, .load1 (.t 0), .none⟩,
    ⟨.tmp, .build [.int .i64 (.ofNat 0), .bool false, .int .i64 (.ofNat 0), .bool false] [(0, 1, (.t 0))], .none⟩,
    ⟨.tmp, .move (.v 0), .none⟩,
    ⟨.tmp, .idxS 5 (.t 0) (.c (.int .i64 (.ofNat 0))), .none⟩,
    ⟨.tmp, .loadN 5 (.t 0), .none⟩,
    ⟨.tmp, .call 19 [(.t 8), (.t 3), (.t 0)], .none⟩]) (
  .seq (.reg [⟨(.var 5), .move (.c (.bool true)), .none⟩]) (
  .seq (.seq (.reg [⟨(.var 6), .move (.c (.int .i64 (.ofNat 0))), .none⟩]) (
  .block 0 (
   .loop b10_13))) r10_14)))))),
  [.opd (.v 1), .opd (.v 2), .opd (.v 3)]⟩
/-- telamon/telamonlaw13.num -/
def vm11 : List Nat := [0, 2]

def d11 : DF := ⟨[.some 0, .some 2],
  .seq (.reg [⟨(.var 1), .move (.c (.int .i64 (.ofNat 0))), .none⟩]) (
  .seq (.reg [⟨.tmp, .move (.v 0), .none⟩,
    ⟨(.var 1), .move (.t 0), .none⟩]) (
  .ret)),
  [.opd (.v 1)]⟩
/-- telamon/telamonlaw13.told -/
def vm12 : List Nat := [0, 2, 3, 5, 6, 8]

def d12 : DF := ⟨[.some 0, .some 2, .some 3, .some 5, .some 6, .some 8],
  .seq (.reg [⟨(.var 1), .move (.c (.str 0 0)), .none⟩]) (
  .seq (.reg [⟨.tmp, .move (.v 0), .none⟩,
    ⟨.tmp, .call 7 [(.t 0)], .none⟩,
    ⟨.tmp, .move (.t 0), .none⟩,
    ⟨.tmp, .ext (.t 0) 0, .none⟩,
    ⟨.tmp, .ext (.t 1) 1, .none⟩,
    ⟨.tmp, .ext (.t 2) 2, .none⟩,
    ⟨(.var 2), .move (.t 2), .none⟩,
    ⟨.tmp, .move (.t 1), .none⟩,
    ⟨(.var 3), .move (.t 1), .none⟩]) (
  .seq (.seq (.reg [⟨.tmp, .move (.v 3), .none⟩,
    ⟨.tmp, .bin .neq (.t 0) (.c (.int .i64 (.ofNat 0))), .none⟩]) (
  .cond (.t 0) (
   .seq (.reg [⟨(.var 1), .move (.c (.str 1 63)), .none⟩]) (
   .ret)) (
   .skip))) (
  .seq (.reg [⟨.tmp, .move (.v 2), .none⟩,
    ⟨.tmp, .call 8 [(.t 0)], .none⟩,
    ⟨.tmp, .move (.t 0), .none⟩,
    ⟨.tmp, .ext (.t 0) 0, .none⟩,
    ⟨.tmp, .ext (.t 1) 1, .none⟩,
    ⟨.tmp, .ext (.t 2) 2, .none⟩,
    ⟨(.var 4), .move (.t 2), .none⟩,
    ⟨.tmp, .move (.t 1), .none⟩,
    ⟨(.var 5), .move (.t 1), .none⟩]) (
  .seq (.seq (.reg [⟨.tmp, .move (.v 5), .none⟩,
    ⟨.tmp, .call 11 [(.t 0)], .none⟩,
    ⟨.tmp, .bin .neq (.t 0) (.c (.int .i64 (.ofNat 0))), .none⟩]) (
  .cond (.t 0) (
   .seq (.reg [⟨(.var 1), .move (.c (.str 1 33)), .none⟩]) (
   .ret)) (
   .skip))) (
  .seq (.reg [⟨.tmp, .move (.v 4), .none⟩,
    ⟨.tmp, .call 23 [(.t 0)], .none⟩,
    ⟨(.var 1), .move (.t 0), .none⟩]) (
  .ret)))))),
  [.opd (.v 1)]⟩
/-- (*telamon/telamonref12.lexer).pass -/
def vm13 : List Nat := [0, 2, 3]

def d13 : DF := ⟨[.some 0, .some 2, .some 3],
  .seq (.reg [⟨.tmp, .move (.v 0), .none⟩,
    ⟨.tmp, .nilck (.t 0), .none⟩,
    ⟨.tmp, .fadr 0 (.t 0), .none⟩,
    ⟨.tmp, .load1 (.t 0), .none⟩,
    ⟨.tmp, .move (.v 0), .none⟩,
    ⟨.tmp, .nilck (.t 0), .none⟩,
    ⟨.tmp, .fadr 1 (.t 0), .none⟩,
    ⟨.tmp, .load1 (.t 0), .none⟩,
    ⟨.tmp, .call 24 [(.t 4), (.t 0)], .none⟩,
    ⟨(.var 1), .move (.t 0), .none⟩]) (
  .seq (.seq (.reg [⟨.tmp, .move (.v 1), .none⟩,
    ⟨.tmp, .bin .eql (.t 0) (.c (.int .i64 (.ofNat 0))), .none⟩]) (
  .cond (.t 0) (
   .seq (.reg [⟨.tmp, .move (.v 0), .none⟩,
     ⟨.tmp, .nilck (.t 0), .none⟩,
     ⟨.tmp, .fadr 4 (.t 0), .none⟩,
     ⟨.no, .store 1 (.t 0) (.c (.int .i64 (.ofNat 40))), .none⟩]) (
   .ret)) (
   .skip))) (
  .seq (.reg [⟨.tmp, .move (.v 0), .none⟩,
    ⟨.tmp, .nilck (.t 0), .none⟩,
    ⟨.tmp, .fadr 0 (.t 0), .none⟩,
    ⟨.tmp, .load1 (.t 0), .none⟩,
    ⟨.tmp, .move (.v 0), .none⟩,
    ⟨.tmp, .nilck (.t 0), .none⟩,
    ⟨.tmp, .fadr 1 (.t 0), .none⟩,
    ⟨.tmp, .load1 (.t 0), .none⟩,
    ⟨.tmp, .idxStr (.t 4) (.t 0), .none⟩,
    ⟨(.var 2), .move (.t 0), .none⟩]) (
  .seq (.seq (.reg [⟨.tmp, .move (.v 2), .none⟩,
    ⟨.tmp, .bin .lss (.t 0) (.c (.int .u8 (.ofNat 32))), .none⟩,
    ⟨.tmp, .move (.t 0), .none⟩,
    ⟨.tmp, .move (.v 2), .some ((.t 0), true)⟩,
    ⟨.tmp, .bin .neq (.t 0) (.c (.int .u8 (.ofNat 10))), .some ((.t 1), true)⟩,
    ⟨.tmp, .pick (.t 2) (.t 0) (.c (.bool false)), .none⟩,
    ⟨.tmp, .move (.t 0), .none⟩,
    ⟨.tmp, .move (.v 2), .some ((.t 0), false)⟩,
    ⟨.tmp, .bin .eql (.t 0) (.c (.int .u8 (.ofNat 127))), .some ((.t 1), false)⟩,
    ⟨.tmp, .pick (.t 2) (.c (.bool true)) (.t 0), .none⟩]) (
  .cond (.t 0) (
   .seq (.reg [⟨.tmp, .move (.v 0), .none⟩,
     ⟨.tmp, .nilck (.t 0), .none⟩,
     ⟨.tmp, .fadr 4 (.t 0), .none⟩,
     ⟨.no, .store 1 (.t 0) (.c (.int .i64 (.ofNat 41))), .none⟩]) (
   .ret)) (
   .skip))) (
  .seq (.reg [⟨.tmp, .move (.v 0), .none⟩,
    ⟨.tmp, .move (.v 0), .none⟩,
    ⟨.tmp, .nilck (.t 0), .none⟩,
    ⟨.tmp, .fadr 1 (.t 0), .none⟩,
    ⟨.tmp, .load1 (.t 0), .none⟩,
    ⟨.tmp, .move (.v 1), .none⟩,
    ⟨.tmp, .bin .add (.t 1) (.t 0), .none⟩,
    ⟨.tmp, .nilck (.t 6), .none⟩,
    ⟨.tmp, .fadr 1 (.t 0), .none⟩,
    ⟨.no, .store 1 (.t 0) (.t 2), .none⟩]) (
  .seq (.reg [⟨.tmp, .move (.v 0), .none⟩,
    ⟨.tmp, .nilck (.t 0), .none⟩,
    ⟨.tmp, .fadr 3 (.t 0), .none⟩,
    ⟨.tmp, .load1 (.t 0), .none⟩,
    ⟨.tmp, .bin .add (.t 0) (.c (.int .i64 (.ofNat 1))), .none⟩,
    ⟨.tmp, .nilck (.t 4), .none⟩,
    ⟨.tmp, .fadr 3 (.t 0), .none⟩,
    ⟨.no, .store 1 (.t 0) (.t 2), .none⟩]) (
  .seq (.reg [⟨.tmp, .move (.v 2), .none⟩,
    ⟨.tmp, .bin .eql (.t 0) (.c (.int .u8 (.ofNat 10))), .none⟩]) (
  .cond (.t 0) (
   .seq (.reg [⟨.tmp, .move (.v 0), .none⟩,
     ⟨.tmp, .nilck (.t 0), .none⟩,
     ⟨.tmp, .fadr 2 (.t 0), .none⟩,
     ⟨.tmp, .load1 (.t 0), .none⟩,
     ⟨.tmp, .bin .add (.t 0) (.c (.int .i64 (.ofNat 1))), .none⟩,
     ⟨.tmp, .nilck (.t 4), .none⟩,
     ⟨.tmp, .fadr 2 (.t 0), .none⟩,
     ⟨.no, .store 1 (.t 0) (.t 2), .none⟩]) (
   .reg [⟨.tmp, .move (.v 0), .none⟩,
     ⟨.tmp, .nilck (.t 0), .none⟩,
     ⟨.tmp, .fadr 3 (.t 0), .none⟩,
     ⟨.no, .store 1 (.t 0) (.c (.int .i64 (.ofNat 1))), .none⟩])) (
   .skip)))))))),
  []⟩
/-- telamon/telamonref12.delim -/
def vm14 : List Nat := [0, 2]

def d14 : DF := ⟨[.some 0, .some 2],
  .seq (.reg [⟨(.var 1), .move (.c (.bool false)), .none⟩]) (
  .seq (.reg [⟨.tmp, .move (.v 0), .none⟩,
    ⟨.tmp, .bin .eql (.t 0) (.c (.int .u8 (.ofNat 40))), .none⟩,
    ⟨.tmp, .move (.t 0), .none⟩,
    ⟨.tmp, .move (.v 0), .some ((.t 0), false)⟩,
    ⟨.tmp, .bin .eql (.t 0) (.c (.int .u8 (.ofNat 41))), .some ((.t 1), false)⟩,
    ⟨.tmp, .pick (.t 2) (.c (.bool true)) (.t 0), .none⟩,
    ⟨.tmp, .move (.t 0), .none⟩,
    ⟨.tmp, .move (.v 0), .some ((.t 0), false)⟩,
    ⟨.tmp, .bin .eql (.t 0) (.c (.int .u8 (.ofNat 123))), .some ((.t 1), false)⟩,
    ⟨.tmp, .pick (.t 2) (.c (.bool true)) (.t 0), .none⟩,
    ⟨.tmp, .move (.t 0), .none⟩,
    ⟨.tmp, .move (.v 0), .some ((.t 0), false)⟩,
    ⟨.tmp, .bin .eql (.t 0) (.c (.int .u8 (.ofNat 125))), .some ((.t 1), false)⟩,
    ⟨.tmp, .pick (.t 2) (.c (.bool true)) (.t 0), .none⟩,
    ⟨.tmp, .move (.t 0), .none⟩,
    ⟨.tmp, .move (.v 0), .some ((.t 0), false)⟩,
    ⟨.tmp, .bin .eql (.t 0) (.c (.int .u8 (.ofNat 59))), .some ((.t 1), false)⟩,
    ⟨.tmp, .pick (.t 2) (.c (.bool true)) (.t 0), .none⟩,
    ⟨.tmp, .move (.t 0), .none⟩,
    ⟨.tmp, .move (.v 0), .some ((.t 0), false)⟩,
    ⟨.tmp, .bin .eql (.t 0) (.c (.int .u8 (.ofNat 44))), .some ((.t 1), false)⟩,
    ⟨.tmp, .pick (.t 2) (.c (.bool true)) (.t 0), .none⟩,
    ⟨(.var 1), .move (.t 0), .none⟩]) (
  .ret)),
  [.opd (.v 1)]⟩
/-- telamon/telamonref12.kind -/
def vm15 : List Nat := [0, 1, 4, 5, 6, 7]

def d15 : DF := ⟨[.some 0, .some 1, .some 4, .some 5, .some 6, .some 7],
  .seq (.reg [⟨(.var 2), .move (.c (.int .i64 (.ofNat 0))), .none⟩]) (
  .seq (.seq (.reg [⟨.tmp, .move (.v 0), .none⟩,
    ⟨.tmp, .nilck (.t 0), .none⟩,
    ⟨.tmp, .fadr 0 (.t 0), .none⟩,
    ⟨.tmp, .load1 (.t 0), .none⟩,
    ⟨.tmp, .bin .eql (.t 0) (.c (.int .i64 (.ofNat 2))), .none⟩]) (
  .cond (.t 0) (
   .seq (.reg [⟨(.var 2), .move (.c (.int .i64 (.ofNat 0))), .none⟩]) (
   .ret)) (
   .skip))) (
  .seq (.reg [⟨.tmp, .move (.v 1), .none⟩,
    ⟨.tmp, .call 25 [(.t 0)], .none⟩,
    ⟨(.var 3), .move (.t 0), .none⟩]) (
  .seq (.seq (.reg [⟨.tmp, .move (.v 3), .none⟩]) (
  .cond (.t 0) (
   .seq (.reg [⟨.tmp, .move (.v 0), .none⟩,
     ⟨.tmp, .nilck (.t 0), .none⟩,
     ⟨.tmp, .fadr 0 (.t 0), .none⟩,
     ⟨.no, .store 1 (.t 0) (.c (.int .i64 (.ofNat 2))), .none⟩]) (
   .seq (.seq (.reg [⟨.tmp, .move (.v 1), .none⟩,
     ⟨.tmp, .bin .eql (.t 0) (.c (.str 3 9602786)), .none⟩]) (
   .cond (.t 0) (
    .reg [⟨.tmp, .move (.v 0), .none⟩,
      ⟨.tmp, .nilck (.t 0), .none⟩,
      ⟨.tmp, .fadr 1 (.t 0), .none⟩,
      ⟨.no, .store 1 (.t 0) (.c (.str 2 15917)), .none⟩]) (
    .skip))) (
   .seq (.seq (.reg [⟨.tmp, .move (.v 1), .none⟩,
     ⟨.tmp, .bin .eql (.t 0) (.c (.str 2 48078)), .none⟩]) (
   .cond (.t 0) (
    .reg [⟨.tmp, .move (.v 0), .none⟩,
      ⟨.tmp, .nilck (.t 0), .none⟩,
      ⟨.tmp, .fadr 1 (.t 0), .none⟩,
      ⟨.no, .store 1 (.t 0) (.c (.str 1 92)), .none⟩]) (
    .skip))) (
   .seq (.reg [⟨(.var 2), .move (.c (.int .i64 (.ofNat 0))), .none⟩]) (
   .ret))))) (
   .skip))) (
  .seq (.reg [⟨.tmp, .move (.v 1), .none⟩,
    ⟨.tmp, .call 26 [(.t 0)], .none⟩,
    ⟨(.var 4), .move (.t 0), .none⟩]) (
  .seq (.seq (.reg [⟨.tmp, .move (.v 4), .none⟩]) (
  .cond (.t 0) (
   .seq (.reg [⟨.tmp, .move (.v 0), .none⟩,
     ⟨.tmp, .nilck (.t 0), .none⟩,
     ⟨.tmp, .fadr 0 (.t 0), .none⟩,
     ⟨.no, .store 1 (.t 0) (.c (.int .i64 (.ofNat 3))), .none⟩]) (
   .seq (.seq (.reg [⟨.tmp, .move (.v 1), .none⟩,
     ⟨.tmp, .len true (.t 0), .none⟩,
     ⟨.tmp, .bin .gtr (.t 0) (.c (.int .i64 (.ofNat 9))), .none⟩]) (
   .cond (.t 0) (
    .seq (.reg [⟨(.var 2), .move (.c (.int .i64 (.ofNat 41))), .none⟩]) (
    .ret)) (
    .skip))) (
   .seq (.reg [⟨(.var 2), .move (.c (.int .i64 (.ofNat 0))), .none⟩]) (
   .ret)))) (
   .skip))) (
  .seq (.reg [⟨.tmp, .move (.v 0), .none⟩,
    ⟨.tmp, .nilck (.t 0), .none⟩,
    ⟨.tmp, .fadr 0 (.t 0), .none⟩,
    ⟨.no, .store 1 (.t 0) (.c (.int .i64 (.ofNat 1))), .none⟩]) (
  .seq (.seq (.reg [⟨.tmp, .move (.v 1), .none⟩,
    ⟨.tmp, .len true (.t 0), .none⟩,
    ⟨.tmp, .bin .gtr (.t 0) (.c (.int .i64 (.ofNat 60))), .none⟩]) (
  .cond (.t 0) (
   .seq (.reg [⟨(.var 2), .move (.c (.int .i64 (.ofNat 2))), .none⟩]) (
   .ret)) (
   .skip))) (
  .seq (.reg [⟨.tmp, .move (.v 1), .none⟩,
    ⟨.tmp, .call 27 [(.t 0)], .none⟩,
    ⟨(.var 5), .move (.t 0), .none⟩]) (
  .seq (.seq (.reg [⟨.tmp, .move (.v 5), .none⟩]) (
  .cond (.t 0) (
   .seq (.reg [⟨(.var 2), .move (.c (.int .i64 (.ofNat 41))), .none⟩]) (
   .ret)) (
   .skip))) (
  .seq (.reg [⟨(.var 2), .move (.c (.int .i64 (.ofNat 0))), .none⟩]) (
  .ret))))))))))),
  [.opd (.v 2)]⟩
/-- (*telamon/layout.placer).begin -/
def vm16 : List Nat := [0, 1, 2, 3, 5, 6, 8]

def d16 : DF := ⟨[.some 0, .some 1, .some 2, .some 3, .some 5, .some 6, .some 8],
  .seq (.reg [⟨(.var 4), .box 4 (.v 1), .none⟩,
    ⟨(.var 5), .box 5 (.v 2), .none⟩,
    ⟨(.var 6), .move (.c (.bool false)), .none⟩]) (
  .seq (.seq (.reg [⟨.tmp, .move (.v 0), .none⟩,
    ⟨.tmp, .nilck (.t 0), .none⟩,
    ⟨.tmp, .fadr 0 (.t 0), .none⟩,
    ⟨.tmp, .fadr 0 (.t 0), .none⟩,
    ⟨.tmp, .load1 (.t 0), .none⟩,
    ⟨.tmp, .len false (.t 0), .none⟩,
    ⟨.tmp, .bin .geq (.t 0) (.c (.int .i64 (.ofNat 60))), .none⟩]) (
  .cond (.t 0) (
   .seq (.reg [⟨.tmp, .move (.v 0), .none⟩,
     ⟨.tmp, .move (.v 0), .none⟩,
     ⟨.tmp, .fadr 2 (.v 5), .none⟩,
     ⟨.tmp, .load1 (.t 0), .none⟩,
     ⟨.tmp, .nilck (.t 3), .none⟩,
     ⟨.tmp, .fadr 4 (.t 0), .none⟩,
     ⟨.no, .store 1 (.t 0) (.c (.int .i64 (.ofNat 2))), .none⟩,
     ⟨.no, .again1 (.t 3) (.t 2), .none⟩,
     ⟨.tmp, .nilck (.t 4), .none⟩,
     ⟨.tmp, .fadr 5 (.t 0), .none⟩,
     ⟨.no, .store 1 (.t 0) (.t 4), .none⟩]) (
   .seq (.reg [⟨(.var 6), .move (.c (.bool false)), .none⟩]) (
   .ret))) (
   .skip))) (
  .seq (.reg [⟨.tmp, .move (.v 0), .none⟩,
    ⟨.tmp, .nilck (.t 0), .none⟩,
    ⟨.tmp, .fadr 0 (.t 0), .none⟩,
    ⟨.tmp, .loadN 4 (.v 4), .none⟩,
    ⟨.tmp, .call 28 [(.t 1), (.t 0)], .none⟩]) (
  .seq (.reg [⟨.tmp, .move (.v 0), .none⟩,
    ⟨.tmp, .loadN 5 (.v 5), .none⟩,
    ⟨.tmp, .move (.v 3), .none⟩,
    ⟨.tmp, .call 29 [(.t 2), (.c (.int .i64 (.ofNat 4))), (.t 1), (.t 0)], .none⟩,
    ⟨(.var 6), .move (.t 0), .none⟩]) (
  .ret)))),
  [.opd (.v 6)]⟩
/-- (*telamon/layout.placer).token -/
def vm17 : List Nat := [0, 2, 3, 5, 18, 19, 20]
def b17_0 : DC :=
 .seq (.reg [⟨.tmp, .bin .lss (.v 6) (.v 5), .none⟩]) (
 .seq (.cond (.t 0) (
  .skip) (
  .exit 0)) (
 .seq (.block 1 (
  .seq (.reg [⟨.tmp, .idxS 1 (.v 4) (.v 6), .none⟩,
    ⟨.tmp, .load1 (.t 0), .none⟩,
    ⟨(.var 3), .move (.t 0), .none⟩]) (
  .seq (.reg [⟨.tmp, .move (.v 3), .none⟩,
    ⟨.tmp, .callv (.t 0) [], .none⟩,
    ⟨.tmp, .not (.t 0), .none⟩]) (
  .cond (.t 0) (
   .seq (.reg [⟨(.var 1), .move (.c (.bool false)), .none⟩]) (
   .ret)) (
   .skip))))) (
 .reg [⟨.tmp, .bin .add (.v 6) (.c (.int .i64 (.ofNat 1))), .none⟩,
   ⟨(.var 6), .move (.t 0), .none⟩])))
def r17_1 : DC :=
 .seq (.reg [⟨.tmp, .move (.v 0), .none⟩,
   ⟨.tmp, .nilck (.t 0), .none⟩,
   ⟨.tmp, .fadr 6 (.t 0), .none⟩,
   ⟨.no, .store 1 (.t 0) (.c (.bool false)), .none⟩]) (
 .seq (.seq (.reg [⟨.tmp, .move (.v 0), .none⟩,
   ⟨.tmp, .nilck (.t 0), .none⟩,
   ⟨.tmp, .fadr 7 (.t 0), .none⟩,
   ⟨.tmp, .load1 (.t 0), .none⟩,
   ⟨.tmp, .not (.t 0), .none⟩,
   ⟨.tmp, .move (.t 0), .none⟩,
   ⟨.tmp, .move (.v 0), .some ((.t 0), true)⟩,
   ⟨.tmp, .move (.v 0), .some ((.t 1), true)⟩,
   ⟨.tmp, .call 35 [(.t 0)], .some ((.t 2), true)⟩,
   ⟨.tmp, .call 34 [(.t 2), (.t 0)], .some ((.t 3), true)⟩,
   ⟨.tmp, .not (.t 0), .some ((.t 4), true)⟩,
   ⟨.tmp, .pick (.t 5) (.t 0) (.c (.bool false)), .none⟩]) (
 .cond (.t 0) (
  .seq (.reg [⟨(.var 1), .move (.c (.bool false)), .none⟩]) (
  .ret)) (
  .skip))) (
 .seq (.reg [⟨.tmp, .move (.v 0), .none⟩,
   ⟨.tmp, .call 36 [(.t 0)], .none⟩,
   ⟨(.var 1), .move (.t 0), .none⟩]) (
 .ret)))
def d17 : DF := ⟨[.some 0, .some 2, .some 3, .some 5, .some 18, .some 19, .some 20],
  .seq (.reg [⟨(.var 1), .move (.c (.bool false)), .none⟩]) (
  .seq (.reg [⟨.tmp, .move (.v 0), .none⟩,
    ⟨.tmp, .nilck (.t 0), .none⟩,
    ⟨.tmp, .fadr 7 (.t 0), .none⟩,
    ⟨.no, .store 1 (.t 0) (.c (.bool false)), .none⟩]) (
  .seq (.reg [⟨.tmp, .move (.v 0), .none⟩,
    ⟨.tmp, .mkfn 30 [(.t 0)] [], .none⟩,
    ⟨.tmp, .move (.v 0), .none⟩,
    ⟨.tmp, .mkfn 31 [(.t 0)] [], .none⟩,
    ⟨.tmp, .move (.v 0), .none⟩,
    ⟨.tmp, .mkfn 32 [(.t 0)] [], .none⟩,
    ⟨.tmp, .move (.v 0), .none⟩,
    ⟨.tmp, .mkfn 33 [(.t 0)] [], .none⟩,
    ⟨.tmp, .buildS 1 [[.nilf], [.nilf], [.nilf], [.nilf]] [(0, (.t 6)), (1, (.t 4)), (2, (.t 2)), (3, (.t 0))], .none⟩,
    ⟨(.var 2), .move (.t 0), .none⟩]) (
  .seq (.seq (.reg [⟨(.var 4), .move (.v 2), .none⟩,
    ⟨(.var 5), .len false (.v 4), .none⟩,
    ⟨(.var 6), .move (.c (.int .i64 (.ofNat 0))), .none⟩]) (
  .block 0 (
   .loop b17_0))) r17_1))),
  [.opd (.v 1)]⟩
/-- (*telamon/telamonref12.layer).put -/
def vm18 : List Nat := [0, 1, 2, 3, 6, 8]

def d18 : DF := ⟨[.some 0, .some 1, .some 2, .some 3, .some 6, .some 8],
  .seq (.reg [⟨(.var 4), .box 5 (.v 2), .none⟩]) (
  .seq (.seq (.reg [⟨.tmp, .move (.v 0), .none⟩,
    ⟨.tmp, .nilck (.t 0), .none⟩,
    ⟨.tmp, .fadr 2 (.t 0), .none⟩,
    ⟨.tmp, .load1 (.t 0), .none⟩,
    ⟨.tmp, .bin .neq (.t 0) (.c (.int .i64 (.ofNat 0))), .none⟩]) (
  .cond (.t 0) (
   .ret) (
   .skip))) (
  .seq (.seq (.reg [⟨.tmp, .move (.v 0), .none⟩,
    ⟨.tmp, .nilck (.t 0), .none⟩,
    ⟨.tmp, .fadr 0 (.t 0), .none⟩,
    ⟨.tmp, .load1 (.t 0), .none⟩,
    ⟨.tmp, .len false (.t 0), .none⟩,
    ⟨.tmp, .bin .geq (.t 0) (.c (.int .i64 (.ofNat 60000))), .none⟩]) (
  .cond (.t 0) (
   .seq (.reg [⟨.tmp, .move (.v 0), .none⟩,
     ⟨.tmp, .nilck (.t 0), .none⟩,
     ⟨.tmp, .fadr 2 (.t 0), .none⟩,
     ⟨.no, .store 1 (.t 0) (.c (.int .i64 (.ofNat 2))), .none⟩]) (
   .seq (.reg [⟨.tmp, .move (.v 0), .none⟩,
     ⟨.tmp, .fadr 2 (.v 4), .none⟩,
     ⟨.tmp, .load1 (.t 0), .none⟩,
     ⟨.tmp, .nilck (.t 2), .none⟩,
     ⟨.tmp, .fadr 3 (.t 0), .none⟩,
     ⟨.no, .store 1 (.t 0) (.t 2), .none⟩]) (
   .ret))) (
   .skip))) (
  .seq (.reg [⟨.tmp, .move (.v 1), .none⟩,
    ⟨.tmp, .fadr 2 (.v 4), .none⟩,
    ⟨.tmp, .load1 (.t 0), .none⟩,
    ⟨.tmp, .fadr 3 (.v 4), .none⟩,
    ⟨.tmp, .load1 (.t 0), .none⟩,
    ⟨.tmp, .fadr 4 (.v 4), .none⟩,
    ⟨.tmp, .load1 (.t 0), .none⟩,
    ⟨.tmp, .build [.int .i64 (.ofNat 0), .str 0 0, .int .i64 (.ofNat 0), .int .i64 (.ofNat 0), .int .i64 (.ofNat 0)] [(0, 1, (.t 6)), (2, 1, (.t 4)), (3, 1, (.t 2)), (4, 1, (.t 0))], .none⟩,
    ⟨(.var 5), .alloc [.int .i64 (.ofNat 0), .str 0 0, .int .i64 (.ofNat 0), .int .i64 (.ofNat 0), .int .i64 (.ofNat 0)], .none⟩,
    ⟨.no, .store 5 (.v 5) (.t 0), .none⟩]) (
  .seq (.seq (.reg [⟨.tmp, .move (.v 3), .none⟩]) (
  .cond (.t 0) (
   .reg [⟨.tmp, .fadr 1 (.v 4), .none⟩,
     ⟨.tmp, .load1 (.t 0), .none⟩,
     ⟨.tmp, .fadr 1 (.v 5), .none⟩,
     ⟨.no, .store 1 (.t 0) (.t 1), .none⟩]) (
   .skip))) (
  .reg [⟨.tmp, .move (.v 0), .none⟩,
    ⟨.tmp, .move (.v 0), .none⟩,
    ⟨.tmp, .nilck (.t 0), .none⟩,
    ⟨.tmp, .fadr 0 (.t 0), .none⟩,
    ⟨.tmp, .load1 (.t 0), .none⟩,
    ⟨.tmp, .loadN 5 (.v 5), .none⟩,
    ⟨.tmp, .buildS 5 [[.int .i64 (.ofNat 0), .str 0 0, .int .i64 (.ofNat 0), .int .i64 (.ofNat 0), .int .i64 (.ofNat 0)]] [(0, (.t 0))], .none⟩,
    ⟨.tmp, .append 5 48 (.t 2) (.t 0), .none⟩,
    ⟨.tmp, .nilck (.t 7), .none⟩,
    ⟨.tmp, .fadr 0 (.t 0), .none⟩,
    ⟨.no, .store 1 (.t 0) (.t 2), .none⟩]))))),
  []⟩
/-- (*telamon/telamonref12.layer).push -/
def vm19 : List Nat := [0, 1, 2, 4, 5]

def d19 : DF := ⟨[.some 0, .some 1, .some 2, .some 4, .some 5],
  .seq (.reg [⟨(.var 3), .box 4 (.v 1), .none⟩,
    ⟨(.var 4), .box 5 (.v 2), .none⟩]) (
  .seq (.seq (.reg [⟨.tmp, .move (.v 0), .none⟩,
    ⟨.tmp, .nilck (.t 0), .none⟩,
    ⟨.tmp, .fadr 1 (.t 0), .none⟩,
    ⟨.tmp, .load1 (.t 0), .none⟩,
    ⟨.tmp, .len false (.t 0), .none⟩,
    ⟨.tmp, .bin .geq (.t 0) (.c (.int .i64 (.ofNat 60))), .none⟩,
    ⟨.tmp, .move (.t 0), .none⟩,
    ⟨.tmp, .move (.v 0), .some ((.t 0), true)⟩,
    ⟨.tmp, .nilck (.t 0), .some ((.t 1), true)⟩,
    ⟨.tmp, .fadr 2 (.t 0), .some ((.t 2), true)⟩,
    ⟨.tmp, .load1 (.t 0), .some ((.t 3), true)⟩,
    ⟨.tmp, .bin .eql (.t 0) (.c (.int .i64 (.ofNat 0))), .some ((.t 4), true)⟩,
    ⟨.tmp, .pick (.t 5) (.t 0) (.c (.bool false)), .none⟩]) (
  .cond (.t 0) (
   .seq (.reg [⟨.tmp, .move (.v 0), .none⟩,
     ⟨.tmp, .nilck (.t 0), .none⟩,
     ⟨.tmp, .fadr 2 (.t 0), .none⟩,
     ⟨.no, .store 1 (.t 0) (.c (.int .i64 (.ofNat 2))), .none⟩]) (
   .seq (.reg [⟨.tmp, .move (.v 0), .none⟩,
     ⟨.tmp, .fadr 2 (.v 4), .none⟩,
     ⟨.tmp, .load1 (.t 0), .none⟩,
     ⟨.tmp, .nilck (.t 2), .none⟩,
     ⟨.tmp, .fadr 3 (.t 0), .none⟩,
     ⟨.no, .store 1 (.t 0) (.t 2), .none⟩]) (
   .ret))) (
   .skip))) (
  .reg [⟨.tmp, .move (.v 0), .none⟩,
    ⟨.tmp, .move (.v 0), .none⟩,
    ⟨.tmp, .nilck (.t 0), .none⟩,
    ⟨.tmp, .fadr 1 (.t 0), .none⟩,
    ⟨.tmp, .load1 (.t 0), .none⟩,
    ⟨.tmp, .loadN 4 (.v 3), .none⟩,
    ⟨.tmp, .buildS 4 [[.int .i64 (.ofNat 0), .bool false, .int .i64 (.ofNat 0), .bool false]] [(0, (.t 0))], .none⟩,
    ⟨.tmp, .append 4 32 (.t 2) (.t 0), .none⟩,
    ⟨.tmp, .nilck (.t 7), .none⟩,
    ⟨.tmp, .fadr 1 (.t 0), .none⟩,
    ⟨.no, .store 1 (.t 0) (.t 2), .none⟩])),
  []⟩
/-- (*telamon/telamonref12.layer).pop -/
def vm20 : List Nat := [0, 1, 2, 4]

def d20 : DF := ⟨[.some 0, .some 1, .some 2, .some 4],
  .seq (.reg [⟨(.var 3), .box 5 (.v 1), .none⟩]) (
  .seq (.reg [⟨.tmp, .move (.v 0), .none⟩,
    ⟨.tmp, .loadN 5 (.v 3), .none⟩,
    ⟨.tmp, .move (.v 2), .none⟩,
    ⟨.tmp, .call 18 [(.t 2), (.c (.int .i64 (.ofNat 5))), (.t 1), (.t 0)], .none⟩]) (
  .reg [⟨.tmp, .move (.v 0), .none⟩,
    ⟨.tmp, .move (.v 0), .none⟩,
    ⟨.tmp, .nilck (.t 0), .none⟩,
    ⟨.tmp, .fadr 1 (.t 0), .none⟩,
    ⟨.tmp, .load1 (.t 0), .none⟩,
    ⟨.tmp, .move (.v 0), .none⟩,
    ⟨.tmp, .nilck (.t 0), .none⟩,
    ⟨.tmp, .fadr 1 (.t 0), .none⟩,
    ⟨.tmp, .load1 (.t 0), .none⟩,
    ⟨.tmp, .len false (.t 0), .none⟩,
    ⟨.tmp, .bin .sub (.t 0) (.c (.int .i64 (.ofNat 1))), .none⟩,
    ⟨.tmp, .slcS 4 (.t 6) .none (.some (.t 0)) .none, .none⟩,
    ⟨.tmp, .nilck (.t 11), .none⟩,
    ⟨.tmp, .fadr 1 (.t 0), .none⟩,
    ⟨.no, .store 1 (.t 0) (.t 2), .none⟩])),
  []⟩
/-- (*telamon/telamonref12.layer).token -/
def vm21 : List Nat := [0, 1, 3, 4, 5]

def d21 : DF := ⟨[.some 0, .some 1, .some 3, .some 4, .some 5],
  .seq (.reg [⟨(.var 2), .box 5 (.v 1), .none⟩,
    ⟨(.var 3), .move (.c (.bool false)), .none⟩]) (
  .seq (.seq (.reg [⟨.tmp, .fadr 0 (.v 2), .none⟩,
    ⟨.tmp, .load1 (.t 0), .none⟩,
    ⟨.tmp, .bin .neq (.t 0) (.c (.int .i64 (.ofNat 2))), .none⟩]) (
  .cond (.t 0) (
   .seq (.reg [⟨(.var 3), .move (.c (.bool false)), .none⟩]) (
   .ret)) (
   .skip))) (
  .seq (.seq (.reg [⟨.tmp, .fadr 1 (.v 2), .none⟩,
    ⟨.tmp, .load1 (.t 0), .none⟩,
    ⟨.tmp, .bin .eql (.t 0) (.c (.str 1 59)), .none⟩]) (
  .cond (.t 0) (
   .seq (.reg [⟨.tmp, .move (.v 0), .none⟩,
     ⟨.tmp, .loadN 5 (.v 2), .none⟩,
     ⟨.tmp, .call 18 [(.t 1), (.c (.int .i64 (.ofNat 6))), (.t 0), (.c (.bool true))], .none⟩]) (
   .seq (.reg [⟨(.var 3), .move (.c (.bool true)), .none⟩]) (
   .ret))) (
   .skip))) (
  .seq (.seq (.reg [⟨.tmp, .move (.v 0), .none⟩,
    ⟨.tmp, .nilck (.t 0), .none⟩,
    ⟨.tmp, .fadr 1 (.t 0), .none⟩,
    ⟨.tmp, .load1 (.t 0), .none⟩,
    ⟨.tmp, .len false (.t 0), .none⟩,
    ⟨.tmp, .bin .eql (.t 0) (.c (.int .i64 (.ofNat 0))), .none⟩]) (
  .cond (.t 0) (
   .seq (.reg [⟨(.var 3), .move (.c (.bool false)), .none⟩]) (
   .ret)) (
   .skip))) (
  .seq (.reg [⟨.tmp, .move (.v 0), .none⟩,
    ⟨.tmp, .nilck (.t 0), .none⟩,
    ⟨.tmp, .fadr 1 (.t 0), .none⟩,
    ⟨.tmp, .load1 (.t 0), .none⟩,
    ⟨.tmp, .len false (.t 0), .none⟩,
    ⟨.tmp, .bin .sub (.t 0) (.c (.int .i64 (.ofNat 1))), .none⟩,
    ⟨(.var 4), .move (.t 0), .none⟩]) (
  .seq (.seq (.reg [⟨.tmp, .move (.v 0), .none⟩,
    ⟨.tmp, .nilck (.t 0), .none⟩,
    ⟨.tmp, .fadr 1 (.t 0), .none⟩,
    ⟨.tmp, .load1 (.t 0), .none⟩,
    ⟨.tmp, .move (.v 4), .none⟩,
    ⟨.tmp, .idxS 4 (.t 1) (.t 0), .none⟩,
    ⟨.tmp, .fadr 3 (.t 0), .none⟩,
    ⟨.tmp, .load1 (.t 0), .none⟩,
    ⟨.tmp, .not (.t 0), .none⟩]) (
  .cond (.t 0) (
   .seq (.reg [⟨(.var 3), .move (.c (.bool false)), .none⟩]) (
   .ret)) (
   .skip))) (
  .seq (.seq (.reg [⟨.tmp, .fadr 1 (.v 2), .none⟩,
    ⟨.tmp, .load1 (.t 0), .none⟩,
    ⟨.tmp, .bin .eql (.t 0) (.c (.str 1 123)), .none⟩]) (
  .cond (.t 0) (
   .reg [⟨.tmp, .move (.v 0), .none⟩,
     ⟨.tmp, .nilck (.t 0), .none⟩,
     ⟨.tmp, .fadr 1 (.t 0), .none⟩,
     ⟨.tmp, .load1 (.t 0), .none⟩,
     ⟨.tmp, .move (.v 4), .none⟩,
     ⟨.tmp, .idxS 4 (.t 1) (.t 0), .none⟩,
     ⟨.tmp, .fadr 2 (.t 0), .none⟩,
     ⟨.tmp, .load1 (.t 0), .none⟩,
     ⟨.tmp, .bin .add (.t 0) (.c (.int .i64 (.ofNat 1))), .none⟩,
     ⟨.tmp, .idxS 4 (.t 5) (.t 4), .none⟩,
     ⟨.tmp, .fadr 2 (.t 0), .none⟩,
     ⟨.no, .store 1 (.t 0) (.t 2), .none⟩]) (
   .skip))) (
  .seq (.seq (.reg [⟨.tmp, .fadr 1 (.v 2), .none⟩,
    ⟨.tmp, .load1 (.t 0), .none⟩,
    ⟨.tmp, .bin .eql (.t 0) (.c (.str 1 125)), .none⟩]) (
  .cond (.t 0) (
   .seq (.seq (.reg [⟨.tmp, .move (.v 0), .none⟩,
     ⟨.tmp, .nilck (.t 0), .none⟩,
     ⟨.tmp, .fadr 1 (.t 0), .none⟩,
     ⟨.tmp, .load1 (.t 0), .none⟩,
     ⟨.tmp, .move (.v 4), .none⟩,
     ⟨.tmp, .idxS 4 (.t 1) (.t 0), .none⟩,
     ⟨.tmp, .fadr 2 (.t 0), .none⟩,
     ⟨.tmp, .load1 (.t 0), .none⟩,
     ⟨.tmp, .bin .eql (.t 0) (.c (.int .i64 (.ofNat 0))), .none⟩]) (
   .cond (.t 0) (
    .seq (.reg [⟨.tmp, .move (.v 0), .none⟩,
      ⟨.tmp, .loadN 5 (.v 2), .none⟩,
      ⟨.tmp, .call 20 [(.t 1), (.t 0), (.c (.bool true))], .none⟩]) (
    .seq (.reg [⟨(.var 3), .move (.c (.bool true)), .none⟩]) (
    .ret))) (
    .skip))) (
   .reg [⟨.tmp, .move (.v 0), .none⟩,
     ⟨.tmp, .nilck (.t 0), .none⟩,
     ⟨.tmp, .fadr 1 (.t 0), .none⟩,
     ⟨.tmp, .load1 (.t 0), .none⟩,
     ⟨.tmp, .move (.v 4), .none⟩,
     ⟨.tmp, .idxS 4 (.t 1) (.t 0), .none⟩,
     ⟨.tmp, .fadr 2 (.t 0), .none⟩,
     ⟨.tmp, .load1 (.t 0), .none⟩,
     ⟨.tmp, .bin .sub (.t 0) (.c (.int .i64 (.ofNat 1))), .none⟩,
     ⟨.tmp, .idxS 4 (.t 5) (.t 4), .none⟩,
     ⟨.tmp, .fadr 2 (.t 0), .none⟩,
     ⟨.no, .store 1 (.t 0) (.t 2), .none⟩])) (
   .skip))) (
  .seq (.reg [⟨(.var 3), .move (.c (.bool false)), .none⟩]) (
  .ret))))))))),
  [.opd (.v 3)]⟩
/-- telamon/telamonref12.opens -/
def vm22 : List Nat := [0, 1, 2]

def d22 : DF := ⟨[.some 0, .some 1, .some 2],
  .seq (.reg [⟨(.var 1), .box 5 (.v 0), .none⟩,
    ⟨(.var 2), .move (.c (.bool false)), .none⟩]) (
  .seq (.reg [⟨.tmp, .fadr 0 (.v 1), .none⟩,
    ⟨.tmp, .load1 (.t 0), .none⟩,
    ⟨.tmp, .bin .eql (.t 0) (.c (.int .i64 (.ofNat 2))), .none⟩,
    ⟨.tmp, .move (.t 0), .none⟩,
    ⟨.tmp, .fadr 1 (.v 1), .some ((.t 0), true)⟩,
    ⟨.tmp, .load1 (.t 0), .some ((.t 1), true)⟩,
    ⟨.tmp, .bin .eql (.t 0) (.c (.str 5 435710945399)), .some ((.t 2), true)⟩,
    ⟨.tmp, .move (.t 0), .some ((.t 3), true)⟩,
    ⟨.tmp, .fadr 1 (.v 1), .some ((.t 0), false)⟩,
    ⟨.tmp, .load1 (.t 0), .some ((.t 1), false)⟩,
    ⟨.tmp, .bin .eql (.t 0) (.c (.str 3 7628140)), .some ((.t 2), false)⟩,
    ⟨.tmp, .pick (.t 3) (.c (.bool true)) (.t 0), .some ((.t 7), true)⟩,
    ⟨.tmp, .move (.t 0), .some ((.t 8), true)⟩,
    ⟨.tmp, .fadr 1 (.v 1), .some ((.t 0), false)⟩,
    ⟨.tmp, .load1 (.t 0), .some ((.t 1), false)⟩,
    ⟨.tmp, .bin .eql (.t 0) (.c (.str 9 1871507254677525983088)), .some ((.t 2), false)⟩,
    ⟨.tmp, .pick (.t 3) (.c (.bool true)) (.t 0), .some ((.t 12), true)⟩,
    ⟨.tmp, .move (.t 0), .some ((.t 13), true)⟩,
    ⟨.tmp, .fadr 1 (.v 1), .some ((.t 0), false)⟩,
    ⟨.tmp, .load1 (.t 0), .some ((.t 1), false)⟩,
    ⟨.tmp, .bin .eql (.t 0) (.c (.str 7 28556934595048048)), .some ((.t 2), false)⟩,
    ⟨.tmp, .pick (.t 3) (.c (.bool true)) (.t 0), .some ((.t 17), true)⟩,
    ⟨.tmp, .pick (.t 18) (.t 0) (.c (.bool false)), .none⟩,
    ⟨(.var 2), .move (.t 0), .none⟩]) (
  .ret)),
  [.opd (.v 2)]⟩
/-- telamon/telamonlaw13.kinds -/
def vm23 : List Nat := [0, 2, 3, 4, 15]
def b23_0 : DC :=
 .seq (.seq (.reg [⟨.tmp, .move (.v 3), .none⟩,
   ⟨.tmp, .move (.v 0), .none⟩,
   ⟨.tmp, .len false (.t 0), .none⟩,
   ⟨.tmp, .bin .lss (.t 2) (.t 0), .none⟩]) (
 .cond (.t 0) (
  .skip) (
  .exit 0))) (
 .seq (.block 1 (
  .seq (.reg [⟨.tmp, .move (.v 0), .none⟩,
    ⟨.tmp, .move (.v 3), .none⟩,
    ⟨.tmp, .idxS 5 (.t 1) (.t 0), .none⟩,
    ⟨.tmp, .fadr 0 (.t 0), .none⟩,
    ⟨(.var 4), .load1 (.t 0), .none⟩]) (
  .block 2 (
   .seq (.reg [⟨.tmp, .bin .eql (.v 4) (.c (.int .i64 (.ofNat 4))), .none⟩,
     ⟨.tmp, .move (.t 0), .none⟩]) (
   .cond (.t 0) (
    .reg [⟨.tmp, .move (.v 2), .none⟩,
      ⟨.tmp, .bin .add (.t 0) (.c (.str 1 60)), .none⟩,
      ⟨(.var 2), .move (.t 0), .none⟩]) (
    .seq (.reg [⟨.tmp, .bin .eql (.v 4) (.c (.int .i64 (.ofNat 5))), .none⟩,
      ⟨.tmp, .move (.t 0), .none⟩]) (
    .cond (.t 0) (
     .reg [⟨.tmp, .move (.v 2), .none⟩,
       ⟨.tmp, .bin .add (.t 0) (.c (.str 1 62)), .none⟩,
       ⟨(.var 2), .move (.t 0), .none⟩]) (
     .seq (.reg [⟨.tmp, .bin .eql (.v 4) (.c (.int .i64 (.ofNat 6))), .none⟩,
       ⟨.tmp, .move (.t 0), .none⟩]) (
     .cond (.t 0) (
      .reg [⟨.tmp, .move (.v 2), .none⟩,
        ⟨.tmp, .bin .add (.t 0) (.c (.str 1 59)), .none⟩,
        ⟨(.var 2), .move (.t 0), .none⟩]) (
      .seq (.reg [⟨.tmp, .bin .eql (.v 4) (.c (.int .i64 (.ofNat 7))), .none⟩,
        ⟨.tmp, .move (.t 0), .none⟩]) (
      .cond (.t 0) (
       .reg [⟨.tmp, .move (.v 2), .none⟩,
         ⟨.tmp, .bin .add (.t 0) (.c (.str 1 46)), .none⟩,
         ⟨(.var 2), .move (.t 0), .none⟩]) (
       .reg [⟨.tmp, .move (.v 2), .none⟩,
         ⟨.tmp, .move (.v 0), .none⟩,
         ⟨.tmp, .move (.v 3), .none⟩,
         ⟨.tmp, .idxS 5 (.t 1) (.t 0), .none⟩,
         ⟨.tmp, .fadr 1 (.t 0), .none⟩,
         ⟨.tmp, .load1 (.t 0), .none⟩,
         ⟨.tmp, .bin .add (.t 5) (.t 0), .none⟩,
         ⟨.tmp, .bin .add (.t 0) (.c (.str 1 32)), .none⟩,
         ⟨(.var 2), .move (.t 0), .none⟩])))))))))))) (
 .reg [⟨.tmp, .move (.v 3), .none⟩,
   ⟨.tmp, .bin .add (.t 0) (.c (.int .i64 (.ofNat 1))), .none⟩,
   ⟨(.var 3), .move (.t 0), .none⟩]))
def r23_1 : DC :=
 .seq (.reg [⟨.tmp, .move (.v 2), .none⟩,
   ⟨(.var 1), .move (.t 0), .none⟩]) (
 .ret)
def d23 : DF := ⟨[.some 0, .some 2, .some 3, .some 4, .some 15],
  .seq (.reg [⟨(.var 1), .move (.c (.str 0 0)), .none⟩]) (
  .seq (.reg [⟨(.var 2), .move (.c (.str 0 0)), .none⟩]) (
  .seq (.seq (.reg [⟨(.var 3), .move (.c (.int .i64 (.ofNat 0))), .none⟩]) (
  .block 0 (
   .loop b23_0))) r23_1)),
  [.opd (.v 1)]⟩
/-- telamon/telamonref12.Rune -/
def vm24 : List Nat := [0, 1, 4, 5, 6, 7, 8, 9, 10]
def b24_0 : DC :=
 .seq (.seq (.reg [⟨.tmp, .move (.v 7), .none⟩,
   ⟨.tmp, .move (.v 4), .none⟩,
   ⟨.tmp, .bin .lss (.t 1) (.t 0), .none⟩]) (
 .cond (.t 0) (
  .skip) (
  .exit 1))) (
 .seq (.block 2 (
  .seq (.reg [⟨.tmp, .move (.v 0), .none⟩,
    ⟨.tmp, .move (.v 1), .none⟩,
    ⟨.tmp, .move (.v 7), .none⟩,
    ⟨.tmp, .bin .add (.t 1) (.t 0), .none⟩,
    ⟨.tmp, .idxStr (.t 3) (.t 0), .none⟩,
    ⟨.tmp, .conv .i64 (.t 0), .none⟩,
    ⟨(.var 8), .move (.t 0), .none⟩]) (
  .seq (.seq (.reg [⟨.tmp, .move (.v 8), .none⟩,
    ⟨.tmp, .bin .lss (.t 0) (.c (.int .i64 (.ofNat 128))), .none⟩,
    ⟨.tmp, .move (.t 0), .none⟩,
    ⟨.tmp, .move (.v 8), .some ((.t 0), false)⟩,
    ⟨.tmp, .bin .geq (.t 0) (.c (.int .i64 (.ofNat 192))), .some ((.t 1), false)⟩,
    ⟨.tmp, .pick (.t 2) (.c (.bool true)) (.t 0), .none⟩]) (
  .cond (.t 0) (
   .seq (.reg [⟨(.var 2), .move (.c (.int .i64 (.ofNat 0))), .none⟩]) (
   .ret)) (
   .skip))) (
  .reg [⟨.tmp, .move (.v 6), .none⟩,
    ⟨.tmp, .bin .mul (.c (.int .i64 (.ofNat 64))) (.t 0), .none⟩,
    ⟨.tmp, .move (.v 8), .none⟩,
    ⟨.tmp, .bin .add (.t 1) (.t 0), .none⟩,
    ⟨.tmp, .bin .sub (.t 0) (.c (.int .i64 (.ofNat 128))), .none⟩,
    ⟨(.var 6), .move (.t 0), .none⟩])))) (
 .reg [⟨.tmp, .move (.v 7), .none⟩,
   ⟨.tmp, .bin .add (.t 0) (.c (.int .i64 (.ofNat 1))), .none⟩,
   ⟨(.var 7), .move (.t 0), .none⟩]))
def r24_1 : DC :=
 .seq (.seq (.reg [⟨.tmp, .move (.v 6), .none⟩,
   ⟨.tmp, .move (.v 5), .none⟩,
   ⟨.tmp, .bin .lss (.t 1) (.t 0), .none⟩,
   ⟨.tmp, .move (.t 0), .none⟩,
   ⟨.tmp, .move (.v 6), .some ((.t 0), false)⟩,
   ⟨.tmp, .bin .geq (.t 0) (.c (.int .i64 (.ofNat 55296))), .some ((.t 1), false)⟩,
   ⟨.tmp, .move (.t 0), .some ((.t 2), false)⟩,
   ⟨.tmp, .move (.v 6), .some ((.t 0), true)⟩,
   ⟨.tmp, .bin .lss (.t 0) (.c (.int .i64 (.ofNat 57344))), .some ((.t 1), true)⟩,
   ⟨.tmp, .pick (.t 2) (.t 0) (.c (.bool false)), .some ((.t 5), false)⟩,
   ⟨.tmp, .pick (.t 6) (.c (.bool true)) (.t 0), .none⟩,
   ⟨.tmp, .move (.t 0), .none⟩,
   ⟨.tmp, .move (.v 6), .some ((.t 0), false)⟩,
   ⟨.tmp, .bin .gtr (.t 0) (.c (.int .i64 (.ofNat 1114111))), .some ((.t 1), false)⟩,
   ⟨.tmp, .pick (.t 2) (.c (.bool true)) (.t 0), .none⟩]) (
 .cond (.t 0) (
  .seq (.reg [⟨(.var 2), .move (.c (.int .i64 (.ofNat 0))), .none⟩]) (
  .ret)) (
  .skip))) (
 .seq (.reg [⟨.tmp, .move (.v 4), .none⟩,
   ⟨(.var 2), .move (.t 0), .none⟩]) (
 .ret))
def d24 : DF := ⟨[.some 0, .some 1, .some 4, .some 5, .some 6, .some 7, .some 8, .some 9, .some 10],
  .seq (.reg [⟨(.var 2), .move (.c (.int .i64 (.ofNat 0))), .none⟩]) (
  .seq (.reg [⟨.tmp, .move (.v 0), .none⟩,
    ⟨.tmp, .move (.v 1), .none⟩,
    ⟨.tmp, .idxStr (.t 1) (.t 0), .none⟩,
    ⟨.tmp, .conv .i64 (.t 0), .none⟩,
    ⟨(.var 3), .move (.t 0), .none⟩]) (
  .seq (.reg [⟨(.var 4), .move (.c (.int .i64 (.ofNat 0))), .none⟩]) (
  .seq (.reg [⟨(.var 5), .move (.c (.int .i64 (.ofNat 0))), .none⟩]) (
  .seq (.reg [⟨(.var 6), .move (.c (.int .i64 (.ofNat 0))), .none⟩]) (
  .seq (.block 0 (
   .seq (.reg [⟨.tmp, .move (.v 3), .none⟩,
     ⟨.tmp, .bin .lss (.t 0) (.c (.int .i64 (.ofNat 128))), .none⟩,
     ⟨.tmp, .move (.t 0), .none⟩]) (
   .cond (.t 0) (
    .seq (.reg [⟨(.var 2), .move (.c (.int .i64 (.ofNat 1))), .none⟩]) (
    .ret)) (
    .seq (.reg [⟨.tmp, .move (.v 3), .none⟩,
      ⟨.tmp, .bin .geq (.t 0) (.c (.int .i64 (.ofNat 192))), .none⟩,
      ⟨.tmp, .move (.t 0), .none⟩,
      ⟨.tmp, .move (.v 3), .some ((.t 0), true)⟩,
      ⟨.tmp, .bin .lss (.t 0) (.c (.int .i64 (.ofNat 224))), .some ((.t 1), true)⟩,
      ⟨.tmp, .pick (.t 2) (.t 0) (.c (.bool false)), .none⟩,
      ⟨.tmp, .move (.t 0), .none⟩]) (
    .cond (.t 0) (
     .seq (.reg [⟨(.var 4), .move (.c (.int .i64 (.ofNat 2))), .none⟩]) (
     .seq (.reg [⟨.tmp, .move (.v 3), .none⟩,
       ⟨.tmp, .bin .sub (.t 0) (.c (.int .i64 (.ofNat 192))), .none⟩,
       ⟨(.var 6), .move (.t 0), .none⟩]) (
     .reg [⟨(.var 5), .move (.c (.int .i64 (.ofNat 128))), .none⟩]))) (
     .seq (.reg [⟨.tmp, .move (.v 3), .none⟩,
       ⟨.tmp, .bin .geq (.t 0) (.c (.int .i64 (.ofNat 224))), .none⟩,
       ⟨.tmp, .move (.t 0), .none⟩,
       ⟨.tmp, .move (.v 3), .some ((.t 0), true)⟩,
       ⟨.tmp, .bin .lss (.t 0) (.c (.int .i64 (.ofNat 240))), .some ((.t 1), true)⟩,
       ⟨.tmp, .pick (.t 2) (.t 0) (.c (.bool false)), .none⟩,
       ⟨.tmp, .move (.t 0), .none⟩]) (
     .cond (.t 0) (
      .seq (.reg [⟨(.var 4), .move (.c (.int .i64 (.ofNat 3))), .none⟩]) (
      .seq (.reg [⟨.tmp, .move (.v 3), .none⟩,
        ⟨.tmp, .bin .sub (.t 0) (.c (.int .i64 (.ofNat 224))), .none⟩,
        ⟨(.var 6), .move (.t 0), .none⟩]) (
      .reg [⟨(.var 5), .move (.c (.int .i64 (.ofNat 2048))), .none⟩]))) (
      .seq (.reg [⟨.tmp, .move (.v 3), .none⟩,
        ⟨.tmp, .bin .geq (.t 0) (.c (.int .i64 (.ofNat 240))), .none⟩,
        ⟨.tmp, .move (.t 0), .none⟩,
        ⟨.tmp, .move (.v 3), .some ((.t 0), true)⟩,
        ⟨.tmp, .bin .lss (.t 0) (.c (.int .i64 (.ofNat 248))), .some ((.t 1), true)⟩,
        ⟨.tmp, .pick (.t 2) (.t 0) (.c (.bool false)), .none⟩,
        ⟨.tmp, .move (.t 0), .none⟩]) (
      .cond (.t 0) (
       .seq (.reg [⟨(.var 4), .move (.c (.int .i64 (.ofNat 4))), .none⟩]) (
       .seq (.reg [⟨.tmp, .move (.v 3), .none⟩,
         ⟨.tmp, .bin .sub (.t 0) (.c (.int .i64 (.ofNat 240))), .none⟩,
         ⟨(.var 6), .move (.t 0), .none⟩]) (
       .reg [⟨(.var 5), .move (.c (.int .i64 (.ofNat 65536))), .none⟩]))) (
       .seq (.reg [⟨(.var 2), .move (.c (.int .i64 (.ofNat 0))), .none⟩]) (
       .ret))))))))))) (
  .seq (.seq (.reg [⟨.tmp, .move (.v 1), .none⟩,
    ⟨.tmp, .move (.v 4), .none⟩,
    ⟨.tmp, .bin .add (.t 1) (.t 0), .none⟩,
    ⟨.tmp, .move (.v 0), .none⟩,
    ⟨.tmp, .len true (.t 0), .none⟩,
    ⟨.tmp, .bin .gtr (.t 2) (.t 0), .none⟩]) (
  .cond (.t 0) (
   .seq (.reg [⟨(.var 2), .move (.c (.int .i64 (.ofNat 0))), .none⟩]) (
   .ret)) (
   .skip))) (
  .seq (.seq (.reg [⟨(.var 7), .move (.c (.int .i64 (.ofNat 1))), .none⟩]) (
  .block 1 (
   .loop b24_0))) r24_1))))))),
  [.opd (.v 2)]⟩
/-- telamon/telamonref12.Word -/
def vm25 : List Nat := [0, 2, 3, 4]

def d25 : DF := ⟨[.some 0, .some 2, .some 3, .some 4],
  .seq (.reg [⟨(.var 1), .move (.c (.bool false)), .none⟩]) (
  .seq (.seq (.reg [⟨(.var 2), .move (.v 0), .none⟩]) (
  .block 0 (
   .seq (.seq (.reg [⟨.tmp, .bin .eql (.v 2) (.c (.str 6 111516500389741)), .none⟩,
     ⟨(.var 3), .move (.t 0), .none⟩]) (
   .cond (.v 3) (
    .skip) (
    .seq (.reg [⟨.tmp, .bin .eql (.v 2) (.c (.str 5 435710945399)), .none⟩,
      ⟨(.var 3), .move (.t 0), .none⟩]) (
    .cond (.v 3) (
     .skip) (
     .seq (.reg [⟨.tmp, .bin .eql (.v 2) (.c (.str 4 1635017060)), .none⟩,
       ⟨(.var 3), .move (.t 0), .none⟩]) (
     .cond (.v 3) (
      .skip) (
      .seq (.reg [⟨.tmp, .bin .eql (.v 2) (.c (.str 3 7628140)), .none⟩,
        ⟨(.var 3), .move (.t 0), .none⟩]) (
      .cond (.v 3) (
       .skip) (
       .seq (.reg [⟨.tmp, .bin .eql (.v 2) (.c (.str 2 28265)), .none⟩,
         ⟨(.var 3), .move (.t 0), .none⟩]) (
       .cond (.v 3) (
        .skip) (
        .seq (.reg [⟨.tmp, .bin .eql (.v 2) (.c (.str 4 1852141679)), .none⟩,
          ⟨(.var 3), .move (.t 0), .none⟩]) (
        .cond (.v 3) (
         .skip) (
         .seq (.reg [⟨.tmp, .bin .eql (.v 2) (.c (.str 5 444234036085)), .none⟩,
           ⟨(.var 3), .move (.t 0), .none⟩]) (
         .cond (.v 3) (
          .skip) (
          .seq (.reg [⟨.tmp, .bin .eql (.v 2) (.c (.str 6 113723912251752)), .none⟩,
            ⟨(.var 3), .move (.t 0), .none⟩]) (
          .cond (.v 3) (
           .skip) (
           .seq (.reg [⟨.tmp, .bin .eql (.v 2) (.c (.str 8 7453010351851726194)), .none⟩,
             ⟨(.var 3), .move (.t 0), .none⟩]) (
           .cond (.v 3) (
            .skip) (
            .seq (.reg [⟨.tmp, .bin .eql (.v 2) (.c (.str 2 28532)), .none⟩,
              ⟨(.var 3), .move (.t 0), .none⟩]) (
            .cond (.v 3) (
             .skip) (
             .seq (.reg [⟨.tmp, .bin .eql (.v 2) (.c (.str 7 28556934595048048)), .none⟩,
               ⟨(.var 3), .move (.t 0), .none⟩]) (
             .cond (.v 3) (
              .skip) (
              .seq (.reg [⟨.tmp, .bin .eql (.v 2) (.c (.str 9 1871507254677525983088)), .none⟩,
                ⟨(.var 3), .move (.t 0), .none⟩]) (
              .cond (.v 3) (
               .skip) (
               .seq (.reg [⟨.tmp, .bin .eql (.v 2) (.c (.str 5 517164396137)), .none⟩,
                 ⟨(.var 3), .move (.t 0), .none⟩]) (
               .cond (.v 3) (
                .skip) (
                .seq (.reg [⟨.tmp, .bin .eql (.v 2) (.c (.str 6 119264420195945)), .none⟩,
                  ⟨(.var 3), .move (.t 0), .none⟩]) (
                .cond (.v 3) (
                 .skip) (
                 .seq (.reg [⟨.tmp, .bin .eql (.v 2) (.c (.str 6 125861489962601)), .none⟩,
                   ⟨(.var 3), .move (.t 0), .none⟩]) (
                 .cond (.v 3) (
                  .skip) (
                  .seq (.reg [⟨.tmp, .bin .eql (.v 2) (.c (.str 3 7628115)), .none⟩,
                    ⟨(.var 3), .move (.t 0), .none⟩]) (
                  .cond (.v 3) (
                   .skip) (
                   .seq (.reg [⟨.tmp, .bin .eql (.v 2) (.c (.str 3 7631718)), .none⟩,
                     ⟨(.var 3), .move (.t 0), .none⟩]) (
                   .cond (.v 3) (
                    .skip) (
                    .seq (.reg [⟨.tmp, .bin .eql (.v 2) (.c (.str 3 6581875)), .none⟩,
                      ⟨(.var 3), .move (.t 0), .none⟩]) (
                    .cond (.v 3) (
                     .skip) (
                     .seq (.reg [⟨.tmp, .bin .eql (.v 2) (.c (.str 1 58)), .none⟩,
                       ⟨(.var 3), .move (.t 0), .none⟩]) (
                     .cond (.v 3) (
                      .skip) (
                      .seq (.reg [⟨.tmp, .bin .eql (.v 2) (.c (.str 1 61)), .none⟩,
                        ⟨(.var 3), .move (.t 0), .none⟩]) (
                      .cond (.v 3) (
                       .skip) (
                       .seq (.reg [⟨.tmp, .bin .eql (.v 2) (.c (.str 2 15917)), .none⟩,
                         ⟨(.var 3), .move (.t 0), .none⟩]) (
                       .cond (.v 3) (
                        .skip) (
                        .seq (.reg [⟨.tmp, .bin .eql (.v 2) (.c (.str 1 92)), .none⟩,
                          ⟨(.var 3), .move (.t 0), .none⟩]) (
                        .cond (.v 3) (
                         .skip) (
                         .seq (.reg [⟨.tmp, .bin .eql (.v 2) (.c (.str 2 10794)), .none⟩,
                           ⟨(.var 3), .move (.t 0), .none⟩]) (
                         .cond (.v 3) (
                          .skip) (
                          .seq (.reg [⟨.tmp, .bin .eql (.v 2) (.c (.str 1 95)), .none⟩,
                            ⟨(.var 3), .move (.t 0), .none⟩]) (
                          .cond (.v 3) (
                           .skip) (
                           .seq (.reg [⟨.tmp, .bin .eql (.v 2) (.c (.str 3 9602786)), .none⟩,
                             ⟨(.var 3), .move (.t 0), .none⟩]) (
                           .cond (.v 3) (
                            .skip) (
                            .reg [⟨.tmp, .bin .eql (.v 2) (.c (.str 2 48078)), .none⟩,
                              ⟨(.var 3), .move (.t 0), .none⟩]))))))))))))))))))))))))))))))))))))))))))))))))))) (
   .cond (.v 3) (
    .seq (.reg [⟨(.var 1), .move (.c (.bool true)), .none⟩]) (
    .ret)) (
    .skip))))) (
  .seq (.reg [⟨(.var 1), .move (.c (.bool false)), .none⟩]) (
  .ret))),
  [.opd (.v 1)]⟩
/-- telamon/telamonref12.digits -/
def vm26 : List Nat := [0, 2, 3]
def b26_0 : DC :=
 .seq (.seq (.reg [⟨.tmp, .move (.v 2), .none⟩,
   ⟨.tmp, .move (.v 0), .none⟩,
   ⟨.tmp, .len true (.t 0), .none⟩,
   ⟨.tmp, .bin .lss (.t 2) (.t 0), .none⟩]) (
 .cond (.t 0) (
  .skip) (
  .exit 0))) (
 .seq (.block 1 (
  .seq (.reg [⟨.tmp, .move (.v 0), .none⟩,
    ⟨.tmp, .move (.v 2), .none⟩,
    ⟨.tmp, .idxStr (.t 1) (.t 0), .none⟩,
    ⟨.tmp, .bin .lss (.t 0) (.c (.int .u8 (.ofNat 48))), .none⟩,
    ⟨.tmp, .move (.t 0), .none⟩,
    ⟨.tmp, .move (.v 0), .some ((.t 0), false)⟩,
    ⟨.tmp, .move (.v 2), .some ((.t 1), false)⟩,
    ⟨.tmp, .idxStr (.t 1) (.t 0), .some ((.t 2), false)⟩,
    ⟨.tmp, .bin .gtr (.t 0) (.c (.int .u8 (.ofNat 57))), .some ((.t 3), false)⟩,
    ⟨.tmp, .pick (.t 4) (.c (.bool true)) (.t 0), .none⟩]) (
  .cond (.t 0) (
   .seq (.reg [⟨(.var 1), .move (.c (.bool false)), .none⟩]) (
   .ret)) (
   .skip)))) (
 .reg [⟨.tmp, .move (.v 2), .none⟩,
   ⟨.tmp, .bin .add (.t 0) (.c (.int .i64 (.ofNat 1))), .none⟩,
   ⟨(.var 2), .move (.t 0), .none⟩]))
def r26_1 : DC :=
 .seq (.reg [⟨(.var 1), .move (.c (.bool true)), .none⟩]) (
 .ret)
def d26 : DF := ⟨[.some 0, .some 2, .some 3],
  .seq (.reg [⟨(.var 1), .move (.c (.bool false)), .none⟩]) (
  .seq (.seq (.reg [⟨(.var 2), .move (.c (.int .i64 (.ofNat 0))), .none⟩]) (
  .block 0 (
   .loop b26_0))) r26_1),
  [.opd (.v 1)]⟩
/-- telamon/telamonref12.dots -/
def vm27 : List Nat := [0, 2, 3]
def b27_0 : DC :=
 .seq (.seq (.reg [⟨.tmp, .move (.v 2), .none⟩,
   ⟨.tmp, .move (.v 0), .none⟩,
   ⟨.tmp, .len true (.t 0), .none⟩,
   ⟨.tmp, .bin .lss (.t 2) (.t 0), .none⟩]) (
 .cond (.t 0) (
  .skip) (
  .exit 0))) (
 .seq (.block 1 (
  .seq (.reg [⟨.tmp, .move (.v 0), .none⟩,
    ⟨.tmp, .move (.v 2), .none⟩,
    ⟨.tmp, .idxStr (.t 1) (.t 0), .none⟩,
    ⟨.tmp, .bin .eql (.t 0) (.c (.int .u8 (.ofNat 46))), .none⟩,
    ⟨.tmp, .move (.t 0), .none⟩,
    ⟨.tmp, .move (.v 2), .some ((.t 0), true)⟩,
    ⟨.tmp, .bin .eql (.t 0) (.c (.int .i64 (.ofNat 0))), .some ((.t 1), true)⟩,
    ⟨.tmp, .move (.t 0), .some ((.t 2), true)⟩,
    ⟨.tmp, .move (.v 2), .some ((.t 0), false)⟩,
    ⟨.tmp, .move (.v 0), .some ((.t 1), false)⟩,
    ⟨.tmp, .len true (.t 0), .some ((.t 2), false)⟩,
    ⟨.tmp, .bin .sub (.t 0) (.c (.int .i64 (.ofNat 1))), .some ((.t 3), false)⟩,
    ⟨.tmp, .bin .eql (.t 3) (.t 0), .some ((.t 4), false)⟩,
    ⟨.tmp, .pick (.t 5) (.c (.bool true)) (.t 0), .some ((.t 8), true)⟩,
    ⟨.tmp, .move (.t 0), .some ((.t 9), true)⟩,
    ⟨.tmp, .move (.v 0), .some ((.t 0), false)⟩,
    ⟨.tmp, .move (.v 2), .some ((.t 1), false)⟩,
    ⟨.tmp, .bin .add (.t 0) (.c (.int .i64 (.ofNat 1))), .some ((.t 2), false)⟩,
    ⟨.tmp, .idxStr (.t 2) (.t 0), .some ((.t 3), false)⟩,
    ⟨.tmp, .bin .eql (.t 0) (.c (.int .u8 (.ofNat 46))), .some ((.t 4), false)⟩,
    ⟨.tmp, .pick (.t 5) (.c (.bool true)) (.t 0), .some ((.t 15), true)⟩,
    ⟨.tmp, .pick (.t 16) (.t 0) (.c (.bool false)), .none⟩]) (
  .cond (.t 0) (
   .seq (.reg [⟨(.var 1), .move (.c (.bool true)), .none⟩]) (
   .ret)) (
   .skip)))) (
 .reg [⟨.tmp, .move (.v 2), .none⟩,
   ⟨.tmp, .bin .add (.t 0) (.c (.int .i64 (.ofNat 1))), .none⟩,
   ⟨(.var 2), .move (.t 0), .none⟩]))
def r27_1 : DC :=
 .seq (.reg [⟨(.var 1), .move (.c (.bool false)), .none⟩]) (
 .ret)
def d27 : DF := ⟨[.some 0, .some 2, .some 3],
  .seq (.reg [⟨(.var 1), .move (.c (.bool false)), .none⟩]) (
  .seq (.seq (.reg [⟨(.var 2), .move (.c (.int .i64 (.ofNat 0))), .none⟩]) (
  .block 0 (
   .loop b27_0))) r27_1),
  [.opd (.v 1)]⟩
/-- (*telamon/layout.stack).push -/
def vm28 : List Nat := [0, 1, 3]

def d28 : DF := ⟨[.some 0, .some 1, .some 3],
  .seq (.reg [⟨(.var 2), .box 4 (.v 1), .none⟩]) (
  .reg [⟨.tmp, .move (.v 0), .none⟩,
    ⟨.tmp, .move (.v 0), .none⟩,
    ⟨.tmp, .nilck (.t 0), .none⟩,
    ⟨.tmp, .fadr 0 (.t 0), .none⟩,
    ⟨.tmp, .load1 (.t 0), .none⟩,
    ⟨.tmp, .loadN 4 (.v 2), .none⟩,
    ⟨.tmp, .buildS 4 [[.bool false, .int .i64 (.ofNat 0), .bool false, .int .i64 (.ofNat 0)]] [(0, (.t 0))], .none⟩,
    ⟨.tmp, .append 4 32 (.t 2) (.t 0), .none⟩,
    ⟨.tmp, .nilck (.t 7), .none⟩,
    ⟨.tmp, .fadr 0 (.t 0), .none⟩,
    ⟨.no, .store 1 (.t 0) (.t 2), .none⟩]),
  []⟩
/-- (*telamon/layout.placer).sign -/
def vm29 : List Nat := [0, 1, 2, 3, 6, 8]

def d29 : DF := ⟨[.some 0, .some 1, .some 2, .some 3, .some 6, .some 8],
  .seq (.reg [⟨(.var 4), .box 5 (.v 2), .none⟩,
    ⟨(.var 5), .move (.c (.bool false)), .none⟩]) (
  .seq (.reg [⟨.tmp, .move (.v 0), .none⟩,
    ⟨.tmp, .move (.v 1), .none⟩,
    ⟨.tmp, .move (.v 3), .none⟩,
    ⟨.tmp, .fadr 2 (.v 4), .none⟩,
    ⟨.tmp, .load1 (.t 0), .none⟩,
    ⟨.tmp, .fadr 3 (.v 4), .none⟩,
    ⟨.tmp, .load1 (.t 0), .none⟩,
    ⟨.tmp, .fadr 4 (.v 4), .none⟩,
    ⟨.tmp, .load1 (.t 0), .none⟩,
    ⟨.tmp, .build [.int .i64 (.ofNat 0), .str 0 0, .int .i64 (.ofNat 0), .int .i64 (.ofNat 0), .int .i64 (.ofNat 0)] [(0, 1, (.t 7)), (1, 1, (.t 6)), (2, 1, (.t 4)), (3, 1, (.t 2)), (4, 1, (.t 0))], .none⟩,
    ⟨.tmp, .call 34 [(.t 9), (.t 0)], .none⟩,
    ⟨(.var 5), .move (.t 0), .none⟩]) (
  .ret)),
  [.opd (.v 5)]⟩
/-- (*telamon/layout.placer).line -/
def vm30 : List Nat := [0, 2, 3, 4]
def b30_0 : DC :=
 .block 1 (
  .seq (.reg [⟨.tmp, .move (.v 0), .none⟩,
    ⟨.tmp, .nilck (.t 0), .none⟩,
    ⟨.tmp, .fadr 0 (.t 0), .none⟩,
    ⟨.tmp, .call 37 [(.t 0)], .none⟩,
    ⟨(.var 3), .move (.t 0), .none⟩]) (
  .seq (.seq (.reg [⟨.tmp, .move (.v 3), .none⟩,
    ⟨.tmp, .binP .eql (.t 0) (.c (.nilp)), .none⟩,
    ⟨.tmp, .move (.t 0), .none⟩,
    ⟨.tmp, .move (.v 3), .some ((.t 0), false)⟩,
    ⟨.tmp, .nilck (.t 0), .some ((.t 1), false)⟩,
    ⟨.tmp, .fadr 0 (.t 0), .some ((.t 2), false)⟩,
    ⟨.tmp, .load1 (.t 0), .some ((.t 3), false)⟩,
    ⟨.tmp, .pick (.t 4) (.c (.bool true)) (.t 0), .none⟩]) (
  .cond (.t 0) (
   .exit 0) (
   .skip))) (
  .block 2 (
   .seq (.reg [⟨.tmp, .move (.v 3), .none⟩,
     ⟨.tmp, .nilck (.t 0), .none⟩,
     ⟨.tmp, .fadr 1 (.t 0), .none⟩,
     ⟨.tmp, .load1 (.t 0), .none⟩,
     ⟨.tmp, .fadr 4 (.v 2), .none⟩,
     ⟨.tmp, .load1 (.t 0), .none⟩,
     ⟨.tmp, .bin .gtr (.t 2) (.t 0), .none⟩,
     ⟨.tmp, .move (.t 0), .none⟩]) (
   .cond (.t 0) (
    .seq (.seq (.reg [⟨.tmp, .move (.v 0), .none⟩,
      ⟨.tmp, .nilck (.t 0), .none⟩,
      ⟨.tmp, .fadr 0 (.t 0), .none⟩,
      ⟨.tmp, .fadr 0 (.t 0), .none⟩,
      ⟨.tmp, .load1 (.t 0), .none⟩,
      ⟨.tmp, .len false (.t 0), .none⟩,
      ⟨.tmp, .bin .eql (.t 0) (.c (.int .i64 (.ofNat 1))), .none⟩]) (
    .cond (.t 0) (
     .seq (.reg [⟨.tmp, .move (.v 0), .none⟩,
       ⟨.tmp, .call 38 [(.t 0), (.c (.int .i64 (.ofNat 42)))], .none⟩,
       ⟨(.var 1), .move (.t 0), .none⟩]) (
     .ret)) (
     .skip))) (
    .seq (.reg [⟨.tmp, .move (.v 0), .none⟩,
      ⟨.tmp, .call 39 [(.t 0)], .none⟩,
      ⟨.tmp, .not (.t 0), .none⟩]) (
    .cond (.t 0) (
     .seq (.reg [⟨(.var 1), .move (.c (.bool false)), .none⟩]) (
     .ret)) (
     .skip)))) (
    .seq (.reg [⟨.tmp, .move (.v 3), .none⟩,
      ⟨.tmp, .nilck (.t 0), .none⟩,
      ⟨.tmp, .fadr 1 (.t 0), .none⟩,
      ⟨.tmp, .load1 (.t 0), .none⟩,
      ⟨.tmp, .fadr 4 (.v 2), .none⟩,
      ⟨.tmp, .load1 (.t 0), .none⟩,
      ⟨.tmp, .bin .eql (.t 2) (.t 0), .none⟩,
      ⟨.tmp, .move (.t 0), .none⟩]) (
    .cond (.t 0) (
     .seq (.reg [⟨.tmp, .move (.v 0), .none⟩,
       ⟨.tmp, .loadN 5 (.v 2), .none⟩,
       ⟨.tmp, .call 29 [(.t 1), (.c (.int .i64 (.ofNat 6))), (.t 0), (.c (.str 0 0))], .none⟩,
       ⟨(.var 1), .move (.t 0), .none⟩]) (
     .ret)) (
     .exit 0))))))))
def r30_1 : DC :=
 .seq (.reg [⟨(.var 1), .move (.c (.bool true)), .none⟩]) (
 .ret)
def d30 : DF := ⟨[.some 0, .some 2, .some 3, .some 4],
  .seq (.reg [⟨(.var 1), .move (.c (.bool false)), .none⟩]) (
  .seq (.reg [⟨.tmp, .move (.v 0), .none⟩,
    ⟨.tmp, .call 35 [(.t 0)], .none⟩,
    ⟨(.var 2), .alloc [.int .i64 (.ofNat 0), .str 0 0, .int .i64 (.ofNat 0), .int .i64 (.ofNat 0), .int .i64 (.ofNat 0)], .none⟩,
    ⟨.no, .store 5 (.v 2) (.t 0), .none⟩]) (
  .seq (.seq (.reg [⟨.tmp, .move (.v 0), .none⟩,
    ⟨.tmp, .nilck (.t 0), .none⟩,
    ⟨.tmp, .fadr 2 (.t 0), .none⟩,
    ⟨.tmp, .load1 (.t 0), .none⟩,
    ⟨.tmp, .bin .eql (.t 0) (.c (.int .i64 (.ofNat 0))), .none⟩,
    ⟨.tmp, .move (.t 0), .none⟩,
    ⟨.tmp, .move (.v 0), .some ((.t 0), false)⟩,
    ⟨.tmp, .nilck (.t 0), .some ((.t 1), false)⟩,
    ⟨.tmp, .fadr 6 (.t 0), .some ((.t 2), false)⟩,
    ⟨.tmp, .load1 (.t 0), .some ((.t 3), false)⟩,
    ⟨.tmp, .pick (.t 4) (.c (.bool true)) (.t 0), .none⟩,
    ⟨.tmp, .move (.t 0), .none⟩,
    ⟨.tmp, .fadr 0 (.v 2), .some ((.t 0), false)⟩,
    ⟨.tmp, .load1 (.t 0), .some ((.t 1), false)⟩,
    ⟨.tmp, .bin .eql (.t 0) (.c (.int .i64 (.ofNat 7))), .some ((.t 2), false)⟩,
    ⟨.tmp, .pick (.t 3) (.c (.bool true)) (.t 0), .none⟩,
    ⟨.tmp, .move (.t 0), .none⟩,
    ⟨.tmp, .fadr 3 (.v 2), .some ((.t 0), false)⟩,
    ⟨.tmp, .load1 (.t 0), .some ((.t 1), false)⟩,
    ⟨.tmp, .move (.v 0), .some ((.t 2), false)⟩,
    ⟨.tmp, .nilck (.t 0), .some ((.t 3), false)⟩,
    ⟨.tmp, .fadr 1 (.t 0), .some ((.t 4), false)⟩,
    ⟨.tmp, .load1 (.t 0), .some ((.t 5), false)⟩,
    ⟨.tmp, .move (.v 0), .some ((.t 6), false)⟩,
    ⟨.tmp, .nilck (.t 0), .some ((.t 7), false)⟩,
    ⟨.tmp, .fadr 2 (.t 0), .some ((.t 8), false)⟩,
    ⟨.tmp, .load1 (.t 0), .some ((.t 9), false)⟩,
    ⟨.tmp, .bin .sub (.t 0) (.c (.int .i64 (.ofNat 1))), .some ((.t 10), false)⟩,
    ⟨.tmp, .idxS 5 (.t 5) (.t 0), .some ((.t 11), false)⟩,
    ⟨.tmp, .fadr 3 (.t 0), .some ((.t 12), false)⟩,
    ⟨.tmp, .load1 (.t 0), .some ((.t 13), false)⟩,
    ⟨.tmp, .bin .leq (.t 12) (.t 0), .some ((.t 14), false)⟩,
    ⟨.tmp, .pick (.t 15) (.c (.bool true)) (.t 0), .none⟩]) (
  .cond (.t 0) (
   .seq (.reg [⟨(.var 1), .move (.c (.bool true)), .none⟩]) (
   .ret)) (
   .skip))) (
  .seq (.skip) (
  .seq (.block 0 (
   .loop b30_0)) r30_1)))),
  [.opd (.v 1)]⟩
/-- (*telamon/layout.placer).inward -/
def vm31 : List Nat := [0, 2, 3, 4, 45, 46]
def b31_0 : DC :=
 .seq (.reg [⟨.tmp, .bin .lss (.v 5) (.v 4), .none⟩]) (
 .seq (.cond (.t 0) (
  .skip) (
  .exit 2)) (
 .seq (.block 3 (
  .seq (.reg [⟨.tmp, .move (.v 0), .none⟩,
    ⟨.tmp, .call 39 [(.t 0)], .none⟩,
    ⟨.tmp, .not (.t 0), .none⟩]) (
  .cond (.t 0) (
   .seq (.reg [⟨(.var 1), .move (.c (.bool false)), .none⟩]) (
   .ret)) (
   .skip)))) (
 .reg [⟨.tmp, .bin .add (.v 5) (.c (.int .i64 (.ofNat 1))), .none⟩,
   ⟨(.var 5), .move (.t 0), .none⟩])))
def r31_1 : DC :=
 .exit 0
def r31_2 : DC :=
 .reg [⟨.tmp, .move (.v 3), .none⟩,
   ⟨.tmp, .bin .sub (.t 0) (.c (.int .i64 (.ofNat 1))), .none⟩,
   ⟨(.var 3), .move (.t 0), .none⟩]
def b31_3 : DC :=
 .seq (.seq (.reg [⟨.tmp, .move (.v 3), .none⟩,
   ⟨.tmp, .bin .geq (.t 0) (.c (.int .i64 (.ofNat 0))), .none⟩,
   ⟨.tmp, .move (.t 0), .none⟩,
   ⟨.tmp, .move (.v 0), .some ((.t 0), true)⟩,
   ⟨.tmp, .nilck (.t 0), .some ((.t 1), true)⟩,
   ⟨.tmp, .fadr 0 (.t 0), .some ((.t 2), true)⟩,
   ⟨.tmp, .fadr 0 (.t 0), .some ((.t 3), true)⟩,
   ⟨.tmp, .load1 (.t 0), .some ((.t 4), true)⟩,
   ⟨.tmp, .move (.v 3), .some ((.t 5), true)⟩,
   ⟨.tmp, .idxS 4 (.t 1) (.t 0), .some ((.t 6), true)⟩,
   ⟨.tmp, .fadr 0 (.t 0), .some ((.t 7), true)⟩,
   ⟨.tmp, .load1 (.t 0), .some ((.t 8), true)⟩,
   ⟨.tmp, .not (.t 0), .some ((.t 9), true)⟩,
   ⟨.tmp, .pick (.t 10) (.t 0) (.c (.bool false)), .none⟩]) (
 .cond (.t 0) (
  .skip) (
  .exit 0))) (
 .seq (.block 1 (
  .seq (.seq (.reg [⟨.tmp, .move (.v 0), .none⟩,
    ⟨.tmp, .nilck (.t 0), .none⟩,
    ⟨.tmp, .fadr 0 (.t 0), .none⟩,
    ⟨.tmp, .fadr 0 (.t 0), .none⟩,
    ⟨.tmp, .load1 (.t 0), .none⟩,
    ⟨.tmp, .move (.v 3), .none⟩,
    ⟨.tmp, .idxS 4 (.t 1) (.t 0), .none⟩,
    ⟨.tmp, .fadr 2 (.t 0), .none⟩,
    ⟨.tmp, .load1 (.t 0), .none⟩,
    ⟨.tmp, .not (.t 0), .none⟩]) (
  .cond (.t 0) (
   .exit 1) (
   .skip))) (
  .seq (.seq (.reg [⟨.tmp, .move (.v 2), .none⟩,
    ⟨.tmp, .move (.v 3), .none⟩,
    ⟨(.var 4), .bin .sub (.t 1) (.t 0), .none⟩,
    ⟨(.var 5), .move (.c (.int .i64 (.ofNat 0))), .none⟩]) (
  .block 2 (
   .loop b31_0))) r31_1))) r31_2)
def r31_4 : DC :=
 .seq (.reg [⟨(.var 1), .move (.c (.bool true)), .none⟩]) (
 .ret)
def d31 : DF := ⟨[.some 0, .some 2, .some 3, .some 4, .some 45, .some 46],
  .seq (.reg [⟨(.var 1), .move (.c (.bool false)), .none⟩]) (
  .seq (.seq (.reg [⟨.tmp, .move (.v 0), .none⟩,
    ⟨.tmp, .call 35 [(.t 0)], .none⟩,
    ⟨.tmp, .call 40 [(.t 0), (.c (.str 2 28265))], .none⟩,
    ⟨.tmp, .not (.t 0), .none⟩]) (
  .cond (.t 0) (
   .seq (.reg [⟨(.var 1), .move (.c (.bool true)), .none⟩]) (
   .ret)) (
   .skip))) (
  .seq (.reg [⟨.tmp, .move (.v 0), .none⟩,
    ⟨.tmp, .nilck (.t 0), .none⟩,
    ⟨.tmp, .fadr 0 (.t 0), .none⟩,
    ⟨.tmp, .fadr 0 (.t 0), .none⟩,
    ⟨.tmp, .load1 (.t 0), .none⟩,
    ⟨.tmp, .len false (.t 0), .none⟩,
    ⟨(.var 2), .move (.t 0), .none⟩]) (
  .seq (.seq (.reg [⟨.tmp, .move (.v 2), .none⟩,
    ⟨.tmp, .bin .sub (.t 0) (.c (.int .i64 (.ofNat 1))), .none⟩,
    ⟨(.var 3), .move (.t 0), .none⟩]) (
  .block 0 (
   .loop b31_3))) r31_4))),
  [.opd (.v 1)]⟩
/-- (*telamon/layout.placer).last -/
def vm32 : List Nat := [0, 2]
def b32_0 : DC :=
 .seq (.seq (.reg [⟨.tmp, .move (.v 0), .none⟩,
   ⟨.tmp, .nilck (.t 0), .none⟩,
   ⟨.tmp, .fadr 0 (.t 0), .none⟩,
   ⟨.tmp, .fadr 0 (.t 0), .none⟩,
   ⟨.tmp, .load1 (.t 0), .none⟩,
   ⟨.tmp, .len false (.t 0), .none⟩,
   ⟨.tmp, .bin .gtr (.t 0) (.c (.int .i64 (.ofNat 0))), .none⟩]) (
 .cond (.t 0) (
  .skip) (
  .exit 0))) (
 .block 1 (
  .seq (.seq (.reg [⟨.tmp, .move (.v 0), .none⟩,
    ⟨.tmp, .nilck (.t 0), .none⟩,
    ⟨.tmp, .fadr 0 (.t 0), .none⟩,
    ⟨.tmp, .call 37 [(.t 0)], .none⟩,
    ⟨.tmp, .nilck (.t 0), .none⟩,
    ⟨.tmp, .fadr 0 (.t 0), .none⟩,
    ⟨.tmp, .load1 (.t 0), .none⟩]) (
  .cond (.t 0) (
   .seq (.reg [⟨.tmp, .move (.v 0), .none⟩,
     ⟨.tmp, .call 38 [(.t 0), (.c (.int .i64 (.ofNat 42)))], .none⟩,
     ⟨(.var 1), .move (.t 0), .none⟩]) (
   .ret)) (
   .skip))) (
  .seq (.reg [⟨.tmp, .move (.v 0), .none⟩,
    ⟨.tmp, .call 39 [(.t 0)], .none⟩,
    ⟨.tmp, .not (.t 0), .none⟩]) (
  .cond (.t 0) (
   .seq (.reg [⟨(.var 1), .move (.c (.bool false)), .none⟩]) (
   .ret)) (
   .skip)))))
def r32_1 : DC :=
 .seq (.reg [⟨(.var 1), .move (.c (.bool true)), .none⟩]) (
 .ret)
def d32 : DF := ⟨[.some 0, .some 2],
  .seq (.reg [⟨(.var 1), .move (.c (.bool false)), .none⟩]) (
  .seq (.seq (.reg [⟨.tmp, .move (.v 0), .none⟩,
    ⟨.tmp, .call 35 [(.t 0)], .none⟩,
    ⟨.tmp, .fld1 0 (.t 0), .none⟩,
    ⟨.tmp, .bin .neq (.t 0) (.c (.int .i64 (.ofNat 7))), .none⟩]) (
  .cond (.t 0) (
   .seq (.reg [⟨(.var 1), .move (.c (.bool true)), .none⟩]) (
   .ret)) (
   .skip))) (
  .seq (.block 0 (
   .loop b32_0)) r32_1)),
  [.opd (.v 1)]⟩
/-- (*telamon/layout.placer).brace -/
def vm33 : List Nat := [0, 2, 3, 4, 5]

def d33 : DF := ⟨[.some 0, .some 2, .some 3, .some 4, .some 5],
  .seq (.reg [⟨(.var 1), .move (.c (.bool false)), .none⟩]) (
  .seq (.reg [⟨.tmp, .move (.v 0), .none⟩,
    ⟨.tmp, .call 35 [(.t 0)], .none⟩,
    ⟨(.var 2), .alloc [.int .i64 (.ofNat 0), .str 0 0, .int .i64 (.ofNat 0), .int .i64 (.ofNat 0), .int .i64 (.ofNat 0)], .none⟩,
    ⟨.no, .store 5 (.v 2) (.t 0), .none⟩]) (
  .seq (.reg [⟨.tmp, .move (.v 0), .none⟩,
    ⟨.tmp, .nilck (.t 0), .none⟩,
    ⟨.tmp, .fadr 0 (.t 0), .none⟩,
    ⟨.tmp, .call 37 [(.t 0)], .none⟩,
    ⟨(.var 3), .move (.t 0), .none⟩]) (
  .seq (.reg [⟨.tmp, .move (.v 3), .none⟩,
    ⟨.tmp, .binP .neq (.t 0) (.c (.nilp)), .none⟩,
    ⟨.tmp, .move (.t 0), .none⟩,
    ⟨.tmp, .move (.v 3), .some ((.t 0), true)⟩,
    ⟨.tmp, .nilck (.t 0), .some ((.t 1), true)⟩,
    ⟨.tmp, .fadr 0 (.t 0), .some ((.t 2), true)⟩,
    ⟨.tmp, .load1 (.t 0), .some ((.t 3), true)⟩,
    ⟨.tmp, .pick (.t 4) (.t 0) (.c (.bool false)), .none⟩,
    ⟨(.var 4), .move (.t 0), .none⟩]) (
  .seq (.block 0 (
   .seq (.reg [⟨.tmp, .loadN 5 (.v 2), .none⟩,
     ⟨.tmp, .call 40 [(.t 0), (.c (.str 1 59))], .none⟩,
     ⟨.tmp, .move (.t 0), .none⟩]) (
   .cond (.t 0) (
    .seq (.reg [⟨.tmp, .move (.v 0), .none⟩,
      ⟨.tmp, .nilck (.t 0), .none⟩,
      ⟨.tmp, .fadr 7 (.t 0), .none⟩,
      ⟨.no, .store 1 (.t 0) (.c (.bool true)), .none⟩]) (
    .seq (.reg [⟨.tmp, .move (.v 0), .none⟩,
      ⟨.tmp, .loadN 5 (.v 2), .none⟩,
      ⟨.tmp, .fadr 1 (.v 2), .none⟩,
      ⟨.tmp, .load1 (.t 0), .none⟩,
      ⟨.tmp, .call 29 [(.t 3), (.c (.int .i64 (.ofNat 6))), (.t 2), (.t 0)], .none⟩,
      ⟨(.var 1), .move (.t 0), .none⟩]) (
    .ret))) (
    .seq (.reg [⟨.tmp, .move (.v 4), .none⟩,
      ⟨.tmp, .move (.t 0), .none⟩,
      ⟨.tmp, .loadN 5 (.v 2), .some ((.t 0), true)⟩,
      ⟨.tmp, .call 40 [(.t 0), (.c (.str 1 123))], .some ((.t 1), true)⟩,
      ⟨.tmp, .pick (.t 2) (.t 0) (.c (.bool false)), .none⟩,
      ⟨.tmp, .move (.t 0), .none⟩]) (
    .cond (.t 0) (
     .reg [⟨.tmp, .move (.v 3), .none⟩,
       ⟨.tmp, .nilck (.t 0), .none⟩,
       ⟨.tmp, .fadr 3 (.t 0), .none⟩,
       ⟨.tmp, .load1 (.t 0), .none⟩,
       ⟨.tmp, .bin .add (.t 0) (.c (.int .i64 (.ofNat 1))), .none⟩,
       ⟨.tmp, .nilck (.t 4), .none⟩,
       ⟨.tmp, .fadr 3 (.t 0), .none⟩,
       ⟨.no, .store 1 (.t 0) (.t 2), .none⟩]) (
     .seq (.reg [⟨.tmp, .move (.v 4), .none⟩,
       ⟨.tmp, .move (.t 0), .none⟩,
       ⟨.tmp, .loadN 5 (.v 2), .some ((.t 0), true)⟩,
       ⟨.tmp, .call 40 [(.t 0), (.c (.str 1 125))], .some ((.t 1), true)⟩,
       ⟨.tmp, .pick (.t 2) (.t 0) (.c (.bool false)), .none⟩,
       ⟨.tmp, .move (.t 0), .none⟩]) (
     .cond (.t 0) (
      .seq (.reg [⟨.tmp, .move (.v 3), .none⟩,
        ⟨.tmp, .nilck (.t 0), .none⟩,
        ⟨.tmp, .fadr 3 (.t 0), .none⟩,
        ⟨.tmp, .load1 (.t 0), .none⟩,
        ⟨.tmp, .bin .sub (.t 0) (.c (.int .i64 (.ofNat 1))), .none⟩,
        ⟨.tmp, .nilck (.t 4), .none⟩,
        ⟨.tmp, .fadr 3 (.t 0), .none⟩,
        ⟨.no, .store 1 (.t 0) (.t 2), .none⟩]) (
      .seq (.reg [⟨.tmp, .move (.v 3), .none⟩,
        ⟨.tmp, .nilck (.t 0), .none⟩,
        ⟨.tmp, .fadr 3 (.t 0), .none⟩,
        ⟨.tmp, .load1 (.t 0), .none⟩,
        ⟨.tmp, .bin .lss (.t 0) (.c (.int .i64 (.ofNat 0))), .none⟩]) (
      .cond (.t 0) (
       .seq (.reg [⟨.tmp, .move (.v 0), .none⟩,
         ⟨.tmp, .nilck (.t 0), .none⟩,
         ⟨.tmp, .fadr 7 (.t 0), .none⟩,
         ⟨.no, .store 1 (.t 0) (.c (.bool true)), .none⟩]) (
       .seq (.reg [⟨.tmp, .move (.v 0), .none⟩,
         ⟨.tmp, .nilck (.t 0), .none⟩,
         ⟨.tmp, .fadr 0 (.t 0), .none⟩,
         ⟨.tmp, .call 41 [(.t 0)], .none⟩]) (
       .seq (.reg [⟨.tmp, .move (.v 0), .none⟩,
         ⟨.tmp, .loadN 5 (.v 2), .none⟩,
         ⟨.tmp, .fadr 1 (.v 2), .none⟩,
         ⟨.tmp, .load1 (.t 0), .none⟩,
         ⟨.tmp, .call 29 [(.t 3), (.c (.int .i64 (.ofNat 5))), (.t 2), (.t 0)], .none⟩,
         ⟨(.var 1), .move (.t 0), .none⟩]) (
       .ret)))) (
       .skip)))) (
      .skip)))))))) (
  .seq (.reg [⟨(.var 1), .move (.c (.bool true)), .none⟩]) (
  .ret)))))),
  [.opd (.v 1)]⟩
/-- (*telamon/layout.placer).put -/
def vm34 : List Nat := [0, 1, 3, 4]

def d34 : DF := ⟨[.some 0, .some 1, .some 3, .some 4],
  .seq (.reg [⟨(.var 2), .box 5 (.v 1), .none⟩,
    ⟨(.var 3), .move (.c (.bool false)), .none⟩]) (
  .seq (.seq (.reg [⟨.tmp, .move (.v 0), .none⟩,
    ⟨.tmp, .nilck (.t 0), .none⟩,
    ⟨.tmp, .fadr 3 (.t 0), .none⟩,
    ⟨.tmp, .load1 (.t 0), .none⟩,
    ⟨.tmp, .len false (.t 0), .none⟩,
    ⟨.tmp, .bin .geq (.t 0) (.c (.int .i64 (.ofNat 60000))), .none⟩]) (
  .cond (.t 0) (
   .seq (.reg [⟨.tmp, .move (.v 0), .none⟩,
     ⟨.tmp, .call 38 [(.t 0), (.c (.int .i64 (.ofNat 2)))], .none⟩,
     ⟨(.var 3), .move (.t 0), .none⟩]) (
   .ret)) (
   .skip))) (
  .seq (.reg [⟨.tmp, .move (.v 0), .none⟩,
    ⟨.tmp, .move (.v 0), .none⟩,
    ⟨.tmp, .nilck (.t 0), .none⟩,
    ⟨.tmp, .fadr 3 (.t 0), .none⟩,
    ⟨.tmp, .load1 (.t 0), .none⟩,
    ⟨.tmp, .loadN 5 (.v 2), .none⟩,
    ⟨.tmp, .buildS 5 [[.int .i64 (.ofNat 0), .str 0 0, .int .i64 (.ofNat 0), .int .i64 (.ofNat 0), .int .i64 (.ofNat 0)]] [(0, (.t 0))], .none⟩,
    ⟨.tmp, .append 5 48 (.t 2) (.t 0), .none⟩,
    ⟨.tmp, .nilck (.t 7), .none⟩,
    ⟨.tmp, .fadr 3 (.t 0), .none⟩,
    ⟨.no, .store 1 (.t 0) (.t 2), .none⟩]) (
  .seq (.reg [⟨(.var 3), .move (.c (.bool true)), .none⟩]) (
  .ret)))),
  [.opd (.v 3)]⟩
/-- (*telamon/layout.placer).now -/
def vm35 : List Nat := [0, 2]

def d35 : DF := ⟨[.some 0, .some 2],
  .seq (.reg [⟨(.var 1), .alloc [.int .i64 (.ofNat 0), .str 0 0, .int .i64 (.ofNat 0), .int .i64 (.ofNat 0), .int .i64 (.ofNat 0)], .none⟩]) (
  .seq (.reg [⟨.tmp, .move (.v 0), .none⟩,
    ⟨.tmp, .nilck (.t 0), .none⟩,
    ⟨.tmp, .fadr 1 (.t 0), .none⟩,
    ⟨.tmp, .load1 (.t 0), .none⟩,
    ⟨.tmp, .move (.v 0), .none⟩,
    ⟨.tmp, .nilck (.t 0), .none⟩,
    ⟨.tmp, .fadr 2 (.t 0), .none⟩,
    ⟨.tmp, .load1 (.t 0), .none⟩,
    ⟨.tmp, .idxS 5 (.t 4) (.t 0), .none⟩,
    ⟨.tmp, .loadN 5 (.t 0), .none⟩,
    ⟨.no, .store 5 (.v 1) (.t 0), .none⟩]) (
  .ret)),
  [.cellN 5 (.v 1)]⟩
/-- (*telamon/layout.placer).behind -/
def vm36 : List Nat := [0, 2, 3, 4]

def d36 : DF := ⟨[.some 0, .some 2, .some 3, .some 4],
  .seq (.reg [⟨(.var 1), .move (.c (.bool false)), .none⟩]) (
  .seq (.reg [⟨.tmp, .move (.v 0), .none⟩,
    ⟨.tmp, .call 35 [(.t 0)], .none⟩,
    ⟨(.var 2), .alloc [.int .i64 (.ofNat 0), .str 0 0, .int .i64 (.ofNat 0), .int .i64 (.ofNat 0), .int .i64 (.ofNat 0)], .none⟩,
    ⟨.no, .store 5 (.v 2) (.t 0), .none⟩]) (
  .seq (.seq (.reg [⟨.tmp, .loadN 5 (.v 2), .none⟩,
    ⟨.tmp, .call 42 [(.t 0)], .none⟩,
    ⟨.tmp, .not (.t 0), .none⟩]) (
  .cond (.t 0) (
   .seq (.reg [⟨(.var 1), .move (.c (.bool true)), .none⟩]) (
   .ret)) (
   .skip))) (
  .seq (.reg [⟨.tmp, .move (.v 0), .none⟩,
    ⟨.tmp, .nilck (.t 0), .none⟩,
    ⟨.tmp, .fadr 1 (.t 0), .none⟩,
    ⟨.tmp, .load1 (.t 0), .none⟩,
    ⟨.tmp, .move (.v 0), .none⟩,
    ⟨.tmp, .nilck (.t 0), .none⟩,
    ⟨.tmp, .fadr 2 (.t 0), .none⟩,
    ⟨.tmp, .load1 (.t 0), .none⟩,
    ⟨.tmp, .bin .add (.t 0) (.c (.int .i64 (.ofNat 1))), .none⟩,
    ⟨.tmp, .idxS 5 (.t 5) (.t 0), .none⟩,
    ⟨.tmp, .loadN 5 (.t 0), .none⟩,
    ⟨(.var 3), .alloc [.int .i64 (.ofNat 0), .str 0 0, .int .i64 (.ofNat 0), .int .i64 (.ofNat 0), .int .i64 (.ofNat 0)], .none⟩,
    ⟨.no, .store 5 (.v 3) (.t 0), .none⟩]) (
  .seq (.block 0 (
   .seq (.reg [⟨.tmp, .loadN 5 (.v 3), .none⟩,
     ⟨.tmp, .call 40 [(.t 0), (.c (.str 1 123))], .none⟩,
     ⟨.tmp, .move (.t 0), .none⟩]) (
   .cond (.t 0) (
    .seq (.reg [⟨.tmp, .move (.v 0), .none⟩,
      ⟨.tmp, .nilck (.t 0), .none⟩,
      ⟨.tmp, .fadr 2 (.t 0), .none⟩,
      ⟨.tmp, .load1 (.t 0), .none⟩,
      ⟨.tmp, .bin .add (.t 0) (.c (.int .i64 (.ofNat 1))), .none⟩,
      ⟨.tmp, .nilck (.t 4), .none⟩,
      ⟨.tmp, .fadr 2 (.t 0), .none⟩,
      ⟨.no, .store 1 (.t 0) (.t 2), .none⟩]) (
    .seq (.reg [⟨.tmp, .move (.v 0), .none⟩,
      ⟨.tmp, .build [.bool false, .int .i64 (.ofNat 0), .bool false, .int .i64 (.ofNat 0)] [(0, 1, (.c (.bool true)))], .none⟩,
      ⟨.tmp, .loadN 5 (.v 3), .none⟩,
      ⟨.tmp, .fadr 1 (.v 3), .none⟩,
      ⟨.tmp, .load1 (.t 0), .none⟩,
      ⟨.tmp, .call 16 [(.t 4), (.t 3), (.t 2), (.t 0)], .none⟩,
      ⟨(.var 1), .move (.t 0), .none⟩]) (
    .ret))) (
    .seq (.reg [⟨.tmp, .fadr 0 (.v 3), .none⟩,
      ⟨.tmp, .load1 (.t 0), .none⟩,
      ⟨.tmp, .bin .eql (.t 0) (.c (.int .i64 (.ofNat 7))), .none⟩,
      ⟨.tmp, .move (.t 0), .none⟩,
      ⟨.tmp, .fadr 4 (.v 3), .some ((.t 0), false)⟩,
      ⟨.tmp, .load1 (.t 0), .some ((.t 1), false)⟩,
      ⟨.tmp, .move (.v 0), .some ((.t 2), false)⟩,
      ⟨.tmp, .call 43 [(.t 0)], .some ((.t 3), false)⟩,
      ⟨.no, .again1 (.t 3) (.t 2), .some ((.t 4), false)⟩,
      ⟨.tmp, .bin .leq (.t 2) (.t 0), .some ((.t 4), false)⟩,
      ⟨.tmp, .pick (.t 5) (.c (.bool true)) (.t 0), .none⟩,
      ⟨.tmp, .move (.t 0), .none⟩]) (
    .cond (.t 0) (
     .seq (.reg [⟨.tmp, .move (.v 0), .none⟩,
       ⟨.tmp, .loadN 5 (.v 3), .none⟩,
       ⟨.tmp, .call 29 [(.t 1), (.c (.int .i64 (.ofNat 4))), (.t 0), (.c (.str 0 0))], .none⟩,
       ⟨.tmp, .move (.t 0), .none⟩,
       ⟨.tmp, .move (.v 0), .some ((.t 0), true)⟩,
       ⟨.tmp, .loadN 5 (.v 3), .some ((.t 1), true)⟩,
       ⟨.tmp, .call 29 [(.t 1), (.c (.int .i64 (.ofNat 5))), (.t 0), (.c (.str 0 0))], .some ((.t 2), true)⟩,
       ⟨.tmp, .pick (.t 3) (.t 0) (.c (.bool false)), .none⟩,
       ⟨(.var 1), .move (.t 0), .none⟩]) (
     .ret)) (
     .skip)))))) (
  .seq (.reg [⟨.tmp, .move (.v 0), .none⟩,
    ⟨.tmp, .nilck (.t 0), .none⟩,
    ⟨.tmp, .fadr 6 (.t 0), .none⟩,
    ⟨.no, .store 1 (.t 0) (.c (.bool true)), .none⟩]) (
  .seq (.reg [⟨.tmp, .move (.v 0), .none⟩,
    ⟨.tmp, .fadr 4 (.v 3), .none⟩,
    ⟨.tmp, .load1 (.t 0), .none⟩,
    ⟨.tmp, .loadN 5 (.v 2), .none⟩,
    ⟨.tmp, .loadN 5 (.v 3), .none⟩,
    ⟨.tmp, .call 40 [(.t 1), (.c (.str 3 7628140))], .none⟩,
    ⟨.no, .againN 5 (.v 3) (.t 1), .none⟩,
    ⟨.no, .again1 (.t 4) (.t 3), .none⟩,
    ⟨.tmp, .build [.bool false, .int .i64 (.ofNat 0), .bool false, .int .i64 (.ofNat 0)] [(1, 1, (.t 3)), (2, 1, (.t 0))], .none⟩,
    ⟨.tmp, .call 16 [(.t 6), (.t 0), (.t 2), (.c (.str 0 0))], .none⟩,
    ⟨(.var 1), .move (.t 0), .none⟩]) (
  .ret))))))),
  [.opd (.v 1)]⟩
/-- (*telamon/layout.stack).top -/
def vm37 : List Nat := [0, 2]

def d37 : DF := ⟨[.some 0, .some 2],
  .seq (.reg [⟨(.var 1), .move (.c (.nilp)), .none⟩]) (
  .seq (.seq (.reg [⟨.tmp, .move (.v 0), .none⟩,
    ⟨.tmp, .nilck (.t 0), .none⟩,
    ⟨.tmp, .fadr 0 (.t 0), .none⟩,
    ⟨.tmp, .load1 (.t 0), .none⟩,
    ⟨.tmp, .len false (.t 0), .none⟩,
    ⟨.tmp, .bin .eql (.t 0) (.c (.int .i64 (.ofNat 0))), .none⟩]) (
  .cond (.t 0) (
   .seq (.reg [⟨(.var 1), .move (.c (.nilp)), .none⟩]) (
   .ret)) (
   .skip))) (
  .seq (.reg [⟨.tmp, .move (.v 0), .none⟩,
    ⟨.tmp, .nilck (.t 0), .none⟩,
    ⟨.tmp, .fadr 0 (.t 0), .none⟩,
    ⟨.tmp, .load1 (.t 0), .none⟩,
    ⟨.tmp, .move (.v 0), .none⟩,
    ⟨.tmp, .nilck (.t 0), .none⟩,
    ⟨.tmp, .fadr 0 (.t 0), .none⟩,
    ⟨.tmp, .load1 (.t 0), .none⟩,
    ⟨.tmp, .len false (.t 0), .none⟩,
    ⟨.tmp, .bin .sub (.t 0) (.c (.int .i64 (.ofNat 1))), .none⟩,
    ⟨.tmp, .idxS 4 (.t 6) (.t 0), .none⟩,
    ⟨(.var 1), .move (.t 0), .none⟩]) (
  .ret))),
  [.opd (.v 1)]⟩
/-- (*telamon/layout.placer).fail -/
def vm38 : List Nat := [0, 1, 4]

def d38 : DF := ⟨[.some 0, .some 1, .some 4],
  .seq (.reg [⟨(.var 2), .move (.c (.bool false)), .none⟩]) (
  .seq (.seq (.reg [⟨.tmp, .move (.v 0), .none⟩,
    ⟨.tmp, .nilck (.t 0), .none⟩,
    ⟨.tmp, .fadr 4 (.t 0), .none⟩,
    ⟨.tmp, .load1 (.t 0), .none⟩,
    ⟨.tmp, .bin .eql (.t 0) (.c (.int .i64 (.ofNat 0))), .none⟩]) (
  .cond (.t 0) (
   .reg [⟨.tmp, .move (.v 0), .none⟩,
     ⟨.tmp, .move (.v 0), .none⟩,
     ⟨.tmp, .move (.v 1), .none⟩,
     ⟨.tmp, .move (.v 0), .none⟩,
     ⟨.tmp, .call 35 [(.t 0)], .none⟩,
     ⟨.tmp, .fld1 2 (.t 0), .none⟩,
     ⟨.tmp, .nilck (.t 5), .none⟩,
     ⟨.tmp, .fadr 4 (.t 0), .none⟩,
     ⟨.no, .store 1 (.t 0) (.t 5), .none⟩,
     ⟨.tmp, .nilck (.t 6), .none⟩,
     ⟨.tmp, .fadr 5 (.t 0), .none⟩,
     ⟨.no, .store 1 (.t 0) (.t 4), .none⟩]) (
   .skip))) (
  .seq (.reg [⟨(.var 2), .move (.c (.bool false)), .none⟩]) (
  .ret))),
  [.opd (.v 2)]⟩
/-- (*telamon/layout.placer).end -/
def vm39 : List Nat := [0, 2]

def d39 : DF := ⟨[.some 0, .some 2],
  .seq (.reg [⟨(.var 1), .move (.c (.bool false)), .none⟩]) (
  .seq (.reg [⟨.tmp, .move (.v 0), .none⟩,
    ⟨.tmp, .nilck (.t 0), .none⟩,
    ⟨.tmp, .fadr 0 (.t 0), .none⟩,
    ⟨.tmp, .call 41 [(.t 0)], .none⟩]) (
  .seq (.reg [⟨.tmp, .move (.v 0), .none⟩,
    ⟨.tmp, .move (.v 0), .none⟩,
    ⟨.tmp, .call 35 [(.t 0)], .none⟩,
    ⟨.tmp, .call 29 [(.t 2), (.c (.int .i64 (.ofNat 5))), (.t 0), (.c (.str 0 0))], .none⟩,
    ⟨(.var 1), .move (.t 0), .none⟩]) (
  .ret))),
  [.opd (.v 1)]⟩
/-- telamon/layout.word -/
def vm40 : List Nat := [0, 1, 2, 4]

def d40 : DF := ⟨[.some 0, .some 1, .some 2, .some 4],
  .seq (.reg [⟨(.var 2), .box 5 (.v 0), .none⟩,
    ⟨(.var 3), .move (.c (.bool false)), .none⟩]) (
  .seq (.reg [⟨.tmp, .fadr 0 (.v 2), .none⟩,
    ⟨.tmp, .load1 (.t 0), .none⟩,
    ⟨.tmp, .bin .eql (.t 0) (.c (.int .i64 (.ofNat 2))), .none⟩,
    ⟨.tmp, .move (.t 0), .none⟩,
    ⟨.tmp, .fadr 1 (.v 2), .some ((.t 0), true)⟩,
    ⟨.tmp, .load1 (.t 0), .some ((.t 1), true)⟩,
    ⟨.tmp, .move (.v 1), .some ((.t 2), true)⟩,
    ⟨.tmp, .bin .eql (.t 1) (.t 0), .some ((.t 3), true)⟩,
    ⟨.tmp, .pick (.t 4) (.t 0) (.c (.bool false)), .none⟩,
    ⟨(.var 3), .move (.t 0), .none⟩]) (
  .ret)),
  [.opd (.v 3)]⟩
/-- (*telamon/layout.stack).pop -/
def vm41 : List Nat := [0]

def d41 : DF := ⟨[.some 0],
  .reg [⟨.tmp, .move (.v 0), .none⟩,
    ⟨.tmp, .move (.v 0), .none⟩,
    ⟨.tmp, .nilck (.t 0), .none⟩,
    ⟨.tmp, .fadr 0 (.t 0), .none⟩,
    ⟨.tmp, .load1 (.t 0), .none⟩,
    ⟨.tmp, .move (.v 0), .none⟩,
    ⟨.tmp, .nilck (.t 0), .none⟩,
    ⟨.tmp, .fadr 0 (.t 0), .none⟩,
    ⟨.tmp, .load1 (.t 0), .none⟩,
    ⟨.tmp, .len false (.t 0), .none⟩,
    ⟨.tmp, .bin .sub (.t 0) (.c (.int .i64 (.ofNat 1))), .none⟩,
    ⟨.tmp, .slcS 4 (.t 6) .none (.some (.t 0)) .none, .none⟩,
    ⟨.tmp, .nilck (.t 11), .none⟩,
    ⟨.tmp, .fadr 0 (.t 0), .none⟩,
    ⟨.no, .store 1 (.t 0) (.t 2), .none⟩],
  []⟩
/-- telamon/layout.opens -/
def vm42 : List Nat := [0, 1, 2]

def d42 : DF := ⟨[.some 0, .some 1, .some 2],
  .seq (.reg [⟨(.var 1), .box 5 (.v 0), .none⟩,
    ⟨(.var 2), .move (.c (.bool false)), .none⟩]) (
  .seq (.reg [⟨.tmp, .loadN 5 (.v 1), .none⟩,
    ⟨.tmp, .call 40 [(.t 0), (.c (.str 5 435710945399))], .none⟩,
    ⟨.tmp, .move (.t 0), .none⟩,
    ⟨.tmp, .loadN 5 (.v 1), .some ((.t 0), false)⟩,
    ⟨.tmp, .call 40 [(.t 0), (.c (.str 3 7628140))], .some ((.t 1), false)⟩,
    ⟨.tmp, .pick (.t 2) (.c (.bool true)) (.t 0), .none⟩,
    ⟨.tmp, .move (.t 0), .none⟩,
    ⟨.tmp, .loadN 5 (.v 1), .some ((.t 0), false)⟩,
    ⟨.tmp, .call 40 [(.t 0), (.c (.str 9 1871507254677525983088))], .some ((.t 1), false)⟩,
    ⟨.tmp, .pick (.t 2) (.c (.bool true)) (.t 0), .none⟩,
    ⟨.tmp, .move (.t 0), .none⟩,
    ⟨.tmp, .loadN 5 (.v 1), .some ((.t 0), false)⟩,
    ⟨.tmp, .call 40 [(.t 0), (.c (.str 7 28556934595048048))], .some ((.t 1), false)⟩,
    ⟨.tmp, .pick (.t 2) (.c (.bool true)) (.t 0), .none⟩,
    ⟨(.var 2), .move (.t 0), .none⟩]) (
  .ret)),
  [.opd (.v 2)]⟩
/-- (*telamon/layout.placer).column -/
def vm43 : List Nat := [0, 2, 3]
def b43_0 : DC :=
 .seq (.seq (.reg [⟨.tmp, .move (.v 2), .none⟩,
   ⟨.tmp, .bin .geq (.t 0) (.c (.int .i64 (.ofNat 0))), .none⟩]) (
 .cond (.t 0) (
  .skip) (
  .exit 0))) (
 .seq (.block 1 (
  .seq (.reg [⟨.tmp, .move (.v 0), .none⟩,
    ⟨.tmp, .nilck (.t 0), .none⟩,
    ⟨.tmp, .fadr 0 (.t 0), .none⟩,
    ⟨.tmp, .fadr 0 (.t 0), .none⟩,
    ⟨.tmp, .load1 (.t 0), .none⟩,
    ⟨.tmp, .move (.v 2), .none⟩,
    ⟨.tmp, .idxS 4 (.t 1) (.t 0), .none⟩,
    ⟨.tmp, .fadr 0 (.t 0), .none⟩,
    ⟨.tmp, .load1 (.t 0), .none⟩,
    ⟨.tmp, .not (.t 0), .none⟩]) (
  .cond (.t 0) (
   .seq (.reg [⟨.tmp, .move (.v 0), .none⟩,
     ⟨.tmp, .nilck (.t 0), .none⟩,
     ⟨.tmp, .fadr 0 (.t 0), .none⟩,
     ⟨.tmp, .fadr 0 (.t 0), .none⟩,
     ⟨.tmp, .load1 (.t 0), .none⟩,
     ⟨.tmp, .move (.v 2), .none⟩,
     ⟨.tmp, .idxS 4 (.t 1) (.t 0), .none⟩,
     ⟨.tmp, .fadr 1 (.t 0), .none⟩,
     ⟨.tmp, .load1 (.t 0), .none⟩,
     ⟨(.var 1), .move (.t 0), .none⟩]) (
   .ret)) (
   .skip)))) (
 .reg [⟨.tmp, .move (.v 2), .none⟩,
   ⟨.tmp, .bin .sub (.t 0) (.c (.int .i64 (.ofNat 1))), .none⟩,
   ⟨(.var 2), .move (.t 0), .none⟩]))
def r43_1 : DC :=
 .seq (.reg [⟨(.var 1), .move (.c (.int .i64 (.ofNat 0))), .none⟩]) (
 .ret)
def d43 : DF := ⟨[.some 0, .some 2, .some 3],
  .seq (.reg [⟨(.var 1), .move (.c (.int .i64 (.ofNat 0))), .none⟩]) (
  .seq (.seq (.reg [⟨.tmp, .move (.v 0), .none⟩,
    ⟨.tmp, .nilck (.t 0), .none⟩,
    ⟨.tmp, .fadr 0 (.t 0), .none⟩,
    ⟨.tmp, .fadr 0 (.t 0), .none⟩,
    ⟨.tmp, .load1 (.t 0), .none⟩,
    ⟨.tmp, .len false (.t 0), .none⟩,
    ⟨.tmp, .bin .sub (.t 0) (.c (.int .i64 (.ofNat 1))), .none⟩,
    ⟨(.var 2), .move (.t 0), .none⟩]) (
  .block 0 (
   .loop b43_0))) r43_1),
  [.opd (.v 1)]⟩

end Dt
