/- A part of the abstract machine and of the proof that the program does what it reckons; no conditions. -/
import Derived.Test.YtoifgfkgjbddcaaGreatDoorDa
set_option linter.all false
namespace Dt
open Go
set_option linter.all false
/-- telamon/telamonlaw16.ScopeWrong -/
def vm3 : List Nat := [0, 2, 3, 4, 5, 6]

def d3 : DF := ⟨[.some 0, .some 2, .some 3, .some 4, .some 5, .some 6],
 .seq (.reg [⟨(.var 1), .move (.c (.bool false)), .none⟩]) (
 .seq (.reg [⟨.tmp, .call 8 [], .none⟩,
 ⟨(.var 2), .move (.t 0), .none⟩]) (
 .seq (.reg [⟨.tmp, .buildS 1 [[.str 0 0], [.str 0 0], [.str 0 0], [.str 0 0], [.str 0 0], [.str 0 0], [.str 0 0], [.str 0 0], [.str 0 0], [.str 0 0], [.str 0 0], [.str 0 0], [.str 0 0], [.str 0 0], [.str 0 0], [.str 0 0], [.str 0 0], [.str 0 0], [.str 0 0], [.str 0 0], [.str 0 0], [.str 0 0], [.str 0 0], [.str 0 0], [.str 0 0], [.str 0 0]] [(0, (.c (.str 13 7774337344092999584170005635169))), (1, (.c (.str 13 9221825330732959024832954638433))), (2, (.c (.str 7 32762504995807329))), (3, (.c (.str 7 32762504996003937))), (4, (.c (.str 17 39607438204922442721321059183217795539041))), (5, (.c (.str 31 205653576966031111722907153748386957159556519430383362463102386218995425377))), (6, (.c (.str 21 170112651767461991048430635686189233831945016930160))), (7, (.c (.str 26 111081017567342956541934781559705225404916995946626262364348772))), (8, (.c (.str 28 7174493275624855912667199700231667803972108371379316083893554405732))), (9, (.c (.str 19 2595713070197797296530721090263067547700178529))), (10, (.c (.str 6 84801686433903))), (11, (.c (.str 31 73111280861961629082300144158367196450032410428189238003439707405693513581))), (12, (.c (.str 29 2735001931491826233416065278687667547638576323614620281699867514138477))), (13, (.c (.str 15 509784193524112377883984919405404257))), (14, (.c (.str 64 5089774858001287709655466160480559393301654466349533944935106029440916721777675406966248303468921955084396499836218478500579210798551648612465229739356013))), (15, (.c (.str 97 150789767773650063276158280903851240061296948344085356741082123071538076335629789303028949384281803819607936271252793933097218626755242545005090882539111990125861367847304630618673907522257225525459016894021681170609183401466956902253))), (16, (.c (.str 26 156075356344776730551572594926364233907851300662293373057114214))), (17, (.c (.str 24 2381520940637706429390407406782873908125084451403122483302))), (18, (.c (.str 26 187040838651256520475696627929510851147898384046914722107891814))), (19, (.c (.str 15 604361544874915313337340955673108582))), (20, (.c (.str 33 13477712820045792077043589137082349701755685690146038978552550985727539351789670))), (21, (.c (.str 39 3793638902135306139341012295748833541099938424821565892890105460682667280516997250177409097830))), (22, (.c (.str 52 27356759961779892370764763446710375634163253655714725134838531024914559095580255532304330465826912846969240804265434592604013))), (23, (.c (.str 27 47906239341528759907177536153628945001404576851531126636088533094))), (24, (.c (.str 20 691506923433630870774479671933353215809870766182))), (25, (.c (.str 41 207459733133761234012477571195551202460039418531928988076899050762147637656600764891174066604044912)))], .none⟩,
 ⟨(.var 3), .move (.t 0), .none⟩]) (
 .seq (.reg [⟨.tmp, .buildS 1 [[.int .i64 (.ofNat 0)], [.int .i64 (.ofNat 0)], [.int .i64 (.ofNat 0)], [.int .i64 (.ofNat 0)], [.int .i64 (.ofNat 0)], [.int .i64 (.ofNat 0)], [.int .i64 (.ofNat 0)], [.int .i64 (.ofNat 0)], [.int .i64 (.ofNat 0)], [.int .i64 (.ofNat 0)], [.int .i64 (.ofNat 0)], [.int .i64 (.ofNat 0)], [.int .i64 (.ofNat 0)], [.int .i64 (.ofNat 0)], [.int .i64 (.ofNat 0)], [.int .i64 (.ofNat 0)], [.int .i64 (.ofNat 0)], [.int .i64 (.ofNat 0)], [.int .i64 (.ofNat 0)], [.int .i64 (.ofNat 0)], [.int .i64 (.ofNat 0)], [.int .i64 (.ofNat 0)], [.int .i64 (.ofNat 0)], [.int .i64 (.ofNat 0)], [.int .i64 (.ofNat 0)], [.int .i64 (.ofNat 0)]] [(0, (.c (.int .i64 (.ofNat 44)))), (1, (.c (.int .i64 (.ofNat 44)))), (2, (.c (.int .i64 (.ofNat 47)))), (3, (.c (.int .i64 (.ofNat 47)))), (4, (.c (.int .i64 (.ofNat 47)))), (5, (.c (.int .i64 (.ofNat 46)))), (6, (.c (.int .i64 (.ofNat 46)))), (7, (.c (.int .i64 (.ofNat 44)))), (8, (.c (.int .i64 (.ofNat 46)))), (9, (.c (.int .i64 (.ofNat 41)))), (10, (.c (.int .i64 (.ofNat 44)))), (11, (.c (.int .i64 (.ofNat 44)))), (12, (.c (.int .i64 (.ofNat 46)))), (13, (.c (.int .i64 (.ofNat 44)))), (14, (.c (.int .i64 (.ofNat 44)))), (15, (.c (.int .i64 (.ofNat 45)))), (16, (.c (.int .i64 (.ofNat 53)))), (17, (.c (.int .i64 (.ofNat 46)))), (18, (.c (.int .i64 (.ofNat 53)))), (19, (.c (.int .i64 (.ofNat 47)))), (20, (.c (.int .i64 (.ofNat 53)))), (21, (.c (.int .i64 (.ofNat 47)))), (22, (.c (.int .i64 (.ofNat 44)))), (23, (.c (.int .i64 (.ofNat 0)))), (24, (.c (.int .i64 (.ofNat 44)))), (25, (.c (.int .i64 (.ofNat 0))))], .none⟩,
 ⟨(.var 4), .move (.t 0), .none⟩]) (
 .seq (.seq (.reg [⟨.tmp, .move (.v 2), .none⟩,
 ⟨.tmp, .not (.t 0), .none⟩,
 ⟨.tmp, .move (.t 0), .none⟩,
 ⟨.tmp, .move (.v 0), .some ((.t 0), false)⟩,
 ⟨.tmp, .bin .lss (.t 0) (.c (.int .i64 (.ofNat 0))), .some ((.t 1), false)⟩,
 ⟨.tmp, .pick (.t 2) (.c (.bool true)) (.t 0), .none⟩,
 ⟨.tmp, .move (.t 0), .none⟩,
 ⟨.tmp, .move (.v 0), .some ((.t 0), false)⟩,
 ⟨.tmp, .move (.v 3), .some ((.t 1), false)⟩,
 ⟨.tmp, .len false (.t 0), .some ((.t 2), false)⟩,
 ⟨.tmp, .bin .geq (.t 2) (.t 0), .some ((.t 3), false)⟩,
 ⟨.tmp, .pick (.t 4) (.c (.bool true)) (.t 0), .none⟩]) (
 .cond (.t 0) (
 .seq (.reg [⟨.tmp, .move (.v 2), .none⟩,
 ⟨(.var 1), .move (.t 0), .none⟩]) (
 .ret)) (
 .skip))) (
 .seq (.reg [⟨.tmp, .move (.v 3), .none⟩,
 ⟨.tmp, .move (.v 0), .none⟩,
 ⟨.tmp, .idxS 1 (.t 1) (.t 0), .none⟩,
 ⟨.tmp, .load1 (.t 0), .none⟩,
 ⟨.tmp, .call 9 [(.t 0)], .none⟩,
 ⟨.tmp, .move (.t 0), .none⟩,
 ⟨.tmp, .ext (.t 0) 0, .none⟩,
 ⟨.tmp, .ext (.t 1) 1, .none⟩,
 ⟨(.var 5), .move (.t 1), .none⟩,
 ⟨.tmp, .move (.t 0), .none⟩]) (
 .seq (.reg [⟨.tmp, .move (.v 5), .none⟩,
 ⟨.tmp, .move (.v 4), .none⟩,
 ⟨.tmp, .move (.v 0), .none⟩,
 ⟨.tmp, .idxS 1 (.t 1) (.t 0), .none⟩,
 ⟨.tmp, .load1 (.t 0), .none⟩,
 ⟨.tmp, .bin .eql (.t 4) (.t 0), .none⟩,
 ⟨(.var 1), .move (.t 0), .none⟩]) (
 .ret))))))),
 [.opd (.v 1)], 6, .none⟩
/-- telamon/telamonlaw16.ScopeModules -/
def vm4 : List Nat := [0, 2, 3, 4, 5, 6, 7, 9, 10, 11, 13, 14, 15]
def b4_0 : DC :=
 .seq (.seq (.reg [⟨.tmp, .move (.v 12), .none⟩,
 ⟨.tmp, .move (.v 10), .none⟩,
 ⟨.tmp, .len true (.t 0), .none⟩,
 ⟨.tmp, .bin .lss (.t 2) (.t 0), .none⟩]) (
 .cond (.t 0) (
 .skip) (
 .exit 0))) (
 .seq (.block 1 (
 .reg [⟨.tmp, .move (.v 11), .none⟩,
 ⟨.tmp, .move (.t 0), .none⟩,
 ⟨.tmp, .move (.v 10), .some ((.t 0), false)⟩,
 ⟨.tmp, .move (.v 12), .some ((.t 1), false)⟩,
 ⟨.tmp, .move (.v 12), .some ((.t 2), false)⟩,
 ⟨.tmp, .bin .add (.t 0) (.c (.int .i64 (.ofNat 1))), .some ((.t 3), false)⟩,
 ⟨.tmp, .slcStr (.t 3) (.some (.t 2)) (.some (.t 0)), .some ((.t 4), false)⟩,
 ⟨.tmp, .move (.v 8), .some ((.t 5), false)⟩,
 ⟨.tmp, .bin .eql (.t 1) (.t 0), .some ((.t 6), false)⟩,
 ⟨.tmp, .pick (.t 7) (.c (.bool true)) (.t 0), .none⟩,
 ⟨(.var 11), .move (.t 0), .none⟩])) (
 .reg [⟨.tmp, .move (.v 12), .none⟩,
 ⟨.tmp, .bin .add (.t 0) (.c (.int .i64 (.ofNat 1))), .none⟩,
 ⟨(.var 12), .move (.t 0), .none⟩]))
def r4_1 : DC :=
 .seq (.reg [⟨.tmp, .move (.v 9), .none⟩,
 ⟨.tmp, .bin .eql (.t 0) (.c (.int .i64 (.ofNat 0))), .none⟩,
 ⟨.tmp, .move (.v 11), .none⟩,
 ⟨.tmp, .binB .eql (.t 1) (.t 0), .none⟩,
 ⟨.tmp, .move (.t 0), .none⟩,
 ⟨.tmp, .move (.v 11), .some ((.t 0), true)⟩,
 ⟨.tmp, .move (.t 0), .some ((.t 1), true)⟩,
 ⟨.tmp, .move (.v 9), .some ((.t 0), false)⟩,
 ⟨.tmp, .bin .eql (.t 0) (.c (.int .i64 (.ofNat 44))), .some ((.t 1), false)⟩,
 ⟨.tmp, .pick (.t 2) (.c (.bool true)) (.t 0), .some ((.t 4), true)⟩,
 ⟨.tmp, .pick (.t 5) (.t 0) (.c (.bool false)), .none⟩,
 ⟨(.var 1), .move (.t 0), .none⟩]) (
 .ret)
def d4 : DF := ⟨[.some 0, .some 2, .some 3, .some 4, .some 5, .some 6, .some 7, .some 9, .some 10, .some 11, .some 13, .some 14, .some 15],
 .seq (.reg [⟨(.var 1), .move (.c (.bool false)), .none⟩]) (
 .seq (.reg [⟨.tmp, .call 8 [], .none⟩,
 ⟨(.var 2), .move (.t 0), .none⟩]) (
 .seq (.reg [⟨(.var 3), .move (.c (.str 140 1793633612316480367929821750380702854400325107945961848209256128393811282851079373313644509612176540380370408053003945101473895205454589916224690734488239229812012570590489670630523331347336213462699670709811173088244598605402349475021642261972229957466222725540222298802880335275481450050387358037133139125447674835938763150309485473645)), .none⟩]) (
 .seq (.reg [⟨.tmp, .buildS 1 [[.str 0 0], [.str 0 0], [.str 0 0], [.str 0 0], [.str 0 0]] [(0, (.c (.str 3 6368845))), (1, (.c (.str 5 425978637901))), (2, (.c (.str 3 7351885))), (3, (.c (.str 3 6499918))), (4, (.c (.str 1 97)))], .none⟩,
 ⟨(.var 4), .move (.t 0), .none⟩]) (
 .seq (.reg [⟨.tmp, .buildS 1 [[.str 0 0], [.str 0 0], [.str 0 0], [.str 0 0], [.str 0 0], [.str 0 0], [.str 0 0]] [(0, (.c (.str 6 84801686433903))), (1, (.c (.str 16 55002814486155211422351560079481073775))), (2, (.c (.str 17 14080720508455734053070316737957906968687))), (3, (.c (.str 24 1016822926875577032815713861901844794558321849483953270895))), (4, (.c (.str 34 1229263490276003111862181016231521207759056424940019644395740815392340646297956463))), (5, (.c (.str 8 5633524985573503087))), (6, (.c (.str 26 66494133995803934183023942144544572594891582224480443270787183)))], .none⟩,
 ⟨(.var 5), .move (.t 0), .none⟩]) (
 .seq (.seq (.reg [⟨.tmp, .move (.v 2), .none⟩,
 ⟨.tmp, .not (.t 0), .none⟩,
 ⟨.tmp, .move (.t 0), .none⟩,
 ⟨.tmp, .move (.v 0), .some ((.t 0), false)⟩,
 ⟨.tmp, .bin .lss (.t 0) (.c (.int .i64 (.ofNat 0))), .some ((.t 1), false)⟩,
 ⟨.tmp, .pick (.t 2) (.c (.bool true)) (.t 0), .none⟩]) (
 .cond (.t 0) (
 .seq (.reg [⟨.tmp, .move (.v 2), .none⟩,
 ⟨(.var 1), .move (.t 0), .none⟩]) (
 .ret)) (
 .skip))) (
 .seq (.seq (.reg [⟨.tmp, .move (.v 0), .none⟩,
 ⟨.tmp, .move (.v 4), .none⟩,
 ⟨.tmp, .len false (.t 0), .none⟩,
 ⟨.tmp, .bin .lss (.t 2) (.t 0), .none⟩]) (
 .cond (.t 0) (
 .seq (.reg [⟨.tmp, .move (.v 3), .none⟩,
 ⟨.tmp, .move (.v 4), .none⟩,
 ⟨.tmp, .move (.v 0), .none⟩,
 ⟨.tmp, .idxS 1 (.t 1) (.t 0), .none⟩,
 ⟨.tmp, .load1 (.t 0), .none⟩,
 ⟨.tmp, .bin .add (.t 4) (.t 0), .none⟩,
 ⟨.tmp, .call 9 [(.t 0)], .none⟩,
 ⟨.tmp, .move (.t 0), .none⟩,
 ⟨.tmp, .ext (.t 0) 0, .none⟩,
 ⟨.tmp, .ext (.t 1) 1, .none⟩,
 ⟨(.var 6), .move (.t 1), .none⟩,
 ⟨.tmp, .move (.t 0), .none⟩]) (
 .seq (.reg [⟨.tmp, .move (.v 6), .none⟩,
 ⟨.tmp, .buildS 1 [[.int .i64 (.ofNat 0)], [.int .i64 (.ofNat 0)], [.int .i64 (.ofNat 0)], [.int .i64 (.ofNat 0)], [.int .i64 (.ofNat 0)]] [(0, (.c (.int .i64 (.ofNat 0)))), (1, (.c (.int .i64 (.ofNat 0)))), (2, (.c (.int .i64 (.ofNat 44)))), (3, (.c (.int .i64 (.ofNat 44)))), (4, (.c (.int .i64 (.ofNat 44))))], .none⟩,
 ⟨.tmp, .move (.v 0), .none⟩,
 ⟨.tmp, .idxS 1 (.t 1) (.t 0), .none⟩,
 ⟨.tmp, .load1 (.t 0), .none⟩,
 ⟨.tmp, .bin .eql (.t 4) (.t 0), .none⟩,
 ⟨(.var 1), .move (.t 0), .none⟩]) (
 .ret))) (
 .skip))) (
 .seq (.reg [⟨.tmp, .move (.v 0), .none⟩,
 ⟨.tmp, .move (.v 4), .none⟩,
 ⟨.tmp, .len false (.t 0), .none⟩,
 ⟨.tmp, .bin .sub (.t 2) (.t 0), .none⟩,
 ⟨(.var 7), .move (.t 0), .none⟩]) (
 .seq (.seq (.reg [⟨.tmp, .move (.v 7), .none⟩,
 ⟨.tmp, .move (.v 5), .none⟩,
 ⟨.tmp, .len false (.t 0), .none⟩,
 ⟨.tmp, .bin .mul (.t 0) (.c (.int .i64 (.ofNat 4))), .none⟩,
 ⟨.tmp, .bin .geq (.t 3) (.t 0), .none⟩]) (
 .cond (.t 0) (
 .seq (.reg [⟨(.var 1), .move (.c (.bool true)), .none⟩]) (
 .ret)) (
 .skip))) (
 .seq (.reg [⟨.tmp, .buildS 1 [[.str 0 0], [.str 0 0], [.str 0 0], [.str 0 0]] [(0, (.c (.str 1 97))), (1, (.c (.str 1 98))), (2, (.c (.str 1 120))), (3, (.c (.str 1 99)))], .none⟩,
 ⟨.tmp, .move (.v 7), .none⟩,
 ⟨.tmp, .bin .rem (.t 0) (.c (.int .i64 (.ofNat 4))), .none⟩,
 ⟨.tmp, .idxS 1 (.t 2) (.t 0), .none⟩,
 ⟨.tmp, .load1 (.t 0), .none⟩,
 ⟨(.var 8), .move (.t 0), .none⟩]) (
 .seq (.reg [⟨.tmp, .move (.v 3), .none⟩,
 ⟨.tmp, .bin .add (.t 0) (.c (.str 4 175400275)), .none⟩,
 ⟨.tmp, .move (.v 5), .none⟩,
 ⟨.tmp, .move (.v 7), .none⟩,
 ⟨.tmp, .bin .quo (.t 0) (.c (.int .i64 (.ofNat 4))), .none⟩,
 ⟨.tmp, .idxS 1 (.t 2) (.t 0), .none⟩,
 ⟨.tmp, .load1 (.t 0), .none⟩,
 ⟨.tmp, .bin .add (.t 5) (.t 0), .none⟩,
 ⟨.tmp, .bin .add (.t 0) (.c (.str 13 2554219043280987589562301708554)), .none⟩,
 ⟨.tmp, .move (.v 8), .none⟩,
 ⟨.tmp, .bin .add (.t 1) (.t 0), .none⟩,
 ⟨.tmp, .call 9 [(.t 0)], .none⟩,
 ⟨.tmp, .move (.t 0), .none⟩,
 ⟨.tmp, .ext (.t 0) 0, .none⟩,
 ⟨.tmp, .ext (.t 1) 1, .none⟩,
 ⟨(.var 9), .move (.t 1), .none⟩,
 ⟨.tmp, .move (.t 0), .none⟩]) (
 .seq (.reg [⟨.tmp, .buildS 1 [[.str 0 0], [.str 0 0], [.str 0 0], [.str 0 0], [.str 0 0], [.str 0 0], [.str 0 0]] [(0, (.c (.str 2 25185))), (1, (.c (.str 1 97))), (2, (.c (.str 1 98))), (3, (.c (.str 2 30818))), (4, (.c (.str 2 30818))), (5, (.c (.str 1 99))), (6, (.c (.str 1 97)))], .none⟩,
 ⟨.tmp, .move (.v 7), .none⟩,
 ⟨.tmp, .bin .quo (.t 0) (.c (.int .i64 (.ofNat 4))), .none⟩,
 ⟨.tmp, .idxS 1 (.t 2) (.t 0), .none⟩,
 ⟨.tmp, .load1 (.t 0), .none⟩,
 ⟨(.var 10), .move (.t 0), .none⟩]) (
 .seq (.reg [⟨(.var 11), .move (.c (.bool false)), .none⟩]) (
 .seq (.seq (.reg [⟨(.var 12), .move (.c (.int .i64 (.ofNat 0))), .none⟩]) (
 .block 0 (
 .loop b4_0))) r4_1))))))))))))),
 [.opd (.v 1)], 13, .none⟩
/-- telamon/telamonlaw16.ScopeLocals -/
def vm5 : List Nat := [9, 16, 10, 8, 1, 0, 2, 6, 13, 7, 11, 12, 15]
def b5_0 : DC :=
 .seq (.seq (.reg [⟨.tmp, .move (.v 0), .none⟩,
 ⟨.tmp, .move (.v 5), .none⟩,
 ⟨.tmp, .bin .lss (.t 1) (.t 0), .none⟩]) (
 .cond (.t 0) (
 .skip) (
 .exit 0))) (
 .seq (.block 1 (
 .seq (.reg [⟨.tmp, .move (.v 0), .none⟩,
 ⟨.tmp, .move (.v 0), .none⟩,
 ⟨.tmp, .bin .add (.t 0) (.c (.int .i64 (.ofNat 1))), .none⟩,
 ⟨.tmp, .slcStr (.c (.str 26 196808924543273351654744084199064270893917454994213902225728097)) (.some (.t 2)) (.some (.t 0)), .none⟩,
 ⟨.tmp, .bin .add (.c (.str 1 120)) (.t 0), .none⟩,
 ⟨(.var 2), .move (.t 0), .none⟩]) (
 .seq (.seq (.reg [⟨.tmp, .move (.v 6), .none⟩,
 ⟨.tmp, .move (.t 0), .none⟩,
 ⟨.tmp, .move (.v 0), .some ((.t 0), true)⟩,
 ⟨.tmp, .move (.v 4), .some ((.t 1), true)⟩,
 ⟨.tmp, .bin .gtr (.t 1) (.t 0), .some ((.t 2), true)⟩,
 ⟨.tmp, .pick (.t 3) (.t 0) (.c (.bool false)), .none⟩]) (
 .cond (.t 0) (
 .reg [⟨(.var 2), .move (.c (.str 1 95)), .none⟩]) (
 .skip))) (
 .reg [⟨.tmp, .move (.v 3), .none⟩,
 ⟨.tmp, .bin .add (.t 0) (.c (.str 2 8284)), .none⟩,
 ⟨.tmp, .move (.v 2), .none⟩,
 ⟨.tmp, .bin .add (.t 1) (.t 0), .none⟩,
 ⟨.tmp, .bin .add (.t 0) (.c (.str 4 540945696)), .none⟩,
 ⟨(.var 3), .move (.t 0), .none⟩])))) (
 .reg [⟨.tmp, .move (.v 0), .none⟩,
 ⟨.tmp, .bin .add (.t 0) (.c (.int .i64 (.ofNat 1))), .none⟩,
 ⟨(.var 0), .move (.t 0), .none⟩]))
def b5_1 : DC :=
 .seq (.seq (.reg [⟨.tmp, .fadr 0 (.v 1), .none⟩,
 ⟨.tmp, .load1 (.t 0), .none⟩,
 ⟨.tmp, .bin .eql (.t 0) (.c (.int .i64 (.ofNat 6))), .none⟩,
 ⟨.tmp, .move (.t 0), .none⟩,
 ⟨.tmp, .fadr 5 (.v 1), .some ((.t 0), true)⟩,
 ⟨.tmp, .load1 (.t 0), .some ((.t 1), true)⟩,
 ⟨.tmp, .len false (.t 0), .some ((.t 2), true)⟩,
 ⟨.tmp, .bin .eql (.t 0) (.c (.int .i64 (.ofNat 1))), .some ((.t 3), true)⟩,
 ⟨.tmp, .pick (.t 4) (.t 0) (.c (.bool false)), .none⟩]) (
 .cond (.t 0) (
 .skip) (
 .exit 2))) (
 .block 3 (
 .reg [⟨.tmp, .fadr 5 (.v 1), .none⟩,
 ⟨.tmp, .load1 (.t 0), .none⟩,
 ⟨.tmp, .idxS 7 (.t 0) (.c (.int .i64 (.ofNat 0))), .none⟩,
 ⟨.tmp, .loadN 7 (.t 0), .none⟩,
 ⟨.no, .store 7 (.v 1) (.t 0), .none⟩]))
def r5_2 : DC :=
 .seq (.reg [⟨.tmp, .fadr 0 (.v 1), .none⟩,
 ⟨.tmp, .load1 (.t 0), .none⟩,
 ⟨.tmp, .bin .eql (.t 0) (.c (.int .i64 (.ofNat 14))), .none⟩,
 ⟨.tmp, .move (.t 0), .none⟩,
 ⟨.tmp, .fadr 1 (.v 1), .some ((.t 0), true)⟩,
 ⟨.tmp, .load1 (.t 0), .some ((.t 1), true)⟩,
 ⟨.tmp, .move (.v 5), .some ((.t 2), true)⟩,
 ⟨.tmp, .bin .sub (.t 0) (.c (.int .i64 (.ofNat 1))), .some ((.t 3), true)⟩,
 ⟨.tmp, .move (.v 4), .some ((.t 4), true)⟩,
 ⟨.tmp, .bin .sub (.t 1) (.t 0), .some ((.t 5), true)⟩,
 ⟨.tmp, .bin .eql (.t 4) (.t 0), .some ((.t 6), true)⟩,
 ⟨.tmp, .pick (.t 7) (.t 0) (.c (.bool false)), .none⟩,
 ⟨(.var 7), .move (.t 0), .none⟩]) (
 .ret)
def r5_3 : DC :=
 .seq (.reg [⟨.tmp, .move (.v 3), .none⟩,
 ⟨.tmp, .bin .add (.t 0) (.c (.str 1 120)), .none⟩,
 ⟨.tmp, .move (.v 4), .none⟩,
 ⟨.tmp, .move (.v 4), .none⟩,
 ⟨.tmp, .bin .add (.t 0) (.c (.int .i64 (.ofNat 1))), .none⟩,
 ⟨.tmp, .slcStr (.c (.str 26 196808924543273351654744084199064270893917454994213902225728097)) (.some (.t 2)) (.some (.t 0)), .none⟩,
 ⟨.tmp, .bin .add (.t 4) (.t 0), .none⟩,
 ⟨.tmp, .call 10 [(.t 0)], .none⟩,
 ⟨.tmp, .move (.t 0), .none⟩,
 ⟨.tmp, .ext (.t 0) 0, .none⟩,
 ⟨.tmp, .ext (.t 1) 1, .none⟩,
 ⟨(.var 10), .move (.t 1), .none⟩,
 ⟨(.var 11), .move (.t 0), .none⟩]) (
 .seq (.reg [⟨.tmp, .move (.v 10), .none⟩,
 ⟨.tmp, .call 11 [(.t 0)], .none⟩,
 ⟨.tmp, .move (.t 0), .none⟩,
 ⟨.tmp, .ext (.t 0) 0, .none⟩,
 ⟨.tmp, .ext (.t 1) 1, .none⟩,
 ⟨.tmp, .ext (.t 2) 2, .none⟩,
 ⟨(.var 8), .move (.t 2), .none⟩,
 ⟨.tmp, .move (.t 1), .none⟩,
 ⟨(.var 12), .move (.t 1), .none⟩]) (
 .seq (.seq (.reg [⟨.tmp, .move (.v 11), .none⟩,
 ⟨.tmp, .not (.t 0), .none⟩,
 ⟨.tmp, .move (.t 0), .none⟩,
 ⟨.tmp, .move (.v 12), .some ((.t 0), false)⟩,
 ⟨.tmp, .call 12 [(.t 0)], .some ((.t 1), false)⟩,
 ⟨.tmp, .bin .neq (.t 0) (.c (.int .i64 (.ofNat 0))), .some ((.t 2), false)⟩,
 ⟨.tmp, .pick (.t 3) (.c (.bool true)) (.t 0), .none⟩,
 ⟨.tmp, .move (.t 0), .none⟩,
 ⟨.tmp, .move (.v 8), .some ((.t 0), false)⟩,
 ⟨.tmp, .len false (.t 0), .some ((.t 1), false)⟩,
 ⟨.tmp, .bin .neq (.t 0) (.c (.int .i64 (.ofNat 1))), .some ((.t 2), false)⟩,
 ⟨.tmp, .pick (.t 3) (.c (.bool true)) (.t 0), .none⟩,
 ⟨.tmp, .move (.t 0), .none⟩,
 ⟨.tmp, .move (.v 8), .some ((.t 0), false)⟩,
 ⟨.tmp, .idxS 26 (.t 0) (.c (.int .i64 (.ofNat 0))), .some ((.t 1), false)⟩,
 ⟨.tmp, .fadr 20 (.t 0), .some ((.t 2), false)⟩,
 ⟨.tmp, .load1 (.t 0), .some ((.t 3), false)⟩,
 ⟨.tmp, .len false (.t 0), .some ((.t 4), false)⟩,
 ⟨.tmp, .bin .neq (.t 0) (.c (.int .i64 (.ofNat 1))), .some ((.t 5), false)⟩,
 ⟨.tmp, .pick (.t 6) (.c (.bool true)) (.t 0), .none⟩]) (
 .cond (.t 0) (
 .seq (.reg [⟨(.var 7), .move (.c (.bool false)), .none⟩]) (
 .ret)) (
 .skip))) (
 .seq (.reg [⟨.tmp, .move (.v 8), .none⟩,
 ⟨.tmp, .idxS 26 (.t 0) (.c (.int .i64 (.ofNat 0))), .none⟩,
 ⟨.tmp, .fadr 20 (.t 0), .none⟩,
 ⟨.tmp, .load1 (.t 0), .none⟩,
 ⟨.tmp, .idxS 26 (.t 0) (.c (.int .i64 (.ofNat 0))), .none⟩,
 ⟨.tmp, .fadr 6 (.t 0), .none⟩,
 ⟨.tmp, .loadN 7 (.t 0), .none⟩,
 ⟨(.var 1), .alloc [.int .i64 (.ofNat 0), .int .i64 (.ofNat 0), .str 0 0, .bool false, .nils, .nils, .int .i64 (.ofNat 0)], .none⟩,
 ⟨.no, .store 7 (.v 1) (.t 0), .none⟩]) (
 .seq (.block 2 (
 .loop b5_1)) r5_2))))
def d5 : DF := ⟨[.some 9, .some 16, .some 10, .some 8, .some 1, .some 0, .some 2, .some 6, .some 13, .some 7, .some 11, .some 12, .some 15],
 .seq (.reg [⟨(.var 7), .move (.c (.bool false)), .none⟩]) (
 .seq (.reg [⟨.tmp, .call 8 [], .none⟩,
 ⟨(.var 9), .move (.t 0), .none⟩]) (
 .seq (.seq (.reg [⟨.tmp, .move (.v 9), .none⟩,
 ⟨.tmp, .not (.t 0), .none⟩,
 ⟨.tmp, .move (.t 0), .none⟩,
 ⟨.tmp, .move (.v 5), .some ((.t 0), false)⟩,
 ⟨.tmp, .bin .lss (.t 0) (.c (.int .i64 (.ofNat 1))), .some ((.t 1), false)⟩,
 ⟨.tmp, .pick (.t 2) (.c (.bool true)) (.t 0), .none⟩,
 ⟨.tmp, .move (.t 0), .none⟩,
 ⟨.tmp, .move (.v 5), .some ((.t 0), false)⟩,
 ⟨.tmp, .bin .gtr (.t 0) (.c (.int .i64 (.ofNat 20))), .some ((.t 1), false)⟩,
 ⟨.tmp, .pick (.t 2) (.c (.bool true)) (.t 0), .none⟩,
 ⟨.tmp, .move (.t 0), .none⟩,
 ⟨.tmp, .move (.v 4), .some ((.t 0), false)⟩,
 ⟨.tmp, .bin .lss (.t 0) (.c (.int .i64 (.ofNat 0))), .some ((.t 1), false)⟩,
 ⟨.tmp, .pick (.t 2) (.c (.bool true)) (.t 0), .none⟩,
 ⟨.tmp, .move (.t 0), .none⟩,
 ⟨.tmp, .move (.v 4), .some ((.t 0), false)⟩,
 ⟨.tmp, .move (.v 5), .some ((.t 1), false)⟩,
 ⟨.tmp, .bin .geq (.t 1) (.t 0), .some ((.t 2), false)⟩,
 ⟨.tmp, .pick (.t 3) (.c (.bool true)) (.t 0), .none⟩]) (
 .cond (.t 0) (
 .seq (.reg [⟨.tmp, .move (.v 9), .none⟩,
 ⟨(.var 7), .move (.t 0), .none⟩]) (
 .ret)) (
 .skip))) (
 .seq (.reg [⟨(.var 3), .move (.c (.str 12 9977417787328220371246260326)), .none⟩]) (
 .seq (.seq (.reg [⟨(.var 0), .move (.c (.int .i64 (.ofNat 0))), .none⟩]) (
 .block 0 (
 .loop b5_0))) r5_3)))),
 [.opd (.v 7)], 13, .none⟩
/-- telamon/telamonlaw16.ScopeClauses -/
def vm6 : List Nat := [9, 10, 8, 0, 2, 1, 16, 6, 13, 7, 17, 11, 12, 15, 18]
def b6_0 : DC :=
 .seq (.seq (.reg [⟨.tmp, .move (.v 0), .none⟩,
 ⟨.tmp, .move (.v 3), .none⟩,
 ⟨.tmp, .bin .lss (.t 1) (.t 0), .none⟩]) (
 .cond (.t 0) (
 .skip) (
 .exit 0))) (
 .seq (.block 1 (
 .seq (.reg [⟨.tmp, .move (.v 0), .none⟩,
 ⟨.tmp, .call 13 [(.t 0)], .none⟩,
 ⟨.tmp, .bin .add (.c (.str 1 118)) (.t 0), .none⟩,
 ⟨(.var 1), .move (.t 0), .none⟩]) (
 .seq (.seq (.reg [⟨.tmp, .move (.v 4), .none⟩,
 ⟨.tmp, .move (.t 0), .none⟩,
 ⟨.tmp, .move (.v 0), .some ((.t 0), true)⟩,
 ⟨.tmp, .bin .rem (.t 0) (.c (.int .i64 (.ofNat 2))), .some ((.t 1), true)⟩,
 ⟨.tmp, .bin .eql (.t 0) (.c (.int .i64 (.ofNat 1))), .some ((.t 2), true)⟩,
 ⟨.tmp, .pick (.t 3) (.t 0) (.c (.bool false)), .none⟩]) (
 .cond (.t 0) (
 .reg [⟨.tmp, .move (.v 1), .none⟩,
 ⟨.tmp, .bin .add (.c (.str 1 123)) (.t 0), .none⟩,
 ⟨.tmp, .bin .add (.t 0) (.c (.str 1 125)), .none⟩,
 ⟨(.var 1), .move (.t 0), .none⟩]) (
 .skip))) (
 .seq (.seq (.reg [⟨.tmp, .move (.v 0), .none⟩,
 ⟨.tmp, .bin .rem (.t 0) (.c (.int .i64 (.ofNat 3))), .none⟩,
 ⟨.tmp, .bin .eql (.t 0) (.c (.int .i64 (.ofNat 2))), .none⟩]) (
 .cond (.t 0) (
 .reg [⟨.tmp, .move (.v 1), .none⟩,
 ⟨.tmp, .bin .add (.c (.str 3 2121504)) (.t 0), .none⟩,
 ⟨(.var 1), .move (.t 0), .none⟩]) (
 .skip))) (
 .reg [⟨.tmp, .move (.v 2), .none⟩,
 ⟨.tmp, .bin .add (.t 0) (.c (.str 1 32)), .none⟩,
 ⟨.tmp, .move (.v 1), .none⟩,
 ⟨.tmp, .bin .add (.t 1) (.t 0), .none⟩,
 ⟨(.var 2), .move (.t 0), .none⟩]))))) (
 .reg [⟨.tmp, .move (.v 0), .none⟩,
 ⟨.tmp, .bin .add (.t 0) (.c (.int .i64 (.ofNat 1))), .none⟩,
 ⟨(.var 0), .move (.t 0), .none⟩]))
def r6_1 : DC :=
 .seq (.reg [⟨.tmp, .move (.v 2), .none⟩,
 ⟨.tmp, .bin .add (.t 0) (.c (.str 4 1981824288)), .none⟩,
 ⟨.tmp, .move (.v 5), .none⟩,
 ⟨.tmp, .call 13 [(.t 0)], .none⟩,
 ⟨.tmp, .bin .add (.t 2) (.t 0), .none⟩,
 ⟨.tmp, .call 10 [(.t 0)], .none⟩,
 ⟨.tmp, .move (.t 0), .none⟩,
 ⟨.tmp, .ext (.t 0) 0, .none⟩,
 ⟨.tmp, .ext (.t 1) 1, .none⟩,
 ⟨(.var 11), .move (.t 1), .none⟩,
 ⟨(.var 12), .move (.t 0), .none⟩]) (
 .seq (.reg [⟨.tmp, .move (.v 11), .none⟩,
 ⟨.tmp, .call 11 [(.t 0)], .none⟩,
 ⟨.tmp, .move (.t 0), .none⟩,
 ⟨.tmp, .ext (.t 0) 0, .none⟩,
 ⟨.tmp, .ext (.t 1) 1, .none⟩,
 ⟨.tmp, .ext (.t 2) 2, .none⟩,
 ⟨(.var 8), .move (.t 2), .none⟩,
 ⟨.tmp, .move (.t 1), .none⟩,
 ⟨(.var 13), .move (.t 1), .none⟩]) (
 .seq (.seq (.reg [⟨.tmp, .move (.v 12), .none⟩,
 ⟨.tmp, .not (.t 0), .none⟩,
 ⟨.tmp, .move (.t 0), .none⟩,
 ⟨.tmp, .move (.v 13), .some ((.t 0), false)⟩,
 ⟨.tmp, .call 12 [(.t 0)], .some ((.t 1), false)⟩,
 ⟨.tmp, .bin .neq (.t 0) (.c (.int .i64 (.ofNat 0))), .some ((.t 2), false)⟩,
 ⟨.tmp, .pick (.t 3) (.c (.bool true)) (.t 0), .none⟩,
 ⟨.tmp, .move (.t 0), .none⟩,
 ⟨.tmp, .move (.v 8), .some ((.t 0), false)⟩,
 ⟨.tmp, .len false (.t 0), .some ((.t 1), false)⟩,
 ⟨.tmp, .bin .neq (.t 0) (.c (.int .i64 (.ofNat 2))), .some ((.t 2), false)⟩,
 ⟨.tmp, .pick (.t 3) (.c (.bool true)) (.t 0), .none⟩,
 ⟨.tmp, .move (.t 0), .none⟩,
 ⟨.tmp, .move (.v 8), .some ((.t 0), false)⟩,
 ⟨.tmp, .idxS 26 (.t 0) (.c (.int .i64 (.ofNat 1))), .some ((.t 1), false)⟩,
 ⟨.tmp, .fadr 20 (.t 0), .some ((.t 2), false)⟩,
 ⟨.tmp, .load1 (.t 0), .some ((.t 3), false)⟩,
 ⟨.tmp, .len false (.t 0), .some ((.t 4), false)⟩,
 ⟨.tmp, .bin .neq (.t 0) (.c (.int .i64 (.ofNat 1))), .some ((.t 5), false)⟩,
 ⟨.tmp, .pick (.t 6) (.c (.bool true)) (.t 0), .none⟩]) (
 .cond (.t 0) (
 .seq (.reg [⟨(.var 7), .move (.c (.bool false)), .none⟩]) (
 .ret)) (
 .skip))) (
 .seq (.reg [⟨.tmp, .move (.v 8), .none⟩,
 ⟨.tmp, .idxS 26 (.t 0) (.c (.int .i64 (.ofNat 1))), .none⟩,
 ⟨.tmp, .fadr 20 (.t 0), .none⟩,
 ⟨.tmp, .load1 (.t 0), .none⟩,
 ⟨.tmp, .idxS 26 (.t 0) (.c (.int .i64 (.ofNat 0))), .none⟩,
 ⟨.tmp, .loadN 26 (.t 0), .none⟩,
 ⟨(.var 6), .alloc [.int .i64 (.ofNat 0), .int .i64 (.ofNat 0), .str 0 0, .str 0 0, .nils, .nils, .int .i64 (.ofNat 0), .int .i64 (.ofNat 0), .str 0 0, .bool false, .nils, .nils, .int .i64 (.ofNat 0), .int .i64 (.ofNat 0), .int .i64 (.ofNat 0), .str 0 0, .bool false, .nils, .nils, .int .i64 (.ofNat 0), .nils, .bool false, .nils, .nils, .nils, .int .i64 (.ofNat 0)], .none⟩,
 ⟨.no, .store 26 (.v 6) (.t 0), .none⟩]) (
 .seq (.reg [⟨.tmp, .move (.v 3), .none⟩,
 ⟨.tmp, .move (.v 3), .none⟩,
 ⟨.tmp, .bin .quo (.t 0) (.c (.int .i64 (.ofNat 3))), .none⟩,
 ⟨.tmp, .bin .add (.t 2) (.t 0), .none⟩,
 ⟨(.var 10), .move (.t 0), .none⟩]) (
 .seq (.reg [⟨.tmp, .move (.v 5), .none⟩,
 ⟨.tmp, .move (.v 5), .none⟩,
 ⟨.tmp, .bin .add (.t 0) (.c (.int .i64 (.ofNat 1))), .none⟩,
 ⟨.tmp, .bin .quo (.t 0) (.c (.int .i64 (.ofNat 3))), .none⟩,
 ⟨.tmp, .bin .add (.t 3) (.t 0), .none⟩,
 ⟨(.var 14), .move (.t 0), .none⟩]) (
 .seq (.reg [⟨.tmp, .fadr 1 (.v 6), .none⟩,
 ⟨.tmp, .load1 (.t 0), .none⟩,
 ⟨.tmp, .move (.v 10), .none⟩,
 ⟨.tmp, .bin .eql (.t 1) (.t 0), .none⟩,
 ⟨.tmp, .move (.t 0), .none⟩,
 ⟨.tmp, .fadr 6 (.v 6), .some ((.t 0), true)⟩,
 ⟨.tmp, .fadr 0 (.t 0), .some ((.t 1), true)⟩,
 ⟨.tmp, .load1 (.t 0), .some ((.t 2), true)⟩,
 ⟨.tmp, .bin .eql (.t 0) (.c (.int .i64 (.ofNat 14))), .some ((.t 3), true)⟩,
 ⟨.tmp, .pick (.t 4) (.t 0) (.c (.bool false)), .none⟩,
 ⟨.tmp, .move (.t 0), .none⟩,
 ⟨.tmp, .fadr 6 (.v 6), .some ((.t 0), true)⟩,
 ⟨.tmp, .fadr 1 (.t 0), .some ((.t 1), true)⟩,
 ⟨.tmp, .load1 (.t 0), .some ((.t 2), true)⟩,
 ⟨.tmp, .move (.v 10), .some ((.t 3), true)⟩,
 ⟨.tmp, .bin .sub (.t 0) (.c (.int .i64 (.ofNat 1))), .some ((.t 4), true)⟩,
 ⟨.tmp, .move (.v 14), .some ((.t 5), true)⟩,
 ⟨.tmp, .bin .sub (.t 1) (.t 0), .some ((.t 6), true)⟩,
 ⟨.tmp, .bin .eql (.t 4) (.t 0), .some ((.t 7), true)⟩,
 ⟨.tmp, .pick (.t 8) (.t 0) (.c (.bool false)), .none⟩,
 ⟨(.var 7), .move (.t 0), .none⟩]) (
 .ret)))))))
def d6 : DF := ⟨[.some 9, .some 10, .some 8, .some 0, .some 2, .some 1, .some 16, .some 6, .some 13, .some 7, .some 17, .some 11, .some 12, .some 15, .some 18],
 .seq (.reg [⟨(.var 7), .move (.c (.bool false)), .none⟩]) (
 .seq (.reg [⟨.tmp, .call 8 [], .none⟩,
 ⟨(.var 9), .move (.t 0), .none⟩]) (
 .seq (.seq (.reg [⟨.tmp, .move (.v 9), .none⟩,
 ⟨.tmp, .not (.t 0), .none⟩,
 ⟨.tmp, .move (.t 0), .none⟩,
 ⟨.tmp, .move (.v 3), .some ((.t 0), false)⟩,
 ⟨.tmp, .bin .lss (.t 0) (.c (.int .i64 (.ofNat 1))), .some ((.t 1), false)⟩,
 ⟨.tmp, .pick (.t 2) (.c (.bool true)) (.t 0), .none⟩,
 ⟨.tmp, .move (.t 0), .none⟩,
 ⟨.tmp, .move (.v 3), .some ((.t 0), false)⟩,
 ⟨.tmp, .bin .gtr (.t 0) (.c (.int .i64 (.ofNat 12))), .some ((.t 1), false)⟩,
 ⟨.tmp, .pick (.t 2) (.c (.bool true)) (.t 0), .none⟩,
 ⟨.tmp, .move (.t 0), .none⟩,
 ⟨.tmp, .move (.v 5), .some ((.t 0), false)⟩,
 ⟨.tmp, .bin .lss (.t 0) (.c (.int .i64 (.ofNat 0))), .some ((.t 1), false)⟩,
 ⟨.tmp, .pick (.t 2) (.c (.bool true)) (.t 0), .none⟩,
 ⟨.tmp, .move (.t 0), .none⟩,
 ⟨.tmp, .move (.v 5), .some ((.t 0), false)⟩,
 ⟨.tmp, .move (.v 3), .some ((.t 1), false)⟩,
 ⟨.tmp, .bin .geq (.t 1) (.t 0), .some ((.t 2), false)⟩,
 ⟨.tmp, .pick (.t 3) (.c (.bool true)) (.t 0), .none⟩]) (
 .cond (.t 0) (
 .seq (.reg [⟨.tmp, .move (.v 9), .none⟩,
 ⟨(.var 7), .move (.t 0), .none⟩]) (
 .ret)) (
 .skip))) (
 .seq (.reg [⟨(.var 2), .move (.c (.str 27 41976963658884251472130881860694280718125570450495336221273976688)), .none⟩]) (
 .seq (.seq (.reg [⟨(.var 0), .move (.c (.int .i64 (.ofNat 0))), .none⟩]) (
 .block 0 (
 .loop b6_0))) r6_1)))),
 [.opd (.v 7)], 15, .none⟩
/-- telamon/telamonlaw16.ScopeParams -/
def vm7 : List Nat := [13, 7, 14, 6, 0, 4, 10, 15, 5, 1, 8, 9, 12]
def b7_0 : DC :=
 .seq (.seq (.reg [⟨.tmp, .move (.v 1), .none⟩,
 ⟨.tmp, .move (.v 4), .none⟩,
 ⟨.tmp, .bin .lss (.t 1) (.t 0), .none⟩]) (
 .cond (.t 0) (
 .skip) (
 .exit 0))) (
 .seq (.block 1 (
 .reg [⟨.tmp, .move (.v 3), .none⟩,
 ⟨.tmp, .bin .add (.t 0) (.c (.str 3 7350304)), .none⟩,
 ⟨.tmp, .move (.v 1), .none⟩,
 ⟨.tmp, .call 13 [(.t 0)], .none⟩,
 ⟨.tmp, .bin .add (.t 2) (.t 0), .none⟩,
 ⟨.tmp, .bin .add (.t 0) (.c (.str 7 11668452580276768)), .none⟩,
 ⟨(.var 3), .move (.t 0), .none⟩])) (
 .reg [⟨.tmp, .move (.v 1), .none⟩,
 ⟨.tmp, .bin .add (.t 0) (.c (.int .i64 (.ofNat 1))), .none⟩,
 ⟨(.var 1), .move (.t 0), .none⟩]))
def b7_1 : DC :=
 .seq (.seq (.reg [⟨.tmp, .fadr 0 (.v 0), .none⟩,
 ⟨.tmp, .load1 (.t 0), .none⟩,
 ⟨.tmp, .bin .eql (.t 0) (.c (.int .i64 (.ofNat 5))), .none⟩]) (
 .cond (.t 0) (
 .skip) (
 .exit 2))) (
 .block 3 (
 .seq (.seq (.reg [⟨.tmp, .fadr 5 (.v 0), .none⟩,
 ⟨.tmp, .load1 (.t 0), .none⟩,
 ⟨.tmp, .idxS 7 (.t 0) (.c (.int .i64 (.ofNat 1))), .none⟩,
 ⟨.tmp, .fadr 0 (.t 0), .none⟩,
 ⟨.tmp, .load1 (.t 0), .none⟩,
 ⟨.tmp, .bin .neq (.t 0) (.c (.int .i64 (.ofNat 14))), .none⟩,
 ⟨.tmp, .move (.t 0), .none⟩,
 ⟨.tmp, .fadr 5 (.v 0), .some ((.t 0), false)⟩,
 ⟨.tmp, .load1 (.t 0), .some ((.t 1), false)⟩,
 ⟨.tmp, .idxS 7 (.t 0) (.c (.int .i64 (.ofNat 1))), .some ((.t 2), false)⟩,
 ⟨.tmp, .fadr 1 (.t 0), .some ((.t 3), false)⟩,
 ⟨.tmp, .load1 (.t 0), .some ((.t 4), false)⟩,
 ⟨.tmp, .move (.v 2), .some ((.t 5), false)⟩,
 ⟨.tmp, .bin .neq (.t 1) (.t 0), .some ((.t 6), false)⟩,
 ⟨.tmp, .pick (.t 7) (.c (.bool true)) (.t 0), .none⟩]) (
 .cond (.t 0) (
 .seq (.reg [⟨(.var 5), .move (.c (.bool false)), .none⟩]) (
 .ret)) (
 .skip))) (
 .seq (.reg [⟨.tmp, .move (.v 2), .none⟩,
 ⟨.tmp, .bin .add (.t 0) (.c (.int .i64 (.ofNat 1))), .none⟩,
 ⟨(.var 2), .move (.t 0), .none⟩]) (
 .reg [⟨.tmp, .fadr 5 (.v 0), .none⟩,
 ⟨.tmp, .load1 (.t 0), .none⟩,
 ⟨.tmp, .idxS 7 (.t 0) (.c (.int .i64 (.ofNat 0))), .none⟩,
 ⟨.tmp, .loadN 7 (.t 0), .none⟩,
 ⟨.no, .store 7 (.v 0) (.t 0), .none⟩]))))
def r7_2 : DC :=
 .seq (.reg [⟨.tmp, .move (.v 4), .none⟩,
 ⟨(.var 7), .move (.t 0), .none⟩]) (
 .seq (.seq (.reg [⟨.tmp, .move (.v 9), .none⟩,
 ⟨.tmp, .not (.t 0), .none⟩]) (
 .cond (.t 0) (
 .reg [⟨(.var 7), .move (.c (.int .i64 (.ofNat 0))), .none⟩]) (
 .skip))) (
 .seq (.reg [⟨.tmp, .fadr 0 (.v 0), .none⟩,
 ⟨.tmp, .load1 (.t 0), .none⟩,
 ⟨.tmp, .bin .eql (.t 0) (.c (.int .i64 (.ofNat 2))), .none⟩,
 ⟨.tmp, .move (.t 0), .none⟩,
 ⟨.tmp, .fadr 2 (.v 0), .some ((.t 0), true)⟩,
 ⟨.tmp, .load1 (.t 0), .some ((.t 1), true)⟩,
 ⟨.tmp, .bin .eql (.t 0) (.c (.str 3 6696525)), .some ((.t 2), true)⟩,
 ⟨.tmp, .pick (.t 3) (.t 0) (.c (.bool false)), .none⟩,
 ⟨.tmp, .move (.t 0), .none⟩,
 ⟨.tmp, .move (.v 2), .some ((.t 0), true)⟩,
 ⟨.tmp, .move (.v 7), .some ((.t 1), true)⟩,
 ⟨.tmp, .bin .eql (.t 1) (.t 0), .some ((.t 2), true)⟩,
 ⟨.tmp, .pick (.t 3) (.t 0) (.c (.bool false)), .none⟩,
 ⟨.tmp, .move (.t 0), .none⟩,
 ⟨.tmp, .move (.v 6), .some ((.t 0), true)⟩,
 ⟨.tmp, .idxS 26 (.t 0) (.c (.int .i64 (.ofNat 0))), .some ((.t 1), true)⟩,
 ⟨.tmp, .fadr 5 (.t 0), .some ((.t 2), true)⟩,
 ⟨.tmp, .load1 (.t 0), .some ((.t 3), true)⟩,
 ⟨.tmp, .len false (.t 0), .some ((.t 4), true)⟩,
 ⟨.tmp, .move (.v 4), .some ((.t 5), true)⟩,
 ⟨.tmp, .bin .eql (.t 1) (.t 0), .some ((.t 6), true)⟩,
 ⟨.tmp, .pick (.t 7) (.t 0) (.c (.bool false)), .none⟩,
 ⟨.tmp, .move (.t 0), .none⟩,
 ⟨.tmp, .move (.v 6), .some ((.t 0), true)⟩,
 ⟨.tmp, .idxS 26 (.t 0) (.c (.int .i64 (.ofNat 1))), .some ((.t 1), true)⟩,
 ⟨.tmp, .fadr 5 (.t 0), .some ((.t 2), true)⟩,
 ⟨.tmp, .load1 (.t 0), .some ((.t 3), true)⟩,
 ⟨.tmp, .len false (.t 0), .some ((.t 4), true)⟩,
 ⟨.tmp, .move (.v 7), .some ((.t 5), true)⟩,
 ⟨.tmp, .bin .eql (.t 1) (.t 0), .some ((.t 6), true)⟩,
 ⟨.tmp, .pick (.t 7) (.t 0) (.c (.bool false)), .none⟩,
 ⟨.tmp, .move (.t 0), .none⟩,
 ⟨.tmp, .fadr 2 (.v 0), .some ((.t 0), true)⟩,
 ⟨.tmp, .load1 (.t 0), .some ((.t 1), true)⟩,
 ⟨.tmp, .call 14 [(.t 0)], .some ((.t 2), true)⟩,
 ⟨.tmp, .not (.t 0), .some ((.t 3), true)⟩,
 ⟨.tmp, .pick (.t 4) (.t 0) (.c (.bool false)), .none⟩,
 ⟨(.var 5), .move (.t 0), .none⟩]) (
 .ret)))
def r7_3 : DC :=
 .seq (.reg [⟨.tmp, .move (.v 3), .none⟩,
 ⟨.tmp, .bin .add (.t 0) (.c (.str 27 4300802231954271544394047180376944905468006139804875826760546080)), .none⟩,
 ⟨(.var 3), .move (.t 0), .none⟩]) (
 .seq (.seq (.reg [⟨.tmp, .move (.v 9), .none⟩]) (
 .cond (.t 0) (
 .reg [⟨.tmp, .move (.v 3), .none⟩,
 ⟨.tmp, .bin .add (.t 0) (.c (.str 18 905874513426719227983055446574453565628448)), .none⟩,
 ⟨(.var 3), .move (.t 0), .none⟩]) (
 .reg [⟨.tmp, .move (.v 3), .none⟩,
 ⟨.tmp, .bin .add (.t 0) (.c (.str 16 13822833338807410528116641949783040103)), .none⟩,
 ⟨(.var 3), .move (.t 0), .none⟩]))) (
 .seq (.reg [⟨.tmp, .move (.v 3), .none⟩,
 ⟨.tmp, .call 10 [(.t 0)], .none⟩,
 ⟨.tmp, .move (.t 0), .none⟩,
 ⟨.tmp, .ext (.t 0) 0, .none⟩,
 ⟨.tmp, .ext (.t 1) 1, .none⟩,
 ⟨(.var 10), .move (.t 1), .none⟩,
 ⟨(.var 11), .move (.t 0), .none⟩]) (
 .seq (.reg [⟨.tmp, .move (.v 10), .none⟩,
 ⟨.tmp, .call 11 [(.t 0)], .none⟩,
 ⟨.tmp, .move (.t 0), .none⟩,
 ⟨.tmp, .ext (.t 0) 0, .none⟩,
 ⟨.tmp, .ext (.t 1) 1, .none⟩,
 ⟨.tmp, .ext (.t 2) 2, .none⟩,
 ⟨(.var 6), .move (.t 2), .none⟩,
 ⟨.tmp, .move (.t 1), .none⟩,
 ⟨(.var 12), .move (.t 1), .none⟩]) (
 .seq (.seq (.reg [⟨.tmp, .move (.v 11), .none⟩,
 ⟨.tmp, .not (.t 0), .none⟩,
 ⟨.tmp, .move (.t 0), .none⟩,
 ⟨.tmp, .move (.v 12), .some ((.t 0), false)⟩,
 ⟨.tmp, .call 12 [(.t 0)], .some ((.t 1), false)⟩,
 ⟨.tmp, .bin .neq (.t 0) (.c (.int .i64 (.ofNat 0))), .some ((.t 2), false)⟩,
 ⟨.tmp, .pick (.t 3) (.c (.bool true)) (.t 0), .none⟩,
 ⟨.tmp, .move (.t 0), .none⟩,
 ⟨.tmp, .move (.v 6), .some ((.t 0), false)⟩,
 ⟨.tmp, .len false (.t 0), .some ((.t 1), false)⟩,
 ⟨.tmp, .bin .neq (.t 0) (.c (.int .i64 (.ofNat 2))), .some ((.t 2), false)⟩,
 ⟨.tmp, .pick (.t 3) (.c (.bool true)) (.t 0), .none⟩,
 ⟨.tmp, .move (.t 0), .none⟩,
 ⟨.tmp, .move (.v 6), .some ((.t 0), false)⟩,
 ⟨.tmp, .idxS 26 (.t 0) (.c (.int .i64 (.ofNat 1))), .some ((.t 1), false)⟩,
 ⟨.tmp, .fadr 20 (.t 0), .some ((.t 2), false)⟩,
 ⟨.tmp, .load1 (.t 0), .some ((.t 3), false)⟩,
 ⟨.tmp, .len false (.t 0), .some ((.t 4), false)⟩,
 ⟨.tmp, .bin .neq (.t 0) (.c (.int .i64 (.ofNat 1))), .some ((.t 5), false)⟩,
 ⟨.tmp, .pick (.t 6) (.c (.bool true)) (.t 0), .none⟩]) (
 .cond (.t 0) (
 .seq (.reg [⟨(.var 5), .move (.c (.bool false)), .none⟩]) (
 .ret)) (
 .skip))) (
 .seq (.reg [⟨.tmp, .move (.v 6), .none⟩,
 ⟨.tmp, .idxS 26 (.t 0) (.c (.int .i64 (.ofNat 1))), .none⟩,
 ⟨.tmp, .fadr 20 (.t 0), .none⟩,
 ⟨.tmp, .load1 (.t 0), .none⟩,
 ⟨.tmp, .idxS 26 (.t 0) (.c (.int .i64 (.ofNat 0))), .none⟩,
 ⟨.tmp, .fadr 6 (.t 0), .none⟩,
 ⟨.tmp, .loadN 7 (.t 0), .none⟩,
 ⟨(.var 0), .alloc [.int .i64 (.ofNat 0), .int .i64 (.ofNat 0), .str 0 0, .bool false, .nils, .nils, .int .i64 (.ofNat 0)], .none⟩,
 ⟨.no, .store 7 (.v 0) (.t 0), .none⟩]) (
 .seq (.reg [⟨(.var 2), .move (.c (.int .i64 (.ofNat 0))), .none⟩]) (
 .seq (.block 2 (
 .loop b7_1)) r7_2)))))))
def d7 : DF := ⟨[.some 13, .some 7, .some 14, .some 6, .some 0, .some 4, .some 10, .some 15, .some 5, .some 1, .some 8, .some 9, .some 12],
 .seq (.reg [⟨(.var 5), .move (.c (.bool false)), .none⟩]) (
 .seq (.reg [⟨.tmp, .call 8 [], .none⟩,
 ⟨(.var 8), .move (.t 0), .none⟩]) (
 .seq (.seq (.reg [⟨.tmp, .move (.v 8), .none⟩,
 ⟨.tmp, .not (.t 0), .none⟩,
 ⟨.tmp, .move (.t 0), .none⟩,
 ⟨.tmp, .move (.v 4), .some ((.t 0), false)⟩,
 ⟨.tmp, .bin .lss (.t 0) (.c (.int .i64 (.ofNat 0))), .some ((.t 1), false)⟩,
 ⟨.tmp, .pick (.t 2) (.c (.bool true)) (.t 0), .none⟩,
 ⟨.tmp, .move (.t 0), .none⟩,
 ⟨.tmp, .move (.v 4), .some ((.t 0), false)⟩,
 ⟨.tmp, .bin .gtr (.t 0) (.c (.int .i64 (.ofNat 9))), .some ((.t 1), false)⟩,
 ⟨.tmp, .pick (.t 2) (.c (.bool true)) (.t 0), .none⟩]) (
 .cond (.t 0) (
 .seq (.reg [⟨.tmp, .move (.v 8), .none⟩,
 ⟨(.var 5), .move (.t 0), .none⟩]) (
 .ret)) (
 .skip))) (
 .seq (.reg [⟨(.var 3), .move (.c (.str 8 5557553456675581805)), .none⟩]) (
 .seq (.seq (.reg [⟨(.var 1), .move (.c (.int .i64 (.ofNat 0))), .none⟩]) (
 .block 0 (
 .loop b7_0))) r7_3)))),
 [.opd (.v 5)], 13, .none⟩
/-- telamon/telamonlaw16.alive -/
def vm8 : List Nat := [6, 3, 0, 1, 2, 5]

def d8 : DF := ⟨[.some 6, .some 3, .some 0, .some 1, .some 2, .some 5],
 .seq (.reg [⟨(.var 2), .move (.c (.bool false)), .none⟩]) (
 .seq (.reg [⟨.tmp, .call 10 [(.c (.str 75 169696455082889466868781317781110011072774057085321412885852032672731063495157458010328667306203407041540511267118769295966203573539749862648460406472357331002481481691244540489581))], .none⟩,
 ⟨.tmp, .move (.t 0), .none⟩,
 ⟨.tmp, .ext (.t 0) 0, .none⟩,
 ⟨.tmp, .ext (.t 1) 1, .none⟩,
 ⟨(.var 3), .move (.t 1), .none⟩,
 ⟨(.var 4), .move (.t 0), .none⟩]) (
 .seq (.reg [⟨.tmp, .move (.v 3), .none⟩,
 ⟨.tmp, .call 11 [(.t 0)], .none⟩,
 ⟨.tmp, .move (.t 0), .none⟩,
 ⟨.tmp, .ext (.t 0) 0, .none⟩,
 ⟨.tmp, .ext (.t 1) 1, .none⟩,
 ⟨.tmp, .ext (.t 2) 2, .none⟩,
 ⟨(.var 1), .move (.t 2), .none⟩,
 ⟨.tmp, .move (.t 1), .none⟩,
 ⟨(.var 5), .move (.t 1), .none⟩]) (
 .seq (.seq (.reg [⟨.tmp, .move (.v 4), .none⟩,
 ⟨.tmp, .not (.t 0), .none⟩,
 ⟨.tmp, .move (.t 0), .none⟩,
 ⟨.tmp, .move (.v 5), .some ((.t 0), false)⟩,
 ⟨.tmp, .call 12 [(.t 0)], .some ((.t 1), false)⟩,
 ⟨.tmp, .bin .neq (.t 0) (.c (.int .i64 (.ofNat 0))), .some ((.t 2), false)⟩,
 ⟨.tmp, .pick (.t 3) (.c (.bool true)) (.t 0), .none⟩,
 ⟨.tmp, .move (.t 0), .none⟩,
 ⟨.tmp, .move (.v 1), .some ((.t 0), false)⟩,
 ⟨.tmp, .len false (.t 0), .some ((.t 1), false)⟩,
 ⟨.tmp, .bin .neq (.t 0) (.c (.int .i64 (.ofNat 2))), .some ((.t 2), false)⟩,
 ⟨.tmp, .pick (.t 3) (.c (.bool true)) (.t 0), .none⟩,
 ⟨.tmp, .move (.t 0), .none⟩,
 ⟨.tmp, .move (.v 1), .some ((.t 0), false)⟩,
 ⟨.tmp, .idxS 26 (.t 0) (.c (.int .i64 (.ofNat 1))), .some ((.t 1), false)⟩,
 ⟨.tmp, .fadr 20 (.t 0), .some ((.t 2), false)⟩,
 ⟨.tmp, .load1 (.t 0), .some ((.t 3), false)⟩,
 ⟨.tmp, .len false (.t 0), .some ((.t 4), false)⟩,
 ⟨.tmp, .bin .neq (.t 0) (.c (.int .i64 (.ofNat 1))), .some ((.t 5), false)⟩,
 ⟨.tmp, .pick (.t 6) (.c (.bool true)) (.t 0), .none⟩]) (
 .cond (.t 0) (
 .seq (.reg [⟨(.var 2), .move (.c (.bool false)), .none⟩]) (
 .ret)) (
 .skip))) (
 .seq (.reg [⟨.tmp, .move (.v 1), .none⟩,
 ⟨.tmp, .idxS 26 (.t 0) (.c (.int .i64 (.ofNat 1))), .none⟩,
 ⟨.tmp, .fadr 20 (.t 0), .none⟩,
 ⟨.tmp, .load1 (.t 0), .none⟩,
 ⟨.tmp, .idxS 26 (.t 0) (.c (.int .i64 (.ofNat 0))), .none⟩,
 ⟨.tmp, .fadr 6 (.t 0), .none⟩,
 ⟨.tmp, .loadN 7 (.t 0), .none⟩,
 ⟨(.var 0), .alloc [.int .i64 (.ofNat 0), .int .i64 (.ofNat 0), .str 0 0, .bool false, .nils, .nils, .int .i64 (.ofNat 0)], .none⟩,
 ⟨.no, .store 7 (.v 0) (.t 0), .none⟩]) (
 .seq (.reg [⟨.tmp, .move (.v 1), .none⟩,
 ⟨.tmp, .idxS 26 (.t 0) (.c (.int .i64 (.ofNat 1))), .none⟩,
 ⟨.tmp, .fadr 2 (.t 0), .none⟩,
 ⟨.tmp, .load1 (.t 0), .none⟩,
 ⟨.tmp, .bin .eql (.t 0) (.c (.str 3 6762061)), .none⟩,
 ⟨.tmp, .move (.t 0), .none⟩,
 ⟨.tmp, .fadr 0 (.v 0), .some ((.t 0), true)⟩,
 ⟨.tmp, .load1 (.t 0), .some ((.t 1), true)⟩,
 ⟨.tmp, .bin .eql (.t 0) (.c (.int .i64 (.ofNat 5))), .some ((.t 2), true)⟩,
 ⟨.tmp, .pick (.t 3) (.t 0) (.c (.bool false)), .none⟩,
 ⟨.tmp, .move (.t 0), .none⟩,
 ⟨.tmp, .fadr 5 (.v 0), .some ((.t 0), true)⟩,
 ⟨.tmp, .load1 (.t 0), .some ((.t 1), true)⟩,
 ⟨.tmp, .idxS 7 (.t 0) (.c (.int .i64 (.ofNat 1))), .some ((.t 2), true)⟩,
 ⟨.tmp, .fadr 0 (.t 0), .some ((.t 3), true)⟩,
 ⟨.tmp, .load1 (.t 0), .some ((.t 4), true)⟩,
 ⟨.tmp, .bin .eql (.t 0) (.c (.int .i64 (.ofNat 14))), .some ((.t 5), true)⟩,
 ⟨.tmp, .pick (.t 6) (.t 0) (.c (.bool false)), .none⟩,
 ⟨.tmp, .move (.t 0), .none⟩,
 ⟨.tmp, .fadr 5 (.v 0), .some ((.t 0), true)⟩,
 ⟨.tmp, .load1 (.t 0), .some ((.t 1), true)⟩,
 ⟨.tmp, .idxS 7 (.t 0) (.c (.int .i64 (.ofNat 1))), .some ((.t 2), true)⟩,
 ⟨.tmp, .fadr 1 (.t 0), .some ((.t 3), true)⟩,
 ⟨.tmp, .load1 (.t 0), .some ((.t 4), true)⟩,
 ⟨.tmp, .bin .eql (.t 0) (.c (.int .i64 (.ofNat 0))), .some ((.t 5), true)⟩,
 ⟨.tmp, .pick (.t 6) (.t 0) (.c (.bool false)), .none⟩,
 ⟨.tmp, .move (.t 0), .none⟩,
 ⟨.tmp, .fadr 5 (.v 0), .some ((.t 0), true)⟩,
 ⟨.tmp, .load1 (.t 0), .some ((.t 1), true)⟩,
 ⟨.tmp, .idxS 7 (.t 0) (.c (.int .i64 (.ofNat 0))), .some ((.t 2), true)⟩,
 ⟨.tmp, .fadr 0 (.t 0), .some ((.t 3), true)⟩,
 ⟨.tmp, .load1 (.t 0), .some ((.t 4), true)⟩,
 ⟨.tmp, .bin .eql (.t 0) (.c (.int .i64 (.ofNat 5))), .some ((.t 5), true)⟩,
 ⟨.tmp, .pick (.t 6) (.t 0) (.c (.bool false)), .none⟩,
 ⟨.tmp, .move (.t 0), .none⟩,
 ⟨.tmp, .fadr 5 (.v 0), .some ((.t 0), true)⟩,
 ⟨.tmp, .load1 (.t 0), .some ((.t 1), true)⟩,
 ⟨.tmp, .idxS 7 (.t 0) (.c (.int .i64 (.ofNat 0))), .some ((.t 2), true)⟩,
 ⟨.tmp, .fadr 5 (.t 0), .some ((.t 3), true)⟩,
 ⟨.tmp, .load1 (.t 0), .some ((.t 4), true)⟩,
 ⟨.tmp, .idxS 7 (.t 0) (.c (.int .i64 (.ofNat 0))), .some ((.t 5), true)⟩,
 ⟨.tmp, .fadr 2 (.t 0), .some ((.t 6), true)⟩,
 ⟨.tmp, .load1 (.t 0), .some ((.t 7), true)⟩,
 ⟨.tmp, .bin .eql (.t 0) (.c (.str 3 6696525)), .some ((.t 8), true)⟩,
 ⟨.tmp, .pick (.t 9) (.t 0) (.c (.bool false)), .none⟩,
 ⟨.tmp, .move (.t 0), .none⟩,
 ⟨.tmp, .fadr 5 (.v 0), .some ((.t 0), true)⟩,
 ⟨.tmp, .load1 (.t 0), .some ((.t 1), true)⟩,
 ⟨.tmp, .idxS 7 (.t 0) (.c (.int .i64 (.ofNat 0))), .some ((.t 2), true)⟩,
 ⟨.tmp, .fadr 5 (.t 0), .some ((.t 3), true)⟩,
 ⟨.tmp, .load1 (.t 0), .some ((.t 4), true)⟩,
 ⟨.tmp, .idxS 7 (.t 0) (.c (.int .i64 (.ofNat 1))), .some ((.t 5), true)⟩,
 ⟨.tmp, .fadr 1 (.t 0), .some ((.t 6), true)⟩,
 ⟨.tmp, .load1 (.t 0), .some ((.t 7), true)⟩,
 ⟨.tmp, .bin .eql (.t 0) (.c (.int .i64 (.ofNat 1))), .some ((.t 8), true)⟩,
 ⟨.tmp, .pick (.t 9) (.t 0) (.c (.bool false)), .none⟩,
 ⟨(.var 2), .move (.t 0), .none⟩]) (
 .ret)))))),
 [.opd (.v 2)], 6, .none⟩
/-- telamon/telamonlaw16.result -/
def vm9 : List Nat := [2, 3, 4, 5, 7, 8, 0]

def d9 : DF := ⟨[.some 2, .some 3, .some 4, .some 5, .some 7, .some 8, .some 0],
 .seq (.reg [⟨(.var 0), .move (.c (.int .i64 (.ofNat 0))), .none⟩,
 ⟨(.var 1), .move (.c (.int .i64 (.ofNat 0))), .none⟩]) (
 .seq (.reg [⟨.tmp, .move (.v 6), .none⟩,
 ⟨.tmp, .call 10 [(.t 0)], .none⟩,
 ⟨.tmp, .move (.t 0), .none⟩,
 ⟨.tmp, .ext (.t 0) 0, .none⟩,
 ⟨.tmp, .ext (.t 1) 1, .none⟩,
 ⟨(.var 2), .move (.t 1), .none⟩,
 ⟨(.var 3), .move (.t 0), .none⟩]) (
 .seq (.seq (.reg [⟨.tmp, .move (.v 3), .none⟩,
 ⟨.tmp, .not (.t 0), .none⟩]) (
 .cond (.t 0) (
 .seq (.reg [⟨(.var 0), .move (.c (.int .i64 (.negSucc 0))), .none⟩,
 ⟨(.var 1), .move (.c (.int .i64 (.ofNat 0))), .none⟩]) (
 .ret)) (
 .skip))) (
 .seq (.reg [⟨.tmp, .move (.v 2), .none⟩,
 ⟨.tmp, .call 11 [(.t 0)], .none⟩,
 ⟨.tmp, .move (.t 0), .none⟩,
 ⟨.tmp, .ext (.t 0) 0, .none⟩,
 ⟨.tmp, .ext (.t 1) 1, .none⟩,
 ⟨.tmp, .ext (.t 2) 2, .none⟩,
 ⟨.tmp, .move (.t 2), .none⟩,
 ⟨(.var 4), .move (.t 2), .none⟩,
 ⟨(.var 5), .move (.t 1), .none⟩]) (
 .seq (.reg [⟨.tmp, .move (.v 5), .none⟩,
 ⟨.tmp, .call 12 [(.t 0)], .none⟩,
 ⟨.tmp, .move (.v 4), .none⟩,
 ⟨(.var 0), .move (.t 1), .none⟩,
 ⟨(.var 1), .move (.t 0), .none⟩]) (
 .ret))))),
 [.opd (.v 0), .opd (.v 1)], 7, .none⟩
/-- telamon/telamonlaw16.Fixed -/
def vm10 : List Nat := [2, 3, 4, 6, 0]

def d10 : DF := ⟨[.some 2, .some 3, .some 4, .some 6, .some 0],
 .seq (.reg [⟨(.var 0), .move (.c (.nils)), .none⟩,
 ⟨(.var 1), .move (.c (.bool false)), .none⟩]) (
 .seq (.seq (.reg [⟨.tmp, .move (.v 4), .none⟩,
 ⟨.tmp, .len true (.t 0), .none⟩,
 ⟨.tmp, .bin .gtr (.t 0) (.c (.int .i64 (.ofNat 5000))), .none⟩]) (
 .cond (.t 0) (
 .seq (.reg [⟨(.var 0), .move (.c (.nils)), .none⟩,
 ⟨(.var 1), .move (.c (.bool false)), .none⟩]) (
 .ret)) (
 .skip))) (
 .seq (.reg [⟨.tmp, .move (.v 4), .none⟩,
 ⟨.tmp, .call 15 [(.t 0)], .none⟩,
 ⟨.tmp, .move (.t 0), .none⟩,
 ⟨.tmp, .ext (.t 0) 0, .none⟩,
 ⟨.tmp, .ext (.t 1) 1, .none⟩,
 ⟨.tmp, .ext (.t 2) 2, .none⟩,
 ⟨(.var 2), .move (.t 2), .none⟩,
 ⟨.tmp, .move (.t 1), .none⟩,
 ⟨(.var 3), .move (.t 1), .none⟩]) (
 .seq (.seq (.reg [⟨.tmp, .move (.v 3), .none⟩,
 ⟨.tmp, .bin .neq (.t 0) (.c (.int .i64 (.ofNat 0))), .none⟩]) (
 .cond (.t 0) (
 .seq (.reg [⟨(.var 0), .move (.c (.nils)), .none⟩,
 ⟨(.var 1), .move (.c (.bool false)), .none⟩]) (
 .ret)) (
 .skip))) (
 .seq (.reg [⟨.tmp, .move (.v 2), .none⟩,
 ⟨.tmp, .call 16 [(.t 0)], .none⟩,
 ⟨.tmp, .move (.t 0), .none⟩,
 ⟨.tmp, .ext (.t 0) 0, .none⟩,
 ⟨.tmp, .ext (.t 1) 1, .none⟩,
 ⟨.tmp, .ext (.t 2) 2, .none⟩,
 ⟨(.var 2), .move (.t 2), .none⟩,
 ⟨(.var 3), .move (.t 0), .none⟩]) (
 .seq (.reg [⟨.tmp, .move (.v 2), .none⟩,
 ⟨.tmp, .move (.v 3), .none⟩,
 ⟨.tmp, .bin .eql (.t 0) (.c (.int .i64 (.ofNat 0))), .none⟩,
 ⟨(.var 0), .move (.t 2), .none⟩,
 ⟨(.var 1), .move (.t 0), .none⟩]) (
 .ret)))))),
 [.opd (.v 0), .opd (.v 1)], 5, .none⟩
/-- telamon/scope.Resolve -/
def vm11 : List Nat := [36, 9, 34, 5, 35, 22, 7, 20, 21, 11, 2, 3, 4, 10, 0]
def b11_0 : DC :=
 .seq (.reg [⟨.tmp, .bin .lss (.v 0) (.v 4), .none⟩]) (
 .seq (.cond (.t 0) (
 .skip) (
 .exit 2)) (
 .seq (.block 3 (
 .seq (.reg [⟨.tmp, .idxS 7 (.v 2) (.v 0), .none⟩,
 ⟨.tmp, .loadN 7 (.t 0), .none⟩,
 ⟨(.var 1), .alloc [.str 0 0, .int .i64 (.ofNat 0), .int .i64 (.ofNat 0), .bool false, .str 0 0, .nils, .nils], .none⟩,
 ⟨.no, .store 7 (.v 1) (.t 0), .none⟩]) (
 .reg [⟨.tmp, .move (.v 3), .none⟩,
 ⟨.tmp, .nilck (.t 0), .none⟩,
 ⟨.tmp, .fadr 2 (.t 0), .none⟩,
 ⟨.tmp, .load1 (.t 0), .none⟩,
 ⟨.tmp, .fadr 0 (.v 1), .none⟩,
 ⟨.tmp, .load1 (.t 0), .none⟩,
 ⟨.tmp, .build [.nilp, .bool false] [(1, 1, (.c (.bool true)))], .none⟩,
 ⟨.no, .mupd 1 (.t 3) (.t 1) (.t 0), .none⟩]))) (
 .reg [⟨.tmp, .bin .add (.v 0) (.c (.int .i64 (.ofNat 1))), .none⟩,
 ⟨(.var 0), .move (.t 0), .none⟩])))
def r11_1 : DC :=
 .reg [⟨.tmp, .bin .add (.v 5) (.c (.int .i64 (.ofNat 1))), .none⟩,
 ⟨(.var 5), .move (.t 0), .none⟩]
def b11_2 : DC :=
 .seq (.reg [⟨.tmp, .bin .lss (.v 5) (.v 8), .none⟩]) (
 .seq (.cond (.t 0) (
 .skip) (
 .exit 0)) (
 .seq (.block 1 (
 .seq (.reg [⟨.tmp, .idxS 17 (.v 7) (.v 5), .none⟩,
 ⟨.tmp, .loadN 17 (.t 0), .none⟩,
 ⟨(.var 6), .alloc [.int .i64 (.ofNat 0), .str 0 0, .int .i64 (.ofNat 0), .int .i64 (.ofNat 0), .int .i64 (.ofNat 0), .bool false, .str 0 0, .nils, .nils, .int .i64 (.ofNat 0), .int .i64 (.ofNat 0), .bool false, .str 0 0, .nils, .nils, .int .i64 (.ofNat 0), .nils], .none⟩,
 ⟨.no, .store 17 (.v 6) (.t 0), .none⟩]) (
 .seq (.reg [⟨.tmp, .move (.v 3), .none⟩,
 ⟨.tmp, .nilck (.t 0), .none⟩,
 ⟨.tmp, .fadr 2 (.t 0), .none⟩,
 ⟨.tmp, .load1 (.t 0), .none⟩,
 ⟨.tmp, .fadr 1 (.v 6), .none⟩,
 ⟨.tmp, .load1 (.t 0), .none⟩,
 ⟨.tmp, .build [.nilp, .bool false] [], .none⟩,
 ⟨.no, .mupd 1 (.t 3) (.t 1) (.t 0), .none⟩]) (
 .seq (.reg [⟨.tmp, .fadr 16 (.v 6), .none⟩,
 ⟨(.var 2), .load1 (.t 0), .none⟩,
 ⟨(.var 4), .len false (.v 2), .none⟩,
 ⟨(.var 0), .move (.c (.int .i64 (.ofNat 0))), .none⟩]) (
 .block 2 (
 .loop b11_0)))))) r11_1))
def r11_3 : DC :=
 .seq (.seq (.reg [⟨.tmp, .move (.v 3), .none⟩,
 ⟨.tmp, .move (.v 14), .none⟩,
 ⟨.tmp, .call 20 [(.t 0)], .none⟩,
 ⟨.tmp, .call 19 [(.t 2), (.t 0)], .none⟩,
 ⟨(.var 13), .move (.t 0), .none⟩]) (
 .seq (.reg [⟨.tmp, .move (.v 13), .none⟩,
 ⟨.tmp, .binN true 0 (.t 0), .none⟩]) (
 .cond (.t 0) (
 .seq (.reg [⟨(.var 9), .alloc [.int .i64 (.ofNat 0), .int .i64 (.ofNat 0)], .none⟩]) (
 .seq (.reg [⟨.tmp, .move (.v 13), .none⟩,
 ⟨.tmp, .mkif 77 (.v 9), .none⟩,
 ⟨.tmp, .call 21 [(.t 1), (.t 0)], .none⟩]) (
 .seq (.reg [⟨.tmp, .fadr 0 (.v 9), .none⟩,
 ⟨.tmp, .load1 (.t 0), .none⟩,
 ⟨.tmp, .fadr 1 (.v 9), .none⟩,
 ⟨.tmp, .load1 (.t 0), .none⟩,
 ⟨(.var 10), .move (.c (.nils)), .none⟩,
 ⟨(.var 11), .move (.t 2), .none⟩,
 ⟨(.var 12), .move (.t 0), .none⟩]) (
 .ret)))) (
 .skip)))) (
 .seq (.reg [⟨.tmp, .move (.v 3), .none⟩,
 ⟨.tmp, .nilck (.t 0), .none⟩,
 ⟨.tmp, .fadr 4 (.t 0), .none⟩,
 ⟨.tmp, .load1 (.t 0), .none⟩,
 ⟨.tmp, .call 20 [(.t 0)], .none⟩,
 ⟨(.var 10), .move (.t 0), .none⟩,
 ⟨(.var 11), .move (.c (.int .i64 (.ofNat 0))), .none⟩,
 ⟨(.var 12), .move (.c (.int .i64 (.ofNat 0))), .none⟩]) (
 .ret))
def d11 : DF := ⟨[.some 36, .some 9, .some 34, .some 5, .some 35, .some 22, .some 7, .some 20, .some 21, .some 11, .some 2, .some 3, .some 4, .some 10, .some 0],
 .seq (.reg [⟨(.var 10), .move (.c (.nils)), .none⟩,
 ⟨(.var 11), .move (.c (.int .i64 (.ofNat 0))), .none⟩,
 ⟨(.var 12), .move (.c (.int .i64 (.ofNat 0))), .none⟩]) (
 .seq (.reg [⟨.tmp, .mkmap, .none⟩,
 ⟨.tmp, .build [.nilp, .nils, .nilm, .bool false, .nils] [(2, 1, (.t 0))], .none⟩,
 ⟨.tmp, .box 5 (.t 0), .none⟩,
 ⟨(.var 3), .move (.t 0), .none⟩]) (
 .seq (.reg [⟨.tmp, .move (.v 3), .none⟩,
 ⟨.tmp, .call 17 [(.c (.str 0 0)), (.c (.nilp)), (.c (.int .i64 (.ofNat 0)))], .none⟩,
 ⟨.tmp, .nilck (.t 1), .none⟩,
 ⟨.tmp, .fadr 0 (.t 0), .none⟩,
 ⟨.tmp, .fadr 0 (.t 0), .none⟩,
 ⟨.no, .store 1 (.t 0) (.t 3), .none⟩]) (
 .seq (.seq (.reg [⟨(.var 7), .call 18 [], .none⟩,
 ⟨(.var 8), .len false (.v 7), .none⟩,
 ⟨(.var 5), .move (.c (.int .i64 (.ofNat 0))), .none⟩]) (
 .block 0 (
 .loop b11_2))) r11_3))),
 [.opd (.v 10), .opd (.v 11), .opd (.v 12)], 15, .none⟩
/-- telamon/telamonlaw16.num -/
def vm12 : List Nat := [2, 0]

def d12 : DF := ⟨[.some 2, .some 0],
 .seq (.reg [⟨(.var 0), .move (.c (.int .i64 (.ofNat 0))), .none⟩]) (
 .seq (.reg [⟨.tmp, .move (.v 1), .none⟩,
 ⟨(.var 0), .move (.t 0), .none⟩]) (
 .ret)),
 [.opd (.v 0)], 2, .none⟩
/-- telamon/telamonref1.Digits -/
def vm13 : List Nat := [0, 2, 3]

def d13 : DF := ⟨[.some 0, .some 2, .some 3],
 .seq (.reg [⟨(.var 1), .move (.c (.str 0 0)), .none⟩]) (
 .seq (.reg [⟨.tmp, .move (.v 0), .none⟩,
 ⟨.tmp, .bin .rem (.t 0) (.c (.int .i64 (.ofNat 10))), .none⟩,
 ⟨.tmp, .move (.v 0), .none⟩,
 ⟨.tmp, .bin .rem (.t 0) (.c (.int .i64 (.ofNat 10))), .none⟩,
 ⟨.tmp, .bin .add (.t 0) (.c (.int .i64 (.ofNat 1))), .none⟩,
 ⟨.tmp, .slcStr (.c (.str 10 270211885617516653982000)) (.some (.t 3)) (.some (.t 0)), .none⟩,
 ⟨(.var 2), .move (.t 0), .none⟩]) (
 .seq (.seq (.reg [⟨.tmp, .move (.v 0), .none⟩,
 ⟨.tmp, .bin .gtr (.t 0) (.c (.int .i64 (.ofNat 9))), .none⟩]) (
 .cond (.t 0) (
 .seq (.reg [⟨.tmp, .move (.v 0), .none⟩,
 ⟨.tmp, .bin .quo (.t 0) (.c (.int .i64 (.ofNat 10))), .none⟩,
 ⟨.tmp, .call 13 [(.t 0)], .none⟩,
 ⟨.tmp, .move (.v 2), .none⟩,
 ⟨.tmp, .bin .add (.t 1) (.t 0), .none⟩,
 ⟨(.var 1), .move (.t 0), .none⟩]) (
 .ret)) (
 .skip))) (
 .seq (.reg [⟨.tmp, .move (.v 2), .none⟩,
 ⟨(.var 1), .move (.t 0), .none⟩]) (
 .ret)))),
 [.opd (.v 1)], 3, .none⟩
/-- telamon/telamonref12.Word -/
def vm14 : List Nat := [4, 3, 2, 0]

def d14 : DF := ⟨[.some 4, .some 3, .some 2, .some 0],
 .seq (.reg [⟨(.var 2), .move (.c (.bool false)), .none⟩]) (
 .seq (.seq (.reg [⟨(.var 1), .move (.v 3), .none⟩]) (
 .block 0 (
 .seq (.seq (.reg [⟨.tmp, .bin .eql (.v 1) (.c (.str 6 111516500389741)), .none⟩,
 ⟨(.var 0), .move (.t 0), .none⟩]) (
 .cond (.v 0) (
 .skip) (
 .seq (.reg [⟨.tmp, .bin .eql (.v 1) (.c (.str 5 435710945399)), .none⟩,
 ⟨(.var 0), .move (.t 0), .none⟩]) (
 .cond (.v 0) (
 .skip) (
 .seq (.reg [⟨.tmp, .bin .eql (.v 1) (.c (.str 4 1635017060)), .none⟩,
 ⟨(.var 0), .move (.t 0), .none⟩]) (
 .cond (.v 0) (
 .skip) (
 .seq (.reg [⟨.tmp, .bin .eql (.v 1) (.c (.str 3 7628140)), .none⟩,
 ⟨(.var 0), .move (.t 0), .none⟩]) (
 .cond (.v 0) (
 .skip) (
 .seq (.reg [⟨.tmp, .bin .eql (.v 1) (.c (.str 2 28265)), .none⟩,
 ⟨(.var 0), .move (.t 0), .none⟩]) (
 .cond (.v 0) (
 .skip) (
 .seq (.reg [⟨.tmp, .bin .eql (.v 1) (.c (.str 4 1852141679)), .none⟩,
 ⟨(.var 0), .move (.t 0), .none⟩]) (
 .cond (.v 0) (
 .skip) (
 .seq (.reg [⟨.tmp, .bin .eql (.v 1) (.c (.str 5 444234036085)), .none⟩,
 ⟨(.var 0), .move (.t 0), .none⟩]) (
 .cond (.v 0) (
 .skip) (
 .seq (.reg [⟨.tmp, .bin .eql (.v 1) (.c (.str 6 113723912251752)), .none⟩,
 ⟨(.var 0), .move (.t 0), .none⟩]) (
 .cond (.v 0) (
 .skip) (
 .seq (.reg [⟨.tmp, .bin .eql (.v 1) (.c (.str 8 7453010351851726194)), .none⟩,
 ⟨(.var 0), .move (.t 0), .none⟩]) (
 .cond (.v 0) (
 .skip) (
 .seq (.reg [⟨.tmp, .bin .eql (.v 1) (.c (.str 2 28532)), .none⟩,
 ⟨(.var 0), .move (.t 0), .none⟩]) (
 .cond (.v 0) (
 .skip) (
 .seq (.reg [⟨.tmp, .bin .eql (.v 1) (.c (.str 7 28556934595048048)), .none⟩,
 ⟨(.var 0), .move (.t 0), .none⟩]) (
 .cond (.v 0) (
 .skip) (
 .seq (.reg [⟨.tmp, .bin .eql (.v 1) (.c (.str 9 1871507254677525983088)), .none⟩,
 ⟨(.var 0), .move (.t 0), .none⟩]) (
 .cond (.v 0) (
 .skip) (
 .seq (.reg [⟨.tmp, .bin .eql (.v 1) (.c (.str 5 517164396137)), .none⟩,
 ⟨(.var 0), .move (.t 0), .none⟩]) (
 .cond (.v 0) (
 .skip) (
 .seq (.reg [⟨.tmp, .bin .eql (.v 1) (.c (.str 6 119264420195945)), .none⟩,
 ⟨(.var 0), .move (.t 0), .none⟩]) (
 .cond (.v 0) (
 .skip) (
 .seq (.reg [⟨.tmp, .bin .eql (.v 1) (.c (.str 6 125861489962601)), .none⟩,
 ⟨(.var 0), .move (.t 0), .none⟩]) (
 .cond (.v 0) (
 .skip) (
 .seq (.reg [⟨.tmp, .bin .eql (.v 1) (.c (.str 3 7628115)), .none⟩,
 ⟨(.var 0), .move (.t 0), .none⟩]) (
 .cond (.v 0) (
 .skip) (
 .seq (.reg [⟨.tmp, .bin .eql (.v 1) (.c (.str 3 7631718)), .none⟩,
 ⟨(.var 0), .move (.t 0), .none⟩]) (
 .cond (.v 0) (
 .skip) (
 .seq (.reg [⟨.tmp, .bin .eql (.v 1) (.c (.str 3 6581875)), .none⟩,
 ⟨(.var 0), .move (.t 0), .none⟩]) (
 .cond (.v 0) (
 .skip) (
 .seq (.reg [⟨.tmp, .bin .eql (.v 1) (.c (.str 1 58)), .none⟩,
 ⟨(.var 0), .move (.t 0), .none⟩]) (
 .cond (.v 0) (
 .skip) (
 .seq (.reg [⟨.tmp, .bin .eql (.v 1) (.c (.str 1 61)), .none⟩,
 ⟨(.var 0), .move (.t 0), .none⟩]) (
 .cond (.v 0) (
 .skip) (
 .seq (.reg [⟨.tmp, .bin .eql (.v 1) (.c (.str 2 15917)), .none⟩,
 ⟨(.var 0), .move (.t 0), .none⟩]) (
 .cond (.v 0) (
 .skip) (
 .seq (.reg [⟨.tmp, .bin .eql (.v 1) (.c (.str 1 92)), .none⟩,
 ⟨(.var 0), .move (.t 0), .none⟩]) (
 .cond (.v 0) (
 .skip) (
 .seq (.reg [⟨.tmp, .bin .eql (.v 1) (.c (.str 2 10794)), .none⟩,
 ⟨(.var 0), .move (.t 0), .none⟩]) (
 .cond (.v 0) (
 .skip) (
 .seq (.reg [⟨.tmp, .bin .eql (.v 1) (.c (.str 1 95)), .none⟩,
 ⟨(.var 0), .move (.t 0), .none⟩]) (
 .cond (.v 0) (
 .skip) (
 .seq (.reg [⟨.tmp, .bin .eql (.v 1) (.c (.str 3 9602786)), .none⟩,
 ⟨(.var 0), .move (.t 0), .none⟩]) (
 .cond (.v 0) (
 .skip) (
 .reg [⟨.tmp, .bin .eql (.v 1) (.c (.str 2 48078)), .none⟩,
 ⟨(.var 0), .move (.t 0), .none⟩]))))))))))))))))))))))))))))))))))))))))))))))))))) (
 .cond (.v 0) (
 .seq (.reg [⟨(.var 2), .move (.c (.bool true)), .none⟩]) (
 .ret)) (
 .skip))))) (
 .seq (.reg [⟨(.var 2), .move (.c (.bool false)), .none⟩]) (
 .ret))),
 [.opd (.v 2)], 4, .none⟩
/-- telamon/telamonref12.Parse -/
def vm15 : List Nat := [8, 7, 2, 3, 4, 5, 6, 9, 0]

def d15 : DF := ⟨[.some 8, .some 7, .some 2, .some 3, .some 4, .some 5, .some 6, .some 9, .some 0],
 .seq (.reg [⟨(.var 2), .move (.c (.nils)), .none⟩,
 ⟨(.var 3), .move (.c (.int .i64 (.ofNat 0))), .none⟩,
 ⟨(.var 4), .move (.c (.int .i64 (.ofNat 0))), .none⟩]) (
 .seq (.reg [⟨.tmp, .move (.v 8), .none⟩,
 ⟨.tmp, .call 22 [(.t 0)], .none⟩,
 ⟨.tmp, .move (.t 0), .none⟩,
 ⟨.tmp, .ext (.t 0) 0, .none⟩,
 ⟨.tmp, .ext (.t 1) 1, .none⟩,
 ⟨.tmp, .ext (.t 2) 2, .none⟩,
 ⟨(.var 5), .move (.t 2), .none⟩,
 ⟨(.var 6), .move (.t 1), .none⟩,
 ⟨(.var 1), .move (.t 0), .none⟩]) (
 .seq (.seq (.reg [⟨.tmp, .move (.v 1), .none⟩,
 ⟨.tmp, .bin .neq (.t 0) (.c (.int .i64 (.ofNat 0))), .none⟩]) (
 .cond (.t 0) (
 .seq (.reg [⟨.tmp, .move (.v 6), .none⟩,
 ⟨.tmp, .move (.v 1), .none⟩,
 ⟨(.var 2), .move (.c (.nils)), .none⟩,
 ⟨(.var 3), .move (.t 1), .none⟩,
 ⟨(.var 4), .move (.t 0), .none⟩]) (
 .ret)) (
 .skip))) (
 .seq (.reg [⟨.tmp, .move (.v 5), .none⟩,
 ⟨.tmp, .call 23 [(.t 0)], .none⟩,
 ⟨.tmp, .move (.t 0), .none⟩,
 ⟨.tmp, .ext (.t 0) 0, .none⟩,
 ⟨.tmp, .ext (.t 1) 1, .none⟩,
 ⟨.tmp, .ext (.t 2) 2, .none⟩,
 ⟨(.var 5), .move (.t 2), .none⟩,
 ⟨(.var 6), .move (.t 1), .none⟩,
 ⟨(.var 1), .move (.t 0), .none⟩]) (
 .seq (.seq (.reg [⟨.tmp, .move (.v 1), .none⟩,
 ⟨.tmp, .bin .neq (.t 0) (.c (.int .i64 (.ofNat 0))), .none⟩]) (
 .cond (.t 0) (
 .seq (.reg [⟨.tmp, .move (.v 6), .none⟩,
 ⟨.tmp, .move (.v 1), .none⟩,
 ⟨(.var 2), .move (.c (.nils)), .none⟩,
 ⟨(.var 3), .move (.t 1), .none⟩,
 ⟨(.var 4), .move (.t 0), .none⟩]) (
 .ret)) (
 .skip))) (
 .seq (.reg [⟨.tmp, .move (.v 5), .none⟩,
 ⟨.tmp, .build [.nils, .int .i64 (.ofNat 0), .int .i64 (.ofNat 0), .int .i64 (.ofNat 0), .int .i64 (.ofNat 0)] [(0, 1, (.t 0))], .none⟩,
 ⟨.tmp, .box 5 (.t 0), .none⟩,
 ⟨(.var 0), .move (.t 0), .none⟩]) (
 .seq (.reg [⟨.tmp, .move (.v 0), .none⟩,
 ⟨.tmp, .call 24 [(.t 0), (.c (.int .i64 (.ofNat 4)))], .none⟩]) (
 .seq (.reg [⟨.tmp, .move (.v 0), .none⟩,
 ⟨.tmp, .call 25 [(.t 0)], .none⟩,
 ⟨(.var 7), .move (.t 0), .none⟩]) (
 .seq (.reg [⟨.tmp, .move (.v 0), .none⟩,
 ⟨.tmp, .call 24 [(.t 0), (.c (.int .i64 (.ofNat 5)))], .none⟩]) (
 .seq (.reg [⟨.tmp, .move (.v 0), .none⟩,
 ⟨.tmp, .call 24 [(.t 0), (.c (.int .i64 (.ofNat 7)))], .none⟩]) (
 .seq (.seq (.reg [⟨.tmp, .move (.v 0), .none⟩,
 ⟨.tmp, .nilck (.t 0), .none⟩,
 ⟨.tmp, .fadr 2 (.t 0), .none⟩,
 ⟨.tmp, .load1 (.t 0), .none⟩,
 ⟨.tmp, .bin .neq (.t 0) (.c (.int .i64 (.ofNat 0))), .none⟩]) (
 .cond (.t 0) (
 .seq (.reg [⟨.tmp, .move (.v 0), .none⟩,
 ⟨.tmp, .nilck (.t 0), .none⟩,
 ⟨.tmp, .fadr 3 (.t 0), .none⟩,
 ⟨.tmp, .load1 (.t 0), .none⟩,
 ⟨.tmp, .move (.v 0), .none⟩,
 ⟨.tmp, .nilck (.t 0), .none⟩,
 ⟨.tmp, .fadr 2 (.t 0), .none⟩,
 ⟨.tmp, .load1 (.t 0), .none⟩,
 ⟨(.var 2), .move (.c (.nils)), .none⟩,
 ⟨(.var 3), .move (.t 4), .none⟩,
 ⟨(.var 4), .move (.t 0), .none⟩]) (
 .ret)) (
 .skip))) (
 .seq (.reg [⟨.tmp, .move (.v 7), .none⟩,
 ⟨(.var 2), .move (.t 0), .none⟩,
 ⟨(.var 3), .move (.c (.int .i64 (.ofNat 0))), .none⟩,
 ⟨(.var 4), .move (.c (.int .i64 (.ofNat 0))), .none⟩]) (
 .ret)))))))))))),
 [.opd (.v 2), .opd (.v 3), .opd (.v 4)], 9, .none⟩
/-- telamon/telamonref12.Fix -/
def vm16 : List Nat := [8, 2, 3, 4, 7, 0, 5, 6, 9]

def d16 : DF := ⟨[.some 8, .some 2, .some 3, .some 4, .some 7, .some 0, .some 5, .some 6, .some 9],
 .seq (.reg [⟨(.var 1), .move (.c (.nils)), .none⟩,
 ⟨(.var 2), .move (.c (.int .i64 (.ofNat 0))), .none⟩,
 ⟨(.var 3), .move (.c (.int .i64 (.ofNat 0))), .none⟩]) (
 .seq (.reg [⟨.tmp, .move (.v 5), .none⟩,
 ⟨.tmp, .call 26 [(.t 0)], .none⟩,
 ⟨.tmp, .move (.t 0), .none⟩,
 ⟨.tmp, .ext (.t 0) 0, .none⟩,
 ⟨.tmp, .ext (.t 1) 1, .none⟩,
 ⟨.tmp, .ext (.t 2) 2, .none⟩,
 ⟨(.var 6), .move (.t 2), .none⟩,
 ⟨(.var 7), .move (.t 1), .none⟩,
 ⟨(.var 4), .move (.t 0), .none⟩]) (
 .seq (.seq (.reg [⟨.tmp, .move (.v 4), .none⟩,
 ⟨.tmp, .bin .neq (.t 0) (.c (.int .i64 (.ofNat 0))), .none⟩]) (
 .cond (.t 0) (
 .seq (.reg [⟨.tmp, .move (.v 7), .none⟩,
 ⟨.tmp, .move (.v 4), .none⟩,
 ⟨(.var 1), .move (.c (.nils)), .none⟩,
 ⟨(.var 2), .move (.t 1), .none⟩,
 ⟨(.var 3), .move (.t 0), .none⟩]) (
 .ret)) (
 .skip))) (
 .seq (.reg [⟨.tmp, .move (.v 6), .none⟩,
 ⟨.tmp, .build [.nils, .int .i64 (.ofNat 0), .int .i64 (.ofNat 0)] [(0, 1, (.t 0))], .none⟩,
 ⟨.tmp, .box 3 (.t 0), .none⟩,
 ⟨(.var 0), .move (.t 0), .none⟩]) (
 .seq (.reg [⟨.tmp, .move (.v 0), .none⟩,
 ⟨.tmp, .move (.v 5), .none⟩,
 ⟨.tmp, .call 27 [(.t 1), (.t 0)], .none⟩,
 ⟨(.var 8), .move (.t 0), .none⟩]) (
 .seq (.seq (.reg [⟨.tmp, .move (.v 0), .none⟩,
 ⟨.tmp, .nilck (.t 0), .none⟩,
 ⟨.tmp, .fadr 1 (.t 0), .none⟩,
 ⟨.tmp, .load1 (.t 0), .none⟩,
 ⟨.tmp, .bin .neq (.t 0) (.c (.int .i64 (.ofNat 0))), .none⟩]) (
 .cond (.t 0) (
 .seq (.reg [⟨.tmp, .move (.v 0), .none⟩,
 ⟨.tmp, .nilck (.t 0), .none⟩,
 ⟨.tmp, .fadr 2 (.t 0), .none⟩,
 ⟨.tmp, .load1 (.t 0), .none⟩,
 ⟨.tmp, .move (.v 0), .none⟩,
 ⟨.tmp, .nilck (.t 0), .none⟩,
 ⟨.tmp, .fadr 1 (.t 0), .none⟩,
 ⟨.tmp, .load1 (.t 0), .none⟩,
 ⟨(.var 1), .move (.c (.nils)), .none⟩,
 ⟨(.var 2), .move (.t 4), .none⟩,
 ⟨(.var 3), .move (.t 0), .none⟩]) (
 .ret)) (
 .skip))) (
 .seq (.reg [⟨.tmp, .move (.v 8), .none⟩,
 ⟨(.var 1), .move (.t 0), .none⟩,
 ⟨(.var 2), .move (.c (.int .i64 (.ofNat 0))), .none⟩,
 ⟨(.var 3), .move (.c (.int .i64 (.ofNat 0))), .none⟩]) (
 .ret))))))),
 [.opd (.v 1), .opd (.v 2), .opd (.v 3)], 9, .none⟩
/-- telamon/scope.made -/
def vm17 : List Nat := [6, 0, 1, 2]

def d17 : DF := ⟨[.some 6, .some 0, .some 1, .some 2],
 .seq (.reg [⟨(.var 0), .move (.c (.nilp)), .none⟩]) (
 .seq (.reg [⟨.tmp, .mkmap, .none⟩,
 ⟨.tmp, .mkmap, .none⟩,
 ⟨.tmp, .mkmap, .none⟩,
 ⟨.tmp, .build [.nilm, .nilm, .nilm] [(0, 1, (.t 2)), (1, 1, (.t 1)), (2, 1, (.t 0))], .none⟩,
 ⟨.tmp, .move (.v 1), .none⟩,
 ⟨.tmp, .move (.v 2), .none⟩,
 ⟨.tmp, .move (.v 3), .none⟩,
 ⟨.tmp, .build [.nilm, .nilm, .nilm, .str 0 0, .nilp, .nils, .int .i64 (.ofNat 0), .bool false] [(0, 3, (.t 3)), (3, 1, (.t 2)), (4, 1, (.t 1)), (6, 1, (.t 0))], .none⟩,
 ⟨.tmp, .box 8 (.t 0), .none⟩,
 ⟨(.var 0), .move (.t 0), .none⟩]) (
 .ret)),
 [.opd (.v 0)], 4, .none⟩
/-- telamon/prelude.Decls -/
def vm18 : List Nat := [2, 1, 4, 0]

def d18 : DF := ⟨[.some 2, .some 1, .some 4, .some 0, .none],
 .seq (.reg [⟨(.var 3), .move (.c (.nils)), .none⟩]) (
 .seq (.reg [⟨(.var 1), .alloc [.nils], .none⟩]) (
 .seq (.seq (.reg [⟨.tmp, .call 28 [], .none⟩]) (
 .block 0 (
 .rngF (.t 0) 1018 4 57))) (
 .seq (.reg [⟨.tmp, .load1 (.v 1), .none⟩,
 ⟨(.var 3), .move (.t 0), .none⟩]) (
 .ret)))),
 [.opd (.v 3)], 4, .none⟩

def d1018 : DF := ⟨[.some 2, .some 3, .some 1, .some 5],
 .seq (.reg [⟨(.var 0), .alloc [.int .i64 (.ofNat 0), .str 0 0, .int .i64 (.ofNat 0), .int .i64 (.ofNat 0), .int .i64 (.ofNat 0), .bool false, .str 0 0, .nils, .nils, .int .i64 (.ofNat 0), .int .i64 (.ofNat 0), .bool false, .str 0 0, .nils, .nils, .int .i64 (.ofNat 0), .nils], .none⟩,
 ⟨.no, .store 17 (.v 0) (.v 2), .none⟩]) (
 .block 1 (
 .reg [⟨.tmp, .load1 (.v 1), .none⟩,
 ⟨.tmp, .loadN 17 (.v 0), .none⟩,
 ⟨.tmp, .buildS 17 [[.int .i64 (.ofNat 0), .str 0 0, .int .i64 (.ofNat 0), .int .i64 (.ofNat 0), .int .i64 (.ofNat 0), .bool false, .str 0 0, .nils, .nils, .int .i64 (.ofNat 0), .int .i64 (.ofNat 0), .bool false, .str 0 0, .nils, .nils, .int .i64 (.ofNat 0), .nils]] [(0, (.t 0))], .none⟩,
 ⟨.tmp, .append 17 240 (.t 2) (.t 0), .none⟩,
 ⟨.no, .store 1 (.v 1) (.t 0), .none⟩])),
 [], 4, .some 1⟩
/-- (*telamon/scope.resolver).items -/
def vm19 : List Nat := [1, 7, 8, 0, 6, 4, 5]
def b19_0 : DC :=
 .seq (.seq (.reg [⟨.tmp, .move (.v 0), .none⟩,
 ⟨.tmp, .len false (.t 0), .none⟩,
 ⟨.tmp, .bin .gtr (.t 0) (.c (.int .i64 (.ofNat 0))), .none⟩]) (
 .cond (.t 0) (
 .skip) (
 .exit 0))) (
 .block 1 (
 .seq (.reg [⟨(.var 4), .move (.c (.int .i64 (.ofNat 1))), .none⟩,
 ⟨(.var 1), .move (.c (.nili)), .none⟩]) (
 .seq (.seq (.reg [⟨.tmp, .move (.v 0), .none⟩,
 ⟨.tmp, .idxS 26 (.t 0) (.c (.int .i64 (.ofNat 0))), .none⟩,
 ⟨.tmp, .fadr 0 (.t 0), .none⟩,
 ⟨.tmp, .load1 (.t 0), .none⟩,
 ⟨(.var 2), .move (.t 0), .none⟩]) (
 .block 2 (
 .seq (.reg [⟨.tmp, .move (.v 2), .none⟩,
 ⟨.tmp, .bin .eql (.t 0) (.c (.int .i64 (.ofNat 1))), .none⟩,
 ⟨.tmp, .move (.t 0), .none⟩]) (
 .cond (.t 0) (
 .reg [⟨.tmp, .move (.v 3), .none⟩,
 ⟨.tmp, .move (.v 0), .none⟩,
 ⟨.tmp, .call 36 [(.t 1), (.t 0)], .none⟩,
 ⟨.tmp, .move (.t 0), .none⟩,
 ⟨.tmp, .ext (.t 0) 0, .none⟩,
 ⟨.tmp, .ext (.t 1) 1, .none⟩,
 ⟨(.var 4), .move (.t 1), .none⟩,
 ⟨(.var 1), .move (.t 0), .none⟩]) (
 .seq (.reg [⟨.tmp, .move (.v 2), .none⟩,
 ⟨.tmp, .bin .gtr (.t 0) (.c (.int .i64 (.ofNat 0))), .none⟩,
 ⟨.tmp, .move (.t 0), .none⟩,
 ⟨.tmp, .move (.v 2), .some ((.t 0), true)⟩,
 ⟨.tmp, .bin .lss (.t 0) (.c (.int .i64 (.ofNat 10))), .some ((.t 1), true)⟩,
 ⟨.tmp, .pick (.t 2) (.t 0) (.c (.bool false)), .none⟩,
 ⟨.tmp, .move (.t 0), .none⟩]) (
 .cond (.t 0) (
 .reg [⟨.tmp, .move (.v 2), .none⟩,
 ⟨.tmp, .idxA 10 1 (.v 6) (.t 0), .none⟩,
 ⟨.tmp, .load1 (.t 0), .none⟩,
 ⟨.tmp, .move (.v 0), .none⟩,
 ⟨.tmp, .idxS 26 (.t 0) (.c (.int .i64 (.ofNat 0))), .none⟩,
 ⟨.tmp, .loadN 26 (.t 0), .none⟩,
 ⟨.tmp, .callv (.t 3) [(.t 0)], .none⟩,
 ⟨(.var 1), .move (.t 0), .none⟩]) (
 .reg [⟨.tmp, .move (.v 3), .none⟩,
 ⟨.tmp, .move (.v 0), .none⟩,
 ⟨.tmp, .idxS 26 (.t 0) (.c (.int .i64 (.ofNat 0))), .none⟩,
 ⟨.tmp, .loadN 26 (.t 0), .none⟩,
 ⟨.tmp, .call 29 [(.t 3), (.t 0)], .none⟩,
 ⟨(.var 1), .move (.t 0), .none⟩]))))))) (
 .seq (.seq (.reg [⟨.tmp, .move (.v 1), .none⟩,
 ⟨.tmp, .binN true 0 (.t 0), .none⟩]) (
 .cond (.t 0) (
 .seq (.reg [⟨.tmp, .move (.v 1), .none⟩,
 ⟨(.var 5), .move (.t 0), .none⟩]) (
 .ret)) (
 .skip))) (
 .reg [⟨.tmp, .move (.v 0), .none⟩,
 ⟨.tmp, .move (.v 4), .none⟩,
 ⟨.tmp, .slcS 26 (.t 1) (.some (.t 0)) .none .none, .none⟩,
 ⟨(.var 0), .move (.t 0), .none⟩])))))
def r19_1 : DC :=
 .seq (.reg [⟨(.var 5), .move (.c (.nili)), .none⟩]) (
 .ret)
def d19 : DF := ⟨[.some 1, .some 7, .some 8, .some 0, .some 6, .some 4, .some 5],
 .seq (.reg [⟨(.var 5), .move (.c (.nili)), .none⟩]) (
 .seq (.reg [⟨.tmp, .move (.v 3), .none⟩,
 ⟨.tmp, .mkfn 29 [(.t 0)] [], .none⟩,
 ⟨.tmp, .move (.v 3), .none⟩,
 ⟨.tmp, .mkfn 30 [(.t 0)] [], .none⟩,
 ⟨.tmp, .move (.v 3), .none⟩,
 ⟨.tmp, .mkfn 31 [(.t 0)] [], .none⟩,
 ⟨.tmp, .move (.v 3), .none⟩,
 ⟨.tmp, .mkfn 32 [(.t 0)] [], .none⟩,
 ⟨.tmp, .move (.v 3), .none⟩,
 ⟨.tmp, .mkfn 33 [(.t 0)] [], .none⟩,
 ⟨.tmp, .move (.v 3), .none⟩,
 ⟨.tmp, .mkfn 34 [(.t 0)] [], .none⟩,
 ⟨.tmp, .move (.v 3), .none⟩,
 ⟨.tmp, .mkfn 35 [(.t 0)] [], .none⟩,
 ⟨.tmp, .move (.v 3), .none⟩,
 ⟨.tmp, .mkfn 29 [(.t 0)] [], .none⟩,
 ⟨.tmp, .build [.nilf, .nilf, .nilf, .nilf, .nilf, .nilf, .nilf, .nilf, .nilf, .nilf] [(2, 1, (.t 14)), (3, 1, (.t 12)), (4, 1, (.t 10)), (5, 1, (.t 8)), (6, 1, (.t 6)), (7, 1, (.t 4)), (8, 1, (.t 2)), (9, 1, (.t 0))], .none⟩,
 ⟨(.var 6), .alloc [.nilf, .nilf, .nilf, .nilf, .nilf, .nilf, .nilf, .nilf, .nilf, .nilf], .none⟩,
 ⟨.no, .store 10 (.v 6) (.t 0), .none⟩]) (
 .seq (.block 0 (
 .loop b19_0)) r19_1)),
 [.opd (.v 5)], 7, .none⟩
/-- telamon/gram.Stmts -/
def vm20 : List Nat := [8, 5, 3, 6, 7, 2, 0]
def b20_0 : DC :=
 .seq (.reg [⟨.tmp, .bin .lss (.v 0) (.v 4), .none⟩]) (
 .seq (.cond (.t 0) (
 .skip) (
 .exit 0)) (
 .seq (.block 1 (
 .seq (.reg [⟨.tmp, .idxS 26 (.v 3) (.v 0), .none⟩,
 ⟨.tmp, .loadN 26 (.t 0), .none⟩,
 ⟨(.var 1), .alloc [.int .i64 (.ofNat 0), .int .i64 (.ofNat 0), .str 0 0, .str 0 0, .nils, .nils, .int .i64 (.ofNat 0), .int .i64 (.ofNat 0), .str 0 0, .bool false, .nils, .nils, .int .i64 (.ofNat 0), .int .i64 (.ofNat 0), .int .i64 (.ofNat 0), .str 0 0, .bool false, .nils, .nils, .int .i64 (.ofNat 0), .nils, .bool false, .nils, .nils, .nils, .int .i64 (.ofNat 0)], .none⟩,
 ⟨.no, .store 26 (.v 1) (.t 0), .none⟩]) (
 .reg [⟨.tmp, .move (.v 2), .none⟩,
 ⟨.tmp, .loadN 26 (.v 1), .none⟩,
 ⟨.tmp, .call 37 [(.t 0)], .none⟩,
 ⟨.tmp, .buildS 26 [[.int .i64 (.ofNat 0), .int .i64 (.ofNat 0), .str 0 0, .str 0 0, .nils, .nils, .int .i64 (.ofNat 0), .int .i64 (.ofNat 0), .str 0 0, .bool false, .nils, .nils, .int .i64 (.ofNat 0), .int .i64 (.ofNat 0), .int .i64 (.ofNat 0), .str 0 0, .bool false, .nils, .nils, .int .i64 (.ofNat 0), .nils, .bool false, .nils, .nils, .nils, .int .i64 (.ofNat 0)]] [(0, (.t 0))], .none⟩,
 ⟨.tmp, .append 26 400 (.t 3) (.t 0), .none⟩,
 ⟨(.var 2), .move (.t 0), .none⟩]))) (
 .reg [⟨.tmp, .bin .add (.v 0) (.c (.int .i64 (.ofNat 1))), .none⟩,
 ⟨(.var 0), .move (.t 0), .none⟩])))
def r20_1 : DC :=
 .seq (.reg [⟨.tmp, .move (.v 2), .none⟩,
 ⟨(.var 5), .move (.t 0), .none⟩]) (
 .ret)
def d20 : DF := ⟨[.some 8, .some 5, .some 3, .some 6, .some 7, .some 2, .some 0],
 .seq (.reg [⟨(.var 5), .move (.c (.nils)), .none⟩]) (
 .seq (.reg [⟨(.var 2), .move (.c (.nils)), .none⟩]) (
 .seq (.seq (.reg [⟨(.var 3), .move (.v 6), .none⟩,
 ⟨(.var 4), .len false (.v 3), .none⟩,
 ⟨(.var 0), .move (.c (.int .i64 (.ofNat 0))), .none⟩]) (
 .block 0 (
 .loop b20_0))) r20_1)),
 [.opd (.v 5)], 7, .none⟩
/-- errors.As -/
def vm21 : List Nat := [5, 7, 1, 4, 6, 0]

def d21 : DF := ⟨[.some 5, .some 7, .some 1, .some 4, .some 6, .some 0],
 .seq (.reg [⟨(.var 3), .move (.c (.bool false)), .none⟩]) (
 .seq (.seq (.reg [⟨.tmp, .move (.v 5), .none⟩,
 ⟨.tmp, .binN false 0 (.t 0), .none⟩]) (
 .cond (.t 0) (
 .seq (.reg [⟨(.var 3), .move (.c (.bool false)), .none⟩]) (
 .ret)) (
 .skip))) (
 .seq (.seq (.reg [⟨.tmp, .move (.v 2), .none⟩,
 ⟨.tmp, .binN false 0 (.t 0), .none⟩]) (
 .cond (.t 0) (
 .reg [⟨.tmp, .mkif 9 (.c (.str 28 11417098961371893315304652571983823045927218809918384882676101444197)), .none⟩,
 ⟨.no, .die, .none⟩]) (
 .skip))) (
 .seq (.reg [⟨.tmp, .move (.v 2), .none⟩,
 ⟨.tmp, .call 38 [(.t 0)], .none⟩,
 ⟨(.var 0), .alloc [.nilp, .nilp, .int .u64 (.ofNat 0)], .none⟩,
 ⟨.no, .store 3 (.v 0) (.t 0), .none⟩]) (
 .seq (.reg [⟨.tmp, .loadN 3 (.v 0), .none⟩,
 ⟨.tmp, .call 39 [(.t 0)], .none⟩,
 ⟨(.var 4), .move (.t 0), .none⟩]) (
 .seq (.seq (.reg [⟨.tmp, .move (.v 4), .none⟩,
 ⟨.tmp, .die, .none⟩,
 ⟨.tmp, .bin .neq (.t 0) (.c (.int .u8 (.ofNat 22))), .none⟩,
 ⟨.tmp, .move (.t 0), .none⟩,
 ⟨.tmp, .loadN 3 (.v 0), .some ((.t 0), false)⟩,
 ⟨.tmp, .call 40 [(.t 0)], .some ((.t 1), false)⟩,
 ⟨.tmp, .pick (.t 2) (.c (.bool true)) (.t 0), .none⟩]) (
 .cond (.t 0) (
 .reg [⟨.tmp, .mkif 9 (.c (.str 40 954488400492497117201454582175067858202582277607756470474782775148987648592778005045658449506917)), .none⟩,
 ⟨.no, .die, .none⟩]) (
 .skip))) (
 .seq (.reg [⟨.tmp, .move (.v 4), .none⟩,
 ⟨.tmp, .die, .none⟩,
 ⟨(.var 1), .move (.t 0), .none⟩]) (
 .seq (.seq (.reg [⟨.tmp, .move (.v 1), .none⟩,
 ⟨.tmp, .die, .none⟩,
 ⟨.tmp, .bin .neq (.t 0) (.c (.int .u8 (.ofNat 20))), .none⟩,
 ⟨.tmp, .move (.t 0), .none⟩,
 ⟨.tmp, .move (.v 1), .some ((.t 0), true)⟩,
 ⟨.tmp, .load1 (.c (.gp 0 0)), .some ((.t 1), true)⟩,
 ⟨.tmp, .die, .some ((.t 2), true)⟩,
 ⟨.tmp, .not (.t 0), .some ((.t 3), true)⟩,
 ⟨.tmp, .pick (.t 4) (.t 0) (.c (.bool false)), .none⟩]) (
 .cond (.t 0) (
 .reg [⟨.tmp, .mkif 9 (.c (.str 52 75648164594098364561145190138074201668253097219461719950003247118620855376642524121515296165343526173717074309712957689459301)), .none⟩,
 ⟨.no, .die, .none⟩]) (
 .skip))) (
 .seq (.reg [⟨.tmp, .move (.v 5), .none⟩,
 ⟨.tmp, .move (.v 2), .none⟩,
 ⟨.tmp, .loadN 3 (.v 0), .none⟩,
 ⟨.tmp, .move (.v 1), .none⟩,
 ⟨.tmp, .call 41 [(.t 3), (.t 2), (.t 1), (.t 0)], .none⟩,
 ⟨(.var 3), .move (.t 0), .none⟩]) (
 .ret))))))))),
 [.opd (.v 3)], 6, .none⟩
/-- telamon/telamonref12.Tokens -/
def vm22 : List Nat := [5, 0, 7, 2, 3, 4, 6, 8, 9, 10]
def b22_0 : DC :=
 .seq (.seq (.reg [⟨.tmp, .move (.v 0), .none⟩,
 ⟨.tmp, .nilck (.t 0), .none⟩,
 ⟨.tmp, .fadr 1 (.t 0), .none⟩,
 ⟨.tmp, .load1 (.t 0), .none⟩,
 ⟨.tmp, .move (.v 1), .none⟩,
 ⟨.tmp, .len true (.t 0), .none⟩,
 ⟨.tmp, .bin .lss (.t 2) (.t 0), .none⟩,
 ⟨.tmp, .move (.t 0), .none⟩,
 ⟨.tmp, .move (.v 1), .some ((.t 0), true)⟩,
 ⟨.tmp, .move (.v 0), .some ((.t 1), true)⟩,
 ⟨.tmp, .nilck (.t 0), .some ((.t 2), true)⟩,
 ⟨.tmp, .fadr 1 (.t 0), .some ((.t 3), true)⟩,
 ⟨.tmp, .load1 (.t 0), .some ((.t 4), true)⟩,
 ⟨.tmp, .idxStr (.t 4) (.t 0), .some ((.t 5), true)⟩,
 ⟨.tmp, .bin .neq (.t 0) (.c (.int .u8 (.ofNat 10))), .some ((.t 6), true)⟩,
 ⟨.tmp, .pick (.t 7) (.t 0) (.c (.bool false)), .none⟩,
 ⟨.tmp, .move (.t 0), .none⟩,
 ⟨.tmp, .move (.v 0), .some ((.t 0), true)⟩,
 ⟨.tmp, .nilck (.t 0), .some ((.t 1), true)⟩,
 ⟨.tmp, .fadr 4 (.t 0), .some ((.t 2), true)⟩,
 ⟨.tmp, .load1 (.t 0), .some ((.t 3), true)⟩,
 ⟨.tmp, .bin .eql (.t 0) (.c (.int .i64 (.ofNat 0))), .some ((.t 4), true)⟩,
 ⟨.tmp, .pick (.t 5) (.t 0) (.c (.bool false)), .none⟩]) (
 .cond (.t 0) (
 .skip) (
 .exit 4))) (
 .block 5 (
 .reg [⟨.tmp, .move (.v 0), .none⟩,
 ⟨.tmp, .call 42 [(.t 0)], .none⟩]))
def b22_1 : DC :=
 .seq (.seq (.reg [⟨.tmp, .move (.v 0), .none⟩,
 ⟨.tmp, .nilck (.t 0), .none⟩,
 ⟨.tmp, .fadr 1 (.t 0), .none⟩,
 ⟨.tmp, .load1 (.t 0), .none⟩,
 ⟨.tmp, .move (.v 1), .none⟩,
 ⟨.tmp, .len true (.t 0), .none⟩,
 ⟨.tmp, .bin .lss (.t 2) (.t 0), .none⟩,
 ⟨.tmp, .move (.t 0), .none⟩,
 ⟨.tmp, .move (.v 0), .some ((.t 0), true)⟩,
 ⟨.tmp, .nilck (.t 0), .some ((.t 1), true)⟩,
 ⟨.tmp, .fadr 4 (.t 0), .some ((.t 2), true)⟩,
 ⟨.tmp, .load1 (.t 0), .some ((.t 3), true)⟩,
 ⟨.tmp, .bin .eql (.t 0) (.c (.int .i64 (.ofNat 0))), .some ((.t 4), true)⟩,
 ⟨.tmp, .pick (.t 5) (.t 0) (.c (.bool false)), .none⟩]) (
 .cond (.t 0) (
 .skip) (
 .exit 2))) (
 .block 3 (
 .seq (.reg [⟨.tmp, .move (.v 1), .none⟩,
 ⟨.tmp, .move (.v 0), .none⟩,
 ⟨.tmp, .nilck (.t 0), .none⟩,
 ⟨.tmp, .fadr 1 (.t 0), .none⟩,
 ⟨.tmp, .load1 (.t 0), .none⟩,
 ⟨.tmp, .idxStr (.t 4) (.t 0), .none⟩,
 ⟨.tmp, .bin .eql (.t 0) (.c (.int .u8 (.ofNat 32))), .none⟩,
 ⟨.tmp, .move (.t 0), .none⟩,
 ⟨.tmp, .move (.v 1), .some ((.t 0), false)⟩,
 ⟨.tmp, .move (.v 0), .some ((.t 1), false)⟩,
 ⟨.tmp, .nilck (.t 0), .some ((.t 2), false)⟩,
 ⟨.tmp, .fadr 1 (.t 0), .some ((.t 3), false)⟩,
 ⟨.tmp, .load1 (.t 0), .some ((.t 4), false)⟩,
 ⟨.tmp, .idxStr (.t 4) (.t 0), .some ((.t 5), false)⟩,
 ⟨.tmp, .bin .eql (.t 0) (.c (.int .u8 (.ofNat 10))), .some ((.t 6), false)⟩,
 ⟨.tmp, .pick (.t 7) (.c (.bool true)) (.t 0), .none⟩]) (
 .cond (.t 0) (
 .reg [⟨.tmp, .move (.v 0), .none⟩,
 ⟨.tmp, .call 42 [(.t 0)], .none⟩]) (
 .seq (.reg [⟨.tmp, .move (.v 0), .none⟩,
 ⟨.tmp, .nilck (.t 0), .none⟩,
 ⟨.tmp, .fadr 1 (.t 0), .none⟩,
 ⟨.tmp, .load1 (.t 0), .none⟩,
 ⟨.tmp, .bin .add (.t 0) (.c (.int .i64 (.ofNat 1))), .none⟩,
 ⟨.tmp, .move (.v 1), .none⟩,
 ⟨.tmp, .len true (.t 0), .none⟩,
 ⟨.tmp, .bin .lss (.t 2) (.t 0), .none⟩,
 ⟨.tmp, .move (.t 0), .none⟩,
 ⟨.tmp, .move (.v 1), .some ((.t 0), true)⟩,
 ⟨.tmp, .move (.v 0), .some ((.t 1), true)⟩,
 ⟨.tmp, .nilck (.t 0), .some ((.t 2), true)⟩,
 ⟨.tmp, .fadr 1 (.t 0), .some ((.t 3), true)⟩,
 ⟨.tmp, .load1 (.t 0), .some ((.t 4), true)⟩,
 ⟨.tmp, .idxStr (.t 4) (.t 0), .some ((.t 5), true)⟩,
 ⟨.tmp, .bin .eql (.t 0) (.c (.int .u8 (.ofNat 45))), .some ((.t 6), true)⟩,
 ⟨.tmp, .pick (.t 7) (.t 0) (.c (.bool false)), .none⟩,
 ⟨.tmp, .move (.t 0), .none⟩,
 ⟨.tmp, .move (.v 1), .some ((.t 0), true)⟩,
 ⟨.tmp, .move (.v 0), .some ((.t 1), true)⟩,
 ⟨.tmp, .nilck (.t 0), .some ((.t 2), true)⟩,
 ⟨.tmp, .fadr 1 (.t 0), .some ((.t 3), true)⟩,
 ⟨.tmp, .load1 (.t 0), .some ((.t 4), true)⟩,
 ⟨.tmp, .bin .add (.t 0) (.c (.int .i64 (.ofNat 1))), .some ((.t 5), true)⟩,
 ⟨.tmp, .idxStr (.t 5) (.t 0), .some ((.t 6), true)⟩,
 ⟨.tmp, .bin .eql (.t 0) (.c (.int .u8 (.ofNat 45))), .some ((.t 7), true)⟩,
 ⟨.tmp, .pick (.t 8) (.t 0) (.c (.bool false)), .none⟩]) (
 .cond (.t 0) (
 .block 4 (
 .loop b22_0)) (
 .exit 2))))))
def b22_2 : DC :=
 .seq (.seq (.reg [⟨.tmp, .move (.v 0), .none⟩,
 ⟨.tmp, .nilck (.t 0), .none⟩,
 ⟨.tmp, .fadr 1 (.t 0), .none⟩,
 ⟨.tmp, .load1 (.t 0), .none⟩,
 ⟨.tmp, .move (.v 1), .none⟩,
 ⟨.tmp, .len true (.t 0), .none⟩,
 ⟨.tmp, .bin .lss (.t 2) (.t 0), .none⟩,
 ⟨.tmp, .move (.t 0), .none⟩,
 ⟨.tmp, .move (.v 1), .some ((.t 0), true)⟩,
 ⟨.tmp, .move (.v 0), .some ((.t 1), true)⟩,
 ⟨.tmp, .nilck (.t 0), .some ((.t 2), true)⟩,
 ⟨.tmp, .fadr 1 (.t 0), .some ((.t 3), true)⟩,
 ⟨.tmp, .load1 (.t 0), .some ((.t 4), true)⟩,
 ⟨.tmp, .idxStr (.t 4) (.t 0), .some ((.t 5), true)⟩,
 ⟨.tmp, .bin .neq (.t 0) (.c (.int .u8 (.ofNat 32))), .some ((.t 6), true)⟩,
 ⟨.tmp, .pick (.t 7) (.t 0) (.c (.bool false)), .none⟩,
 ⟨.tmp, .move (.t 0), .none⟩,
 ⟨.tmp, .move (.v 1), .some ((.t 0), true)⟩,
 ⟨.tmp, .move (.v 0), .some ((.t 1), true)⟩,
 ⟨.tmp, .nilck (.t 0), .some ((.t 2), true)⟩,
 ⟨.tmp, .fadr 1 (.t 0), .some ((.t 3), true)⟩,
 ⟨.tmp, .load1 (.t 0), .some ((.t 4), true)⟩,
 ⟨.tmp, .idxStr (.t 4) (.t 0), .some ((.t 5), true)⟩,
 ⟨.tmp, .bin .neq (.t 0) (.c (.int .u8 (.ofNat 10))), .some ((.t 6), true)⟩,
 ⟨.tmp, .pick (.t 7) (.t 0) (.c (.bool false)), .none⟩,
 ⟨.tmp, .move (.t 0), .none⟩,
 ⟨.tmp, .move (.v 1), .some ((.t 0), true)⟩,
 ⟨.tmp, .move (.v 0), .some ((.t 1), true)⟩,
 ⟨.tmp, .nilck (.t 0), .some ((.t 2), true)⟩,
 ⟨.tmp, .fadr 1 (.t 0), .some ((.t 3), true)⟩,
 ⟨.tmp, .load1 (.t 0), .some ((.t 4), true)⟩,
 ⟨.tmp, .idxStr (.t 4) (.t 0), .some ((.t 5), true)⟩,
 ⟨.tmp, .call 43 [(.t 0)], .some ((.t 6), true)⟩,
 ⟨.tmp, .not (.t 0), .some ((.t 7), true)⟩,
 ⟨.tmp, .pick (.t 8) (.t 0) (.c (.bool false)), .none⟩,
 ⟨.tmp, .move (.t 0), .none⟩,
 ⟨.tmp, .move (.v 0), .some ((.t 0), true)⟩,
 ⟨.tmp, .nilck (.t 0), .some ((.t 1), true)⟩,
 ⟨.tmp, .fadr 4 (.t 0), .some ((.t 2), true)⟩,
 ⟨.tmp, .load1 (.t 0), .some ((.t 3), true)⟩,
 ⟨.tmp, .bin .eql (.t 0) (.c (.int .i64 (.ofNat 0))), .some ((.t 4), true)⟩,
 ⟨.tmp, .pick (.t 5) (.t 0) (.c (.bool false)), .none⟩]) (
 .cond (.t 0) (
 .skip) (
 .exit 6))) (
 .block 7 (
 .reg [⟨.tmp, .move (.v 0), .none⟩,
 ⟨.tmp, .call 42 [(.t 0)], .none⟩]))
def r22_3 : DC :=
 .seq (.seq (.reg [⟨.tmp, .move (.v 0), .none⟩,
 ⟨.tmp, .nilck (.t 0), .none⟩,
 ⟨.tmp, .fadr 4 (.t 0), .none⟩,
 ⟨.tmp, .load1 (.t 0), .none⟩,
 ⟨.tmp, .bin .neq (.t 0) (.c (.int .i64 (.ofNat 0))), .none⟩]) (
 .cond (.t 0) (
 .seq (.reg [⟨.tmp, .move (.v 0), .none⟩,
 ⟨.tmp, .nilck (.t 0), .none⟩,
 ⟨.tmp, .fadr 1 (.t 0), .none⟩,
 ⟨.tmp, .load1 (.t 0), .none⟩,
 ⟨.tmp, .move (.v 0), .none⟩,
 ⟨.tmp, .nilck (.t 0), .none⟩,
 ⟨.tmp, .fadr 4 (.t 0), .none⟩,
 ⟨.tmp, .load1 (.t 0), .none⟩,
 ⟨(.var 3), .move (.c (.nils)), .none⟩,
 ⟨(.var 4), .move (.t 4), .none⟩,
 ⟨(.var 5), .move (.t 0), .none⟩]) (
 .ret)) (
 .skip))) (
 .seq (.reg [⟨.tmp, .move (.v 1), .none⟩,
 ⟨.tmp, .move (.v 7), .none⟩,
 ⟨.tmp, .move (.v 0), .none⟩,
 ⟨.tmp, .nilck (.t 0), .none⟩,
 ⟨.tmp, .fadr 1 (.t 0), .none⟩,
 ⟨.tmp, .load1 (.t 0), .none⟩,
 ⟨.tmp, .slcStr (.t 5) (.some (.t 4)) (.some (.t 0)), .none⟩,
 ⟨(.var 8), .move (.t 0), .none⟩]) (
 .seq (.reg [⟨.tmp, .move (.v 8), .none⟩,
 ⟨.tmp, .fadr 1 (.v 2), .none⟩,
 ⟨.no, .store 1 (.t 0) (.t 1), .none⟩]) (
 .seq (.reg [⟨.tmp, .move (.v 8), .none⟩,
 ⟨.tmp, .call 44 [(.v 2), (.t 0)], .none⟩,
 ⟨(.var 9), .move (.t 0), .none⟩]) (
 .seq (.reg [⟨.tmp, .move (.v 9), .none⟩,
 ⟨.tmp, .bin .neq (.t 0) (.c (.int .i64 (.ofNat 0))), .none⟩]) (
 .cond (.t 0) (
 .seq (.reg [⟨.tmp, .move (.v 7), .none⟩,
 ⟨.tmp, .move (.v 9), .none⟩,
 ⟨(.var 3), .move (.c (.nils)), .none⟩,
 ⟨(.var 4), .move (.t 1), .none⟩,
 ⟨(.var 5), .move (.t 0), .none⟩]) (
 .ret)) (
 .skip))))))
def r22_4 : DC :=
 .seq (.seq (.reg [⟨.tmp, .move (.v 6), .none⟩,
 ⟨.tmp, .len false (.t 0), .none⟩,
 ⟨.tmp, .bin .geq (.t 0) (.c (.int .i64 (.ofNat 20000))), .none⟩]) (
 .cond (.t 0) (
 .seq (.reg [⟨.tmp, .fadr 2 (.v 2), .none⟩,
 ⟨.tmp, .load1 (.t 0), .none⟩,
 ⟨(.var 3), .move (.c (.nils)), .none⟩,
 ⟨(.var 4), .move (.t 0), .none⟩,
 ⟨(.var 5), .move (.c (.int .i64 (.ofNat 2))), .none⟩]) (
 .ret)) (
 .skip))) (
 .seq (.reg [⟨.tmp, .move (.v 6), .none⟩,
 ⟨.tmp, .loadN 5 (.v 2), .none⟩,
 ⟨.tmp, .buildS 5 [[.int .i64 (.ofNat 0), .str 0 0, .int .i64 (.ofNat 0), .int .i64 (.ofNat 0), .int .i64 (.ofNat 0)]] [(0, (.t 0))], .none⟩,
 ⟨.tmp, .append 5 48 (.t 2) (.t 0), .none⟩,
 ⟨(.var 6), .move (.t 0), .none⟩]) (
 .seq (.reg [⟨.tmp, .fadr 0 (.v 2), .none⟩,
 ⟨.tmp, .load1 (.t 0), .none⟩,
 ⟨.tmp, .bin .eql (.t 0) (.c (.int .i64 (.ofNat 7))), .none⟩]) (
 .cond (.t 0) (
 .seq (.reg [⟨.tmp, .move (.v 6), .none⟩,
 ⟨(.var 3), .move (.t 0), .none⟩,
 ⟨(.var 4), .move (.c (.int .i64 (.ofNat 0))), .none⟩,
 ⟨(.var 5), .move (.c (.int .i64 (.ofNat 0))), .none⟩]) (
 .ret)) (
 .skip))))
def r22_5 : DC :=
 .seq (.seq (.reg [⟨.tmp, .move (.v 0), .none⟩,
 ⟨.tmp, .nilck (.t 0), .none⟩,
 ⟨.tmp, .fadr 4 (.t 0), .none⟩,
 ⟨.tmp, .load1 (.t 0), .none⟩,
 ⟨.tmp, .bin .neq (.t 0) (.c (.int .i64 (.ofNat 0))), .none⟩]) (
 .cond (.t 0) (
 .seq (.reg [⟨.tmp, .move (.v 0), .none⟩,
 ⟨.tmp, .nilck (.t 0), .none⟩,
 ⟨.tmp, .fadr 1 (.t 0), .none⟩,
 ⟨.tmp, .load1 (.t 0), .none⟩,
 ⟨.tmp, .move (.v 0), .none⟩,
 ⟨.tmp, .nilck (.t 0), .none⟩,
 ⟨.tmp, .fadr 4 (.t 0), .none⟩,
 ⟨.tmp, .load1 (.t 0), .none⟩,
 ⟨(.var 3), .move (.c (.nils)), .none⟩,
 ⟨(.var 4), .move (.t 4), .none⟩,
 ⟨(.var 5), .move (.t 0), .none⟩]) (
 .ret)) (
 .skip))) (
 .seq (.reg [⟨.tmp, .move (.v 0), .none⟩,
 ⟨.tmp, .nilck (.t 0), .none⟩,
 ⟨.tmp, .fadr 1 (.t 0), .none⟩,
 ⟨.tmp, .load1 (.t 0), .none⟩,
 ⟨.tmp, .move (.v 0), .none⟩,
 ⟨.tmp, .nilck (.t 0), .none⟩,
 ⟨.tmp, .fadr 2 (.t 0), .none⟩,
 ⟨.tmp, .load1 (.t 0), .none⟩,
 ⟨.tmp, .move (.v 0), .none⟩,
 ⟨.tmp, .nilck (.t 0), .none⟩,
 ⟨.tmp, .fadr 3 (.t 0), .none⟩,
 ⟨.tmp, .load1 (.t 0), .none⟩,
 ⟨.tmp, .build [.int .i64 (.ofNat 0), .str 0 0, .int .i64 (.ofNat 0), .int .i64 (.ofNat 0), .int .i64 (.ofNat 0)] [(0, 1, (.c (.int .i64 (.ofNat 7)))), (2, 1, (.t 8)), (3, 1, (.t 4)), (4, 1, (.t 0))], .none⟩,
 ⟨(.var 2), .alloc [.int .i64 (.ofNat 0), .str 0 0, .int .i64 (.ofNat 0), .int .i64 (.ofNat 0), .int .i64 (.ofNat 0)], .none⟩,
 ⟨.no, .store 5 (.v 2) (.t 0), .none⟩]) (
 .seq (.seq (.reg [⟨.tmp, .move (.v 0), .none⟩,
 ⟨.tmp, .nilck (.t 0), .none⟩,
 ⟨.tmp, .fadr 1 (.t 0), .none⟩,
 ⟨.tmp, .load1 (.t 0), .none⟩,
 ⟨.tmp, .move (.v 1), .none⟩,
 ⟨.tmp, .len true (.t 0), .none⟩,
 ⟨.tmp, .bin .lss (.t 2) (.t 0), .none⟩]) (
 .cond (.t 0) (
 .seq (.reg [⟨.tmp, .move (.v 0), .none⟩,
 ⟨.tmp, .nilck (.t 0), .none⟩,
 ⟨.tmp, .fadr 1 (.t 0), .none⟩,
 ⟨.tmp, .load1 (.t 0), .none⟩,
 ⟨(.var 7), .move (.t 0), .none⟩]) (
 .seq (.seq (.reg [⟨.tmp, .move (.v 1), .none⟩,
 ⟨.tmp, .move (.v 0), .none⟩,
 ⟨.tmp, .nilck (.t 0), .none⟩,
 ⟨.tmp, .fadr 1 (.t 0), .none⟩,
 ⟨.tmp, .load1 (.t 0), .none⟩,
 ⟨.tmp, .idxStr (.t 4) (.t 0), .none⟩,
 ⟨.tmp, .call 43 [(.t 0)], .none⟩]) (
 .cond (.t 0) (
 .seq (.reg [⟨.tmp, .move (.v 0), .none⟩,
 ⟨.tmp, .call 42 [(.t 0)], .none⟩]) (
 .reg [⟨.tmp, .fadr 0 (.v 2), .none⟩,
 ⟨.no, .store 1 (.t 0) (.c (.int .i64 (.ofNat 2))), .none⟩])) (
 .block 6 (
 .loop b22_2)))) r22_3)) (
 .skip))) r22_4))
def b22_6 : DC :=
 .block 1 (
 .seq (.block 2 (
 .loop b22_1)) r22_5)
def d22 : DF := ⟨[.some 5, .some 0, .some 7, .some 2, .some 3, .some 4, .some 6, .some 8, .some 9, .some 10],
 .seq (.reg [⟨(.var 3), .move (.c (.nils)), .none⟩,
 ⟨(.var 4), .move (.c (.int .i64 (.ofNat 0))), .none⟩,
 ⟨(.var 5), .move (.c (.int .i64 (.ofNat 0))), .none⟩]) (
 .seq (.seq (.reg [⟨.tmp, .move (.v 1), .none⟩,
 ⟨.tmp, .len true (.t 0), .none⟩,
 ⟨.tmp, .bin .gtr (.t 0) (.c (.int .i64 (.ofNat 65536))), .none⟩]) (
 .cond (.t 0) (
 .seq (.reg [⟨(.var 3), .move (.c (.nils)), .none⟩,
 ⟨(.var 4), .move (.c (.int .i64 (.ofNat 0))), .none⟩,
 ⟨(.var 5), .move (.c (.int .i64 (.ofNat 2))), .none⟩]) (
 .ret)) (
 .skip))) (
 .seq (.reg [⟨.tmp, .move (.v 1), .none⟩,
 ⟨.tmp, .build [.str 0 0, .int .i64 (.ofNat 0), .int .i64 (.ofNat 0), .int .i64 (.ofNat 0), .int .i64 (.ofNat 0)] [(0, 1, (.t 0)), (2, 1, (.c (.int .i64 (.ofNat 1)))), (3, 1, (.c (.int .i64 (.ofNat 1))))], .none⟩,
 ⟨.tmp, .box 5 (.t 0), .none⟩,
 ⟨(.var 0), .move (.t 0), .none⟩]) (
 .seq (.reg [⟨(.var 6), .move (.c (.nils)), .none⟩]) (
 .block 0 (
 .loop b22_6))))),
 [.opd (.v 3), .opd (.v 4), .opd (.v 5)], 10, .none⟩
/-- telamon/telamonref12.Blocks -/
def vm23 : List Nat := [5, 10, 8, 11, 16, 9, 2, 3, 4, 14, 15, 7, 0, 6, 12, 13]
def b23_0 : DC :=
 .seq (.seq (.reg [⟨.tmp, .move (.v 0), .none⟩,
 ⟨.tmp, .nilck (.t 0), .none⟩,
 ⟨.tmp, .fadr 1 (.t 0), .none⟩,
 ⟨.tmp, .load1 (.t 0), .none⟩,
 ⟨.tmp, .len false (.t 0), .none⟩,
 ⟨.tmp, .bin .gtr (.t 0) (.c (.int .i64 (.ofNat 0))), .none⟩,
 ⟨.tmp, .move (.t 0), .none⟩,
 ⟨.tmp, .move (.v 0), .some ((.t 0), true)⟩,
 ⟨.tmp, .nilck (.t 0), .some ((.t 1), true)⟩,
 ⟨.tmp, .fadr 2 (.t 0), .some ((.t 2), true)⟩,
 ⟨.tmp, .load1 (.t 0), .some ((.t 3), true)⟩,
 ⟨.tmp, .bin .eql (.t 0) (.c (.int .i64 (.ofNat 0))), .some ((.t 4), true)⟩,
 ⟨.tmp, .pick (.t 5) (.t 0) (.c (.bool false)), .none⟩]) (
 .cond (.t 0) (
 .skip) (
 .exit 2))) (
 .block 3 (
 .seq (.seq (.reg [⟨.tmp, .move (.v 0), .none⟩,
 ⟨.tmp, .nilck (.t 0), .none⟩,
 ⟨.tmp, .fadr 1 (.t 0), .none⟩,
 ⟨.tmp, .load1 (.t 0), .none⟩,
 ⟨.tmp, .move (.v 0), .none⟩,
 ⟨.tmp, .nilck (.t 0), .none⟩,
 ⟨.tmp, .fadr 1 (.t 0), .none⟩,
 ⟨.tmp, .load1 (.t 0), .none⟩,
 ⟨.tmp, .len false (.t 0), .none⟩,
 ⟨.tmp, .bin .sub (.t 0) (.c (.int .i64 (.ofNat 1))), .none⟩,
 ⟨.tmp, .idxS 4 (.t 6) (.t 0), .none⟩,
 ⟨.tmp, .fadr 3 (.t 0), .none⟩,
 ⟨.tmp, .load1 (.t 0), .none⟩]) (
 .cond (.t 0) (
 .seq (.reg [⟨.tmp, .fadr 2 (.v 2), .none⟩,
 ⟨.tmp, .load1 (.t 0), .none⟩,
 ⟨(.var 6), .move (.c (.nils)), .none⟩,
 ⟨(.var 7), .move (.t 0), .none⟩,
 ⟨(.var 8), .move (.c (.int .i64 (.ofNat 42))), .none⟩]) (
 .ret)) (
 .skip))) (
 .reg [⟨.tmp, .move (.v 0), .none⟩,
 ⟨.tmp, .loadN 5 (.v 2), .none⟩,
 ⟨.tmp, .call 47 [(.t 1), (.t 0), (.c (.bool false))], .none⟩])))
def r23_1 : DC :=
 .seq (.seq (.reg [⟨.tmp, .move (.v 0), .none⟩,
 ⟨.tmp, .nilck (.t 0), .none⟩,
 ⟨.tmp, .fadr 2 (.t 0), .none⟩,
 ⟨.tmp, .load1 (.t 0), .none⟩,
 ⟨.tmp, .bin .eql (.t 0) (.c (.int .i64 (.ofNat 0))), .none⟩,
 ⟨.tmp, .move (.t 0), .none⟩,
 ⟨.tmp, .move (.v 0), .some ((.t 0), true)⟩,
 ⟨.tmp, .nilck (.t 0), .some ((.t 1), true)⟩,
 ⟨.tmp, .fadr 0 (.t 0), .some ((.t 2), true)⟩,
 ⟨.tmp, .load1 (.t 0), .some ((.t 3), true)⟩,
 ⟨.tmp, .len false (.t 0), .some ((.t 4), true)⟩,
 ⟨.tmp, .bin .geq (.t 0) (.c (.int .i64 (.ofNat 60000))), .some ((.t 5), true)⟩,
 ⟨.tmp, .pick (.t 6) (.t 0) (.c (.bool false)), .none⟩]) (
 .cond (.t 0) (
 .seq (.reg [⟨.tmp, .fadr 2 (.v 2), .none⟩,
 ⟨.tmp, .load1 (.t 0), .none⟩,
 ⟨(.var 6), .move (.c (.nils)), .none⟩,
 ⟨(.var 7), .move (.t 0), .none⟩,
 ⟨(.var 8), .move (.c (.int .i64 (.ofNat 2))), .none⟩]) (
 .ret)) (
 .skip))) (
 .seq (.seq (.reg [⟨.tmp, .move (.v 0), .none⟩,
 ⟨.tmp, .nilck (.t 0), .none⟩,
 ⟨.tmp, .fadr 2 (.t 0), .none⟩,
 ⟨.tmp, .load1 (.t 0), .none⟩,
 ⟨.tmp, .bin .eql (.t 0) (.c (.int .i64 (.ofNat 0))), .none⟩]) (
 .cond (.t 0) (
 .reg [⟨.tmp, .move (.v 0), .none⟩,
 ⟨.tmp, .move (.v 0), .none⟩,
 ⟨.tmp, .nilck (.t 0), .none⟩,
 ⟨.tmp, .fadr 0 (.t 0), .none⟩,
 ⟨.tmp, .load1 (.t 0), .none⟩,
 ⟨.tmp, .loadN 5 (.v 2), .none⟩,
 ⟨.tmp, .buildS 5 [[.int .i64 (.ofNat 0), .str 0 0, .int .i64 (.ofNat 0), .int .i64 (.ofNat 0), .int .i64 (.ofNat 0)]] [(0, (.t 0))], .none⟩,
 ⟨.tmp, .append 5 48 (.t 2) (.t 0), .none⟩,
 ⟨.tmp, .nilck (.t 7), .none⟩,
 ⟨.tmp, .fadr 0 (.t 0), .none⟩,
 ⟨.no, .store 1 (.t 0) (.t 2), .none⟩]) (
 .skip))) (
 .exit 0))
def b23_2 : DC :=
 .seq (.seq (.reg [⟨.tmp, .move (.v 0), .none⟩,
 ⟨.tmp, .nilck (.t 0), .none⟩,
 ⟨.tmp, .fadr 2 (.t 0), .none⟩,
 ⟨.tmp, .load1 (.t 0), .none⟩,
 ⟨.tmp, .bin .eql (.t 0) (.c (.int .i64 (.ofNat 0))), .none⟩,
 ⟨.tmp, .move (.t 0), .none⟩,
 ⟨.tmp, .move (.v 0), .some ((.t 0), true)⟩,
 ⟨.tmp, .nilck (.t 0), .some ((.t 1), true)⟩,
 ⟨.tmp, .fadr 1 (.t 0), .some ((.t 2), true)⟩,
 ⟨.tmp, .load1 (.t 0), .some ((.t 3), true)⟩,
 ⟨.tmp, .move (.v 0), .some ((.t 4), true)⟩,
 ⟨.tmp, .nilck (.t 0), .some ((.t 5), true)⟩,
 ⟨.tmp, .fadr 1 (.t 0), .some ((.t 6), true)⟩,
 ⟨.tmp, .load1 (.t 0), .some ((.t 7), true)⟩,
 ⟨.tmp, .len false (.t 0), .some ((.t 8), true)⟩,
 ⟨.tmp, .bin .sub (.t 0) (.c (.int .i64 (.ofNat 1))), .some ((.t 9), true)⟩,
 ⟨.tmp, .idxS 4 (.t 6) (.t 0), .some ((.t 10), true)⟩,
 ⟨.tmp, .fadr 3 (.t 0), .some ((.t 11), true)⟩,
 ⟨.tmp, .load1 (.t 0), .some ((.t 12), true)⟩,
 ⟨.tmp, .not (.t 0), .some ((.t 13), true)⟩,
 ⟨.tmp, .pick (.t 14) (.t 0) (.c (.bool false)), .none⟩]) (
 .cond (.t 0) (
 .skip) (
 .exit 4))) (
 .block 5 (
 .seq (.reg [⟨.tmp, .move (.v 0), .none⟩,
 ⟨.tmp, .nilck (.t 0), .none⟩,
 ⟨.tmp, .fadr 1 (.t 0), .none⟩,
 ⟨.tmp, .load1 (.t 0), .none⟩,
 ⟨.tmp, .move (.v 0), .none⟩,
 ⟨.tmp, .nilck (.t 0), .none⟩,
 ⟨.tmp, .fadr 1 (.t 0), .none⟩,
 ⟨.tmp, .load1 (.t 0), .none⟩,
 ⟨.tmp, .len false (.t 0), .none⟩,
 ⟨.tmp, .bin .sub (.t 0) (.c (.int .i64 (.ofNat 1))), .none⟩,
 ⟨.tmp, .idxS 4 (.t 6) (.t 0), .none⟩,
 ⟨.tmp, .fadr 0 (.t 0), .none⟩,
 ⟨.tmp, .load1 (.t 0), .none⟩,
 ⟨(.var 5), .move (.t 0), .none⟩]) (
 .seq (.seq (.reg [⟨.tmp, .move (.v 5), .none⟩,
 ⟨.tmp, .fadr 4 (.v 2), .none⟩,
 ⟨.tmp, .load1 (.t 0), .none⟩,
 ⟨.tmp, .bin .eql (.t 2) (.t 0), .none⟩]) (
 .cond (.t 0) (
 .reg [⟨.tmp, .move (.v 0), .none⟩,
 ⟨.tmp, .loadN 5 (.v 2), .none⟩,
 ⟨.tmp, .call 45 [(.t 1), (.c (.int .i64 (.ofNat 6))), (.t 0), (.c (.bool false))], .none⟩]) (
 .skip))) (
 .seq (.seq (.reg [⟨.tmp, .move (.v 5), .none⟩,
 ⟨.tmp, .fadr 4 (.v 2), .none⟩,
 ⟨.tmp, .load1 (.t 0), .none⟩,
 ⟨.tmp, .bin .leq (.t 2) (.t 0), .none⟩]) (
 .cond (.t 0) (
 .exit 4) (
 .skip))) (
 .seq (.seq (.reg [⟨.tmp, .move (.v 0), .none⟩,
 ⟨.tmp, .nilck (.t 0), .none⟩,
 ⟨.tmp, .fadr 1 (.t 0), .none⟩,
 ⟨.tmp, .load1 (.t 0), .none⟩,
 ⟨.tmp, .len false (.t 0), .none⟩,
 ⟨.tmp, .bin .eql (.t 0) (.c (.int .i64 (.ofNat 1))), .none⟩]) (
 .cond (.t 0) (
 .seq (.reg [⟨.tmp, .fadr 2 (.v 2), .none⟩,
 ⟨.tmp, .load1 (.t 0), .none⟩,
 ⟨(.var 6), .move (.c (.nils)), .none⟩,
 ⟨(.var 7), .move (.t 0), .none⟩,
 ⟨(.var 8), .move (.c (.int .i64 (.ofNat 42))), .none⟩]) (
 .ret)) (
 .skip))) (
 .reg [⟨.tmp, .move (.v 0), .none⟩,
 ⟨.tmp, .loadN 5 (.v 2), .none⟩,
 ⟨.tmp, .call 47 [(.t 1), (.t 0), (.c (.bool false))], .none⟩]))))))
def b23_3 : DC :=
 .seq (.seq (.reg [⟨.tmp, .move (.v 1), .none⟩,
 ⟨.tmp, .bin .gtr (.t 0) (.c (.int .i64 (.ofNat 0))), .none⟩,
 ⟨.tmp, .move (.t 0), .none⟩,
 ⟨.tmp, .move (.v 0), .some ((.t 0), true)⟩,
 ⟨.tmp, .nilck (.t 0), .some ((.t 1), true)⟩,
 ⟨.tmp, .fadr 2 (.t 0), .some ((.t 2), true)⟩,
 ⟨.tmp, .load1 (.t 0), .some ((.t 3), true)⟩,
 ⟨.tmp, .bin .eql (.t 0) (.c (.int .i64 (.ofNat 0))), .some ((.t 4), true)⟩,
 ⟨.tmp, .pick (.t 5) (.t 0) (.c (.bool false)), .none⟩]) (
 .cond (.t 0) (
 .skip) (
 .exit 8))) (
 .block 9 (
 .seq (.reg [⟨.tmp, .move (.v 0), .none⟩,
 ⟨.tmp, .loadN 5 (.v 2), .none⟩,
 ⟨.tmp, .call 47 [(.t 1), (.t 0), (.c (.bool false))], .none⟩]) (
 .reg [⟨.tmp, .move (.v 1), .none⟩,
 ⟨.tmp, .bin .sub (.t 0) (.c (.int .i64 (.ofNat 1))), .none⟩,
 ⟨(.var 1), .move (.t 0), .none⟩])))
def r23_4 : DC :=
 .exit 6
def r23_5 : DC :=
 .reg [⟨.tmp, .move (.v 3), .none⟩,
 ⟨.tmp, .bin .sub (.t 0) (.c (.int .i64 (.ofNat 1))), .none⟩,
 ⟨(.var 3), .move (.t 0), .none⟩]
def b23_6 : DC :=
 .seq (.seq (.reg [⟨.tmp, .move (.v 3), .none⟩,
 ⟨.tmp, .bin .geq (.t 0) (.c (.int .i64 (.ofNat 0))), .none⟩,
 ⟨.tmp, .move (.t 0), .none⟩,
 ⟨.tmp, .move (.v 0), .some ((.t 0), true)⟩,
 ⟨.tmp, .nilck (.t 0), .some ((.t 1), true)⟩,
 ⟨.tmp, .fadr 1 (.t 0), .some ((.t 2), true)⟩,
 ⟨.tmp, .load1 (.t 0), .some ((.t 3), true)⟩,
 ⟨.tmp, .move (.v 3), .some ((.t 4), true)⟩,
 ⟨.tmp, .idxS 4 (.t 1) (.t 0), .some ((.t 5), true)⟩,
 ⟨.tmp, .fadr 3 (.t 0), .some ((.t 6), true)⟩,
 ⟨.tmp, .load1 (.t 0), .some ((.t 7), true)⟩,
 ⟨.tmp, .not (.t 0), .some ((.t 8), true)⟩,
 ⟨.tmp, .pick (.t 9) (.t 0) (.c (.bool false)), .none⟩]) (
 .cond (.t 0) (
 .skip) (
 .exit 6))) (
 .seq (.block 7 (
 .seq (.reg [⟨.tmp, .move (.v 1), .none⟩,
 ⟨.tmp, .bin .add (.t 0) (.c (.int .i64 (.ofNat 1))), .none⟩,
 ⟨(.var 1), .move (.t 0), .none⟩]) (
 .seq (.reg [⟨.tmp, .move (.v 0), .none⟩,
 ⟨.tmp, .nilck (.t 0), .none⟩,
 ⟨.tmp, .fadr 1 (.t 0), .none⟩,
 ⟨.tmp, .load1 (.t 0), .none⟩,
 ⟨.tmp, .move (.v 3), .none⟩,
 ⟨.tmp, .idxS 4 (.t 1) (.t 0), .none⟩,
 ⟨.tmp, .fadr 1 (.t 0), .none⟩,
 ⟨.tmp, .load1 (.t 0), .none⟩]) (
 .cond (.t 0) (
 .seq (.block 8 (
 .loop b23_3)) r23_4) (
 .skip))))) r23_5)
def b23_7 : DC :=
 .seq (.seq (.reg [⟨.tmp, .move (.v 4), .none⟩,
 ⟨.tmp, .bin .geq (.t 0) (.c (.int .i64 (.ofNat 0))), .none⟩]) (
 .cond (.t 0) (
 .skip) (
 .exit 10))) (
 .seq (.block 11 (
 .seq (.reg [⟨.tmp, .move (.v 0), .none⟩,
 ⟨.tmp, .nilck (.t 0), .none⟩,
 ⟨.tmp, .fadr 1 (.t 0), .none⟩,
 ⟨.tmp, .load1 (.t 0), .none⟩,
 ⟨.tmp, .move (.v 4), .none⟩,
 ⟨.tmp, .idxS 4 (.t 1) (.t 0), .none⟩,
 ⟨.tmp, .fadr 3 (.t 0), .none⟩,
 ⟨.tmp, .load1 (.t 0), .none⟩,
 ⟨.tmp, .not (.t 0), .none⟩]) (
 .cond (.t 0) (
 .seq (.reg [⟨.tmp, .move (.v 0), .none⟩,
 ⟨.tmp, .nilck (.t 0), .none⟩,
 ⟨.tmp, .fadr 1 (.t 0), .none⟩,
 ⟨.tmp, .load1 (.t 0), .none⟩,
 ⟨.tmp, .move (.v 4), .none⟩,
 ⟨.tmp, .idxS 4 (.t 1) (.t 0), .none⟩,
 ⟨.tmp, .fadr 0 (.t 0), .none⟩,
 ⟨.tmp, .load1 (.t 0), .none⟩,
 ⟨(.var 10), .move (.t 0), .none⟩]) (
 .exit 10)) (
 .skip)))) (
 .reg [⟨.tmp, .move (.v 4), .none⟩,
 ⟨.tmp, .bin .sub (.t 0) (.c (.int .i64 (.ofNat 1))), .none⟩,
 ⟨(.var 4), .move (.t 0), .none⟩]))
def r23_8 : DC :=
 .seq (.reg [⟨.tmp, .move (.v 0), .none⟩,
 ⟨.tmp, .loadN 5 (.v 9), .none⟩,
 ⟨.tmp, .call 45 [(.t 1), (.c (.int .i64 (.ofNat 4))), (.t 0), (.c (.bool false))], .none⟩]) (
 .seq (.seq (.reg [⟨.tmp, .fadr 0 (.v 9), .none⟩,
 ⟨.tmp, .load1 (.t 0), .none⟩,
 ⟨.tmp, .bin .eql (.t 0) (.c (.int .i64 (.ofNat 7))), .none⟩,
 ⟨.tmp, .move (.t 0), .none⟩,
 ⟨.tmp, .fadr 4 (.v 9), .some ((.t 0), false)⟩,
 ⟨.tmp, .load1 (.t 0), .some ((.t 1), false)⟩,
 ⟨.tmp, .move (.v 10), .some ((.t 2), false)⟩,
 ⟨.tmp, .bin .leq (.t 1) (.t 0), .some ((.t 3), false)⟩,
 ⟨.tmp, .pick (.t 4) (.c (.bool true)) (.t 0), .none⟩]) (
 .cond (.t 0) (
 .seq (.reg [⟨.tmp, .move (.v 0), .none⟩,
 ⟨.tmp, .loadN 5 (.v 9), .none⟩,
 ⟨.tmp, .call 45 [(.t 1), (.c (.int .i64 (.ofNat 5))), (.t 0), (.c (.bool false))], .none⟩]) (
 .exit 1)) (
 .skip))) (
 .seq (.reg [⟨.tmp, .move (.v 0), .none⟩,
 ⟨.tmp, .fadr 4 (.v 9), .none⟩,
 ⟨.tmp, .load1 (.t 0), .none⟩,
 ⟨.tmp, .fadr 1 (.v 2), .none⟩,
 ⟨.tmp, .load1 (.t 0), .none⟩,
 ⟨.tmp, .bin .eql (.t 0) (.c (.str 3 7628140)), .none⟩,
 ⟨.tmp, .build [.int .i64 (.ofNat 0), .bool false, .int .i64 (.ofNat 0), .bool false] [(0, 1, (.t 3)), (1, 1, (.t 0))], .none⟩,
 ⟨.tmp, .loadN 5 (.v 9), .none⟩,
 ⟨.tmp, .call 46 [(.t 7), (.t 1), (.t 0)], .none⟩]) (
 .reg [⟨(.var 13), .move (.c (.bool true)), .none⟩])))
def r23_9 : DC :=
 .seq (.reg [⟨.tmp, .move (.v 0), .none⟩,
 ⟨.tmp, .loadN 5 (.v 2), .none⟩,
 ⟨.tmp, .call 48 [(.t 1), (.t 0)], .none⟩,
 ⟨(.var 14), .move (.t 0), .none⟩]) (
 .seq (.seq (.reg [⟨.tmp, .move (.v 14), .none⟩,
 ⟨.tmp, .not (.t 0), .none⟩,
 ⟨.tmp, .move (.t 0), .none⟩,
 ⟨.tmp, .move (.v 0), .some ((.t 0), true)⟩,
 ⟨.tmp, .nilck (.t 0), .some ((.t 1), true)⟩,
 ⟨.tmp, .fadr 2 (.t 0), .some ((.t 2), true)⟩,
 ⟨.tmp, .load1 (.t 0), .some ((.t 3), true)⟩,
 ⟨.tmp, .bin .eql (.t 0) (.c (.int .i64 (.ofNat 0))), .some ((.t 4), true)⟩,
 ⟨.tmp, .pick (.t 5) (.t 0) (.c (.bool false)), .none⟩]) (
 .cond (.t 0) (
 .seq (.seq (.reg [⟨.tmp, .move (.v 0), .none⟩,
 ⟨.tmp, .nilck (.t 0), .none⟩,
 ⟨.tmp, .fadr 0 (.t 0), .none⟩,
 ⟨.tmp, .load1 (.t 0), .none⟩,
 ⟨.tmp, .len false (.t 0), .none⟩,
 ⟨.tmp, .bin .geq (.t 0) (.c (.int .i64 (.ofNat 60000))), .none⟩]) (
 .cond (.t 0) (
 .seq (.reg [⟨.tmp, .fadr 2 (.v 2), .none⟩,
 ⟨.tmp, .load1 (.t 0), .none⟩,
 ⟨(.var 6), .move (.c (.nils)), .none⟩,
 ⟨(.var 7), .move (.t 0), .none⟩,
 ⟨(.var 8), .move (.c (.int .i64 (.ofNat 2))), .none⟩]) (
 .ret)) (
 .skip))) (
 .reg [⟨.tmp, .move (.v 0), .none⟩,
 ⟨.tmp, .move (.v 0), .none⟩,
 ⟨.tmp, .nilck (.t 0), .none⟩,
 ⟨.tmp, .fadr 0 (.t 0), .none⟩,
 ⟨.tmp, .load1 (.t 0), .none⟩,
 ⟨.tmp, .loadN 5 (.v 2), .none⟩,
 ⟨.tmp, .buildS 5 [[.int .i64 (.ofNat 0), .str 0 0, .int .i64 (.ofNat 0), .int .i64 (.ofNat 0), .int .i64 (.ofNat 0)]] [(0, (.t 0))], .none⟩,
 ⟨.tmp, .append 5 48 (.t 2) (.t 0), .none⟩,
 ⟨.tmp, .nilck (.t 7), .none⟩,
 ⟨.tmp, .fadr 0 (.t 0), .none⟩,
 ⟨.no, .store 1 (.t 0) (.t 2), .none⟩])) (
 .skip))) (
 .seq (.reg [⟨.tmp, .loadN 5 (.v 2), .none⟩,
 ⟨.tmp, .call 49 [(.t 0)], .none⟩,
 ⟨(.var 15), .move (.t 0), .none⟩]) (
 .seq (.seq (.reg [⟨.tmp, .move (.v 15), .none⟩,
 ⟨.tmp, .not (.t 0), .none⟩,
 ⟨.tmp, .move (.t 0), .none⟩,
 ⟨.tmp, .move (.v 0), .some ((.t 0), false)⟩,
 ⟨.tmp, .nilck (.t 0), .some ((.t 1), false)⟩,
 ⟨.tmp, .fadr 2 (.t 0), .some ((.t 2), false)⟩,
 ⟨.tmp, .load1 (.t 0), .some ((.t 3), false)⟩,
 ⟨.tmp, .bin .neq (.t 0) (.c (.int .i64 (.ofNat 0))), .some ((.t 4), false)⟩,
 ⟨.tmp, .pick (.t 5) (.c (.bool true)) (.t 0), .none⟩]) (
 .cond (.t 0) (
 .exit 1) (
 .skip))) (
 .seq (.reg [⟨.tmp, .move (.v 12), .none⟩,
 ⟨.tmp, .move (.v 11), .none⟩,
 ⟨.tmp, .bin .add (.t 0) (.c (.int .i64 (.ofNat 1))), .none⟩,
 ⟨.tmp, .idxS 5 (.t 2) (.t 0), .none⟩,
 ⟨.tmp, .loadN 5 (.t 0), .none⟩,
 ⟨(.var 9), .alloc [.int .i64 (.ofNat 0), .str 0 0, .int .i64 (.ofNat 0), .int .i64 (.ofNat 0), .int .i64 (.ofNat 0)], .none⟩,
 ⟨.no, .store 5 (.v 9) (.t 0), .none⟩]) (
 .seq (.seq (.reg [⟨.tmp, .fadr 0 (.v 9), .none⟩,
 ⟨.tmp, .load1 (.t 0), .none⟩,
 ⟨.tmp, .bin .eql (.t 0) (.c (.int .i64 (.ofNat 2))), .none⟩,
 ⟨.tmp, .move (.t 0), .none⟩,
 ⟨.tmp, .fadr 1 (.v 9), .some ((.t 0), true)⟩,
 ⟨.tmp, .load1 (.t 0), .some ((.t 1), true)⟩,
 ⟨.tmp, .bin .eql (.t 0) (.c (.str 1 123)), .some ((.t 2), true)⟩,
 ⟨.tmp, .pick (.t 3) (.t 0) (.c (.bool false)), .none⟩]) (
 .cond (.t 0) (
 .seq (.reg [⟨.tmp, .move (.v 0), .none⟩,
 ⟨.tmp, .loadN 5 (.v 9), .none⟩,
 ⟨.tmp, .call 45 [(.t 1), (.c (.int .i64 (.ofNat 4))), (.t 0), (.c (.bool true))], .none⟩]) (
 .seq (.reg [⟨.tmp, .move (.v 0), .none⟩,
 ⟨.tmp, .build [.int .i64 (.ofNat 0), .bool false, .int .i64 (.ofNat 0), .bool false] [(3, 1, (.c (.bool true)))], .none⟩,
 ⟨.tmp, .loadN 5 (.v 9), .none⟩,
 ⟨.tmp, .call 46 [(.t 2), (.t 1), (.t 0)], .none⟩]) (
 .seq (.reg [⟨.tmp, .move (.v 11), .none⟩,
 ⟨.tmp, .bin .add (.t 0) (.c (.int .i64 (.ofNat 1))), .none⟩,
 ⟨(.var 11), .move (.t 0), .none⟩]) (
 .exit 1)))) (
 .skip))) (
 .seq (.reg [⟨(.var 10), .move (.c (.int .i64 (.ofNat 0))), .none⟩]) (
 .seq (.seq (.reg [⟨.tmp, .move (.v 0), .none⟩,
 ⟨.tmp, .nilck (.t 0), .none⟩,
 ⟨.tmp, .fadr 1 (.t 0), .none⟩,
 ⟨.tmp, .load1 (.t 0), .none⟩,
 ⟨.tmp, .len false (.t 0), .none⟩,
 ⟨.tmp, .bin .sub (.t 0) (.c (.int .i64 (.ofNat 1))), .none⟩,
 ⟨(.var 4), .move (.t 0), .none⟩]) (
 .block 10 (
 .loop b23_7))) r23_8)))))))
def r23_10 : DC :=
 .seq (.reg [⟨(.var 13), .move (.c (.bool false)), .none⟩]) (
 .seq (.seq (.reg [⟨.tmp, .fadr 0 (.v 2), .none⟩,
 ⟨.tmp, .load1 (.t 0), .none⟩,
 ⟨.tmp, .bin .eql (.t 0) (.c (.int .i64 (.ofNat 2))), .none⟩,
 ⟨.tmp, .move (.t 0), .none⟩,
 ⟨.tmp, .fadr 1 (.v 2), .some ((.t 0), true)⟩,
 ⟨.tmp, .load1 (.t 0), .some ((.t 1), true)⟩,
 ⟨.tmp, .bin .eql (.t 0) (.c (.str 2 28265)), .some ((.t 2), true)⟩,
 ⟨.tmp, .pick (.t 3) (.t 0) (.c (.bool false)), .none⟩]) (
 .cond (.t 0) (
 .seq (.reg [⟨(.var 1), .move (.c (.int .i64 (.ofNat 0))), .none⟩]) (
 .seq (.reg [⟨.tmp, .move (.v 0), .none⟩,
 ⟨.tmp, .nilck (.t 0), .none⟩,
 ⟨.tmp, .fadr 1 (.t 0), .none⟩,
 ⟨.tmp, .load1 (.t 0), .none⟩,
 ⟨.tmp, .len false (.t 0), .none⟩,
 ⟨.tmp, .bin .sub (.t 0) (.c (.int .i64 (.ofNat 1))), .none⟩,
 ⟨(.var 3), .move (.t 0), .none⟩]) (
 .block 6 (
 .loop b23_6)))) (
 .skip))) r23_9)
def r23_11 : DC :=
 .seq (.seq (.reg [⟨.tmp, .move (.v 13), .none⟩,
 ⟨.tmp, .not (.t 0), .none⟩,
 ⟨.tmp, .move (.t 0), .none⟩,
 ⟨.tmp, .move (.v 11), .some ((.t 0), true)⟩,
 ⟨.tmp, .bin .gtr (.t 0) (.c (.int .i64 (.ofNat 0))), .some ((.t 1), true)⟩,
 ⟨.tmp, .pick (.t 2) (.t 0) (.c (.bool false)), .none⟩,
 ⟨.tmp, .move (.t 0), .none⟩,
 ⟨.tmp, .fadr 3 (.v 2), .some ((.t 0), true)⟩,
 ⟨.tmp, .load1 (.t 0), .some ((.t 1), true)⟩,
 ⟨.tmp, .move (.v 12), .some ((.t 2), true)⟩,
 ⟨.tmp, .move (.v 11), .some ((.t 3), true)⟩,
 ⟨.tmp, .bin .sub (.t 0) (.c (.int .i64 (.ofNat 1))), .some ((.t 4), true)⟩,
 ⟨.tmp, .idxS 5 (.t 2) (.t 0), .some ((.t 5), true)⟩,
 ⟨.tmp, .fadr 3 (.t 0), .some ((.t 6), true)⟩,
 ⟨.tmp, .load1 (.t 0), .some ((.t 7), true)⟩,
 ⟨.tmp, .bin .gtr (.t 6) (.t 0), .some ((.t 8), true)⟩,
 ⟨.tmp, .pick (.t 9) (.t 0) (.c (.bool false)), .none⟩]) (
 .cond (.t 0) (
 .block 4 (
 .loop b23_2)) (
 .skip))) r23_10
def r23_12 : DC :=
 .reg [⟨.tmp, .move (.v 11), .none⟩,
 ⟨.tmp, .bin .add (.t 0) (.c (.int .i64 (.ofNat 1))), .none⟩,
 ⟨(.var 11), .move (.t 0), .none⟩]
def b23_13 : DC :=
 .seq (.seq (.reg [⟨.tmp, .move (.v 11), .none⟩,
 ⟨.tmp, .move (.v 12), .none⟩,
 ⟨.tmp, .len false (.t 0), .none⟩,
 ⟨.tmp, .bin .lss (.t 2) (.t 0), .none⟩,
 ⟨.tmp, .move (.t 0), .none⟩,
 ⟨.tmp, .move (.v 0), .some ((.t 0), true)⟩,
 ⟨.tmp, .nilck (.t 0), .some ((.t 1), true)⟩,
 ⟨.tmp, .fadr 2 (.t 0), .some ((.t 2), true)⟩,
 ⟨.tmp, .load1 (.t 0), .some ((.t 3), true)⟩,
 ⟨.tmp, .bin .eql (.t 0) (.c (.int .i64 (.ofNat 0))), .some ((.t 4), true)⟩,
 ⟨.tmp, .pick (.t 5) (.t 0) (.c (.bool false)), .none⟩]) (
 .cond (.t 0) (
 .skip) (
 .exit 0))) (
 .seq (.block 1 (
 .seq (.reg [⟨.tmp, .move (.v 12), .none⟩,
 ⟨.tmp, .move (.v 11), .none⟩,
 ⟨.tmp, .idxS 5 (.t 1) (.t 0), .none⟩,
 ⟨.tmp, .loadN 5 (.t 0), .none⟩,
 ⟨(.var 2), .alloc [.int .i64 (.ofNat 0), .str 0 0, .int .i64 (.ofNat 0), .int .i64 (.ofNat 0), .int .i64 (.ofNat 0)], .none⟩,
 ⟨.no, .store 5 (.v 2) (.t 0), .none⟩]) (
 .seq (.seq (.reg [⟨.tmp, .fadr 0 (.v 2), .none⟩,
 ⟨.tmp, .load1 (.t 0), .none⟩,
 ⟨.tmp, .bin .eql (.t 0) (.c (.int .i64 (.ofNat 7))), .none⟩]) (
 .cond (.t 0) (
 .seq (.block 2 (
 .loop b23_0)) r23_1) (
 .skip))) r23_11))) r23_12)
def r23_14 : DC :=
 .seq (.seq (.reg [⟨.tmp, .move (.v 0), .none⟩,
 ⟨.tmp, .nilck (.t 0), .none⟩,
 ⟨.tmp, .fadr 2 (.t 0), .none⟩,
 ⟨.tmp, .load1 (.t 0), .none⟩,
 ⟨.tmp, .bin .neq (.t 0) (.c (.int .i64 (.ofNat 0))), .none⟩]) (
 .cond (.t 0) (
 .seq (.reg [⟨.tmp, .move (.v 0), .none⟩,
 ⟨.tmp, .nilck (.t 0), .none⟩,
 ⟨.tmp, .fadr 3 (.t 0), .none⟩,
 ⟨.tmp, .load1 (.t 0), .none⟩,
 ⟨.tmp, .move (.v 0), .none⟩,
 ⟨.tmp, .nilck (.t 0), .none⟩,
 ⟨.tmp, .fadr 2 (.t 0), .none⟩,
 ⟨.tmp, .load1 (.t 0), .none⟩,
 ⟨(.var 6), .move (.c (.nils)), .none⟩,
 ⟨(.var 7), .move (.t 4), .none⟩,
 ⟨(.var 8), .move (.t 0), .none⟩]) (
 .ret)) (
 .skip))) (
 .seq (.reg [⟨.tmp, .move (.v 0), .none⟩,
 ⟨.tmp, .nilck (.t 0), .none⟩,
 ⟨.tmp, .fadr 0 (.t 0), .none⟩,
 ⟨.tmp, .load1 (.t 0), .none⟩,
 ⟨(.var 6), .move (.t 0), .none⟩,
 ⟨(.var 7), .move (.c (.int .i64 (.ofNat 0))), .none⟩,
 ⟨(.var 8), .move (.c (.int .i64 (.ofNat 0))), .none⟩]) (
 .ret))
def d23 : DF := ⟨[.some 5, .some 10, .some 8, .some 11, .some 16, .some 9, .some 2, .some 3, .some 4, .some 14, .some 15, .some 7, .some 0, .some 6, .some 12, .some 13],
 .seq (.reg [⟨(.var 6), .move (.c (.nils)), .none⟩,
 ⟨(.var 7), .move (.c (.int .i64 (.ofNat 0))), .none⟩,
 ⟨(.var 8), .move (.c (.int .i64 (.ofNat 0))), .none⟩]) (
 .seq (.reg [⟨.tmp, .build [.nils, .nils, .int .i64 (.ofNat 0), .int .i64 (.ofNat 0)] [], .none⟩,
 ⟨.tmp, .box 4 (.t 0), .none⟩,
 ⟨(.var 0), .move (.t 0), .none⟩]) (
 .seq (.seq (.reg [⟨.tmp, .move (.v 12), .none⟩,
 ⟨.tmp, .len false (.t 0), .none⟩,
 ⟨.tmp, .bin .eql (.t 0) (.c (.int .i64 (.ofNat 0))), .none⟩]) (
 .cond (.t 0) (
 .seq (.reg [⟨(.var 6), .move (.c (.nils)), .none⟩,
 ⟨(.var 7), .move (.c (.int .i64 (.ofNat 0))), .none⟩,
 ⟨(.var 8), .move (.c (.int .i64 (.ofNat 0))), .none⟩]) (
 .ret)) (
 .skip))) (
 .seq (.reg [⟨.tmp, .move (.v 0), .none⟩,
 ⟨.tmp, .move (.v 12), .none⟩,
 ⟨.tmp, .idxS 5 (.t 0) (.c (.int .i64 (.ofNat 0))), .none⟩,
 ⟨.tmp, .loadN 5 (.t 0), .none⟩,
 ⟨.tmp, .call 45 [(.t 3), (.c (.int .i64 (.ofNat 4))), (.t 0), (.c (.bool false))], .none⟩]) (
 .seq (.reg [⟨.tmp, .move (.v 0), .none⟩,
 ⟨.tmp, .move (.v 12), .none⟩,
 ⟨.tmp, .idxS 5 (.t 0) (.c (.int .i64 (.ofNat 0))), .none⟩,
 ⟨.tmp, .fadr 4 (.t 0), .none⟩,
 ⟨.tmp, .load1 (.t 0), .none⟩,
 ⟨.tmp, .build [.int .i64 (.ofNat 0), .bool false, .int .i64 (.ofNat 0), .bool false] [(0, 1, (.t 0))], .none⟩,
 ⟨.tmp, .move (.v 12), .none⟩,
 ⟨.tmp, .idxS 5 (.t 0) (.c (.int .i64 (.ofNat 0))), .none⟩,
 ⟨.tmp, .loadN 5 (.t 0), .none⟩,
 ⟨.tmp, .call 46 [(.t 8), (.t 3), (.t 0)], .none⟩]) (
 .seq (.reg [⟨(.var 13), .move (.c (.bool true)), .none⟩]) (
 .seq (.seq (.reg [⟨(.var 11), .move (.c (.int .i64 (.ofNat 0))), .none⟩]) (
 .block 0 (
 .loop b23_13))) r23_14)))))),
 [.opd (.v 6), .opd (.v 7), .opd (.v 8)], 16, .none⟩
/-- (*telamon/telamonref12.Parser).takeKind -/
def vm24 : List Nat := [0, 4, 1]

def d24 : DF := ⟨[.some 0, .some 4, .some 1],
 .seq (.reg [⟨.tmp, .move (.v 0), .none⟩,
 ⟨.tmp, .move (.v 2), .none⟩,
 ⟨.tmp, .call 50 [(.t 1), (.t 0)], .none⟩,
 ⟨(.var 1), .move (.t 0), .none⟩]) (
 .seq (.seq (.reg [⟨.tmp, .move (.v 1), .none⟩,
 ⟨.tmp, .not (.t 0), .none⟩]) (
 .cond (.t 0) (
 .seq (.reg [⟨.tmp, .move (.v 0), .none⟩,
 ⟨.tmp, .call 51 [(.t 0), (.c (.int .i64 (.ofNat 41)))], .none⟩]) (
 .ret)) (
 .skip))) (
 .reg [⟨.tmp, .move (.v 0), .none⟩,
 ⟨.tmp, .nilck (.t 0), .none⟩,
 ⟨.tmp, .fadr 1 (.t 0), .none⟩,
 ⟨.tmp, .load1 (.t 0), .none⟩,
 ⟨.tmp, .bin .add (.t 0) (.c (.int .i64 (.ofNat 1))), .none⟩,
 ⟨.tmp, .nilck (.t 4), .none⟩,
 ⟨.tmp, .fadr 1 (.t 0), .none⟩,
 ⟨.no, .store 1 (.t 0) (.t 2), .none⟩])),
 [], 3, .none⟩
/-- (*telamon/telamonref12.Parser).items -/
def vm25 : List Nat := [0, 3, 5, 2, 4]
def b25_0 : DC :=
 .block 1 (
 .seq (.reg [⟨.tmp, .move (.v 0), .none⟩,
 ⟨.tmp, .call 50 [(.t 0), (.c (.int .i64 (.ofNat 5)))], .none⟩,
 ⟨(.var 4), .move (.t 0), .none⟩]) (
 .seq (.reg [⟨.tmp, .move (.v 0), .none⟩,
 ⟨.tmp, .call 50 [(.t 0), (.c (.int .i64 (.ofNat 6)))], .none⟩,
 ⟨(.var 2), .move (.t 0), .none⟩]) (
 .seq (.seq (.reg [⟨.tmp, .move (.v 0), .none⟩,
 ⟨.tmp, .nilck (.t 0), .none⟩,
 ⟨.tmp, .fadr 2 (.t 0), .none⟩,
 ⟨.tmp, .load1 (.t 0), .none⟩,
 ⟨.tmp, .bin .neq (.t 0) (.c (.int .i64 (.ofNat 0))), .none⟩]) (
 .cond (.t 0) (
 .seq (.reg [⟨.tmp, .move (.v 1), .none⟩,
 ⟨(.var 3), .move (.t 0), .none⟩]) (
 .ret)) (
 .skip))) (
 .seq (.seq (.reg [⟨.tmp, .move (.v 4), .none⟩,
 ⟨.tmp, .not (.t 0), .none⟩,
 ⟨.tmp, .move (.t 0), .none⟩,
 ⟨.tmp, .move (.v 2), .some ((.t 0), true)⟩,
 ⟨.tmp, .not (.t 0), .some ((.t 1), true)⟩,
 ⟨.tmp, .pick (.t 2) (.t 0) (.c (.bool false)), .none⟩]) (
 .cond (.t 0) (
 .seq (.reg [⟨.tmp, .move (.v 1), .none⟩,
 ⟨.tmp, .move (.v 0), .none⟩,
 ⟨.tmp, .call 52 [(.t 0)], .none⟩,
 ⟨.tmp, .buildS 26 [[.int .i64 (.ofNat 0), .int .i64 (.ofNat 0), .str 0 0, .str 0 0, .nils, .nils, .int .i64 (.ofNat 0), .int .i64 (.ofNat 0), .str 0 0, .bool false, .nils, .nils, .int .i64 (.ofNat 0), .int .i64 (.ofNat 0), .int .i64 (.ofNat 0), .str 0 0, .bool false, .nils, .nils, .int .i64 (.ofNat 0), .nils, .bool false, .nils, .nils, .nils, .int .i64 (.ofNat 0)]] [(0, (.t 0))], .none⟩,
 ⟨.tmp, .append 26 400 (.t 3) (.t 0), .none⟩,
 ⟨(.var 1), .move (.t 0), .none⟩]) (
 .reg [⟨.tmp, .move (.v 0), .none⟩,
 ⟨.tmp, .call 50 [(.t 0), (.c (.int .i64 (.ofNat 6)))], .none⟩,
 ⟨(.var 2), .move (.t 0), .none⟩])) (
 .skip))) (
 .seq (.seq (.reg [⟨.tmp, .move (.v 2), .none⟩,
 ⟨.tmp, .not (.t 0), .none⟩,
 ⟨.tmp, .move (.t 0), .none⟩,
 ⟨.tmp, .move (.v 0), .some ((.t 0), false)⟩,
 ⟨.tmp, .nilck (.t 0), .some ((.t 1), false)⟩,
 ⟨.tmp, .fadr 2 (.t 0), .some ((.t 2), false)⟩,
 ⟨.tmp, .load1 (.t 0), .some ((.t 3), false)⟩,
 ⟨.tmp, .bin .neq (.t 0) (.c (.int .i64 (.ofNat 0))), .some ((.t 4), false)⟩,
 ⟨.tmp, .pick (.t 5) (.c (.bool true)) (.t 0), .none⟩]) (
 .cond (.t 0) (
 .seq (.reg [⟨.tmp, .move (.v 1), .none⟩,
 ⟨(.var 3), .move (.t 0), .none⟩]) (
 .ret)) (
 .skip))) (
 .reg [⟨.tmp, .move (.v 0), .none⟩,
 ⟨.tmp, .nilck (.t 0), .none⟩,
 ⟨.tmp, .fadr 1 (.t 0), .none⟩,
 ⟨.tmp, .load1 (.t 0), .none⟩,
 ⟨.tmp, .bin .add (.t 0) (.c (.int .i64 (.ofNat 1))), .none⟩,
 ⟨.tmp, .nilck (.t 4), .none⟩,
 ⟨.tmp, .fadr 1 (.t 0), .none⟩,
 ⟨.no, .store 1 (.t 0) (.t 2), .none⟩]))))))
def d25 : DF := ⟨[.some 0, .some 3, .some 5, .some 2, .some 4],
 .seq (.reg [⟨(.var 3), .move (.c (.nils)), .none⟩]) (
 .seq (.reg [⟨(.var 1), .move (.c (.nils)), .none⟩]) (
 .block 0 (
 .loop b25_0))),
 [.opd (.v 3)], 5, .none⟩
/-- telamon/telamonref12.Table -/
def vm26 : List Nat := [5, 7, 6, 2, 3, 4, 0]
def b26_0 : DC :=
 .seq (.seq (.reg [⟨.tmp, .move (.v 1), .none⟩,
 ⟨.tmp, .move (.v 0), .none⟩,
 ⟨.tmp, .nilck (.t 0), .none⟩,
 ⟨.tmp, .fadr 3 (.t 0), .none⟩,
 ⟨.tmp, .load1 (.t 0), .none⟩,
 ⟨.tmp, .len false (.t 0), .none⟩,
 ⟨.tmp, .bin .lss (.t 5) (.t 0), .none⟩]) (
 .cond (.t 0) (
 .skip) (
 .exit 2))) (
 .seq (.block 3 (
 .seq (.reg [⟨.tmp, .move (.v 0), .none⟩,
 ⟨.tmp, .nilck (.t 0), .none⟩,
 ⟨.tmp, .fadr 3 (.t 0), .none⟩,
 ⟨.tmp, .load1 (.t 0), .none⟩,
 ⟨.tmp, .move (.v 1), .none⟩,
 ⟨.tmp, .idxS 26 (.t 1) (.t 0), .none⟩,
 ⟨.tmp, .fadr 2 (.t 0), .none⟩,
 ⟨.tmp, .load1 (.t 0), .none⟩,
 ⟨.tmp, .move (.v 0), .none⟩,
 ⟨.tmp, .nilck (.t 0), .none⟩,
 ⟨.tmp, .fadr 0 (.t 0), .none⟩,
 ⟨.tmp, .load1 (.t 0), .none⟩,
 ⟨.tmp, .move (.v 2), .none⟩,
 ⟨.tmp, .idxS 6 (.t 1) (.t 0), .none⟩,
 ⟨.tmp, .fadr 0 (.t 0), .none⟩,
 ⟨.tmp, .load1 (.t 0), .none⟩,
 ⟨.tmp, .bin .eql (.t 8) (.t 0), .none⟩]) (
 .cond (.t 0) (
 .seq (.reg [⟨.tmp, .move (.v 0), .none⟩,
 ⟨.tmp, .nilck (.t 0), .none⟩,
 ⟨.tmp, .fadr 0 (.t 0), .none⟩,
 ⟨.tmp, .load1 (.t 0), .none⟩,
 ⟨.tmp, .move (.v 2), .none⟩,
 ⟨.tmp, .move (.v 0), .none⟩,
 ⟨.tmp, .nilck (.t 0), .none⟩,
 ⟨.tmp, .fadr 3 (.t 0), .none⟩,
 ⟨.tmp, .load1 (.t 0), .none⟩,
 ⟨.tmp, .move (.v 1), .none⟩,
 ⟨.tmp, .idxS 26 (.t 1) (.t 0), .none⟩,
 ⟨.tmp, .fadr 1 (.t 0), .none⟩,
 ⟨.tmp, .load1 (.t 0), .none⟩,
 ⟨.tmp, .idxS 6 (.t 9) (.t 8), .none⟩,
 ⟨.tmp, .fadr 4 (.t 0), .none⟩,
 ⟨.no, .store 1 (.t 0) (.t 2), .none⟩]) (
 .reg [⟨.tmp, .move (.v 0), .none⟩,
 ⟨.tmp, .nilck (.t 0), .none⟩,
 ⟨.tmp, .fadr 0 (.t 0), .none⟩,
 ⟨.tmp, .load1 (.t 0), .none⟩,
 ⟨.tmp, .move (.v 2), .none⟩,
 ⟨.tmp, .move (.v 0), .none⟩,
 ⟨.tmp, .nilck (.t 0), .none⟩,
 ⟨.tmp, .fadr 3 (.t 0), .none⟩,
 ⟨.tmp, .load1 (.t 0), .none⟩,
 ⟨.tmp, .move (.v 1), .none⟩,
 ⟨.tmp, .idxS 26 (.t 1) (.t 0), .none⟩,
 ⟨.tmp, .fadr 3 (.t 0), .none⟩,
 ⟨.tmp, .load1 (.t 0), .none⟩,
 ⟨.tmp, .idxS 6 (.t 9) (.t 8), .none⟩,
 ⟨.tmp, .fadr 5 (.t 0), .none⟩,
 ⟨.no, .store 1 (.t 0) (.t 2), .none⟩])) (
 .skip)))) (
 .reg [⟨.tmp, .move (.v 1), .none⟩,
 ⟨.tmp, .bin .add (.t 0) (.c (.int .i64 (.ofNat 1))), .none⟩,
 ⟨(.var 1), .move (.t 0), .none⟩]))
def r26_1 : DC :=
 .reg [⟨.tmp, .move (.v 2), .none⟩,
 ⟨.tmp, .bin .add (.t 0) (.c (.int .i64 (.ofNat 1))), .none⟩,
 ⟨(.var 2), .move (.t 0), .none⟩]
def b26_2 : DC :=
 .seq (.seq (.reg [⟨.tmp, .move (.v 2), .none⟩,
 ⟨.tmp, .move (.v 0), .none⟩,
 ⟨.tmp, .nilck (.t 0), .none⟩,
 ⟨.tmp, .fadr 0 (.t 0), .none⟩,
 ⟨.tmp, .load1 (.t 0), .none⟩,
 ⟨.tmp, .len false (.t 0), .none⟩,
 ⟨.tmp, .bin .lss (.t 5) (.t 0), .none⟩]) (
 .cond (.t 0) (
 .skip) (
 .exit 0))) (
 .seq (.block 1 (
 .seq (.reg [⟨(.var 1), .move (.c (.int .i64 (.ofNat 0))), .none⟩]) (
 .block 2 (
 .loop b26_0)))) r26_1)
def r26_3 : DC :=
 .seq (.reg [⟨.tmp, .move (.v 0), .none⟩,
 ⟨.tmp, .nilck (.t 0), .none⟩,
 ⟨.tmp, .fadr 0 (.t 0), .none⟩,
 ⟨.tmp, .load1 (.t 0), .none⟩,
 ⟨(.var 3), .move (.t 0), .none⟩,
 ⟨(.var 4), .move (.c (.int .i64 (.ofNat 0))), .none⟩,
 ⟨(.var 5), .move (.c (.int .i64 (.ofNat 0))), .none⟩]) (
 .ret)
def d26 : DF := ⟨[.some 5, .some 7, .some 6, .some 2, .some 3, .some 4, .some 0],
 .seq (.reg [⟨(.var 3), .move (.c (.nils)), .none⟩,
 ⟨(.var 4), .move (.c (.int .i64 (.ofNat 0))), .none⟩,
 ⟨(.var 5), .move (.c (.int .i64 (.ofNat 0))), .none⟩]) (
 .seq (.reg [⟨.tmp, .move (.v 6), .none⟩,
 ⟨.tmp, .call 53 [(.t 0)], .none⟩,
 ⟨.tmp, .build [.nils, .nils, .nils, .nils, .int .i64 (.ofNat 0), .int .i64 (.ofNat 0)] [(1, 1, (.t 0))], .none⟩,
 ⟨.tmp, .box 6 (.t 0), .none⟩,
 ⟨(.var 0), .move (.t 0), .none⟩]) (
 .seq (.reg [⟨.tmp, .move (.v 0), .none⟩,
 ⟨.tmp, .move (.v 6), .none⟩,
 ⟨.tmp, .call 54 [(.t 1), (.t 0)], .none⟩]) (
 .seq (.seq (.reg [⟨.tmp, .move (.v 0), .none⟩,
 ⟨.tmp, .nilck (.t 0), .none⟩,
 ⟨.tmp, .fadr 4 (.t 0), .none⟩,
 ⟨.tmp, .load1 (.t 0), .none⟩,
 ⟨.tmp, .bin .neq (.t 0) (.c (.int .i64 (.ofNat 0))), .none⟩]) (
 .cond (.t 0) (
 .seq (.reg [⟨.tmp, .move (.v 0), .none⟩,
 ⟨.tmp, .nilck (.t 0), .none⟩,
 ⟨.tmp, .fadr 5 (.t 0), .none⟩,
 ⟨.tmp, .load1 (.t 0), .none⟩,
 ⟨.tmp, .move (.v 0), .none⟩,
 ⟨.tmp, .nilck (.t 0), .none⟩,
 ⟨.tmp, .fadr 4 (.t 0), .none⟩,
 ⟨.tmp, .load1 (.t 0), .none⟩,
 ⟨(.var 3), .move (.c (.nils)), .none⟩,
 ⟨(.var 4), .move (.t 4), .none⟩,
 ⟨(.var 5), .move (.t 0), .none⟩]) (
 .ret)) (
 .skip))) (
 .seq (.seq (.reg [⟨(.var 2), .move (.c (.int .i64 (.ofNat 0))), .none⟩]) (
 .block 0 (
 .loop b26_2))) r26_3)))),
 [.opd (.v 3), .opd (.v 4), .opd (.v 5)], 7, .none⟩
/-- (*telamon/telamonref12.resolver).stmts -/
def vm27 : List Nat := [7, 0, 6, 5, 1, 4]
def b27_0 : DC :=
 .seq (.seq (.reg [⟨.tmp, .move (.v 2), .none⟩,
 ⟨.tmp, .move (.v 4), .none⟩,
 ⟨.tmp, .len false (.t 0), .none⟩,
 ⟨.tmp, .bin .lss (.t 2) (.t 0), .none⟩,
 ⟨.tmp, .move (.t 0), .none⟩,
 ⟨.tmp, .move (.v 1), .some ((.t 0), true)⟩,
 ⟨.tmp, .nilck (.t 0), .some ((.t 1), true)⟩,
 ⟨.tmp, .fadr 1 (.t 0), .some ((.t 2), true)⟩,
 ⟨.tmp, .load1 (.t 0), .some ((.t 3), true)⟩,
 ⟨.tmp, .bin .eql (.t 0) (.c (.int .i64 (.ofNat 0))), .some ((.t 4), true)⟩,
 ⟨.tmp, .pick (.t 5) (.t 0) (.c (.bool false)), .none⟩]) (
 .cond (.t 0) (
 .skip) (
 .exit 0))) (
 .seq (.block 1 (
 .seq (.reg [⟨.tmp, .move (.v 4), .none⟩,
 ⟨.tmp, .move (.v 2), .none⟩,
 ⟨.tmp, .idxS 26 (.t 1) (.t 0), .none⟩,
 ⟨.tmp, .loadN 26 (.t 0), .none⟩,
 ⟨(.var 0), .alloc [.int .i64 (.ofNat 0), .int .i64 (.ofNat 0), .str 0 0, .str 0 0, .nils, .nils, .int .i64 (.ofNat 0), .int .i64 (.ofNat 0), .str 0 0, .bool false, .nils, .nils, .int .i64 (.ofNat 0), .int .i64 (.ofNat 0), .int .i64 (.ofNat 0), .str 0 0, .bool false, .nils, .nils, .int .i64 (.ofNat 0), .nils, .bool false, .nils, .nils, .nils, .int .i64 (.ofNat 0)], .none⟩,
 ⟨.no, .store 26 (.v 0) (.t 0), .none⟩]) (
 .seq (.reg [⟨.tmp, .move (.v 1), .none⟩,
 ⟨.tmp, .fadr 5 (.v 0), .none⟩,
 ⟨.tmp, .load1 (.t 0), .none⟩,
 ⟨.tmp, .call 55 [(.t 2), (.t 0)], .none⟩,
 ⟨.tmp, .fadr 5 (.v 0), .none⟩,
 ⟨.no, .store 1 (.t 0) (.t 1), .none⟩]) (
 .seq (.seq (.reg [⟨.tmp, .fadr 6 (.v 0), .none⟩,
 ⟨.tmp, .fadr 0 (.t 0), .none⟩,
 ⟨.tmp, .load1 (.t 0), .none⟩,
 ⟨.tmp, .bin .neq (.t 0) (.c (.int .i64 (.ofNat 0))), .none⟩,
 ⟨.tmp, .move (.t 0), .none⟩,
 ⟨.tmp, .move (.v 1), .some ((.t 0), true)⟩,
 ⟨.tmp, .nilck (.t 0), .some ((.t 1), true)⟩,
 ⟨.tmp, .fadr 1 (.t 0), .some ((.t 2), true)⟩,
 ⟨.tmp, .load1 (.t 0), .some ((.t 3), true)⟩,
 ⟨.tmp, .bin .eql (.t 0) (.c (.int .i64 (.ofNat 0))), .some ((.t 4), true)⟩,
 ⟨.tmp, .pick (.t 5) (.t 0) (.c (.bool false)), .none⟩]) (
 .cond (.t 0) (
 .reg [⟨.tmp, .move (.v 1), .none⟩,
 ⟨.tmp, .fadr 6 (.v 0), .none⟩,
 ⟨.tmp, .loadN 7 (.t 0), .none⟩,
 ⟨.tmp, .call 56 [(.t 2), (.t 0)], .none⟩,
 ⟨.tmp, .fadr 6 (.v 0), .none⟩,
 ⟨.no, .store 7 (.t 0) (.t 1), .none⟩]) (
 .skip))) (
 .seq (.seq (.reg [⟨.tmp, .fadr 13 (.v 0), .none⟩,
 ⟨.tmp, .fadr 0 (.t 0), .none⟩,
 ⟨.tmp, .load1 (.t 0), .none⟩,
 ⟨.tmp, .bin .neq (.t 0) (.c (.int .i64 (.ofNat 0))), .none⟩,
 ⟨.tmp, .move (.t 0), .none⟩,
 ⟨.tmp, .move (.v 1), .some ((.t 0), true)⟩,
 ⟨.tmp, .nilck (.t 0), .some ((.t 1), true)⟩,
 ⟨.tmp, .fadr 1 (.t 0), .some ((.t 2), true)⟩,
 ⟨.tmp, .load1 (.t 0), .some ((.t 3), true)⟩,
 ⟨.tmp, .bin .eql (.t 0) (.c (.int .i64 (.ofNat 0))), .some ((.t 4), true)⟩,
 ⟨.tmp, .pick (.t 5) (.t 0) (.c (.bool false)), .none⟩]) (
 .cond (.t 0) (
 .reg [⟨.tmp, .move (.v 1), .none⟩,
 ⟨.tmp, .fadr 13 (.v 0), .none⟩,
 ⟨.tmp, .loadN 7 (.t 0), .none⟩,
 ⟨.tmp, .call 56 [(.t 2), (.t 0)], .none⟩,
 ⟨.tmp, .fadr 13 (.v 0), .none⟩,
 ⟨.no, .store 7 (.t 0) (.t 1), .none⟩]) (
 .skip))) (
 .seq (.seq (.reg [⟨.tmp, .move (.v 1), .none⟩,
 ⟨.tmp, .nilck (.t 0), .none⟩,
 ⟨.tmp, .fadr 1 (.t 0), .none⟩,
 ⟨.tmp, .load1 (.t 0), .none⟩,
 ⟨.tmp, .bin .eql (.t 0) (.c (.int .i64 (.ofNat 0))), .none⟩]) (
 .cond (.t 0) (
 .reg [⟨.tmp, .move (.v 1), .none⟩,
 ⟨.tmp, .fadr 20 (.v 0), .none⟩,
 ⟨.tmp, .load1 (.t 0), .none⟩,
 ⟨.tmp, .call 27 [(.t 2), (.t 0)], .none⟩,
 ⟨.tmp, .fadr 20 (.v 0), .none⟩,
 ⟨.no, .store 1 (.t 0) (.t 1), .none⟩]) (
 .skip))) (
 .reg [⟨.tmp, .move (.v 3), .none⟩,
 ⟨.tmp, .loadN 26 (.v 0), .none⟩,
 ⟨.tmp, .buildS 26 [[.int .i64 (.ofNat 0), .int .i64 (.ofNat 0), .str 0 0, .str 0 0, .nils, .nils, .int .i64 (.ofNat 0), .int .i64 (.ofNat 0), .str 0 0, .bool false, .nils, .nils, .int .i64 (.ofNat 0), .int .i64 (.ofNat 0), .int .i64 (.ofNat 0), .str 0 0, .bool false, .nils, .nils, .int .i64 (.ofNat 0), .nils, .bool false, .nils, .nils, .nils, .int .i64 (.ofNat 0)]] [(0, (.t 0))], .none⟩,
 ⟨.tmp, .append 26 400 (.t 2) (.t 0), .none⟩,
 ⟨(.var 3), .move (.t 0), .none⟩]))))))) (
 .reg [⟨.tmp, .move (.v 2), .none⟩,
 ⟨.tmp, .bin .add (.t 0) (.c (.int .i64 (.ofNat 1))), .none⟩,
 ⟨(.var 2), .move (.t 0), .none⟩]))
def r27_1 : DC :=
 .seq (.reg [⟨.tmp, .move (.v 3), .none⟩,
 ⟨(.var 5), .move (.t 0), .none⟩]) (
 .ret)
def d27 : DF := ⟨[.some 7, .some 0, .some 6, .some 5, .some 1, .some 4],
 .seq (.reg [⟨(.var 5), .move (.c (.nils)), .none⟩]) (
 .seq (.reg [⟨(.var 3), .move (.c (.nils)), .none⟩]) (
 .seq (.seq (.reg [⟨(.var 2), .move (.c (.int .i64 (.ofNat 0))), .none⟩]) (
 .block 0 (
 .loop b27_0))) r27_1)),
 [.opd (.v 5)], 6, .none⟩
/-- telamon/prelude.decls -/
def vm28 : List Nat := [0]

def d28 : DF := ⟨[.some 0],
 .seq (.reg [⟨(.var 0), .move (.c (.nilf)), .none⟩]) (
 .seq (.reg [⟨(.var 0), .move (.c (.fn 57 [] [])), .none⟩]) (
 .ret)),
 [.opd (.v 0)], 1, .none⟩
/-- (*telamon/scope.resolver).stray -/
def vm29 : List Nat := [3, 4, 1]

def d29 : DF := ⟨[.some 3, .some 4, .some 1],
 .seq (.reg [⟨(.var 0), .box 26 (.v 2), .none⟩,
 ⟨(.var 1), .move (.c (.nili)), .none⟩]) (
 .seq (.reg [⟨.tmp, .fadr 25 (.v 0), .none⟩,
 ⟨.tmp, .load1 (.t 0), .none⟩,
 ⟨.tmp, .call 64 [(.t 0), (.c (.int .i64 (.ofNat 47)))], .none⟩,
 ⟨(.var 1), .move (.t 0), .none⟩]) (
 .ret)),
 [.opd (.v 1)], 3, .none⟩
/-- (*telamon/scope.resolver).data -/
def vm30 : List Nat := [2, 3, 6, 7, 4, 5, 8, 0, 1]

def d30 : DF := ⟨[.some 2, .some 3, .some 6, .some 7, .some 4, .some 5, .some 8, .some 0, .some 1],
 .seq (.reg [⟨(.var 0), .box 1 (.v 7), .none⟩,
 ⟨(.var 1), .box 26 (.v 8), .none⟩,
 ⟨(.var 4), .move (.c (.nili)), .none⟩]) (
 .seq (.seq (.reg [⟨.tmp, .load1 (.v 0), .none⟩,
 ⟨.tmp, .fadr 2 (.v 1), .none⟩,
 ⟨.tmp, .load1 (.t 0), .none⟩,
 ⟨.tmp, .fadr 25 (.v 1), .none⟩,
 ⟨.tmp, .load1 (.t 0), .none⟩,
 ⟨.tmp, .call 65 [(.t 4), (.t 2), (.t 0)], .none⟩,
 ⟨(.var 5), .move (.t 0), .none⟩]) (
 .seq (.reg [⟨.tmp, .move (.v 5), .none⟩,
 ⟨.tmp, .binN true 0 (.t 0), .none⟩]) (
 .cond (.t 0) (
 .seq (.reg [⟨.tmp, .move (.v 5), .none⟩,
 ⟨(.var 4), .move (.t 0), .none⟩]) (
 .ret)) (
 .skip)))) (
 .seq (.reg [⟨.tmp, .load1 (.v 0), .none⟩,
 ⟨.tmp, .call 66 [(.t 0)], .none⟩,
 ⟨(.var 2), .alloc [.nils], .none⟩,
 ⟨.no, .store 1 (.v 2) (.t 0), .none⟩]) (
 .seq (.reg [⟨.tmp, .load1 (.v 0), .none⟩,
 ⟨.tmp, .nilck (.t 0), .none⟩,
 ⟨.tmp, .fadr 0 (.t 0), .none⟩,
 ⟨.tmp, .fadr 0 (.t 0), .none⟩,
 ⟨.tmp, .load1 (.t 0), .none⟩,
 ⟨.tmp, .fadr 2 (.v 1), .none⟩,
 ⟨.tmp, .load1 (.t 0), .none⟩,
 ⟨.tmp, .load1 (.v 2), .none⟩,
 ⟨.tmp, .len false (.t 0), .none⟩,
 ⟨.tmp, .fadr 25 (.v 1), .none⟩,
 ⟨.tmp, .load1 (.t 0), .none⟩,
 ⟨(.var 3), .alloc [.int .i64 (.ofNat 0), .int .i64 (.ofNat 0), .str 0 0, .str 0 0, .nils, .nils, .int .i64 (.ofNat 0), .int .i64 (.ofNat 0), .str 0 0, .bool false, .nils, .nils, .int .i64 (.ofNat 0), .int .i64 (.ofNat 0), .int .i64 (.ofNat 0), .str 0 0, .bool false, .nils, .nils, .int .i64 (.ofNat 0), .nils, .bool false, .nils, .nils, .nils, .int .i64 (.ofNat 0)], .none⟩,
 ⟨.tmp, .call 67 [(.t 6), (.t 4)], .none⟩,
 ⟨.no, .again1 (.t 2) (.t 1), .none⟩,
 ⟨.no, .again1 (.v 2) (.t 4), .none⟩,
 ⟨.tmp, .build [.int .i64 (.ofNat 0), .int .i64 (.ofNat 0), .str 0 0, .str 0 0, .nils, .nils, .int .i64 (.ofNat 0), .int .i64 (.ofNat 0), .str 0 0, .bool false, .nils, .nils, .int .i64 (.ofNat 0), .int .i64 (.ofNat 0), .int .i64 (.ofNat 0), .str 0 0, .bool false, .nils, .nils, .int .i64 (.ofNat 0), .nils, .bool false, .nils, .nils, .nils, .int .i64 (.ofNat 0)] [(0, 1, (.c (.int .i64 (.ofNat 3)))), (2, 1, (.t 0)), (1, 1, (.t 3)), (25, 1, (.t 1))], .none⟩,
 ⟨.no, .store 26 (.v 3) (.t 0), .none⟩]) (
 .seq (.reg [⟨.tmp, .load1 (.v 0), .none⟩,
 ⟨.tmp, .fadr 5 (.v 1), .none⟩,
 ⟨.tmp, .load1 (.t 0), .none⟩,
 ⟨.tmp, .mkfn 69 [] [(.v 2), (.v 3), (.v 0), (.v 1)], .none⟩,
 ⟨.tmp, .call 68 [(.t 3), (.t 1), (.t 0)], .none⟩,
 ⟨(.var 6), .move (.t 0), .none⟩]) (
 .seq (.seq (.reg [⟨.tmp, .move (.v 6), .none⟩,
 ⟨.tmp, .binN false 0 (.t 0), .none⟩]) (
 .cond (.t 0) (
 .reg [⟨.tmp, .load1 (.v 0), .none⟩,
 ⟨.tmp, .loadN 26 (.v 3), .none⟩,
 ⟨.tmp, .call 74 [(.t 1), (.t 0)], .none⟩]) (
 .skip))) (
 .seq (.reg [⟨.tmp, .move (.v 6), .none⟩,
 ⟨(.var 4), .move (.t 0), .none⟩]) (
 .ret))))))),
 [.opd (.v 4)], 9, .none⟩
/-- (*telamon/scope.resolver).postulate -/
def vm31 : List Nat := [2, 5, 3, 4, 0, 1]

def d31 : DF := ⟨[.some 2, .some 5, .some 3, .some 4, .some 0, .some 1],
 .seq (.reg [⟨(.var 0), .box 1 (.v 4), .none⟩,
 ⟨(.var 2), .box 26 (.v 5), .none⟩,
 ⟨(.var 3), .move (.c (.nili)), .none⟩]) (
 .seq (.reg [⟨.tmp, .load1 (.v 0), .none⟩,
 ⟨.tmp, .call 66 [(.t 0)], .none⟩,
 ⟨(.var 1), .alloc [.nils], .none⟩,
 ⟨.no, .store 1 (.v 1) (.t 0), .none⟩]) (
 .seq (.reg [⟨.tmp, .load1 (.v 0), .none⟩,
 ⟨.tmp, .fadr 20 (.v 2), .none⟩,
 ⟨.tmp, .load1 (.t 0), .none⟩,
 ⟨.tmp, .mkfn 75 [] [(.v 0), (.v 1)], .none⟩,
 ⟨.tmp, .call 72 [(.t 3), (.t 1), (.c (.bool false)), (.t 0)], .none⟩,
 ⟨(.var 3), .move (.t 0), .none⟩]) (
 .ret))),
 [.opd (.v 3)], 6, .none⟩
/-- (*telamon/scope.resolver).fixity -/
def vm32 : List Nat := [4, 1]

def d32 : DF := ⟨[.some 4, .some 1],
 .seq (.reg [⟨.tmp, .box 26 (.v 1), .none⟩,
 ⟨(.var 0), .move (.c (.nili)), .none⟩]) (
 .seq (.reg [⟨(.var 0), .move (.c (.nili)), .none⟩]) (
 .ret)),
 [.opd (.v 0)], 2, .none⟩
/-- (*telamon/scope.resolver).inner -/
def vm33 : List Nat := [3, 5, 2, 4, 6, 0, 1]

def d33 : DF := ⟨[.some 3, .some 5, .some 2, .some 4, .some 6, .some 0, .some 1],
 .seq (.reg [⟨(.var 2), .box 1 (.v 5), .none⟩,
 ⟨(.var 0), .box 26 (.v 6), .none⟩,
 ⟨(.var 3), .move (.c (.nili)), .none⟩]) (
 .seq (.reg [⟨.tmp, .load1 (.v 2), .none⟩,
 ⟨.tmp, .nilck (.t 0), .none⟩,
 ⟨.tmp, .fadr 0 (.t 0), .none⟩,
 ⟨.tmp, .fadr 0 (.t 0), .none⟩,
 ⟨.tmp, .load1 (.t 0), .none⟩,
 ⟨(.var 1), .alloc [.nilp], .none⟩,
 ⟨.no, .store 1 (.v 1) (.t 0), .none⟩]) (
 .seq (.block 0 (
 .seq (.reg [⟨.tmp, .fadr 2 (.v 0), .none⟩,
 ⟨.tmp, .load1 (.t 0), .none⟩,
 ⟨.tmp, .call 76 [(.t 0), (.c (.str 1 46))], .none⟩,
 ⟨.tmp, .move (.t 0), .none⟩]) (
 .cond (.t 0) (
 .seq (.reg [⟨.tmp, .fadr 25 (.v 0), .none⟩,
 ⟨.tmp, .load1 (.t 0), .none⟩,
 ⟨.tmp, .call 64 [(.t 0), (.c (.int .i64 (.ofNat 41)))], .none⟩,
 ⟨(.var 3), .move (.t 0), .none⟩]) (
 .ret)) (
 .seq (.reg [⟨.tmp, .load1 (.v 1), .none⟩,
 ⟨.tmp, .nilck (.t 0), .none⟩,
 ⟨.tmp, .fadr 0 (.t 0), .none⟩,
 ⟨.tmp, .fadr 2 (.t 0), .none⟩,
 ⟨.tmp, .load1 (.t 0), .none⟩,
 ⟨.tmp, .fadr 2 (.v 0), .none⟩,
 ⟨.tmp, .load1 (.t 0), .none⟩,
 ⟨.tmp, .lkp (.nilp) 1 false (.t 2) (.t 0), .none⟩,
 ⟨.tmp, .binP .neq (.t 0) (.c (.nilp)), .none⟩,
 ⟨.tmp, .move (.t 0), .none⟩]) (
 .cond (.t 0) (
 .seq (.reg [⟨.tmp, .fadr 25 (.v 0), .none⟩,
 ⟨.tmp, .load1 (.t 0), .none⟩,
 ⟨.tmp, .call 64 [(.t 0), (.c (.int .i64 (.ofNat 46)))], .none⟩,
 ⟨(.var 3), .move (.t 0), .none⟩]) (
 .ret)) (
 .skip)))))) (
 .seq (.reg [⟨.tmp, .load1 (.v 1), .none⟩,
 ⟨.tmp, .fadr 2 (.v 0), .none⟩,
 ⟨.tmp, .load1 (.t 0), .none⟩,
 ⟨.tmp, .load1 (.v 1), .none⟩,
 ⟨.tmp, .load1 (.v 2), .none⟩,
 ⟨.tmp, .nilck (.t 0), .none⟩,
 ⟨.tmp, .fadr 0 (.t 0), .none⟩,
 ⟨.tmp, .fadr 1 (.t 0), .none⟩,
 ⟨.tmp, .load1 (.t 0), .none⟩,
 ⟨.tmp, .len false (.t 0), .none⟩,
 ⟨(.var 4), .alloc [.nilp], .none⟩,
 ⟨.tmp, .call 67 [(.t 9), (.t 7)], .none⟩,
 ⟨.no, .again1 (.t 3) (.t 2), .none⟩,
 ⟨.no, .again1 (.v 2) (.t 6), .none⟩,
 ⟨.no, .again1 (.v 1) (.t 7), .none⟩,
 ⟨.tmp, .call 17 [(.t 0), (.t 7), (.t 1)], .none⟩,
 ⟨.no, .store 1 (.v 4) (.t 0), .none⟩]) (
 .seq (.reg [⟨.tmp, .load1 (.v 2), .none⟩,
 ⟨.tmp, .fadr 5 (.v 0), .none⟩,
 ⟨.tmp, .load1 (.t 0), .none⟩,
 ⟨.tmp, .mkfn 77 [] [(.v 2), (.v 4), (.v 1), (.v 0)], .none⟩,
 ⟨.tmp, .call 68 [(.t 3), (.t 1), (.t 0)], .none⟩,
 ⟨(.var 3), .move (.t 0), .none⟩]) (
 .ret))))),
 [.opd (.v 3)], 7, .none⟩
/-- (*telamon/scope.resolver).open -/
def vm34 : List Nat := [16, 21, 3, 42, 57, 76, 110, 126, 10, 19, 7, 13, 8, 6, 17, 88, 12, 15, 4, 40, 55, 74, 108, 124, 41, 56, 75, 109, 125, 5, 2, 0, 1]
def b34_0 : DC :=
 .seq (.reg [⟨.tmp, .bin .lss (.v 3) (.v 24), .none⟩]) (
 .seq (.cond (.t 0) (
 .skip) (
 .exit 0)) (
 .seq (.block 1 (
 .seq (.reg [⟨.tmp, .idxS 2 (.v 19) (.v 3), .none⟩,
 ⟨.tmp, .loadN 2 (.t 0), .none⟩,
 ⟨(.var 8), .alloc [.str 0 0, .str 0 0], .none⟩,
 ⟨.no, .store 2 (.v 8) (.t 0), .none⟩]) (
 .seq (.reg [⟨.tmp, .move (.v 12), .none⟩,
 ⟨.tmp, .idxA 2 1 (.v 8) (.c (.int .i64 (.ofNat 0))), .none⟩,
 ⟨.tmp, .load1 (.t 0), .none⟩,
 ⟨.tmp, .buildS 1 [[.str 0 0]] [(0, (.t 0))], .none⟩,
 ⟨.tmp, .append 1 16 (.t 3) (.t 0), .none⟩,
 ⟨(.var 12), .move (.t 0), .none⟩]) (
 .reg [⟨.tmp, .move (.v 10), .none⟩,
 ⟨.tmp, .idxA 2 1 (.v 8) (.c (.int .i64 (.ofNat 0))), .none⟩,
 ⟨.tmp, .load1 (.t 0), .none⟩,
 ⟨.no, .mupd 1 (.t 2) (.t 0) (.c (.int .i64 (.ofNat 1))), .none⟩])))) (
 .reg [⟨.tmp, .bin .add (.v 3) (.c (.int .i64 (.ofNat 1))), .none⟩,
 ⟨(.var 3), .move (.t 0), .none⟩])))
def b34_1 : DC :=
 .seq (.reg [⟨.tmp, .bin .lss (.v 4) (.v 25), .none⟩]) (
 .seq (.cond (.t 0) (
 .skip) (
 .exit 2)) (
 .seq (.block 3 (
 .seq (.reg [⟨.tmp, .idxS 1 (.v 20) (.v 4), .none⟩,
 ⟨.tmp, .load1 (.t 0), .none⟩,
 ⟨(.var 16), .move (.t 0), .none⟩]) (
 .seq (.reg [⟨.tmp, .move (.v 13), .none⟩,
 ⟨.tmp, .move (.v 16), .none⟩,
 ⟨.tmp, .callv (.t 1) [(.t 0)], .none⟩,
 ⟨.tmp, .not (.t 0), .none⟩]) (
 .cond (.t 0) (
 .seq (.reg [⟨.tmp, .fadr 25 (.v 2), .none⟩,
 ⟨.tmp, .load1 (.t 0), .none⟩,
 ⟨.tmp, .call 64 [(.t 0), (.c (.int .i64 (.ofNat 44)))], .none⟩,
 ⟨(.var 18), .move (.t 0), .none⟩]) (
 .ret)) (
 .skip))))) (
 .reg [⟨.tmp, .bin .add (.v 4) (.c (.int .i64 (.ofNat 1))), .none⟩,
 ⟨(.var 4), .move (.t 0), .none⟩])))
def b34_2 : DC :=
 .seq (.reg [⟨.tmp, .bin .lss (.v 5) (.v 26), .none⟩]) (
 .seq (.cond (.t 0) (
 .skip) (
 .exit 4)) (
 .seq (.block 5 (
 .seq (.reg [⟨.tmp, .idxS 1 (.v 21) (.v 5), .none⟩,
 ⟨.tmp, .load1 (.t 0), .none⟩,
 ⟨(.var 17), .move (.t 0), .none⟩]) (
 .reg [⟨.tmp, .move (.v 10), .none⟩,
 ⟨.tmp, .move (.v 17), .none⟩,
 ⟨.no, .mupd 1 (.t 1) (.t 0) (.c (.int .i64 (.ofNat 1))), .none⟩]))) (
 .reg [⟨.tmp, .bin .add (.v 5) (.c (.int .i64 (.ofNat 1))), .none⟩,
 ⟨(.var 5), .move (.t 0), .none⟩])))
def b34_3 : DC :=
 .seq (.reg [⟨.tmp, .nxtM (.v 15), .none⟩,
 ⟨.tmp, .ext (.t 0) 0, .none⟩]) (
 .seq (.cond (.t 0) (
 .skip) (
 .exit 6)) (
 .block 7 (
 .seq (.reg [⟨.tmp, .ent (.v 15), .none⟩,
 ⟨.tmp, .ext (.t 0) 0, .none⟩,
 ⟨(.var 0), .alloc [.str 0 0, .bool false], .none⟩,
 ⟨.no, .store 2 (.v 0) (.t 0), .none⟩]) (
 .seq (.reg [⟨.tmp, .fadr 1 (.v 0), .none⟩,
 ⟨.tmp, .load1 (.t 0), .none⟩,
 ⟨.tmp, .not (.t 0), .none⟩,
 ⟨.tmp, .move (.t 0), .none⟩,
 ⟨.tmp, .move (.v 13), .some ((.t 0), true)⟩,
 ⟨.tmp, .fadr 0 (.v 0), .some ((.t 1), true)⟩,
 ⟨.tmp, .load1 (.t 0), .some ((.t 2), true)⟩,
 ⟨.tmp, .callv (.t 2) [(.t 0)], .some ((.t 3), true)⟩,
 ⟨.tmp, .pick (.t 4) (.t 0) (.c (.bool false)), .none⟩]) (
 .cond (.t 0) (
 .reg [⟨.tmp, .move (.v 11), .none⟩,
 ⟨.tmp, .fadr 0 (.v 0), .none⟩,
 ⟨.tmp, .load1 (.t 0), .none⟩,
 ⟨.tmp, .buildS 1 [[.str 0 0]] [(0, (.t 0))], .none⟩,
 ⟨.tmp, .append 1 16 (.t 3) (.t 0), .none⟩,
 ⟨(.var 11), .move (.t 0), .none⟩]) (
 .skip))))))
def r34_4 : DC :=
 .seq (.reg [⟨.tmp, .load1 (.v 29), .none⟩,
 ⟨.tmp, .nilck (.t 0), .none⟩,
 ⟨.tmp, .fadr 0 (.t 0), .none⟩,
 ⟨.tmp, .fadr 0 (.t 0), .none⟩,
 ⟨.tmp, .load1 (.t 0), .none⟩,
 ⟨(.var 15), .rngM (.t 0), .none⟩]) (
 .block 6 (
 .loop b34_3))
def b34_5 : DC :=
 .seq (.reg [⟨.tmp, .bin .lss (.v 6) (.v 27), .none⟩]) (
 .seq (.cond (.t 0) (
 .skip) (
 .exit 8)) (
 .seq (.block 9 (
 .seq (.reg [⟨.tmp, .idxS 1 (.v 22) (.v 6), .none⟩,
 ⟨.tmp, .load1 (.t 0), .none⟩,
 ⟨(.var 9), .move (.t 0), .none⟩]) (
 .seq (.reg [⟨.tmp, .move (.v 10), .none⟩,
 ⟨.tmp, .move (.v 9), .none⟩,
 ⟨.tmp, .lkp (.int .i64 (.ofNat 0)) 1 false (.t 1) (.t 0), .none⟩,
 ⟨.tmp, .bin .eql (.t 0) (.c (.int .i64 (.ofNat 0))), .none⟩]) (
 .cond (.t 0) (
 .reg [⟨.tmp, .move (.v 14), .none⟩,
 ⟨.tmp, .move (.v 9), .none⟩,
 ⟨.tmp, .move (.v 9), .none⟩,
 ⟨.tmp, .callv (.t 2) [(.t 1), (.t 0)], .none⟩]) (
 .skip))))) (
 .reg [⟨.tmp, .bin .add (.v 6) (.c (.int .i64 (.ofNat 1))), .none⟩,
 ⟨(.var 6), .move (.t 0), .none⟩])))
def b34_6 : DC :=
 .seq (.reg [⟨.tmp, .bin .lss (.v 7) (.v 28), .none⟩]) (
 .seq (.cond (.t 0) (
 .skip) (
 .exit 10)) (
 .seq (.block 11 (
 .seq (.reg [⟨.tmp, .idxS 2 (.v 23) (.v 7), .none⟩,
 ⟨.tmp, .loadN 2 (.t 0), .none⟩,
 ⟨(.var 1), .alloc [.str 0 0, .str 0 0], .none⟩,
 ⟨.no, .store 2 (.v 1) (.t 0), .none⟩]) (
 .seq (.reg [⟨.tmp, .fadr 21 (.v 2), .none⟩,
 ⟨.tmp, .load1 (.t 0), .none⟩,
 ⟨.tmp, .move (.t 0), .none⟩,
 ⟨.tmp, .fadr 23 (.v 2), .some ((.t 0), false)⟩,
 ⟨.tmp, .load1 (.t 0), .some ((.t 1), false)⟩,
 ⟨.tmp, .idxA 2 1 (.v 1) (.c (.int .i64 (.ofNat 0))), .some ((.t 2), false)⟩,
 ⟨.tmp, .load1 (.t 0), .some ((.t 3), false)⟩,
 ⟨.tmp, .call 81 [(.t 2), (.t 0)], .some ((.t 4), false)⟩,
 ⟨.tmp, .not (.t 0), .some ((.t 5), false)⟩,
 ⟨.tmp, .pick (.t 6) (.c (.bool true)) (.t 0), .none⟩]) (
 .cond (.t 0) (
 .reg [⟨.tmp, .move (.v 14), .none⟩,
 ⟨.tmp, .idxA 2 1 (.v 1) (.c (.int .i64 (.ofNat 1))), .none⟩,
 ⟨.tmp, .load1 (.t 0), .none⟩,
 ⟨.tmp, .idxA 2 1 (.v 1) (.c (.int .i64 (.ofNat 0))), .none⟩,
 ⟨.tmp, .load1 (.t 0), .none⟩,
 ⟨.tmp, .callv (.t 4) [(.t 2), (.t 0)], .none⟩]) (
 .skip))))) (
 .reg [⟨.tmp, .bin .add (.v 7) (.c (.int .i64 (.ofNat 1))), .none⟩,
 ⟨(.var 7), .move (.t 0), .none⟩])))
def r34_7 : DC :=
 .seq (.reg [⟨(.var 18), .move (.c (.nili)), .none⟩]) (
 .ret)
def r34_8 : DC :=
 .seq (.seq (.reg [⟨.tmp, .fadr 24 (.v 2), .none⟩,
 ⟨(.var 23), .load1 (.t 0), .none⟩,
 ⟨(.var 28), .len false (.v 23), .none⟩,
 ⟨(.var 7), .move (.c (.int .i64 (.ofNat 0))), .none⟩]) (
 .block 10 (
 .loop b34_6))) r34_7
def r34_9 : DC :=
 .seq (.reg [⟨.tmp, .mkfn 80 [] [(.v 30), (.v 29)], .none⟩,
 ⟨(.var 14), .move (.t 0), .none⟩]) (
 .seq (.seq (.reg [⟨(.var 22), .move (.v 11), .none⟩,
 ⟨(.var 27), .len false (.v 22), .none⟩,
 ⟨(.var 6), .move (.c (.int .i64 (.ofNat 0))), .none⟩]) (
 .block 8 (
 .loop b34_5))) r34_8)
def r34_10 : DC :=
 .seq (.reg [⟨(.var 11), .move (.c (.nils)), .none⟩]) (
 .seq (.seq (.reg [⟨.tmp, .fadr 21 (.v 2), .none⟩,
 ⟨.tmp, .load1 (.t 0), .none⟩]) (
 .cond (.t 0) (
 .reg [⟨.tmp, .fadr 22 (.v 2), .none⟩,
 ⟨.tmp, .load1 (.t 0), .none⟩,
 ⟨(.var 11), .move (.t 0), .none⟩]) (
 .seq (.seq (.reg [⟨.tmp, .fadr 23 (.v 2), .none⟩,
 ⟨(.var 21), .load1 (.t 0), .none⟩,
 ⟨(.var 26), .len false (.v 21), .none⟩,
 ⟨(.var 5), .move (.c (.int .i64 (.ofNat 0))), .none⟩]) (
 .block 4 (
 .loop b34_2))) r34_4))) r34_9)
def r34_11 : DC :=
 .seq (.seq (.reg [⟨(.var 20), .move (.v 12), .none⟩,
 ⟨(.var 25), .len false (.v 20), .none⟩,
 ⟨(.var 4), .move (.c (.int .i64 (.ofNat 0))), .none⟩]) (
 .block 2 (
 .loop b34_1))) r34_10
def d34 : DF := ⟨[.some 16, .some 21, .some 3, .some 42, .some 57, .some 76, .some 110, .some 126, .some 10, .some 19, .some 7, .some 13, .some 8, .some 6, .some 17, .some 88, .some 12, .some 15, .some 4, .some 40, .some 55, .some 74, .some 108, .some 124, .some 41, .some 56, .some 75, .some 109, .some 125, .some 5, .some 2, .some 0, .some 1],
 .seq (.reg [⟨(.var 30), .box 1 (.v 31), .none⟩,
 ⟨(.var 2), .box 26 (.v 32), .none⟩,
 ⟨(.var 18), .move (.c (.nili)), .none⟩]) (
 .seq (.reg [⟨.tmp, .load1 (.v 30), .none⟩,
 ⟨.tmp, .fadr 2 (.v 2), .none⟩,
 ⟨.tmp, .load1 (.t 0), .none⟩,
 ⟨.tmp, .call 78 [(.t 2), (.t 0)], .none⟩,
 ⟨(.var 29), .alloc [.nilp], .none⟩,
 ⟨.no, .store 1 (.v 29) (.t 0), .none⟩]) (
 .seq (.seq (.reg [⟨.tmp, .load1 (.v 29), .none⟩,
 ⟨.tmp, .binP .eql (.t 0) (.c (.nilp)), .none⟩]) (
 .cond (.t 0) (
 .seq (.reg [⟨.tmp, .fadr 25 (.v 2), .none⟩,
 ⟨.tmp, .load1 (.t 0), .none⟩,
 ⟨.tmp, .call 64 [(.t 0), (.c (.int .i64 (.ofNat 44)))], .none⟩,
 ⟨(.var 18), .move (.t 0), .none⟩]) (
 .ret)) (
 .skip))) (
 .seq (.reg [⟨.tmp, .mkfn 79 [] [(.v 29)], .none⟩,
 ⟨(.var 13), .move (.t 0), .none⟩]) (
 .seq (.reg [⟨.tmp, .mkmap, .none⟩,
 ⟨(.var 10), .move (.t 0), .none⟩]) (
 .seq (.reg [⟨.tmp, .fadr 22 (.v 2), .none⟩,
 ⟨.tmp, .load1 (.t 0), .none⟩,
 ⟨.tmp, .fadr 23 (.v 2), .none⟩,
 ⟨.tmp, .load1 (.t 0), .none⟩,
 ⟨.tmp, .append 1 16 (.c (.nils)) (.t 2), .none⟩,
 ⟨.no, .again1 (.t 2) (.t 1), .none⟩,
 ⟨.tmp, .append 1 16 (.t 0) (.t 1), .none⟩,
 ⟨(.var 12), .move (.t 0), .none⟩]) (
 .seq (.seq (.reg [⟨.tmp, .fadr 24 (.v 2), .none⟩,
 ⟨(.var 19), .load1 (.t 0), .none⟩,
 ⟨(.var 24), .len false (.v 19), .none⟩,
 ⟨(.var 3), .move (.c (.int .i64 (.ofNat 0))), .none⟩]) (
 .block 0 (
 .loop b34_0))) r34_11)))))),
 [.opd (.v 18)], 33, .none⟩
/-- (*telamon/scope.resolver).private -/
def vm35 : List Nat := [0, 3, 4, 5, 6, 1]

def d35 : DF := ⟨[.some 0, .some 3, .some 4, .some 5, .some 6, .some 1],
 .seq (.reg [⟨(.var 1), .box 26 (.v 5), .none⟩,
 ⟨(.var 2), .move (.c (.nili)), .none⟩]) (
 .seq (.reg [⟨.tmp, .move (.v 0), .none⟩,
 ⟨.tmp, .nilck (.t 0), .none⟩,
 ⟨.tmp, .fadr 3 (.t 0), .none⟩,
 ⟨.tmp, .load1 (.t 0), .none⟩,
 ⟨(.var 3), .move (.t 0), .none⟩]) (
 .seq (.reg [⟨.tmp, .move (.v 0), .none⟩,
 ⟨.tmp, .nilck (.t 0), .none⟩,
 ⟨.tmp, .fadr 3 (.t 0), .none⟩,
 ⟨.no, .store 1 (.t 0) (.c (.bool true)), .none⟩]) (
 .seq (.reg [⟨.tmp, .move (.v 0), .none⟩,
 ⟨.tmp, .fadr 20 (.v 1), .none⟩,
 ⟨.tmp, .load1 (.t 0), .none⟩,
 ⟨.tmp, .call 19 [(.t 2), (.t 0)], .none⟩,
 ⟨(.var 4), .move (.t 0), .none⟩]) (
 .seq (.reg [⟨.tmp, .move (.v 0), .none⟩,
 ⟨.tmp, .move (.v 3), .none⟩,
 ⟨.tmp, .nilck (.t 1), .none⟩,
 ⟨.tmp, .fadr 3 (.t 0), .none⟩,
 ⟨.no, .store 1 (.t 0) (.t 2), .none⟩]) (
 .seq (.reg [⟨.tmp, .move (.v 4), .none⟩,
 ⟨(.var 2), .move (.t 0), .none⟩]) (
 .ret)))))),
 [.opd (.v 2)], 6, .none⟩
/-- (*telamon/scope.resolver).function -/
def vm36 : List Nat := [8, 116, 1, 10, 14, 15, 16, 6, 0, 4, 5, 114, 115, 11, 7, 9, 12]
def b36_0 : DC :=
 .seq (.seq (.reg [⟨.tmp, .move (.v 0), .none⟩,
 ⟨.tmp, .move (.v 2), .none⟩,
 ⟨.tmp, .len false (.t 0), .none⟩,
 ⟨.tmp, .bin .lss (.t 2) (.t 0), .none⟩,
 ⟨.tmp, .move (.t 0), .none⟩,
 ⟨.tmp, .move (.v 2), .some ((.t 0), true)⟩,
 ⟨.tmp, .move (.v 0), .some ((.t 1), true)⟩,
 ⟨.tmp, .idxS 26 (.t 1) (.t 0), .some ((.t 2), true)⟩,
 ⟨.tmp, .fadr 0 (.t 0), .some ((.t 3), true)⟩,
 ⟨.tmp, .load1 (.t 0), .some ((.t 4), true)⟩,
 ⟨.tmp, .bin .eql (.t 0) (.c (.int .i64 (.ofNat 2))), .some ((.t 5), true)⟩,
 ⟨.tmp, .pick (.t 6) (.t 0) (.c (.bool false)), .none⟩,
 ⟨.tmp, .move (.t 0), .none⟩,
 ⟨.tmp, .move (.v 2), .some ((.t 0), true)⟩,
 ⟨.tmp, .move (.v 0), .some ((.t 1), true)⟩,
 ⟨.tmp, .idxS 26 (.t 1) (.t 0), .some ((.t 2), true)⟩,
 ⟨.tmp, .fadr 13 (.t 0), .some ((.t 3), true)⟩,
 ⟨.tmp, .loadN 7 (.t 0), .some ((.t 4), true)⟩,
 ⟨.tmp, .fadr 4 (.v 7), .some ((.t 5), true)⟩,
 ⟨.tmp, .load1 (.t 0), .some ((.t 6), true)⟩,
 ⟨.tmp, .idxS 1 (.t 0) (.c (.int .i64 (.ofNat 0))), .some ((.t 7), true)⟩,
 ⟨.tmp, .load1 (.t 0), .some ((.t 8), true)⟩,
 ⟨.tmp, .call 83 [(.t 4)], .some ((.t 9), true)⟩,
 ⟨.no, .again1 (.t 2) (.t 1), .some ((.t 10), true)⟩,
 ⟨.no, .again1 (.t 4) (.t 3), .some ((.t 10), true)⟩,
 ⟨.tmp, .bin .eql (.t 0) (.t 1), .some ((.t 10), true)⟩,
 ⟨.tmp, .pick (.t 11) (.t 0) (.c (.bool false)), .none⟩]) (
 .cond (.t 0) (
 .skip) (
 .exit 0))) (
 .block 1 (
 .reg [⟨.tmp, .move (.v 0), .none⟩,
 ⟨.tmp, .bin .add (.t 0) (.c (.int .i64 (.ofNat 1))), .none⟩,
 ⟨(.var 0), .move (.t 0), .none⟩]))
def b36_1 : DC :=
 .seq (.reg [⟨.tmp, .bin .lss (.v 1) (.v 12), .none⟩]) (
 .seq (.cond (.t 0) (
 .skip) (
 .exit 2)) (
 .seq (.block 3 (
 .seq (.reg [⟨.tmp, .idxS 26 (.v 11) (.v 1), .none⟩,
 ⟨.tmp, .loadN 26 (.t 0), .none⟩,
 ⟨(.var 4), .alloc [.int .i64 (.ofNat 0), .int .i64 (.ofNat 0), .str 0 0, .str 0 0, .nils, .nils, .int .i64 (.ofNat 0), .int .i64 (.ofNat 0), .str 0 0, .bool false, .nils, .nils, .int .i64 (.ofNat 0), .int .i64 (.ofNat 0), .int .i64 (.ofNat 0), .str 0 0, .bool false, .nils, .nils, .int .i64 (.ofNat 0), .nils, .bool false, .nils, .nils, .nils, .int .i64 (.ofNat 0)], .none⟩,
 ⟨.no, .store 26 (.v 4) (.t 0), .none⟩]) (
 .seq (.reg [⟨.tmp, .move (.v 8), .none⟩,
 ⟨.tmp, .fadr 2 (.v 3), .none⟩,
 ⟨.tmp, .load1 (.t 0), .none⟩,
 ⟨.tmp, .loadN 26 (.v 4), .none⟩,
 ⟨.tmp, .call 84 [(.t 3), (.t 1), (.t 0)], .none⟩,
 ⟨.tmp, .move (.t 0), .none⟩,
 ⟨.tmp, .ext (.t 0) 0, .none⟩,
 ⟨.tmp, .ext (.t 1) 1, .none⟩,
 ⟨(.var 5), .alloc [.int .i64 (.ofNat 0), .int .i64 (.ofNat 0), .str 0 0, .str 0 0, .nils, .nils, .int .i64 (.ofNat 0), .int .i64 (.ofNat 0), .str 0 0, .bool false, .nils, .nils, .int .i64 (.ofNat 0), .int .i64 (.ofNat 0), .int .i64 (.ofNat 0), .str 0 0, .bool false, .nils, .nils, .int .i64 (.ofNat 0), .nils, .bool false, .nils, .nils, .nils, .int .i64 (.ofNat 0)], .none⟩,
 ⟨.no, .store 26 (.v 5) (.t 1), .none⟩,
 ⟨(.var 6), .move (.t 0), .none⟩]) (
 .seq (.seq (.reg [⟨.tmp, .move (.v 6), .none⟩,
 ⟨.tmp, .binN true 0 (.t 0), .none⟩]) (
 .cond (.t 0) (
 .seq (.reg [⟨.tmp, .move (.v 6), .none⟩,
 ⟨(.var 9), .move (.c (.int .i64 (.ofNat 0))), .none⟩,
 ⟨(.var 10), .move (.t 0), .none⟩]) (
 .ret)) (
 .skip))) (
 .reg [⟨.tmp, .fadr 20 (.v 3), .none⟩,
 ⟨.tmp, .load1 (.t 0), .none⟩,
 ⟨.tmp, .loadN 26 (.v 5), .none⟩,
 ⟨.tmp, .buildS 26 [[.int .i64 (.ofNat 0), .int .i64 (.ofNat 0), .str 0 0, .str 0 0, .nils, .nils, .int .i64 (.ofNat 0), .int .i64 (.ofNat 0), .str 0 0, .bool false, .nils, .nils, .int .i64 (.ofNat 0), .int .i64 (.ofNat 0), .int .i64 (.ofNat 0), .str 0 0, .bool false, .nils, .nils, .int .i64 (.ofNat 0), .nils, .bool false, .nils, .nils, .nils, .int .i64 (.ofNat 0)]] [(0, (.t 0))], .none⟩,
 ⟨.tmp, .append 26 400 (.t 2) (.t 0), .none⟩,
 ⟨.tmp, .fadr 20 (.v 3), .none⟩,
 ⟨.no, .store 1 (.t 0) (.t 1), .none⟩]))))) (
 .reg [⟨.tmp, .bin .add (.v 1) (.c (.int .i64 (.ofNat 1))), .none⟩,
 ⟨(.var 1), .move (.t 0), .none⟩])))
def r36_2 : DC :=
 .seq (.reg [⟨.tmp, .move (.v 8), .none⟩,
 ⟨.tmp, .loadN 26 (.v 3), .none⟩,
 ⟨.tmp, .call 74 [(.t 1), (.t 0)], .none⟩]) (
 .seq (.reg [⟨.tmp, .move (.v 0), .none⟩,
 ⟨(.var 9), .move (.t 0), .none⟩,
 ⟨(.var 10), .move (.c (.nili)), .none⟩]) (
 .ret))
def r36_3 : DC :=
 .seq (.reg [⟨.tmp, .move (.v 8), .none⟩,
 ⟨.tmp, .call 66 [(.t 0)], .none⟩,
 ⟨(.var 15), .move (.t 0), .none⟩]) (
 .seq (.reg [⟨.tmp, .move (.v 8), .none⟩,
 ⟨.tmp, .nilck (.t 0), .none⟩,
 ⟨.tmp, .fadr 0 (.t 0), .none⟩,
 ⟨.tmp, .fadr 0 (.t 0), .none⟩,
 ⟨.tmp, .load1 (.t 0), .none⟩,
 ⟨.tmp, .fadr 4 (.v 7), .none⟩,
 ⟨.tmp, .load1 (.t 0), .none⟩,
 ⟨.tmp, .idxS 1 (.t 0) (.c (.int .i64 (.ofNat 0))), .none⟩,
 ⟨.tmp, .load1 (.t 0), .none⟩,
 ⟨.tmp, .move (.v 15), .none⟩,
 ⟨.tmp, .move (.v 15), .none⟩,
 ⟨.tmp, .len false (.t 0), .none⟩,
 ⟨.tmp, .fadr 25 (.v 7), .none⟩,
 ⟨.tmp, .load1 (.t 0), .none⟩,
 ⟨(.var 3), .alloc [.int .i64 (.ofNat 0), .int .i64 (.ofNat 0), .str 0 0, .str 0 0, .nils, .nils, .int .i64 (.ofNat 0), .int .i64 (.ofNat 0), .str 0 0, .bool false, .nils, .nils, .int .i64 (.ofNat 0), .int .i64 (.ofNat 0), .int .i64 (.ofNat 0), .str 0 0, .bool false, .nils, .nils, .int .i64 (.ofNat 0), .nils, .bool false, .nils, .nils, .nils, .int .i64 (.ofNat 0)], .none⟩,
 ⟨.tmp, .call 67 [(.t 9), (.t 5)], .none⟩,
 ⟨.no, .again1 (.t 2) (.t 1), .none⟩,
 ⟨.tmp, .build [.int .i64 (.ofNat 0), .int .i64 (.ofNat 0), .str 0 0, .str 0 0, .nils, .nils, .int .i64 (.ofNat 0), .int .i64 (.ofNat 0), .str 0 0, .bool false, .nils, .nils, .int .i64 (.ofNat 0), .int .i64 (.ofNat 0), .int .i64 (.ofNat 0), .str 0 0, .bool false, .nils, .nils, .int .i64 (.ofNat 0), .nils, .bool false, .nils, .nils, .nils, .int .i64 (.ofNat 0)] [(0, 1, (.c (.int .i64 (.ofNat 9)))), (2, 1, (.t 0)), (5, 1, (.t 5)), (1, 1, (.t 3)), (25, 1, (.t 1))], .none⟩,
 ⟨.no, .store 26 (.v 3) (.t 0), .none⟩]) (
 .seq (.reg [⟨(.var 13), .move (.c (.nili)), .none⟩]) (
 .seq (.seq (.reg [⟨.tmp, .move (.v 8), .none⟩,
 ⟨.tmp, .fadr 6 (.v 7), .none⟩,
 ⟨.tmp, .loadN 7 (.t 0), .none⟩,
 ⟨.tmp, .call 70 [(.t 2), (.t 0)], .none⟩,
 ⟨.tmp, .move (.t 0), .none⟩,
 ⟨.tmp, .ext (.t 0) 0, .none⟩,
 ⟨.tmp, .ext (.t 1) 1, .none⟩,
 ⟨.tmp, .fadr 6 (.v 3), .none⟩,
 ⟨.no, .store 7 (.t 0) (.t 2), .none⟩,
 ⟨(.var 13), .move (.t 1), .none⟩]) (
 .seq (.reg [⟨.tmp, .move (.v 13), .none⟩,
 ⟨.tmp, .binN true 0 (.t 0), .none⟩]) (
 .cond (.t 0) (
 .seq (.reg [⟨.tmp, .move (.v 13), .none⟩,
 ⟨(.var 9), .move (.c (.int .i64 (.ofNat 0))), .none⟩,
 ⟨(.var 10), .move (.t 0), .none⟩]) (
 .ret)) (
 .skip)))) (
 .seq (.seq (.reg [⟨.tmp, .move (.v 8), .none⟩,
 ⟨.tmp, .fadr 4 (.v 7), .none⟩,
 ⟨.tmp, .load1 (.t 0), .none⟩,
 ⟨.tmp, .idxS 1 (.t 0) (.c (.int .i64 (.ofNat 0))), .none⟩,
 ⟨.tmp, .load1 (.t 0), .none⟩,
 ⟨.tmp, .fadr 25 (.v 7), .none⟩,
 ⟨.tmp, .load1 (.t 0), .none⟩,
 ⟨.tmp, .call 71 [(.t 6), (.t 2), (.t 0), (.c (.bool false))], .none⟩,
 ⟨(.var 16), .move (.t 0), .none⟩]) (
 .seq (.reg [⟨.tmp, .move (.v 16), .none⟩,
 ⟨.tmp, .binN true 0 (.t 0), .none⟩]) (
 .cond (.t 0) (
 .seq (.reg [⟨.tmp, .move (.v 16), .none⟩,
 ⟨(.var 9), .move (.c (.int .i64 (.ofNat 0))), .none⟩,
 ⟨(.var 10), .move (.t 0), .none⟩]) (
 .ret)) (
 .skip)))) (
 .seq (.seq (.reg [⟨.tmp, .move (.v 2), .none⟩,
 ⟨.tmp, .move (.v 0), .none⟩,
 ⟨(.var 11), .slcS 26 (.t 1) (.some (.c (.int .i64 (.ofNat 1)))) (.some (.t 0)) .none, .none⟩,
 ⟨(.var 12), .len false (.v 11), .none⟩,
 ⟨(.var 1), .move (.c (.int .i64 (.ofNat 0))), .none⟩]) (
 .block 2 (
 .loop b36_1))) r36_2)))))
def d36 : DF := ⟨[.some 8, .some 116, .some 1, .some 10, .some 14, .some 15, .some 16, .some 6, .some 0, .some 4, .some 5, .some 114, .some 115, .some 11, .some 7, .some 9, .some 12],
 .seq (.reg [⟨(.var 9), .move (.c (.int .i64 (.ofNat 0))), .none⟩,
 ⟨(.var 10), .move (.c (.nili)), .none⟩]) (
 .seq (.reg [⟨.tmp, .move (.v 2), .none⟩,
 ⟨.tmp, .idxS 26 (.t 0) (.c (.int .i64 (.ofNat 0))), .none⟩,
 ⟨.tmp, .loadN 26 (.t 0), .none⟩,
 ⟨(.var 7), .alloc [.int .i64 (.ofNat 0), .int .i64 (.ofNat 0), .str 0 0, .str 0 0, .nils, .nils, .int .i64 (.ofNat 0), .int .i64 (.ofNat 0), .str 0 0, .bool false, .nils, .nils, .int .i64 (.ofNat 0), .int .i64 (.ofNat 0), .int .i64 (.ofNat 0), .str 0 0, .bool false, .nils, .nils, .int .i64 (.ofNat 0), .nils, .bool false, .nils, .nils, .nils, .int .i64 (.ofNat 0)], .none⟩,
 ⟨.no, .store 26 (.v 7) (.t 0), .none⟩]) (
 .seq (.seq (.reg [⟨.tmp, .fadr 4 (.v 7), .none⟩,
 ⟨.tmp, .load1 (.t 0), .none⟩,
 ⟨.tmp, .len false (.t 0), .none⟩,
 ⟨.tmp, .bin .neq (.t 0) (.c (.int .i64 (.ofNat 1))), .none⟩,
 ⟨.tmp, .move (.t 0), .none⟩,
 ⟨.tmp, .move (.v 2), .some ((.t 0), false)⟩,
 ⟨.tmp, .len false (.t 0), .some ((.t 1), false)⟩,
 ⟨.tmp, .bin .lss (.t 0) (.c (.int .i64 (.ofNat 2))), .some ((.t 2), false)⟩,
 ⟨.tmp, .pick (.t 3) (.c (.bool true)) (.t 0), .none⟩,
 ⟨.tmp, .move (.t 0), .none⟩,
 ⟨.tmp, .move (.v 2), .some ((.t 0), false)⟩,
 ⟨.tmp, .idxS 26 (.t 0) (.c (.int .i64 (.ofNat 1))), .some ((.t 1), false)⟩,
 ⟨.tmp, .fadr 0 (.t 0), .some ((.t 2), false)⟩,
 ⟨.tmp, .load1 (.t 0), .some ((.t 3), false)⟩,
 ⟨.tmp, .bin .neq (.t 0) (.c (.int .i64 (.ofNat 2))), .some ((.t 4), false)⟩,
 ⟨.tmp, .pick (.t 5) (.c (.bool true)) (.t 0), .none⟩]) (
 .cond (.t 0) (
 .seq (.reg [⟨.tmp, .fadr 25 (.v 7), .none⟩,
 ⟨.tmp, .load1 (.t 0), .none⟩,
 ⟨.tmp, .call 64 [(.t 0), (.c (.int .i64 (.ofNat 47)))], .none⟩,
 ⟨(.var 9), .move (.c (.int .i64 (.ofNat 0))), .none⟩,
 ⟨(.var 10), .move (.t 0), .none⟩]) (
 .ret)) (
 .skip))) (
 .seq (.seq (.reg [⟨.tmp, .move (.v 8), .none⟩,
 ⟨.tmp, .loadN 26 (.v 7), .none⟩,
 ⟨.tmp, .call 82 [(.t 1), (.t 0)], .none⟩,
 ⟨(.var 14), .move (.t 0), .none⟩]) (
 .seq (.reg [⟨.tmp, .move (.v 14), .none⟩,
 ⟨.tmp, .binN true 0 (.t 0), .none⟩]) (
 .cond (.t 0) (
 .seq (.reg [⟨.tmp, .move (.v 14), .none⟩,
 ⟨(.var 9), .move (.c (.int .i64 (.ofNat 0))), .none⟩,
 ⟨(.var 10), .move (.t 0), .none⟩]) (
 .ret)) (
 .skip)))) (
 .seq (.reg [⟨(.var 0), .move (.c (.int .i64 (.ofNat 1))), .none⟩]) (
 .seq (.block 0 (
 .loop b36_0)) r36_3))))),
 [.opd (.v 9), .opd (.v 10)], 17, .none⟩
/-- telamon/gram.stmt -/
def vm37 : List Nat := [1, 3, 10, 85, 2, 0]

def d37 : DF := ⟨[.some 1, .some 3, .some 10, .some 85, .some 2, .some 0],
 .seq (.reg [⟨(.var 0), .box 26 (.v 5), .none⟩,
 ⟨(.var 4), .alloc [.int .i64 (.ofNat 0), .int .i64 (.ofNat 0), .str 0 0, .str 0 0, .nils, .nils, .int .i64 (.ofNat 0), .int .i64 (.ofNat 0), .str 0 0, .bool false, .nils, .nils, .int .i64 (.ofNat 0), .int .i64 (.ofNat 0), .int .i64 (.ofNat 0), .str 0 0, .bool false, .nils, .nils, .int .i64 (.ofNat 0), .nils, .bool false, .nils, .nils, .nils, .int .i64 (.ofNat 0)], .none⟩]) (
 .seq (.reg [⟨.tmp, .fadr 0 (.v 0), .none⟩,
 ⟨.tmp, .load1 (.t 0), .none⟩,
 ⟨.tmp, .fadr 25 (.v 0), .none⟩,
 ⟨.tmp, .load1 (.t 0), .none⟩,
 ⟨.tmp, .build [.int .i64 (.ofNat 0), .int .i64 (.ofNat 0), .str 0 0, .str 0 0, .nils, .nils, .int .i64 (.ofNat 0), .int .i64 (.ofNat 0), .str 0 0, .bool false, .nils, .nils, .int .i64 (.ofNat 0), .int .i64 (.ofNat 0), .int .i64 (.ofNat 0), .str 0 0, .bool false, .nils, .nils, .int .i64 (.ofNat 0), .nils, .bool false, .nils, .nils, .nils, .int .i64 (.ofNat 0)] [(0, 1, (.t 2)), (25, 1, (.t 0))], .none⟩,
 ⟨(.var 1), .alloc [.int .i64 (.ofNat 0), .int .i64 (.ofNat 0), .str 0 0, .str 0 0, .nils, .nils, .int .i64 (.ofNat 0), .int .i64 (.ofNat 0), .str 0 0, .bool false, .nils, .nils, .int .i64 (.ofNat 0), .int .i64 (.ofNat 0), .int .i64 (.ofNat 0), .str 0 0, .bool false, .nils, .nils, .int .i64 (.ofNat 0), .nils, .bool false, .nils, .nils, .nils, .int .i64 (.ofNat 0)], .none⟩,
 ⟨.no, .store 26 (.v 1) (.t 0), .none⟩]) (
 .seq (.seq (.reg [⟨.tmp, .fadr 0 (.v 0), .none⟩,
 ⟨(.var 2), .load1 (.t 0), .none⟩]) (
 .block 0 (
 .seq (.reg [⟨.tmp, .bin .eql (.v 2) (.c (.int .i64 (.ofNat 1))), .none⟩,
 ⟨.tmp, .move (.t 0), .none⟩]) (
 .cond (.t 0) (
 .reg [⟨.tmp, .fadr 4 (.v 0), .none⟩,
 ⟨.tmp, .load1 (.t 0), .none⟩,
 ⟨.tmp, .fadr 6 (.v 0), .none⟩,
 ⟨.tmp, .loadN 7 (.t 0), .none⟩,
 ⟨.tmp, .call 85 [(.t 2)], .none⟩,
 ⟨.no, .againN 7 (.t 2) (.t 1), .none⟩,
 ⟨.tmp, .fadr 4 (.v 1), .none⟩,
 ⟨.tmp, .call 86 [(.t 2)], .none⟩,
 ⟨.no, .store 1 (.t 1) (.t 2), .none⟩,
 ⟨.tmp, .fadr 6 (.v 1), .none⟩,
 ⟨.no, .store 7 (.t 0) (.t 1), .none⟩]) (
 .seq (.reg [⟨.tmp, .bin .eql (.v 2) (.c (.int .i64 (.ofNat 2))), .none⟩,
 ⟨.tmp, .move (.t 0), .none⟩]) (
 .cond (.t 0) (
 .reg [⟨.tmp, .fadr 1 (.v 0), .none⟩,
 ⟨.tmp, .load1 (.t 0), .none⟩,
 ⟨.tmp, .fadr 13 (.v 0), .none⟩,
 ⟨.tmp, .loadN 7 (.t 0), .none⟩,
 ⟨.tmp, .fadr 6 (.v 0), .none⟩,
 ⟨.tmp, .loadN 7 (.t 0), .none⟩,
 ⟨.tmp, .fadr 1 (.v 1), .none⟩,
 ⟨.tmp, .call 86 [(.t 3)], .none⟩,
 ⟨.no, .againN 7 (.t 3) (.t 2), .none⟩,
 ⟨.no, .again1 (.t 7) (.t 6), .none⟩,
 ⟨.tmp, .call 86 [(.t 2)], .none⟩,
 ⟨.no, .again1 (.t 8) (.t 7), .none⟩,
 ⟨.no, .store 1 (.t 2) (.t 7), .none⟩,
 ⟨.tmp, .fadr 13 (.v 1), .none⟩,
 ⟨.no, .store 7 (.t 0) (.t 2), .none⟩,
 ⟨.tmp, .fadr 6 (.v 1), .none⟩,
 ⟨.no, .store 7 (.t 0) (.t 2), .none⟩]) (
 .seq (.reg [⟨.tmp, .bin .eql (.v 2) (.c (.int .i64 (.ofNat 5))), .none⟩,
 ⟨.tmp, .move (.t 0), .none⟩]) (
 .cond (.t 0) (
 .reg [⟨.tmp, .fadr 3 (.v 0), .none⟩,
 ⟨.tmp, .load1 (.t 0), .none⟩,
 ⟨.tmp, .fadr 1 (.v 0), .none⟩,
 ⟨.tmp, .load1 (.t 0), .none⟩,
 ⟨.tmp, .fadr 4 (.v 0), .none⟩,
 ⟨.tmp, .load1 (.t 0), .none⟩,
 ⟨.tmp, .fadr 3 (.v 1), .none⟩,
 ⟨.tmp, .call 85 [(.t 1)], .none⟩,
 ⟨.no, .again1 (.t 5) (.t 4), .none⟩,
 ⟨.no, .again1 (.t 7) (.t 6), .none⟩,
 ⟨.no, .store 1 (.t 1) (.t 6), .none⟩,
 ⟨.no, .again1 (.t 5) (.t 4), .none⟩,
 ⟨.tmp, .fadr 1 (.v 1), .none⟩,
 ⟨.no, .store 1 (.t 0) (.t 5), .none⟩,
 ⟨.tmp, .fadr 4 (.v 1), .none⟩,
 ⟨.no, .store 1 (.t 0) (.t 2), .none⟩]) (
 .seq (.reg [⟨.tmp, .bin .eql (.v 2) (.c (.int .i64 (.ofNat 7))), .none⟩,
 ⟨.tmp, .move (.t 0), .none⟩]) (
 .cond (.t 0) (
 .seq (.reg [⟨.tmp, .fadr 2 (.v 0), .none⟩,
 ⟨.tmp, .load1 (.t 0), .none⟩,
 ⟨.tmp, .fadr 21 (.v 0), .none⟩,
 ⟨.tmp, .load1 (.t 0), .none⟩,
 ⟨.tmp, .fadr 2 (.v 1), .none⟩,
 ⟨.no, .store 1 (.t 0) (.t 3), .none⟩,
 ⟨.no, .again1 (.t 2) (.t 1), .none⟩,
 ⟨.tmp, .fadr 21 (.v 1), .none⟩,
 ⟨.no, .store 1 (.t 0) (.t 2), .none⟩]) (
 .reg [⟨.tmp, .fadr 22 (.v 0), .none⟩,
 ⟨.tmp, .load1 (.t 0), .none⟩,
 ⟨.tmp, .fadr 23 (.v 0), .none⟩,
 ⟨.tmp, .load1 (.t 0), .none⟩,
 ⟨.tmp, .fadr 24 (.v 0), .none⟩,
 ⟨.tmp, .load1 (.t 0), .none⟩,
 ⟨.tmp, .call 85 [(.t 4)], .none⟩,
 ⟨.no, .again1 (.t 2) (.t 1), .none⟩,
 ⟨.no, .again1 (.t 4) (.t 3), .none⟩,
 ⟨.tmp, .fadr 22 (.v 1), .none⟩,
 ⟨.tmp, .call 85 [(.t 4)], .none⟩,
 ⟨.no, .again1 (.t 4) (.t 3), .none⟩,
 ⟨.tmp, .call 87 [(.t 3)], .none⟩,
 ⟨.no, .store 1 (.t 2) (.t 3), .none⟩,
 ⟨.tmp, .fadr 23 (.v 1), .none⟩,
 ⟨.no, .store 1 (.t 0) (.t 2), .none⟩,
 ⟨.tmp, .fadr 24 (.v 1), .none⟩,
 ⟨.no, .store 1 (.t 0) (.t 2), .none⟩])) (
 .seq (.reg [⟨.tmp, .bin .eql (.v 2) (.c (.int .i64 (.ofNat 8))), .none⟩,
 ⟨.tmp, .move (.t 0), .none⟩]) (
 .cond (.t 0) (
 .reg [⟨.tmp, .fadr 20 (.v 0), .none⟩,
 ⟨.tmp, .load1 (.t 0), .none⟩,
 ⟨.tmp, .call 20 [(.t 0)], .none⟩,
 ⟨.tmp, .fadr 20 (.v 1), .none⟩,
 ⟨.no, .store 1 (.t 0) (.t 1), .none⟩]) (
 .seq (.reg [⟨.tmp, .bin .eql (.v 2) (.c (.int .i64 (.ofNat 6))), .none⟩,
 ⟨.tmp, .move (.t 0), .none⟩]) (
 .cond (.t 0) (
 .reg [⟨.tmp, .fadr 2 (.v 0), .none⟩,
 ⟨.tmp, .load1 (.t 0), .none⟩,
 ⟨.tmp, .fadr 5 (.v 0), .none⟩,
 ⟨.tmp, .load1 (.t 0), .none⟩,
 ⟨.tmp, .fadr 20 (.v 0), .none⟩,
 ⟨.tmp, .load1 (.t 0), .none⟩,
 ⟨.tmp, .fadr 2 (.v 1), .none⟩,
 ⟨.tmp, .call 88 [(.t 3)], .none⟩,
 ⟨.no, .again1 (.t 3) (.t 2), .none⟩,
 ⟨.no, .again1 (.t 7) (.t 6), .none⟩,
 ⟨.tmp, .call 20 [(.t 2)], .none⟩,
 ⟨.no, .again1 (.t 8) (.t 7), .none⟩,
 ⟨.no, .store 1 (.t 2) (.t 7), .none⟩,
 ⟨.tmp, .fadr 5 (.v 1), .none⟩,
 ⟨.no, .store 1 (.t 0) (.t 2), .none⟩,
 ⟨.tmp, .fadr 20 (.v 1), .none⟩,
 ⟨.no, .store 1 (.t 0) (.t 2), .none⟩]) (
 .seq (.seq (.reg [⟨.tmp, .bin .eql (.v 2) (.c (.int .i64 (.ofNat 3))), .none⟩,
 ⟨(.var 3), .move (.t 0), .none⟩]) (
 .cond (.v 3) (
 .skip) (
 .seq (.reg [⟨.tmp, .bin .eql (.v 2) (.c (.int .i64 (.ofNat 4))), .none⟩,
 ⟨(.var 3), .move (.t 0), .none⟩]) (
 .cond (.v 3) (
 .skip) (
 .reg [⟨.tmp, .bin .eql (.v 2) (.c (.int .i64 (.ofNat 9))), .none⟩,
 ⟨(.var 3), .move (.t 0), .none⟩]))))) (
 .cond (.v 3) (
 .reg [⟨.tmp, .fadr 2 (.v 0), .none⟩,
 ⟨.tmp, .load1 (.t 0), .none⟩,
 ⟨.tmp, .fadr 1 (.v 0), .none⟩,
 ⟨.tmp, .load1 (.t 0), .none⟩,
 ⟨.tmp, .fadr 5 (.v 0), .none⟩,
 ⟨.tmp, .load1 (.t 0), .none⟩,
 ⟨.tmp, .fadr 6 (.v 0), .none⟩,
 ⟨.tmp, .loadN 7 (.t 0), .none⟩,
 ⟨.tmp, .fadr 20 (.v 0), .none⟩,
 ⟨.tmp, .load1 (.t 0), .none⟩,
 ⟨.tmp, .fadr 2 (.v 1), .none⟩,
 ⟨.tmp, .call 88 [(.t 5)], .none⟩,
 ⟨.no, .again1 (.t 3) (.t 2), .none⟩,
 ⟨.no, .againN 7 (.t 5) (.t 4), .none⟩,
 ⟨.no, .again1 (.t 9) (.t 8), .none⟩,
 ⟨.no, .again1 (.t 11) (.t 10), .none⟩,
 ⟨.tmp, .call 86 [(.t 4)], .none⟩,
 ⟨.no, .again1 (.t 4) (.t 3), .none⟩,
 ⟨.no, .again1 (.t 10) (.t 9), .none⟩,
 ⟨.no, .again1 (.t 12) (.t 11), .none⟩,
 ⟨.tmp, .call 20 [(.t 3)], .none⟩,
 ⟨.no, .again1 (.t 11) (.t 10), .none⟩,
 ⟨.no, .again1 (.t 13) (.t 12), .none⟩,
 ⟨.no, .store 1 (.t 3) (.t 12), .none⟩,
 ⟨.no, .again1 (.t 11) (.t 10), .none⟩,
 ⟨.tmp, .fadr 1 (.v 1), .none⟩,
 ⟨.no, .store 1 (.t 0) (.t 11), .none⟩,
 ⟨.tmp, .fadr 5 (.v 1), .none⟩,
 ⟨.no, .store 1 (.t 0) (.t 4), .none⟩,
 ⟨.tmp, .fadr 6 (.v 1), .none⟩,
 ⟨.no, .store 7 (.t 0) (.t 4), .none⟩,
 ⟨.tmp, .fadr 20 (.v 1), .none⟩,
 ⟨.no, .store 1 (.t 0) (.t 4), .none⟩]) (
 .skip))))))))))))))))) (
 .seq (.reg [⟨.tmp, .loadN 26 (.v 1), .none⟩,
 ⟨.no, .store 26 (.v 4) (.t 0), .none⟩]) (
 .ret)))),
 [.cellN 26 (.v 4)], 6, .none⟩

end Dt
