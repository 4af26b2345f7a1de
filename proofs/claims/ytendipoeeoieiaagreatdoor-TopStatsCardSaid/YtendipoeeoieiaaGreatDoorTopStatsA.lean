/- The law TopStats: the calls that are told ahead. -/
import Derived.Test.YtendipoeeoieiaaGreatDoorTopStatsC0
import Derived.Test.YtendipoeeoieiaaGreatDoorTopStatsC1
import Derived.Test.YtendipoeeoieiaaGreatDoorTopStatsC2
import Derived.Test.YtendipoeeoieiaaGreatDoorTopStatsC3
import Derived.Test.YtendipoeeoieiaaGreatDoorTopStatsC4
import Derived.Test.YtendipoeeoieiaaGreatDoorTopStatsC5
import Derived.Test.YtendipoeeoieiaaGreatDoorTopStatsC6
import Derived.Test.YtendipoeeoieiaaGreatDoorTopStatsC7
import Derived.Test.YtendipoeeoieiaaGreatDoorTopStatsC8
import Derived.Test.YtendipoeeoieiaaGreatDoorTopStatsC9
import Derived.Test.YtendipoeeoieiaaGreatDoorTopStatsC10
import Derived.Test.YtendipoeeoieiaaGreatDoorTopStatsC11
import Derived.Test.YtendipoeeoieiaaGreatDoorTopStatsC12
import Derived.Test.YtendipoeeoieiaaGreatDoorTopStatsC13
import Derived.Test.YtendipoeeoieiaaGreatDoorTopStatsC14
import Derived.Test.YtendipoeeoieiaaGreatDoorTopStatsC15
import Derived.Test.YtendipoeeoieiaaGreatDoorTopStatsC16
import Derived.Test.YtendipoeeoieiaaGreatDoorTopStatsC17
import Derived.Test.YtendipoeeoieiaaGreatDoorTopStatsC18
import Derived.Test.YtendipoeeoieiaaGreatDoorTopStatsC19
import Derived.Test.YtendipoeeoieiaaGreatDoorTopStatsC20
namespace Go.Proofs.YtendipoeeoieiaaGreatDoor.topstats
open Go Vai
set_option linter.unusedVariables false
open top
noncomputable def told : Vai.CallF := (Vai.orS (Vai.ckS 10 args0 keep0 res0 out0) (Vai.orS (Vai.ckS 13 args1 keep1 res1 out1) (Vai.orS (Vai.ckS 13 args2 keep2 res2 out2) (Vai.orS (Vai.ckS 13 args3 keep3 res3 out3) (Vai.orS (Vai.ckS 13 args4 keep4 res4 out4) (Vai.orS (Vai.ckS 13 args5 keep5 res5 out5) (Vai.orS (Vai.ckS 13 args6 keep6 res6 out6) (Vai.orS (Vai.ckS 13 args7 keep7 res7 out7) (Vai.orS (Vai.ckS 13 args8 keep8 res8 out8) (Vai.orS (Vai.ckS 13 args9 keep9 res9 out9) (Vai.orS (Vai.ckS 13 args10 keep10 res10 out10) (Vai.orS (Vai.ckS 13 args11 keep11 res11 out11) (Vai.orS (Vai.ckS 13 args12 keep12 res12 out12) (Vai.orS (Vai.ckS 13 args13 keep13 res13 out13) (Vai.orS (Vai.ckS 13 args14 keep14 res14 out14) (Vai.orS (Vai.ckS 13 args15 keep15 res15 out15) (Vai.orS (Vai.ckS 13 args16 keep16 res16 out16) (Vai.orS (Vai.ckS 13 args17 keep17 res17 out17) (Vai.orS (Vai.ckS 13 args18 keep18 res18 out18) (Vai.orS (Vai.ckS 13 args19 keep19 res19 out19) (Vai.orS (Vai.ckS 13 args20 keep20 res20 out20) Vai.noSumm)))))))))))))))))))))
theorem told_ok (G : Vai.Sym) : Vai.CallOk Tryz.prog G told := (Vai.orS_ok (Vai.ckS_ok (plain_ok _) ck0) (Vai.orS_ok (Vai.ckS_ok (plain_ok _) ck1) (Vai.orS_ok (Vai.ckS_ok (plain_ok _) ck2) (Vai.orS_ok (Vai.ckS_ok (plain_ok _) ck3) (Vai.orS_ok (Vai.ckS_ok (plain_ok _) ck4) (Vai.orS_ok (Vai.ckS_ok (plain_ok _) ck5) (Vai.orS_ok (Vai.ckS_ok (plain_ok _) ck6) (Vai.orS_ok (Vai.ckS_ok (plain_ok _) ck7) (Vai.orS_ok (Vai.ckS_ok (plain_ok _) ck8) (Vai.orS_ok (Vai.ckS_ok (plain_ok _) ck9) (Vai.orS_ok (Vai.ckS_ok (plain_ok _) ck10) (Vai.orS_ok (Vai.ckS_ok (plain_ok _) ck11) (Vai.orS_ok (Vai.ckS_ok (plain_ok _) ck12) (Vai.orS_ok (Vai.ckS_ok (plain_ok _) ck13) (Vai.orS_ok (Vai.ckS_ok (plain_ok _) ck14) (Vai.orS_ok (Vai.ckS_ok (plain_ok _) ck15) (Vai.orS_ok (Vai.ckS_ok (plain_ok _) ck16) (Vai.orS_ok (Vai.ckS_ok (plain_ok _) ck17) (Vai.orS_ok (Vai.ckS_ok (plain_ok _) ck18) (Vai.orS_ok (Vai.ckS_ok (plain_ok _) ck19) (Vai.orS_ok (Vai.ckS_ok (plain_ok _) ck20) Vai.noSumm_ok)))))))))))))))))))))
end Go.Proofs.YtendipoeeoieiaaGreatDoor.topstats
