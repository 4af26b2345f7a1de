/- The law TopIDs: the calls that are told ahead. -/
import Derived.Test.YtendipoeeoieiaaGreatDoorTopIDsC0
import Derived.Test.YtendipoeeoieiaaGreatDoorTopIDsC1
import Derived.Test.YtendipoeeoieiaaGreatDoorTopIDsC2
import Derived.Test.YtendipoeeoieiaaGreatDoorTopIDsC3
import Derived.Test.YtendipoeeoieiaaGreatDoorTopIDsC4
import Derived.Test.YtendipoeeoieiaaGreatDoorTopIDsC5
import Derived.Test.YtendipoeeoieiaaGreatDoorTopIDsC6
import Derived.Test.YtendipoeeoieiaaGreatDoorTopIDsC7
import Derived.Test.YtendipoeeoieiaaGreatDoorTopIDsC8
import Derived.Test.YtendipoeeoieiaaGreatDoorTopIDsC9
import Derived.Test.YtendipoeeoieiaaGreatDoorTopIDsC10
import Derived.Test.YtendipoeeoieiaaGreatDoorTopIDsC11
import Derived.Test.YtendipoeeoieiaaGreatDoorTopIDsC12
namespace Go.Proofs.YtendipoeeoieiaaGreatDoor.topids
open Go Vai
set_option linter.unusedVariables false
open top
noncomputable def told : Vai.CallF := (Vai.orS (Vai.ckS 10 args0 keep0 res0 out0) (Vai.orS (Vai.ckS 13 args1 keep1 res1 out1) (Vai.orS (Vai.ckS 13 args2 keep2 res2 out2) (Vai.orS (Vai.ckS 13 args3 keep3 res3 out3) (Vai.orS (Vai.ckS 13 args4 keep4 res4 out4) (Vai.orS (Vai.ckS 13 args5 keep5 res5 out5) (Vai.orS (Vai.ckS 13 args6 keep6 res6 out6) (Vai.orS (Vai.ckS 13 args7 keep7 res7 out7) (Vai.orS (Vai.ckS 13 args8 keep8 res8 out8) (Vai.orS (Vai.ckS 13 args9 keep9 res9 out9) (Vai.orS (Vai.ckS 13 args10 keep10 res10 out10) (Vai.orS (Vai.ckS 13 args11 keep11 res11 out11) (Vai.orS (Vai.ckS 13 args12 keep12 res12 out12) Vai.noSumm)))))))))))))
theorem told_ok (G : Vai.Sym) : Vai.CallOk Tryz.prog G told := (Vai.orS_ok (Vai.ckS_ok (plain_ok _) ck0) (Vai.orS_ok (Vai.ckS_ok (plain_ok _) ck1) (Vai.orS_ok (Vai.ckS_ok (plain_ok _) ck2) (Vai.orS_ok (Vai.ckS_ok (plain_ok _) ck3) (Vai.orS_ok (Vai.ckS_ok (plain_ok _) ck4) (Vai.orS_ok (Vai.ckS_ok (plain_ok _) ck5) (Vai.orS_ok (Vai.ckS_ok (plain_ok _) ck6) (Vai.orS_ok (Vai.ckS_ok (plain_ok _) ck7) (Vai.orS_ok (Vai.ckS_ok (plain_ok _) ck8) (Vai.orS_ok (Vai.ckS_ok (plain_ok _) ck9) (Vai.orS_ok (Vai.ckS_ok (plain_ok _) ck10) (Vai.orS_ok (Vai.ckS_ok (plain_ok _) ck11) (Vai.orS_ok (Vai.ckS_ok (plain_ok _) ck12) Vai.noSumm_ok)))))))))))))
end Go.Proofs.YtendipoeeoieiaaGreatDoor.topids
