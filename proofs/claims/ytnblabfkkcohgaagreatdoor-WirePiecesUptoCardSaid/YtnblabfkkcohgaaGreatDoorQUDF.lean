/- Texts of this claim, put together by a program of this session (prune.py): PLwCx. -/
import Derived.Test.YtnblabfkkcohgaaGreatDoorQUDC
import Derived.Test.YtnblabfkkcohgaaGreatDoorQUDD
import Derived.Test.YtnblabfkkcohgaaGreatDoorQUDE
section
-- Printed by a program of this session (wip/fork) out of the translation. Lean checks it.
namespace Go.Proofs.YtnblabfkkcohgaaGreatDoor.PLwC
open Go.Proofs.YtnblabfkkcohgaaGreatDoor.LawG Go.Proofs.YtnblabfkkcohgaaGreatDoor.CutG Go.Proofs.YtnblabfkkcohgaaGreatDoor.Given Go.Proofs.YtnblabfkkcohgaaGreatDoor.TxtG
open Go.RowKit Go.Proofs.YtnblabfkkcohgaaGreatDoorW.PrintWords Go.Proofs.YtnblabfkkcohgaaGreatDoorW.PrintLast Go.Proofs.YtnblabfkkcohgaaGreatDoorW.PrintMore
attribute [local go_sem] max2_int min2_int max_two min_two max_three min_three max_four min_four   -- for this text's walks alone
open Go.Proofs.YtnblabfkkcohgaaGreatDoor.PWireOne (S28 z28 k28 k28_open k28_mk k28_mkM rd_T28 at_T28)
set_option linter.unusedVariables false
set_option linter.unusedSimpArgs false
attribute [local go_sem high] field28

end Go.Proofs.YtnblabfkkcohgaaGreatDoor.PLwC
end
