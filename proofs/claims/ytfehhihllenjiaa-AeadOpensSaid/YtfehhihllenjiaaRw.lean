/- What every row of this seat leans on. -/
import Derived.Test.YtfehhihllenjiaaC5
import Derived.Test.YtfehhihllenjiaaTy
import Derived.Test.YtfehhihllenjiaaHead
import Derived.OpenShut
import Derived.ShutString
import Derived.ChangeOld
set_option linter.all false
namespace Go.Proofs.Ytfehhihllenjiaa
open Go.Proofs
theorem own : ownKnob Try.prog.godebug = none := by kernel_rfl
theorem laidOut : laidOutB Try.prog = true := by kernel_rfl
theorem progOk : ProgOk Try.prog := ⟨by kernel_rfl⟩
end Go.Proofs.Ytfehhihllenjiaa
