/- The statements of the stream: blocks; a quarter undone. -/
import Derived.Test.YtfehhihllenjiaaFd
import Derived.Test.YtfehhihllenjiaaC5
set_option linter.all false
namespace Go.Proofs.Ytfehhihllenjiaa
open Go.Proofs
attribute [local irreducible] evOps iter evD evF evC evLoad evStore evAlloc evIndexAddr evIndex evLenB evBox evBin evUn evConvert evExtract evSlice evAppend evCopy evNil evBuild Program.underlying
end Go.Proofs.Ytfehhihllenjiaa
