/- The heap, given a name. -/
import Derived.Test.YtfehhihllenjiaaS4
set_option linter.all false
namespace Go.Proofs.Ytfehhihllenjiaa
section
variable {P : Program} {R : Nat} {call : Value → Phi} {ar : Option Nat} {e : Env} {h h' : Heap} {Q : Post} {all : Array Oper} {l : List Oper} {c : Code} {F : List Nat} {S : Nat → Prop} {i : Nat}
theorem W_heap (hw : ∀ H, H = h → W (evS P R call ar c e H) Q) : W (evS P R call ar c e h) Q := hw h rfl
theorem O_heap (hw : ∀ H, H = h → W (evOps call P all l e H) Q) : W (evOps call P all l e h) Q := hw h rfl
theorem D_heap (hw : ∀ H, H = h → WD call P all F S i l e H Q) : WD call P all F S i l e h Q := hw h rfl
end
theorem by_sub {h : Heap} {b i c : Nat} {k : Kind} {ys xs : List (BitVec 8)} {n : Nat} (hb : b < h.nx) (ho : h.obj b = some (.row k 1 (b8 ys))) (hn : n ≤ c) (hl : i + n ≤ ys.length) (hx : (ys.drop i).take n = xs) : By h (.slice (some ⟨b, i, none⟩) n c) xs :=
  .mk hb ho (fun _ => rfl) hn hl hx
end Go.Proofs.Ytfehhihllenjiaa
