/- Ways that meet again. -/
import Derived.Test.YtfehhihllenjiaaC6
set_option linter.all false
namespace Go.Proofs.Ytfehhihllenjiaa
theorem W.join {o : Option (X × Env × Heap)} {k : Env → Heap → Prop} {Q : Post} (M : Env → Heap → Prop) (hw : W o fun x e h => x = .normal ∧ M e h) (hk : ∀ e h, M e h → k e h) : W o (seqQ k Q) :=
  hw.mono fun x e h ⟨hx, hm⟩ => by
    subst hx
    exact Q_seq (hk e h hm)
theorem I_join {p : Prop} [Decidable p] {o1 o2 : Option (X × Env × Heap)} {k : Env → Heap → Prop} {Q : Post} (M : Env → Heap → Prop) (h1 : p → W o1 fun x e h => x = .normal ∧ M e h) (h2 : ¬ p → W o2 fun x e h => x = .normal ∧ M e h)
    (hk : ∀ e h, M e h → k e h) : ifQ (decide p) (W o1 (seqQ k Q)) (W o2 (seqQ k Q)) :=
  I_dec (fun hp => (h1 hp).join M hk) (fun hp => (h2 hp).join M hk)
section
variable {P : Program} {q : Nat} {e : Env} {h : Heap} {Q : Post} {all : Array Oper} {l : List Oper} {ty : TypeId} {pos : String} {af : Array Edge}
end
theorem cv_same {P : Program} {t e : TypeId} {h : Heap} {b i n c es : Nat} {cs : List Value} (ht : P.underlying t = some (.slice e)) (he : P.underlying e = some (.int .u8)) (ho : h.obj b = some (.row .rw es cs)) :
    evConvert P t t (.slice (some ⟨b, i, none⟩) n c) h = some (.slice (some ⟨b, i, none⟩) n c, h) := by
  unfold evConvert
  simp only [ht, he, ho, if_true]
end Go.Proofs.Ytfehhihllenjiaa
