/- One more step for a tree of orders: a guarded operation that is wanted. No condition. -/
import Derived.Test.YtojdgdeefhndiaaGreatDoorRegionB
namespace Go.Proofs.YtojdgdeefhndiaaGreatDoor
open Go Go.RowKit
theorem wpT_sureG {P : Program} {ops : Array Oper} {C : World → Prop} {Q : Exit → Act → World → Prop} {L : Act → World → Prop} {r : OT} {a : Act} {w : World} {i : Nat} {o : Oper}
    (ho : ops[i]? = some o) (hg : Region.wanted o (yielded ops a.tmps) = true) (v : Value) (hv : ∀ w', C w' → (execOp a.eval o).run P w' = .ok (.value v) w') (h : wpT P ops Q L r C (a.put o.dst v) w) :
    wpT P ops Q L (.sure i r) C a w :=
  ⟨o, v, ho, .inl ⟨hg, hv⟩, h⟩
end Go.Proofs.YtojdgdeefhndiaaGreatDoor
