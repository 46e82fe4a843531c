/- Walks of the law's helpers: Bools, sanity, contexts, values. -/
import Derived.Test.YtadfolnhomongaaDoorWalkR7
namespace Go.Proofs.YtadfolnhomongaaDoor
open Go Go.RowKit Pc
set_option maxRecDepth 100000

theorem lit_cells {w : World} {b : Nat} {cs : Array Value} {T : TypeId} {fr : Nat × Nat} (h : w.heap[b]? = some (.cells cs T fr)) (xs : List Value) (hx : cs.toList = xs) :
    ∀ j u, xs[j]? = some u → w.cell? ⟨b, 0 + j, none⟩ = some u := by
  intro j u hu
  rw [Nat.zero_add, cell_of_row w b j cs _ _ h, ← hu, ← hx]; simp

theorem enc0 : encode [] = [] := by decide
theorem enc1 : encode [(0, false)] = [] := by decide
theorem enc2 : encode [(0, true)] = [128] := by decide
theorem enc3 : encode [(0, true), (0, true)] = [190] := by decide
theorem dec3 : Pc.decode [190] [0, 0] = [true, true] := by decide

/-- A slice of bools that is only read. -/
def RdBools (w : World) (v : Value) (l : List Bool) : Prop :=
  (v = .slice none 0 0 ∧ l = []) ∨ ∃ b off cap, v = .slice (some ⟨b, off, none⟩) l.length cap ∧ ∀ j (h : j < l.length), w.cell? ⟨b, off + j, none⟩ = some (.bool l[j])
theorem RdBools.keep {w w' : World} {v : Value} {l : List Bool} (h : RdBools w v l) (hu : Upd noBlk w w') : RdBools w' v l :=
  h.imp id (fun ⟨b, off, cap, h1, h2⟩ => ⟨b, off, cap, h1, fun j hj => hu.cell (h2 j hj) id⟩)
theorem RdBools.own {w : World} {base : Nat} {v : Value} {l : List Bool} (h : w.ownsRow base 4 1 v l.length (l.map Value.bool)) : RdBools w v l := by
  rcases h.2 with ⟨rfl, h0⟩ | ⟨g, cap, cur, rfl, r⟩
  · exact .inl ⟨rfl, List.eq_nil_of_length_eq_zero h0⟩
  · exact .inr ⟨g, 0, cap, rfl, fun j hj => by rw [Nat.zero_add, h.cellAt j (by omega)]; simp [hj]⟩

def eqB (a b : List Bool) : Bool := decide (a = b)

set_option maxHeartbeats 1000000 in
theorem Bools_any (v1 v2 : Value) (l1 l2 : List Bool) (w : World) (h1 : RdBools w v1 l1) (h2 : RdBools w v2 l2) (hl1 : l1.length ≤ 1000000) (hl2 : l2.length ≤ 1000000) (heq : l1 = l2) :
    Calls Tryd.prog 17 #[v1, v2] w fun e w' => e = .returned (.bool true) ∧ Upd noBlk w w' := by
  subst heq
  rcases h1 with ⟨rfl, rfl⟩ | ⟨b1, o1, k1, rfl, c1⟩
  · rcases h2 with ⟨rfl, _⟩ | ⟨b2, o2, k2, rfl, c2⟩
    · go_enter Tryd.func17, Tryd.ntmps17
      go_wp2
      refine wp_loop_once ?_
      go_wp2
      go_ret
      exact ⟨rfl, Upd.refl _ _⟩
    · clear c2
      go_enter Tryd.func17, Tryd.ntmps17
      go_wp2
      refine wp_loop_once ?_
      go_wp2
      go_ret
      exact ⟨rfl, Upd.refl _ _⟩
  · rcases h2 with ⟨rfl, rfl⟩ | ⟨b2, o2, k2, rfl, c2⟩
    · clear c1
      go_enter Tryd.func17, Tryd.ntmps17
      go_wp2
      refine wp_loop_once ?_
      go_wp2
      go_ret
      exact ⟨rfl, Upd.refl _ _⟩
    · have C1 := Lib.hid c1
      have C2 := Lib.hid c2
      have hb : ((l1.length : Nat) : Int) ≤ 1000000 := by omega
      clear c1 c2 hl1 hl2
      go_enter Tryd.func17, Tryd.ntmps17
      go_wp2
      go_loopw [5] (fun i wr => ∃ k : Nat, i = .int .i64 k ∧ k ≤ l1.length ∧ Upd noBlk w wr) (fun i _ => l1.length - (intOf i).toNat)
      case atStart => exact ⟨0, rfl, Nat.zero_le _, Upd.refl _ _⟩
      case round =>
        obtain ⟨k, rfl, hk, hu⟩ := hrel
        have HU := Lib.hid hu
        clear hu
        by_cases hlt : k < l1.length
        · have e1 : wr.cell? ⟨b1, o1 + k, none⟩ = some (.bool l1[k]) := HU.out.cell (C1.out k hlt) id
          have e2 : wr.cell? ⟨b2, o2 + k, none⟩ = some (.bool l1[k]) := HU.out.cell (C2.out k hlt) id
          go_wp2
          go_quiet (fail)
          go_wp2
          go_roundw
          case rel => exact ⟨k + 1, by go_num, hlt, HU.out.drewN _⟩
          case measure => simp [intOf]; omega
        · go_wp2
          go_ret
          exact ⟨rfl, HU.out⟩
end Go.Proofs.YtadfolnhomongaaDoor
