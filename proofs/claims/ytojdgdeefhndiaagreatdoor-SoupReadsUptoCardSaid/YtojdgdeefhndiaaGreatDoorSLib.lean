/- General lemmas: an append onto a row of the call's own. No condition. -/
import Derived.Test.YtojdgdeefhndiaaGreatDoorLib
namespace Go.Proofs.YtojdgdeefhndiaaGreatDoor
open Go Go.RowKit

theorem upd_of_grown {F : Nat → Prop} {w w' : World} {row : Option Nat} (hg : w.grownBy w' row) (hr : ∀ k, row = some k → k < w.heap.size → F k) : Upd F w w' := (Upd.refl F w).grown hg hr
theorem ownsRow_keep {w w' : World} {base n : Nat} {T : TypeId} {s : Nat} {v : Value} {xs : List Value} (own : w.ownsRow base T s v n xs) (hk : ∀ g, v.ownBlock = some g → w'.heap[g]? = w.heap[g]?) : w'.ownsRow base T s v n xs := by
  refine ⟨own.1, ?_⟩
  rcases own.2 with h | ⟨g, cap, cur, rfl, hg, hh, r⟩
  · exact .inl h
  · exact .inr ⟨g, cap, cur, rfl, hg, (hk g (by simp [Value.ownBlock])).trans hh, r⟩
theorem ownsRow_upd {w w' : World} {base n : Nat} {T : TypeId} {s : Nat} {v : Value} {xs : List Value} (own : w.ownsRow base T s v n xs) (hu : Upd noBlk w w') : w'.ownsRow base T s v n xs :=
  ownsRow_keep own (fun g hg => hu.block g (own.lt g hg).2 id)
/-- 'append(own, x)' where the row was begun behind w0. -/
theorem append_item {P : Program} {F : Nat → Prop} {w0 w : World} (t ty e : TypeId) (i : TypeInfo) (z : Value) (size bytes : Nat) (ht : P.underlying t = some (.slice e)) (hi : P.info? e = some i) (hz : i.zero = some z)
    (hsize : i.size = size) (hby : i.bytes = bytes) (hzs : z.cells.size = size) (hsz : 0 < size) (hup : Upd F w0 w) {v : Value} {n : Nat} {xs : List Value} (hown : w.ownsRow w0.heap.size e size v n xs)
    (news : List Value) (hl : news.length = size) (h1 : ∀ u ∈ news, u.oneCell' = true) (h63 : n + 1 ≤ maxLen) (hbytes : (n + 1) * bytes ≤ 140737488355328) :
    ∃ g cap w', (Builtin.append_ #[t, t] ty #[v, .slice (some ⟨w.heap.size, 0, none⟩) 1 1]).run P (w.alloc (.cells news.toArray e)) = .ok (.slice (some ⟨g, 0, none⟩) (n + 1) cap) w' ∧
      w'.ownsRow w0.heap.size e size (.slice (some ⟨g, 0, none⟩) (n + 1) cap) (n + 1) (xs ++ news) ∧ Upd F w0 w' ∧ Upd (fun k => v.ownBlock = some k) w w' ∧ (v.ownBlock = some g ∨ g = w.heap.size + 1) ∧ g < w'.heap.size := by
  obtain ⟨g, cap, w', r, o, gr, hat, hlt⟩ := append_one (P := P) w t ty e i z size bytes ht hi hz hsize hby hzs hsz hown hup.size news hl h1 h63 hbytes
  have hu2 : Upd (fun k => v.ownBlock = some k) w w' := (upd_of_grown (World.grownBy_alloc w _ v.ownBlock) (fun j hj _ => hj)).trans (upd_of_grown gr (fun j hj _ => hj))
  exact ⟨g, cap, w', r, o, hup.then hu2 (fun j hj hj' => absurd (hown.lt j hj').1 (by omega)), hu2, hat, hlt⟩
end Go.Proofs.YtojdgdeefhndiaaGreatDoor
