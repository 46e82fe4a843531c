/- Walks of the laws: CoderEncodes. -/
import Derived.Test.YtadfolnhomongaaDoorWalkL2
namespace Go.Proofs.YtadfolnhomongaaDoor
open Go Go.RowKit Pc
set_option maxRecDepth 100000

/-- A slice of bits among a law's arguments. -/
def ArgBits (w : World) (v : Value) (l : List (Int × Bool)) : Prop :=
  (∃ x, v = .slice x 0 0 ∧ l = []) ∨ ∃ b off cap, v = .slice (some ⟨b, off, none⟩) l.length cap ∧ l.length ≤ cap ∧ cap ≤ maxLen ∧ ∀ j u, (l.flatMap bitV)[j]? = some u → w.cell? ⟨b, off + j, none⟩ = some u
/-- Its beginning. -/
def cutV (v : Value) (n : Nat) : Value := match v with | .slice a m c => .slice a (min m n) c | x => x
theorem flat_take (l : List (Int × Bool)) (n : Nat) : ∀ (j : Nat) (u : Value), ((l.take n).flatMap bitV)[j]? = some u → (l.flatMap bitV)[j]? = some u := by
  intro j u h
  have e : l.flatMap bitV = (l.take n).flatMap bitV ++ (l.drop n).flatMap bitV := by rw [← List.flatMap_append, List.take_append_drop]
  rw [e, List.getElem?_append_left (by exact (List.getElem?_eq_some_iff.1 h).1)]; exact h
theorem ArgBits.cut {w : World} {v : Value} {l : List (Int × Bool)} (h : ArgBits w v l) (n : Nat) : RdBits w (cutV v n) (l.take n) := by
  rcases h with ⟨x, rfl, rfl⟩ | ⟨b, off, cap, rfl, h1, h2, h3⟩
  · exact .inl ⟨x, by simp [cutV], by simp⟩
  · exact .inr ⟨b, off, cap, by simp [cutV, Nat.min_comm], fun j u hj => h3 j u (flat_take l n j u hj)⟩

/-- The first n elements of an argument, in one of three forms. -/
theorem ArgBits.forms {w : World} {v : Value} {l : List (Int × Bool)} (h : ArgBits w v l) (n : Nat) (N : Int) (hN : N = (n : Int)) :
    (∃ x, v = .slice x 0 0 ∧ l = []) ∨ ∃ b off cap, v = .slice (some ⟨b, off, none⟩) l.length cap ∧ ((l.length : Nat) : Int) ≤ ((cap : Nat) : Int) ∧ ((cap : Nat) : Int) ≤ 9223372036854775807 ∧
      ((N < ((l.length : Nat) : Int) ∧ RdBits w (.slice (some ⟨b, off, none⟩) n cap) (l.take n)) ∨ (((l.length : Nat) : Int) ≤ N ∧ RdBits w (.slice (some ⟨b, off, none⟩) l.length cap) (l.take n))) := by
  have hc := h.cut n
  rcases h with ⟨x, rfl, rfl⟩ | ⟨b, off, cap, rfl, h1, h2, h3⟩
  · exact .inl ⟨x, rfl, rfl⟩
  · refine .inr ⟨b, off, cap, rfl, by omega, by unfold maxLen at h2; omega, ?_⟩
    simp only [cutV] at hc
    by_cases hn : n < l.length
    · left; rw [Nat.min_eq_right (by omega)] at hc; exact ⟨by omega, hc⟩
    · right; rw [Nat.min_eq_left (by omega)] at hc; exact ⟨by omega, hc⟩

set_option maxHeartbeats 1000000 in
theorem lawEncodes (v : Value) (l : List (Int × Bool)) (w : World) (h : ArgBits w v l) :
    Calls Tryd.prog 3 #[v] w fun e w' => e = .returned (.bool true) ∧ Upd noBlk w w' := by
  have hlen : (l.take 400).length ≤ 100000 := by have := List.length_take_le 400 l; omega
  have HL := Lib.hid hlen
  clear hlen
  rcases h.forms 400 400 rfl with ⟨x, rfl, rfl⟩ | ⟨b, off, cap, rfl, h4, h5, ⟨hm, hr⟩ | ⟨hm, hr⟩⟩
  · clear h HL
    go_enter Tryd.func3, Tryd.ntmps3
    go_wp2_with (go_at_call 14; refine (sanity_any _).mono ?_; rintro e w1 ⟨rfl, u1⟩)
    refine (Encode_nil _ _).mono ?_
    rintro e w2 ⟨rfl, u2⟩
    go_wp2_with fail
    refine (rEncode_nil _ _).mono ?_
    rintro e w3 ⟨rfl, u3⟩
    go_wp2
    go_ret
    exact ⟨rfl, (u1.trans u2).trans u3⟩
  all_goals
    have HR := Lib.hid hr
    clear h hr
    go_enter Tryd.func3, Tryd.ntmps3
    go_wp2_with (go_at_call 14; refine (sanity_any _).mono ?_; rintro e w1 ⟨rfl, u1⟩)
    refine (Encode_v _ (l.take 400) _ (HR.out.keep u1) HL.out).mono ?_
    rintro e w2 ⟨rfl, u2⟩
    go_wp2_with fail
    refine (rEncode_v _ (l.take 400) _ (HR.out.keep (u1.trans u2)) HL.out).mono ?_
    rintro e w3 ⟨rfl, u3⟩
    go_wp2
    go_ret
    exact ⟨rfl, (u1.trans u2).trans u3⟩
end Go.Proofs.YtadfolnhomongaaDoor
