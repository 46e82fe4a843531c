/- Walks of the laws: CoderDecodes. -/
import Derived.Test.YtadfolnhomongaaDoorLawA
namespace Go.Proofs.YtadfolnhomongaaDoor
open Go Go.RowKit Pc
set_option maxRecDepth 100000

/-- A slice of ints among a law's arguments. -/
def ArgInts (w : World) (v : Value) (l : List Int) : Prop :=
  (∃ x, v = .slice x 0 0 ∧ l = []) ∨ ∃ b off cap, v = .slice (some ⟨b, off, none⟩) l.length cap ∧ l.length ≤ cap ∧ cap ≤ maxLen ∧ ∀ j (h : j < l.length), w.cell? ⟨b, off + j, none⟩ = some (.int .i64 l[j])
/-- The first n elements of an argument, in one of three forms. -/
theorem ArgInts.forms {w : World} {v : Value} {l : List Int} (h : ArgInts w v l) (n : Nat) (N : Int) (hN : N = (n : Int)) :
    (∃ x, v = .slice x 0 0 ∧ l = []) ∨ ∃ b off cap, v = .slice (some ⟨b, off, none⟩) l.length cap ∧ ((l.length : Nat) : Int) ≤ ((cap : Nat) : Int) ∧ ((cap : Nat) : Int) ≤ 9223372036854775807 ∧
      ((N < ((l.length : Nat) : Int) ∧ RdInts w (.slice (some ⟨b, off, none⟩) n cap) (l.take n)) ∨ (((l.length : Nat) : Int) ≤ N ∧ RdInts w (.slice (some ⟨b, off, none⟩) l.length cap) (l.take n))) := by
  rcases h with ⟨x, rfl, rfl⟩ | ⟨b, off, cap, rfl, h1, h2, h3⟩
  · exact .inl ⟨x, rfl, rfl⟩
  · refine .inr ⟨b, off, cap, rfl, by omega, by unfold maxLen at h2; omega, ?_⟩
    by_cases hn : n < l.length
    · left
      refine ⟨by omega, .inr ⟨b, off, cap, by rw [List.length_take, Nat.min_eq_left (by omega)], fun j hj => ?_⟩⟩
      rw [List.getElem_take]
      exact h3 j (by rw [List.length_take] at hj; omega)
    · right
      refine ⟨by omega, .inr ⟨b, off, cap, by rw [List.length_take, Nat.min_eq_right (by omega)], fun j hj => ?_⟩⟩
      rw [List.getElem_take]
      exact h3 j (by rw [List.length_take] at hj; omega)

/-- The first n bytes of a string, in one of two forms. -/
theorem str_forms (a : ByteArray) (n : Nat) (N : Int) (hN : N = (n : Int)) :
    (N < ((a.size : Nat) : Int) ∧ ∃ c, (∀ d, d ∈ c → d < 256) ∧ a.extract 0 n = str c) ∨ (((a.size : Nat) : Int) ≤ N ∧ ∃ c, (∀ d, d ∈ c → d < 256) ∧ a = str c) := by
  by_cases hn : n < a.size
  · left
    refine ⟨by omega, (bytesOf a).take n, fun d hd => bytesOf_lt a d (List.mem_of_mem_take hd), ?_⟩
    conv => lhs; rw [← str_bytesOf a]
    rw [str_extract]; rfl
  · right
    exact ⟨by omega, bytesOf a, bytesOf_lt a, (str_bytesOf a).symm⟩
set_option maxHeartbeats 2000000 in
theorem lawDecodes (a : ByteArray) (v : Value) (l : List Int) (w : World) (ha : a.size ≤ maxLen) (h : ArgInts w v l) :
    Calls Tryd.prog 5 #[.string a, v] w fun e w' => e = .returned (.bool true) ∧ Upd noBlk w w' := by
  have hlen : (l.take 400).length ≤ 100000 := by have := List.length_take_le 400 l; omega
  have HL := Lib.hid hlen
  have has : ((a.size : Nat) : Int) ≤ 9223372036854775807 := by unfold maxLen at ha; omega
  have hsf := str_forms a 60 60 rfl
  clear hlen ha
  rcases h.forms 400 400 rfl with ⟨x, rfl, rfl⟩ | ⟨b, off, cap, rfl, h4, h5, ⟨hm, hr⟩ | ⟨hm, hr⟩⟩
  · clear h
    rcases hsf with ⟨hs, c, hc, es⟩ | ⟨hs, c, hc, rfl⟩
    all_goals
      have HC := Lib.hid hc
      clear hc
      go_enter Tryd.func5, Tryd.ntmps5
      go_wp2_with (go_at_call 14; refine (sanity_any _).mono ?_; rintro e w1 ⟨rfl, u1⟩)
      refine (Decode_nil _ c _).mono ?_
      rintro e w2 ⟨rfl, u2⟩
      go_wp2_with fail
      refine (rDecode_nil _ c HC.out _).mono ?_
      rintro e w3 ⟨rfl, u3⟩
      go_wp2_with fail
      refine (Bools_any _ _ [] [] _ (.inl ⟨rfl, rfl⟩) (.inl ⟨rfl, rfl⟩) (by decide) (by decide) rfl).mono ?_
      rintro e w4 ⟨rfl, u4⟩
      go_wp2
      go_ret
      exact ⟨rfl, ((u1.trans u2).trans u3).trans u4⟩
  all_goals
    have HR := Lib.hid hr
    clear h hr
    rcases hsf with ⟨hs, c, hc, es⟩ | ⟨hs, c, hc, rfl⟩
    all_goals
      have HC := Lib.hid hc
      clear hc
      have hd1 : (Pc.decode c (l.take 400)).length ≤ 1000000 := by rw [decode_length]; have := HL.out; omega
      have HD := Lib.hid hd1
      clear hd1
      go_enter Tryd.func5, Tryd.ntmps5
      go_wp2_with (go_at_call 14; refine (sanity_any _).mono ?_; rintro e w1 ⟨rfl, u1⟩)
      refine (Decode_v c HC.out _ (l.take 400) _ (HR.out.keep u1) HL.out).mono ?_
      rintro e w2 ⟨r2, rfl, b2, u2⟩
      have B2 := Lib.hid b2
      clear b2
      go_wp2_with fail
      refine (rDecode_v c HC.out _ (l.take 400) _ (HR.out.keep (u1.trans u2)) HL.out).mono ?_
      rintro e w3 ⟨r3, rfl, b3, u3⟩
      have B3 := Lib.hid b3
      clear b3
      go_wp2_with fail
      refine (Bools_any _ _ _ _ _ (B2.out.keep u3) B3.out HD.out HD.out rfl).mono ?_
      rintro e w4 ⟨rfl, u4⟩
      go_wp2
      go_ret
      exact ⟨rfl, ((u1.trans u2).trans u3).trans u4⟩
end Go.Proofs.YtadfolnhomongaaDoor
