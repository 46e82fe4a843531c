/- The library's Split at line ends and its Cut at '#', as plain functions. No condition. -/
import Derived.Test.YtojdgdeefhndiaaGreatDoorSPure
import Derived.Lib.CutLaws
import Derived.Lib.Split
import Derived.Lib.CountLaws
namespace Go.Proofs.YtojdgdeefhndiaaGreatDoor
namespace Sp
open Go.Lib

theorem index_split (c : UInt8) : ∀ l : Bytes, (index l [c] = -1 ∧ c ∉ l) ∨ ∃ i : Nat, index l [c] = i ∧ i < l.length ∧ l = l.take i ++ c :: l.drop (i + 1) ∧ c ∉ l.take i
  | [] => .inl ⟨rfl, by simp⟩
  | b :: l => by
    unfold index
    by_cases hb : c = b
    · subst hb
      right
      refine ⟨0, by simp, by simp, by simp, by simp⟩
    · have hp : ([c] : Bytes).isPrefixOf (b :: l) = false := by simp [List.isPrefixOf, hb]
      rw [hp, if_neg (by simp)]
      rcases index_split c l with ⟨h1, h2⟩ | ⟨i, h1, h2, h3, h4⟩
      · left
        rw [h1]
        exact ⟨by simp, by simp [h2, hb]⟩
      · right
        refine ⟨i + 1, ?_, by simp; omega, ?_, ?_⟩
        · rw [h1, if_neg (by simp)]; rfl
        · simp only [List.take_succ_cons, List.drop_succ_cons, List.cons_append]; rw [← h3]
        · simp [h4, hb]
theorem ahead_none : ∀ {l : Bytes}, (35 : UInt8) ∉ l → ahead l = l
  | [], _ => rfl
  | c :: r, h => by
    have h1 : ¬ c = 35 := fun e => h (by simp [e])
    rw [ahead, if_neg h1, ahead_none (fun hr => h (by simp [hr]))]
theorem ahead_some : ∀ {x r : Bytes}, (35 : UInt8) ∉ x → ahead (x ++ 35 :: r) = x
  | [], _, _ => by simp [ahead]
  | c :: x, r, h => by
    have h1 : ¬ c = 35 := fun e => h (by simp [e])
    rw [List.cons_append, ahead, if_neg h1, ahead_some (fun hr => h (by simp [hr]))]
theorem cut_ahead (l : Bytes) : (cut l [35]).1 = ahead l := by
  unfold cut
  rcases index_split 35 l with ⟨h1, h2⟩ | ⟨i, h1, h2, h3, h4⟩
  · rw [h1, if_neg (by omega), ahead_none h2]
  · rw [h1, if_pos (by omega)]
    show l.take (i : Int).toNat = _
    rw [Int.toNat_natCast]
    conv => rhs; rw [h3]
    rw [ahead_some h4]
theorem lines_none : ∀ {l cur : Bytes}, (10 : UInt8) ∉ l → linesGo cur l = [cur ++ l]
  | [], cur, _ => by simp [linesGo]
  | c :: r, cur, h => by
    have h1 : ¬ c = 10 := fun e => h (by simp [e])
    rw [linesGo, if_neg h1, lines_none (fun hr => h (by simp [hr]))]; simp
theorem lines_some : ∀ {x cur r : Bytes}, (10 : UInt8) ∉ x → linesGo cur (x ++ 10 :: r) = (cur ++ x) :: linesGo [] r
  | [], cur, r, _ => by simp [linesGo]
  | c :: x, cur, r, h => by
    have h1 : ¬ c = 10 := fun e => h (by simp [e])
    rw [List.cons_append, linesGo, if_neg h1, lines_some (fun hr => h (by simp [hr]))]; simp
theorem data_extract (s : ByteArray) (a b : Nat) : (s.extract a b).data.toList = (s.data.toList.drop a).take (b - a) := by
  simp [List.extract_eq_take_drop]
def nl : ByteArray := ⟨#[10]⟩
theorem split_lines : ∀ (n : Nat) (s : ByteArray), s.size ≤ n → (splitB nl 0 (countB s nl) s).map (fun x => x.data.toList) = linesOf s.data.toList
  | n, s, hn => by
    rcases index_split 10 s.data.toList with ⟨h1, h2⟩ | ⟨i, h1, h2, h3, h4⟩
    · have h5 : indexB s nl = -1 := h1
      rw [countB_miss s nl h5, splitB_miss nl 0 0 s h5]
      unfold linesOf
      rw [lines_none h2]; rfl
    · have h5 : indexB s nl = i := h1
      have h6 := countB_hit s nl i (by decide) h5
      have hsz : s.data.toList.length = s.size := by simp
      rw [h6, Nat.add_comm, splitB_hit nl 0 _ s i h5]
      cases n with
      | zero => omega
      | succ n =>
        have hnl : nl.size = 1 := rfl
        have ih := split_lines n (s.extract (i + nl.size) s.size) (by rw [hnl, ByteArray.size_extract]; omega)
        rw [List.map_cons, ih, data_extract, data_extract]
        unfold linesOf
        conv => rhs; rw [h3]
        rw [lines_some h4, hnl]
        simp only [Nat.add_zero, List.drop_zero, Nat.sub_zero, List.nil_append, List.cons.injEq, true_and]
        rw [List.take_of_length_le (by rw [List.length_drop]; omega)]
theorem linesGo_ne (cur l : Bytes) : linesGo cur l ≠ [] := by
  induction l generalizing cur with
  | nil => simp [linesGo]
  | cons c r ih => unfold linesGo; split
                   · simp
                   · exact ih _
end Sp
end Go.Proofs.YtojdgdeefhndiaaGreatDoor
