/- The lines of a text that have words, with their numbers; bounds; what the library's variables need. No condition. -/
import Derived.Test.YtojdgdeefhndiaaGreatDoorSPureB
import Derived.Test.YtojdgdeefhndiaaGreatDoorLib
import Derived.Test.YtojdgdeefhndiaaGreatDoorSNumB
import Derived.ChangeAgain
namespace Go.Proofs.YtojdgdeefhndiaaGreatDoor
open Go Go.RowKit Sp
namespace Sp
def numbered : Nat → List Bytes → List (Nat × List Bytes)
  | _, [] => []
  | i, l :: r => match wordsOf l with
    | [] => numbered (i + 1) r
    | w :: ws => (i, w :: ws) :: numbered (i + 1) r
def linesAll (s : Bytes) : List (Nat × List Bytes) := numbered 1 (linesOf s)
theorem numbered_append : ∀ (a b : List Bytes) (i : Nat), numbered i (a ++ b) = numbered i a ++ numbered (i + a.length) b
  | [], b, i => by simp [numbered]
  | l :: a, b, i => by
    rw [List.cons_append, numbered, numbered, numbered_append a b (i + 1), List.length_cons]
    have e : i + 1 + a.length = i + (a.length + 1) := by omega
    rw [e]
    split <;> simp
theorem numbered_one (i : Nat) (l : Bytes) : numbered i [l] = if wordsOf l = [] then [] else [(i, wordsOf l)] := by
  unfold numbered
  split
  · rename_i h; rw [if_pos h]; rfl
  · rename_i w ws h; rw [if_neg (by rw [h]; simp), h]; rfl
theorem numbered_take {ls : List Bytes} {k : Nat} (h : k < ls.length) : numbered 1 (ls.take (k + 1)) = numbered 1 (ls.take k) ++ if wordsOf ls[k] = [] then [] else [(k + 1, wordsOf ls[k])] := by
  rw [List.take_succ_eq_append_getElem h, numbered_append, numbered_one, List.length_take, Nat.min_eq_left (by omega), Nat.add_comm 1 k]
theorem numbered_pre (ls : List Bytes) (k : Nat) : ∃ rest, numbered 1 (ls.take k) ++ rest = numbered 1 ls := by
  refine ⟨numbered (1 + (ls.take k).length) (ls.drop k), ?_⟩
  rw [← numbered_append, List.take_append_drop]
theorem flush_len (c : Bytes) : (flush c).length ≤ c.length ∧ ∀ x, x ∈ flush c → x.length ≤ c.length := by
  unfold flush
  cases c with
  | nil => simp
  | cons a r => simp
theorem fieldsGo_len : ∀ (r cur : Bytes), (fieldsGo cur r).length ≤ cur.length + r.length ∧ ∀ x, x ∈ fieldsGo cur r → x.length ≤ cur.length + r.length
  | [], cur => by have := flush_len cur; simpa [fieldsGo] using this
  | c :: r, cur => by
    rw [fieldsGo]
    by_cases hb : blank c = true
    · rw [if_pos hb]
      have h1 := flush_len cur
      have h2 := fieldsGo_len r []
      refine ⟨by rw [List.length_append, List.length_cons]; simp at h2; omega, fun x hx => ?_⟩
      rw [List.mem_append] at hx
      rw [List.length_cons]
      rcases hx with hx | hx
      · have := h1.2 x hx; omega
      · have := h2.2 x hx; simp at this; omega
    · rw [if_neg hb]
      have h2 := fieldsGo_len r (cur ++ [c])
      simp only [List.length_append, List.length_cons, List.length_nil] at h2 ⊢
      exact ⟨by omega, fun x hx => by have := h2.2 x hx; omega⟩
theorem ahead_len : ∀ l : Bytes, (ahead l).length ≤ l.length
  | [] => by simp [ahead]
  | c :: r => by
    unfold ahead
    split
    · simp
    · have := ahead_len r; simp; omega
theorem wordsOf_len (l : Bytes) : (wordsOf l).length ≤ l.length ∧ ∀ x, x ∈ wordsOf l → x.length ≤ l.length := by
  have h := fieldsGo_len (ahead l) []
  have h1 := ahead_len l
  unfold wordsOf
  simp only [List.length_nil, Nat.zero_add] at h
  exact ⟨by omega, fun x hx => by have := h.2 x hx; omega⟩
theorem linesGo_len : ∀ (r cur : Bytes), (linesGo cur r).length ≤ r.length + 1 ∧ ∀ x, x ∈ linesGo cur r → x.length ≤ cur.length + r.length
  | [], cur => by simp [linesGo]
  | c :: r, cur => by
    rw [linesGo]
    by_cases hb : c = 10
    · rw [if_pos hb]
      have h2 := linesGo_len r []
      refine ⟨by simp only [List.length_cons]; omega, fun x hx => ?_⟩
      rw [List.mem_cons] at hx
      rw [List.length_cons]
      rcases hx with rfl | hx
      · omega
      · have := h2.2 x hx; simp at this; omega
    · rw [if_neg hb]
      have h2 := linesGo_len r (cur ++ [c])
      simp only [List.length_append, List.length_cons, List.length_nil] at h2 ⊢
      exact ⟨by omega, fun x hx => by have := h2.2 x hx; omega⟩
theorem linesOf_len (l : Bytes) : (linesOf l).length ≤ l.length + 1 ∧ ∀ x, x ∈ linesOf l → x.length ≤ l.length := by
  have := linesGo_len l []
  unfold linesOf
  simpa using this
theorem numbered_mem : ∀ (ls : List Bytes) (i : Nat) (x : Nat × List Bytes), x ∈ numbered i ls → ∃ l, l ∈ ls ∧ x.2 = wordsOf l ∧ x.2 ≠ [] ∧ i ≤ x.1 ∧ x.1 < i + ls.length
  | [], i, x, h => by simp [numbered] at h
  | l :: r, i, x, h => by
    rw [numbered] at h
    split at h
    · obtain ⟨l', h1, h2, h3, h4, h5⟩ := numbered_mem r (i + 1) x h
      exact ⟨l', by simp [h1], h2, h3, by omega, by rw [List.length_cons]; omega⟩
    · rename_i w ws hw
      rw [List.mem_cons] at h
      rcases h with rfl | h
      · exact ⟨l, by simp, hw.symm, by simp, Nat.le_refl _, by rw [List.length_cons]; simp only; omega⟩
      · obtain ⟨l', h1, h2, h3, h4, h5⟩ := numbered_mem r (i + 1) x h
        exact ⟨l', by simp [h1], h2, h3, by omega, by rw [List.length_cons]; omega⟩
end Sp
theorem shaped_same {P : Program} {w0 W : World} (h : w0.ShapedOpen P) (hs : ∀ k, k < w0.heap.size → W.heap[k]? = w0.heap[k]?) : W.ShapedOpen P := by
  have keep : ∀ {i : Nat} {o : Obj}, w0.heap[i]? = some o → W.heap[i]? = some o := fun {i o} hi => (hs i (lt_of_heap hi)).trans hi
  refine ⟨fun g zero t hg hz => ?_, fun k hk1 hk2 => ?_⟩
  · obtain ⟨cs, h1, h2, h3⟩ := h.1 g zero t hg hz
    refine ⟨cs, keep h1, h2, fun hb => Row.ok_of_shape (fun b x hx => ?_) (h3 hb)⟩
    unfold World.shape? at hx ⊢
    cases hb : w0.heap[b]? with
    | none => rw [hb] at hx; simp at hx
    | some o => rw [keep hb]; rw [hb] at hx; exact hx
  · obtain ⟨o, o₀, h1, h2, h3⟩ := h.2 k hk1 hk2
    exact ⟨o, o₀, keep h1, h2, h3⟩
end Go.Proofs.YtojdgdeefhndiaaGreatDoor
