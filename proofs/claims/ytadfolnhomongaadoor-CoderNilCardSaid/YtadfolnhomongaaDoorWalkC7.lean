/- Walks: the coder's NewWriter and Encode. -/
import Derived.Test.YtadfolnhomongaaDoorWalkC6
namespace Go.Proofs.YtadfolnhomongaaDoor
open Go Go.RowKit Pc
set_option maxRecDepth 100000

set_option maxHeartbeats 400000 in
theorem NewWriter_any (w : World) : Calls Tryd.prog 23 #[] w fun e w' => e = .returned (.pointer (some ⟨w.heap.size, 0, none⟩)) ∧ w.alloc (.cells wZero 73) = w' := by
  go_enter Tryd.func23, Tryd.ntmps23
  go_wp2
  go_ret
  exact ⟨rfl, rfl⟩

/-- A slice value, and the cells that it spans. -/
def Reads (w : World) (sz : Nat) (v : Value) (n : Nat) (xs : List Value) : Prop :=
  xs.length = n * sz ∧ ((v = .slice none 0 0 ∧ n = 0) ∨ ∃ b off cap, v = .slice (some ⟨b, off, none⟩) n cap ∧ ∀ j u, xs[j]? = some u → w.cell? ⟨b, off + j, none⟩ = some u)

def bitV (x : Int × Bool) : List Value := [.int .i64 x.1, .bool x.2]
theorem bitV_length (l : List (Int × Bool)) : (l.flatMap bitV).length = l.length * 2 := by
  induction l with
  | nil => rfl
  | cons a l ih => simp [List.flatMap_cons, ih, bitV]; omega
theorem bitV_get {l : List (Int × Bool)} {k : Nat} (h : k < l.length) : (l.flatMap bitV)[k * 2]? = some (.int .i64 l[k].1) ∧ (l.flatMap bitV)[k * 2 + 1]? = some (.bool l[k].2) := by
  induction l generalizing k with
  | nil => simp at h
  | cons a l ih =>
    cases k with
    | zero => simp [List.flatMap_cons, bitV]
    | succ k =>
      have h' : k < l.length := by simpa using h
      have := ih h'
      rw [List.flatMap_cons]
      have e1 : (k + 1) * 2 = (bitV a).length + k * 2 := by simp [bitV]; omega
      have e2 : (k + 1) * 2 + 1 = (bitV a).length + (k * 2 + 1) := by simp [bitV]; omega
      rw [e2, e1, List.getElem?_append_right (by omega), List.getElem?_append_right (by omega)]
      simpa using this


/-- A new object: all its blocks are new. -/
def NewF (F : Nat → Prop) (w : World) : Prop := ∀ k, F k → w.heap.size ≤ k
theorem NewWriter_rep (w : World) : WRep (w.alloc (.cells wZero 73)) w.heap.size E.init (· = w.heap.size) := .inl ⟨rfl, heap_alloc_new w _, rfl⟩

theorem upd_new {F : Nat → Prop} {w w1 w2 : World} (h : Upd noBlk w w1) (k : Upd F w1 w2) (hF : NewF F w) : Upd noBlk w w2 :=
  h.then k (fun i hi hf => absurd (hF i hf) (by omega))

set_option maxHeartbeats 1000000 in
theorem Encode_any (b off cap : Nat) (l : List (Int × Bool)) (w : World) (hlen : l.length ≤ 100000) (hc : ∀ j u, (l.flatMap bitV)[j]? = some u → w.cell? ⟨b, off + j, none⟩ = some u) :
    Calls Tryd.prog 15 #[.slice (some ⟨b, off, none⟩) l.length cap] w fun e w' => e = .returned (.string (str (encode l))) ∧ Upd noBlk w w' := by
  go_enter Tryd.func15, Tryd.ntmps15
  go_wp2_with (go_at_call 23; refine (NewWriter_any _).mono ?_; rintro e w' ⟨rfl, rfl⟩)
  go_loopw [9] (fun i wr => ∃ k : Nat, i = .int .i64 k ∧ k ≤ l.length ∧ ∃ F, WRep wr w.heap.size (encFrom E.init (l.take k)) F ∧ NewF F w ∧ Upd noBlk w wr) (fun i _ => l.length - (intOf i).toNat)
  case atStart => exact ⟨0, rfl, Nat.zero_le _, _, NewWriter_rep w, fun k hk => by subst hk; exact Nat.le_refl _, (Upd.refl _ _).alloc _⟩
  case round =>
    obtain ⟨k, rfl, hk, F, h1, h2, h3⟩ := hrel
    have hd := encFrom_done_length E.init (l.take k)
    have hd2 : (encFrom E.init (l.take k)).done.length + 1 ≤ 1000000 := by
      have : (E.init.done).length = 0 := rfl
      have := List.length_take_le k l
      omega
    have HD := Lib.hid hd2
    have HC := Lib.hid hc
    have hkb : ((k : Nat) : Int) ≤ 100000 := by omega
    clear hd hd2 hc hlen
    by_cases hlt : k < l.length
    · have c0 : wr.cell? ⟨b, off + k * 2, none⟩ = some (.int .i64 l[k].1) := h3.cell (HC.out _ _ (bitV_get hlt).1) id
      have c1 : wr.cell? ⟨b, off + k * 2 + 1, none⟩ = some (.bool l[k].2) := h3.cell (HC.out _ _ (bitV_get hlt).2) id
      have H1 := Lib.hid (h1.upd (Upd.alloc (Upd.refl noBlk wr) (.cells #[.int .i64 l[k].1, .bool l[k].2] 39)) (fun _ _ => id))
      have H2 := Lib.hid h2
      have H3 : Hid (Upd noBlk w (wr.alloc (.cells #[.int .i64 l[k].1, .bool l[k].2] 39))) := h3.alloc _
      have hk' : Hid (encFrom E.init (l.take (k + 1)) = (encFrom E.init (l.take k)).bit l[k].1 l[k].2) := by
        show _ = _; rw [take_snoc hlt, encFrom_snoc]
      clear h1 h2 h3 hk
      go_wp2_with (go_at_call 24; refine (WBit_any _ _ _ _ _ _ H1.out HD.out).mono ?_; rintro e w2 ⟨rfl, F', q1, q2, q3⟩)
      go_roundw
      case rel => exact ⟨k + 1, by go_num, hlt, F', by rw [hk'.out]; exact q1, fun j hj => (q3 j hj).elim (H2.out j) (fun x => Nat.le_trans H3.out.size x), upd_new H3.out q2 H2.out⟩
      case measure => simp [intOf]; omega
    · have hk' : Hid (l.take k = l) := List.take_of_length_le (by omega)
      rw [hk'.out] at h1 HD
      go_wp2_with (go_at_call 25; refine (WFinish_any _ _ _ _ h1 HD.out).mono ?_; rintro e w2 ⟨rfl, q1⟩)
      go_ret
      exact ⟨rfl, h3.trans q1⟩

set_option maxHeartbeats 1000000 in
theorem Encode_nil (x : Option Addr) (w : World) : Calls Tryd.prog 15 #[.slice x 0 0] w fun e w' => e = .returned (.string (str (encode []))) ∧ Upd noBlk w w' := by
  go_enter Tryd.func15, Tryd.ntmps15
  go_wp2_with (go_at_call 23; refine (NewWriter_any _).mono ?_; rintro e w' ⟨rfl, rfl⟩)
  refine wp_loop_once ?_
  go_wp2_with (go_at_call 25; refine (WFinish_any _ _ _ _ (NewWriter_rep w) (by decide)).mono ?_; rintro e w2 ⟨rfl, q1⟩)
  go_ret
  exact ⟨rfl, ((Upd.refl _ _).alloc _).trans q1⟩
end Go.Proofs.YtadfolnhomongaaDoor
