/- Walks of the law's helpers: sanity, contexts, values. -/
import Derived.Test.YtadfolnhomongaaDoorWalkL1
namespace Go.Proofs.YtadfolnhomongaaDoor
open Go Go.RowKit Pc
set_option maxRecDepth 100000

/-- A slice of bits that is only read. -/
def RdBits (w : World) (v : Value) (l : List (Int × Bool)) : Prop :=
  (∃ x, v = .slice x 0 0 ∧ l = []) ∨ ∃ b off cap, v = .slice (some ⟨b, off, none⟩) l.length cap ∧ ∀ j u, (l.flatMap bitV)[j]? = some u → w.cell? ⟨b, off + j, none⟩ = some u
theorem RdBits.keep {w w' : World} {v : Value} {l : List (Int × Bool)} (h : RdBits w v l) (hu : Upd noBlk w w') : RdBits w' v l :=
  h.imp id (fun ⟨b, off, cap, h1, h2⟩ => ⟨b, off, cap, h1, fun j u hj => hu.cell (h2 j u hj) id⟩)
theorem RdBits.lit (w : World) (cs : Array Value) (l : List (Int × Bool)) (h : cs.toList = l.flatMap bitV) (n : Nat) (hn : n = l.length) (c : Nat) :
    RdBits (w.alloc (.cells cs 39)) (.slice (some ⟨w.heap.size, 0, none⟩) n c) l := by
  subst hn
  exact .inr ⟨_, 0, c, rfl, lit_cells (heap_alloc_new w _) _ h⟩

theorem Encode_v (v : Value) (l : List (Int × Bool)) (w : World) (h : RdBits w v l) (hlen : l.length ≤ 100000) :
    Calls Tryd.prog 15 #[v] w fun e w' => e = .returned (.string (str (encode l))) ∧ Upd noBlk w w' := by
  rcases h with ⟨x, rfl, rfl⟩ | ⟨b, off, cap, rfl, hc⟩
  · exact Encode_nil x w
  · exact Encode_any b off cap l w hlen hc
theorem rEncode_v (v : Value) (l : List (Int × Bool)) (w : World) (h : RdBits w v l) (hlen : l.length ≤ 100000) :
    Calls Tryd.prog 16 #[v] w fun e w' => e = .returned (.string (str (encode l))) ∧ Upd noBlk w w' := by
  rcases h with ⟨x, rfl, rfl⟩ | ⟨b, off, cap, rfl, hc⟩
  · exact rEncode_nil x w
  · exact rEncode_any b off cap l w hlen hc

/-- A slice of ints that is only read. -/
def RdInts (w : World) (v : Value) (l : List Int) : Prop :=
  (∃ x, v = .slice x 0 0 ∧ l = []) ∨ ∃ b off cap, v = .slice (some ⟨b, off, none⟩) l.length cap ∧ ∀ j (h : j < l.length), w.cell? ⟨b, off + j, none⟩ = some (.int .i64 l[j])
theorem RdInts.keep {w w' : World} {v : Value} {l : List Int} (h : RdInts w v l) (hu : Upd noBlk w w') : RdInts w' v l :=
  h.imp id (fun ⟨b, off, cap, h1, h2⟩ => ⟨b, off, cap, h1, fun j hj => hu.cell (h2 j hj) id⟩)
theorem RdInts.own {w : World} {base : Nat} {v : Value} {l : List Int} (h : w.ownsRow base 3 1 v l.length (l.map (Value.int .i64))) : RdInts w v l := by
  rcases h.2 with ⟨rfl, h0⟩ | ⟨g, cap, cur, rfl, r⟩
  · exact .inl ⟨none, rfl, List.eq_nil_of_length_eq_zero h0⟩
  · exact .inr ⟨g, 0, cap, rfl, fun j hj => by rw [Nat.zero_add, h.cellAt j (by omega)]; simp [hj]⟩

set_option maxHeartbeats 1000000 in
theorem Decode_nil (x : Option Addr) (code : List Nat) (w : World) : Calls Tryd.prog 18 #[.string (str code), .slice x 0 0] w fun e w' => e = .returned (.slice none 0 0) ∧ Upd noBlk w w' := by
  go_enter Tryd.func18, Tryd.ntmps18
  go_wp2_with (go_at_call 26; refine (NewReader_any _ _).mono ?_; rintro e w' ⟨rfl, rfl⟩)
  refine wp_loop_once ?_
  go_wp2
  go_ret
  exact ⟨rfl, (Upd.refl _ _).alloc _⟩
set_option maxHeartbeats 1000000 in
theorem rDecode_nil (x : Option Addr) (code : List Nat) (hcode : ∀ x, x ∈ code → x < 256) (w : World) : Calls Tryd.prog 22 #[.string (str code), .slice x 0 0] w fun e w' => e = .returned (.slice none 0 0) ∧ Upd noBlk w w' := by
  go_enter Tryd.func22, Tryd.ntmps22
  go_wp2_with (go_at_call 27; refine (rNewReader_any _ hcode _).mono ?_; rintro e w' ⟨rfl, q1, q2⟩)
  refine wp_loop_once ?_
  go_wp2
  go_ret
  exact ⟨rfl, q2⟩
theorem decode_nil (code : List Nat) : Pc.decode code [] = [] := rfl
theorem decode_length (code : List Nat) (l : List Int) : (Pc.decode code l).length = l.length := decodeFrom_length _ _
theorem Decode_v (code : List Nat) (hcode : ∀ x, x ∈ code → x < 256) (v : Value) (l : List Int) (w : World) (h : RdInts w v l) (hlen : l.length ≤ 100000) :
    Calls Tryd.prog 18 #[.string (str code), v] w fun e w' => ∃ r, e = .returned r ∧ RdBools w' r (Pc.decode code l) ∧ Upd noBlk w w' := by
  rcases h with ⟨x, rfl, rfl⟩ | ⟨b, off, cap, rfl, hc⟩
  · exact (Decode_nil x code w).mono fun e w' ⟨h1, h2⟩ => ⟨_, h1, .inl ⟨rfl, rfl⟩, h2⟩
  · exact (Decode_any b off cap code hcode l hlen w hc).mono fun e w' ⟨r, h1, h2, h3⟩ => ⟨r, h1, RdBools.own (by rw [decode_length]; exact h2), h3⟩
theorem rDecode_v (code : List Nat) (hcode : ∀ x, x ∈ code → x < 256) (v : Value) (l : List Int) (w : World) (h : RdInts w v l) (hlen : l.length ≤ 100000) :
    Calls Tryd.prog 22 #[.string (str code), v] w fun e w' => ∃ r, e = .returned r ∧ RdBools w' r (Pc.decode code l) ∧ Upd noBlk w w' := by
  rcases h with ⟨x, rfl, rfl⟩ | ⟨b, off, cap, rfl, hc⟩
  · exact (rDecode_nil x code hcode w).mono fun e w' ⟨h1, h2⟩ => ⟨_, h1, .inl ⟨rfl, rfl⟩, h2⟩
  · exact (rDecode_any b off cap code hcode l hlen w hc).mono fun e w' ⟨r, h1, h2, h3⟩ => ⟨r, h1, RdBools.own (by rw [decode_length]; exact h2), h3⟩

theorem str_one (x : Nat) : (str [x]).toList = [UInt8.ofNat x] := str_toList _
theorem str_none : (str []).toList = [] := str_toList _

set_option maxHeartbeats 2000000 in
theorem sanity_any (w : World) : Calls Tryd.prog 14 #[] w fun e w' => e = .returned (.bool true) ∧ Upd noBlk w w' := by
  have s0 := str_none
  have s1 := str_one 128
  have s2 := str_one 190
  go_enter Tryd.func14, Tryd.ntmps14
  go_wp2_with fail
  refine (Encode_v _ [] _ (.inl ⟨none, rfl, rfl⟩) (by decide)).mono ?_
  rw [enc0]
  rintro e w1 ⟨rfl, u1⟩
  have U1 : Hid (Upd noBlk w w1) := ((Upd.refl noBlk w).alloc _).trans u1
  have a0 : w1.cell? ⟨w.heap.size, 0, none⟩ = some (.int .i64 0) := u1.cell (World.cell?_alloc_new w _ _ 0) id
  have a1 : w1.cell? ⟨w.heap.size, 1, none⟩ = some (.bool true) := u1.cell (World.cell?_alloc_new w _ _ 1) id
  clear u1
  go_wp2_with fail
  refine (Encode_v _ [(0, false)] _ (RdBits.lit w1 _ _ rfl 1 rfl 1) (by decide)).mono ?_
  rw [enc1]
  rintro e w2 ⟨rfl, u2⟩
  have U2 : Hid (Upd noBlk w1 w2) := ((Upd.refl noBlk w1).alloc _).trans u2
  have b0 := U2.out.cell a0 id
  have b1 := U2.out.cell a1 id
  clear u2 a0 a1
  go_wp2_with fail
  refine (Encode_v _ [(0, true)] _ (RdBits.lit w2 _ _ rfl 1 rfl 1) (by decide)).mono ?_
  rw [enc2]
  rintro e w3 ⟨rfl, u3⟩
  have U3 : Hid (Upd noBlk w2 w3) := ((Upd.refl noBlk w2).alloc _).trans u3
  have d0 := U3.out.cell b0 id
  have d1 := U3.out.cell b1 id
  clear u3 b0 b1
  go_wp2_with fail
  refine (Encode_v _ [(0, true), (0, true)] _ (RdBits.lit w3 _ _ rfl 2 rfl 2) (by decide)).mono ?_
  rw [enc3]
  rintro e w4 ⟨rfl, u4⟩
  have U4 : Hid (Upd noBlk w3 w4) := ((Upd.refl noBlk w3).alloc _).trans u4
  clear u4 d0 d1
  go_wp2_with fail
  refine (Decode_v [190] (by decide) _ [0, 0] _ (.inr ⟨_, 0, 2, rfl, fun j hj => by
    have := lit_cells (heap_alloc_new w4 (.cells #[.int .i64 0, .int .i64 0] 3)) [.int .i64 0, .int .i64 0] rfl j
    rcases j with _ | _ | j
    · exact this _ rfl
    · exact this _ rfl
    · simp at hj; omega⟩) (by decide)).mono ?_
  rw [dec3]
  rintro e w5 ⟨r, rfl, hr, u5⟩
  have U5 : Hid (Upd noBlk w4 w5) := ((Upd.refl noBlk w4).alloc _).trans u5
  have HR := Lib.hid hr
  clear u5 hr
  go_wp2_with fail
  refine (Bools_any _ _ [true, true] [true, true] _ (HR.out.keep ((Upd.refl noBlk w5).alloc _)) (.inr ⟨_, 0, 2, rfl, fun j hj => by
    have := lit_cells (heap_alloc_new w5 (.cells #[.bool true, .bool true] 4)) [.bool true, .bool true] rfl j
    rcases j with _ | _ | j
    · exact this _ rfl
    · exact this _ rfl
    · simp at hj; omega⟩) (by decide) (by decide) rfl).mono ?_
  rintro e w6 ⟨rfl, u6⟩
  have U6 : Hid (Upd noBlk w w6) := (((U1.out.trans U2.out).trans U3.out).trans U4.out).trans (U5.out.trans (((Upd.refl noBlk w5).alloc _).trans u6))
  go_wp2
  go_ret
  exact ⟨rfl, U6.out⟩
end Go.Proofs.YtadfolnhomongaaDoor
