/- Walks of the program of the polygon files: the look for a word that is no number. -/
import Derived.Test.YtojdgdeefhndiaaGreatDoorSNum
namespace Go.Proofs.YtojdgdeefhndiaaGreatDoor
open Go Go.RowKit Sp
set_option maxRecDepth 100000

/-- A slice of words at any address. -/
def RdW (w : World) (A : Option Addr) (l : List Bytes) : Prop := 0 < l.length → ∃ b off, A = some ⟨b, off, none⟩ ∧ ∀ j (h : j < l.length), w.cell? ⟨b, off + j, none⟩ = some (.string (bs l[j]))
theorem RdW.keep {w w' : World} {A : Option Addr} {l : List Bytes} (h : RdW w A l) (hu : Upd noBlk w w') : RdW w' A l := by
  intro h0
  obtain ⟨b, off, e, h1⟩ := h h0
  exact ⟨b, off, e, fun j hj => hu.cell (h1 j hj) id⟩
def short (l : List Bytes) : Prop := ∀ x, x ∈ l → x.length ≤ 4294967296

set_option maxHeartbeats 400000 in
theorem numbers1_any (l : Bytes) (hl : l.length ≤ 4294967296) (w : World) : Calls Tryz.prog 77 #[.string (bs l)] w fun en w' => en = .returned (.bool (!isNum l)) ∧ Upd noBlk w w' := by
  go_enter Tryz.func77, Tryz.ntmps77
  go_wp2_with (go_at_call 50; refine (isNumber_any l hl _).mono ?_; rintro e w1 ⟨rfl, u1⟩)
  go_ret
  exact ⟨rfl, u1⟩

set_option maxHeartbeats 1000000 in
theorem indexFunc_any (A : Option Addr) (cap : Nat) (ws : List Bytes) (hl : ((ws.length : Nat) : Int) ≤ 9223372036854775807) (hs : short ws) (w : World) (h : RdW w A ws) :
    Calls Tryz.prog 103 #[.slice A ws.length cap, .func (.func 77) #[] #[]] w fun en w' => ∃ z : Int, en = .returned (.int .i64 z) ∧ decide (0 ≤ z) = ws.any (fun x => !isNum x) ∧ Upd noBlk w w' := by
  have H := Lib.hid h
  have HS := Lib.hid hs
  clear h hs
  go_enter Tryz.func103, Tryz.ntmps103
  go_wp2_with fail
  go_loopw [4, 5, 8] (fun _ _ i wr => ∃ k : Nat, i = .int .i64 k ∧ k ≤ ws.length ∧ (∀ x, x ∈ ws.take k → isNum x = true) ∧ Upd noBlk w wr) (fun _ _ i _ => ws.length - (intOf i).toNat)
  case atStart => exact ⟨0, rfl, Nat.zero_le _, by simp, Upd.refl _ _⟩
  case round =>
    obtain ⟨k, rfl, hk, ha, hu⟩ := hrel
    have HU := Lib.hid hu
    have HX := Lib.hid ha
    clear hu ha
    by_cases hlt : k < ws.length
    · obtain ⟨b, off, rfl, ea⟩ := H.out (by omega)
      have c0 : wr.cell? ⟨b, off + k, none⟩ = some (.string (bs ws[k])) := HU.out.cell (ea k hlt) id
      have hsk := Lib.hid (HS.out ws[k] (List.getElem_mem hlt))
      have hlt' : ((k : Nat) : Int) < ((ws.length : Nat) : Int) := by omega
      clear ea
      rcases hn : isNum ws[k] with _ | _
      · have hcall : ∀ w', Calls Tryz.prog 77 #[.string (bs ws[k])] w' fun en w'' => en = .returned (.bool true) ∧ Upd noBlk w' w'' := by
          intro w'; have := numbers1_any ws[k] hsk.out w'; rwa [hn] at this
        have HC := Lib.hid hcall
        have HR : Hid (ws.any (fun x => !isNum x) = true) := by
          show _ = _; rw [List.any_eq_true]; exact ⟨ws[k], List.getElem_mem hlt, by rw [hn]; rfl⟩
        clear hcall hn
        go_wp2_with (go_at_call 77; refine (HC.out _).mono ?_; rintro e w2 ⟨rfl, u2⟩)
        go_ret
        exact ⟨_, rfl, by rw [HR.out]; simp, HU.out.trans u2⟩
      · have hcall : ∀ w', Calls Tryz.prog 77 #[.string (bs ws[k])] w' fun en w'' => en = .returned (.bool false) ∧ Upd noBlk w' w'' := by
          intro w'; have := numbers1_any ws[k] hsk.out w'; rwa [hn] at this
        have HC := Lib.hid hcall
        have HN : Hid (∀ x, x ∈ ws.take (k + 1) → isNum x = true) := by
          intro x hx
          rw [List.take_succ_eq_append_getElem hlt, List.mem_append] at hx
          rcases hx with hx | hx
          · exact HX.out x hx
          · rw [List.mem_singleton] at hx; rw [hx]; exact hn
        clear hcall hn
        go_wp2_with (go_at_call 77; refine (HC.out _).mono ?_; rintro e w2 ⟨rfl, u2⟩; have U2 := Lib.hid (HU.out.trans u2); clear u2)
        go_roundw
        case rel => exact ⟨k + 1, by go_num, hlt, HN.out, U2.out⟩
        case measure => simp [intOf]; omega
    · have HR : Hid (ws.any (fun x => !isNum x) = false) := by
        show _ = _; rw [List.any_eq_false]
        intro x hx
        have : x ∈ ws.take k := by rw [List.take_of_length_le (by omega)]; exact hx
        rw [HX.out x this]; simp
      have hlt' : ¬ ((k : Nat) : Int) < ((ws.length : Nat) : Int) := by omega
      go_wp2
      go_ret
      exact ⟨_, rfl, by rw [HR.out]; rfl, HU.out⟩

set_option maxHeartbeats 400000 in
theorem containsFunc_any (A : Option Addr) (cap : Nat) (ws : List Bytes) (hl : ((ws.length : Nat) : Int) ≤ 9223372036854775807) (hs : short ws) (w : World) (h : RdW w A ws) :
    Calls Tryz.prog 76 #[.slice A ws.length cap, .func (.func 77) #[] #[]] w fun en w' => en = .returned (.bool (ws.any (fun x => !isNum x))) ∧ Upd noBlk w w' := by
  go_enter Tryz.func76, Tryz.ntmps76
  go_wp2_with fail
  refine (indexFunc_any A cap ws hl hs w h).mono ?_
  rintro e w1 ⟨z, rfl, hz, u1⟩
  have HZ := Lib.hid hz
  clear hz
  go_wp2
  go_ret
  exact ⟨by rw [← HZ.out]; rfl, u1⟩
end Go.Proofs.YtojdgdeefhndiaaGreatDoor
