/- Walks of the laws of the polygon files: agrees. -/
import Derived.Test.YtojdgdeefhndiaaGreatDoorSSame
import Derived.Test.YtojdgdeefhndiaaGreatDoorSSmall
namespace Go.Proofs.YtojdgdeefhndiaaGreatDoor
open Go Go.RowKit Sp
set_option maxRecDepth 100000

theorem Upd.shaped {w w' : World} (h : Upd noBlk w w') (hs : w.ShapedOpen Tryz.prog) : w'.ShapedOpen Tryz.prog := shaped_same hs (fun k hk => h.block k hk id)
set_option maxHeartbeats 1000000 in
theorem agrees_any (s : Bytes) (hs : s.length ≤ 4294901760) (w : World) (hsh : w.ShapedOpen Tryz.prog) :
    Calls Tryz.prog 12 #[.string (bs s)] w fun en w' => en = .returned (.bool true) ∧ Upd noBlk w w' := by
  have H1 := Lib.hid (read_any s (by omega) w hsh)
  rcases hr : readS s with ps | ⟨place, e⟩
  · have hsm := readS_small hr
    have HSM := Lib.hid hsm
    rw [hr] at H1
    have HR := Lib.hid hr
    clear hr hsm hsh
    go_enter Tryz.func12, Tryz.ntmps12
    go_wp2_with fail
    refine H1.out.mono ?_
    rintro e1 w1 ⟨v1, rfl, o1, u1⟩
    have H2 := qRead_any s (by omega) w1
    rw [HR.out] at H2
    have HH2 := Lib.hid H2
    have O1 := Lib.hid o1.rd
    have U1 := Lib.hid u1
    clear H2 o1 u1 H1
    go_wp2_with fail
    refine HH2.out.mono ?_
    rintro e1 w2 ⟨v2, rfl, o2, u2⟩
    have HS := Lib.hid (qSame_yes v1 v2 ps ps true rfl (fun j h1 h2 => ⟨rfl, fun _ => rfl⟩) (by have := HSM.out.1; omega) (fun p hp => by have := HSM.out.2 p hp; omega) w2 (O1.out.keep u2) o2.rd)
    have U2 := Lib.hid (U1.out.trans u2)
    clear o2 u2 HH2
    go_wp2_with fail
    refine HS.out.mono ?_
    rintro e1 w3 ⟨rfl, n, rfl⟩
    go_wp2_with fail
    go_ret
    exact ⟨rfl, U2.out.drewN n⟩
  · rw [hr] at H1
    have HR := Lib.hid hr
    clear hr hsh
    go_enter Tryz.func12, Tryz.ntmps12
    go_wp2_with fail
    refine H1.out.mono ?_
    rintro e1 w1 ⟨rfl, u1⟩
    have H2 := qRead_any s (by omega) w1
    rw [HR.out] at H2
    have HH2 := Lib.hid H2
    have U1 := Lib.hid u1
    clear H2 u1 H1
    go_wp2_with fail
    refine HH2.out.mono ?_
    rintro e1 w2 ⟨rfl, u2⟩
    have HS := Lib.hid (qSame_yes (.slice none 0 0) (.slice none 0 0) [] [] true rfl (fun j h1 h2 => ⟨rfl, fun _ => rfl⟩) (by simp) (fun p hp => by cases hp) w2 ⟨none, 0, rfl, fun h => absurd h (by simp)⟩ ⟨none, 0, rfl, fun h => absurd h (by simp)⟩)
    have U2 := Lib.hid (U1.out.trans u2)
    clear u2 HH2
    go_wp2_with fail
    refine HS.out.mono ?_
    rintro e1 w3 ⟨rfl, n, rfl⟩
    go_wp2_with fail
    go_ret
    exact ⟨rfl, U2.out.drewN n⟩
end Go.Proofs.YtojdgdeefhndiaaGreatDoor
