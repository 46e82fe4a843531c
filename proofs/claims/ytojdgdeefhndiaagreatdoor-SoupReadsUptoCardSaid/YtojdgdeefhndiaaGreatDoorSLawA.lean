/- Walks of the laws of the polygon files: SoupReads. -/
import Derived.Test.YtojdgdeefhndiaaGreatDoorSLawLines
import Derived.Test.YtojdgdeefhndiaaGreatDoorSSanity
namespace Go.Proofs.YtojdgdeefhndiaaGreatDoor
open Go Go.RowKit Sp
set_option maxRecDepth 100000

theorem bs_back (b : ByteArray) : bs b.data.toList = b := by obtain ⟨d⟩ := b; rfl
theorem agrees_ba (b : ByteArray) (hb : b.size ≤ 4294901760) (w : World) (hsh : w.ShapedOpen Tryz.prog) :
    Calls Tryz.prog 12 #[.string b] w fun en w' => en = .returned (.bool true) ∧ Upd noBlk w w' := by
  have := agrees_any b.data.toList (by simpa using hb) w hsh
  rw [bs_back] at this
  exact this
set_option maxHeartbeats 1000000 in
theorem lawSoupReads (A : Option Addr) (cap : Nat) (l : List Quad) (s : ByteArray) (hl : l.length ≤ cap) (hc : cap ≤ maxLen) (hs : s.size ≤ 4294000000) (w : World) (hsh : w.ShapedOpen Tryz.prog) (h : RdQ w A l) :
    Calls Tryz.prog 3 #[.slice A l.length cap, .string s] w fun en w' => en = .returned (.bool true) ∧ Upd noBlk w w' := by
  have H := Lib.hid h
  have HSH := Lib.hid hsh
  have HC := Lib.hid hc
  have H1 := Lib.hid (sanity_any w hsh)
  clear h hsh hc
  go_enter Tryz.func3, Tryz.ntmps3
  go_wp2_with fail
  refine H1.out.mono ?_
  rintro e1 w1 ⟨rfl, u1⟩
  have U1 := Lib.hid u1
  clear u1
  go_wp2_with fail
  refine (lawLines_any A cap l false hl HC.out w1 (H.out.keep U1.out)).mono ?_
  rintro e1 w2 ⟨b1, rfl, hb1, u2⟩
  have U2 := Lib.hid (U1.out.trans u2)
  clear u2 U1
  go_wp2_with fail
  refine (agrees_ba _ (by omega) _ (U2.out.shaped HSH.out)).mono ?_
  rintro e1 w3 ⟨rfl, u3⟩
  have U3 := Lib.hid (U2.out.trans u3)
  clear u3 U2
  go_wp2_with fail
  refine (lawLines_any A cap l true hl HC.out w3 (H.out.keep U3.out)).mono ?_
  rintro e1 w4 ⟨b2, rfl, hb2, u4⟩
  have U4 := Lib.hid (U3.out.trans u4)
  clear u4 U3
  go_wp2_with fail
  refine (agrees_ba _ (by omega) _ (U4.out.shaped HSH.out)).mono ?_
  rintro e1 w5 ⟨rfl, u5⟩
  have U5 := Lib.hid (U4.out.trans u5)
  clear u5 U4
  go_wp2_with fail
  refine (lawLines_any A cap l true hl HC.out w5 (H.out.keep U5.out)).mono ?_
  rintro e1 w6 ⟨b3, rfl, hb3, u6⟩
  have U6 := Lib.hid (U5.out.trans u6)
  clear u6 U5
  go_wp2_with fail
  refine (agrees_ba _ (by rw [ba_size]; show 7 + _ ≤ _; omega) _ (U6.out.shaped HSH.out)).mono ?_
  rintro e1 w7 ⟨rfl, u7⟩
  have U7 := Lib.hid (U6.out.trans u7)
  clear u7 U6
  go_wp2_with fail
  refine (lawLines_any A cap l false hl HC.out w7 (H.out.keep U7.out)).mono ?_
  rintro e1 w8 ⟨b4, rfl, hb4, u8⟩
  have U8 := Lib.hid (U7.out.trans u8)
  clear u8 U7
  go_wp2_with fail
  refine (agrees_ba _ (by rw [ba_size]; show 24 + _ ≤ _; omega) _ (U8.out.shaped HSH.out)).mono ?_
  rintro e1 w9 ⟨rfl, u9⟩
  have U9 := Lib.hid (U8.out.trans u9)
  clear u9 U8
  go_wp2_with fail
  refine (agrees_ba _ (by omega) _ (U9.out.shaped HSH.out)).mono ?_
  rintro e1 w10 ⟨rfl, u10⟩
  have U10 := Lib.hid (U9.out.trans u10)
  clear u10 U9
  go_wp2_with fail
  refine (agrees_ba _ (by rw [ba_size]; show 7 + _ ≤ _; omega) _ (U10.out.shaped HSH.out)).mono ?_
  rintro e1 w11 ⟨rfl, u11⟩
  have U11 := Lib.hid (U10.out.trans u11)
  clear u11 U10
  go_wp2_with fail
  go_ret
  exact ⟨rfl, U11.out⟩
theorem lawSoupReads_c (A : Option Addr) (cap : Nat) (l : List Quad) (s : ByteArray) (hl : l.length ≤ cap) (hc : cap ≤ maxLen) (hs : s.size ≤ 1048576) (w : World) (hsh : w.ShapedOpen Tryz.prog) (h : RdQ w A l) :
    Calls Tryz.prog 3 #[.slice A l.length cap, .string s] w fun en w' => en = .returned (.bool true) ∧ Upd noBlk w w' := lawSoupReads A cap l s hl hc (by omega) w hsh h
end Go.Proofs.YtojdgdeefhndiaaGreatDoor
