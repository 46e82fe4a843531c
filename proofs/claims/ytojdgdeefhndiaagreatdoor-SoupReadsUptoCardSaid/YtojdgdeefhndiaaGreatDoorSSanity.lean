/- Walks of the laws of the polygon files: sanity. -/
import Derived.Test.YtojdgdeefhndiaaGreatDoorSAgree
namespace Go.Proofs.YtojdgdeefhndiaaGreatDoor
open Go Go.RowKit Sp
set_option maxRecDepth 100000

theorem read_closed (s : Bytes) (r : Out) (h : readS s = r) (hs : s.length ≤ 100) (w : World) (hsh : w.ShapedOpen Tryz.prog) : Calls Tryz.prog 17 #[.string (bs s)] w fun en w' => readQ r w en w' := by
  have := read_any s (by omega) w hsh
  rw [h] at this
  exact this
theorem san1 (w : World) (hsh : w.ShapedOpen Tryz.prog) : Calls Tryz.prog 17 #[.string ⟨#[118, 32, 48, 32, 48, 32, 48, 10, 118, 32, 57, 32, 48, 32, 48, 10, 118, 32, 48, 32, 57, 32, 48, 32, 35, 32, 116, 111, 112, 10, 102, 32, 49, 32, 50, 32, 45, 49, 10]⟩] w fun en w' => readQ (.ok [([(0, 0, 0), (9, 0, 0), (0, 9, 0)], 4)]) w en w' :=
  read_closed [118, 32, 48, 32, 48, 32, 48, 10, 118, 32, 57, 32, 48, 32, 48, 10, 118, 32, 48, 32, 57, 32, 48, 32, 35, 32, 116, 111, 112, 10, 102, 32, 49, 32, 50, 32, 45, 49, 10] (.ok [([(0, 0, 0), (9, 0, 0), (0, 9, 0)], 4)]) (by kernel_rfl) (by decide) w hsh
theorem san2 (w : World) (hsh : w.ShapedOpen Tryz.prog) : Calls Tryz.prog 17 #[.string ⟨#[112, 111, 108, 121, 32, 51, 10, 49, 32, 50, 32, 51, 10, 52, 32, 53, 32, 54]⟩] w fun en w' => readQ (.bad 3 12) w en w' :=
  read_closed [112, 111, 108, 121, 32, 51, 10, 49, 32, 50, 32, 51, 10, 52, 32, 53, 32, 54] (.bad 3 12) (by kernel_rfl) (by decide) w hsh
theorem san3 (w : World) (hsh : w.ShapedOpen Tryz.prog) : Calls Tryz.prog 17 #[.string ⟨#[118, 32, 49, 32, 50]⟩] w fun en w' => readQ (.bad 1 10) w en w' :=
  read_closed [118, 32, 49, 32, 50] (.bad 1 10) (by kernel_rfl) (by decide) w hsh
theorem san4 (w : World) (hsh : w.ShapedOpen Tryz.prog) : Calls Tryz.prog 17 #[.string ⟨#[118, 32, 49, 32, 50, 32, 45, 51]⟩] w fun en w' => readQ (.bad 1 3) w en w' :=
  read_closed [118, 32, 49, 32, 50, 32, 45, 51] (.bad 1 3) (by kernel_rfl) (by decide) w hsh
theorem san5 (w : World) (hsh : w.ShapedOpen Tryz.prog) : Calls Tryz.prog 17 #[.string ⟨#[102, 32, 49, 32, 49, 32, 49]⟩] w fun en w' => readQ (.bad 1 14) w en w' :=
  read_closed [102, 32, 49, 32, 49, 32, 49] (.bad 1 14) (by kernel_rfl) (by decide) w hsh
theorem san6 (w : World) (hsh : w.ShapedOpen Tryz.prog) : Calls Tryz.prog 17 #[.string ⟨#[83, 79, 85, 80, 1, 0, 0, 0, 2]⟩] w fun en w' => readQ (.bad 8 11) w en w' :=
  read_closed [83, 79, 85, 80, 1, 0, 0, 0, 2] (.bad 8 11) (by kernel_rfl) (by decide) w hsh
set_option maxHeartbeats 1000000 in
theorem sanity_any (w : World) (hsh : w.ShapedOpen Tryz.prog) : Calls Tryz.prog 11 #[] w fun en w' => en = .returned (.bool true) ∧ Upd noBlk w w' := by
  have H1 := Lib.hid (san1 w hsh)
  have HSH := Lib.hid hsh
  clear hsh
  go_enter Tryz.func11, Tryz.ntmps11
  go_wp2_with fail
  refine H1.out.mono ?_
  rintro e1 w1 ⟨v1, rfl, o1, u1⟩
  have O1 := Lib.hid o1.rd
  have U1 := Lib.hid u1
  clear o1 u1
  have H2 := Lib.hid (san2 w1 (U1.out.shaped HSH.out))
  go_wp2_with fail
  refine H2.out.mono ?_
  rintro e1 w2 ⟨rfl, u2⟩
  have U2 := Lib.hid (U1.out.trans u2)
  have O2 := Lib.hid (O1.out.keep u2)
  clear u2 U1 O1 H2
  have H3 := Lib.hid (san3 w2 (U2.out.shaped HSH.out))
  go_wp2_with fail
  refine H3.out.mono ?_
  rintro e1 w3 ⟨rfl, u3⟩
  have U3 := Lib.hid (U2.out.trans u3)
  have O3 := Lib.hid (O2.out.keep u3)
  clear u3 U2 O2 H3
  have H4 := Lib.hid (san4 w3 (U3.out.shaped HSH.out))
  go_wp2_with fail
  refine H4.out.mono ?_
  rintro e1 w4 ⟨rfl, u4⟩
  have U4 := Lib.hid (U3.out.trans u4)
  have O4 := Lib.hid (O3.out.keep u4)
  clear u4 U3 O3 H4
  have H5 := Lib.hid (san5 w4 (U4.out.shaped HSH.out))
  go_wp2_with fail
  refine H5.out.mono ?_
  rintro e1 w5 ⟨rfl, u5⟩
  have U5 := Lib.hid (U4.out.trans u5)
  have O5 := Lib.hid (O4.out.keep u5)
  clear u5 U4 O4 H5
  have H6 := Lib.hid (san6 w5 (U5.out.shaped HSH.out))
  go_wp2_with fail
  refine H6.out.mono ?_
  rintro e1 w6 ⟨rfl, u6⟩
  have U6 := Lib.hid (U5.out.trans u6)
  have O6 := Lib.hid (O5.out.keep u6)
  clear u6 U5 O5 H6
  have HS : Hid (∀ W, W = (w6.alloc (.cells #[.int .i64 0, .int .i64 0, .int .i64 0, .int .i64 9, .int .i64 0, .int .i64 0, .int .i64 0, .int .i64 9, .int .i64 0] 51)).alloc (.cells #[.slice (some ⟨w6.heap.size, 0, none⟩) 3 3, .int .i64 4] 43) →
      Calls Tryz.prog 18 #[v1, .slice (some ⟨w6.heap.size + 1, 0, none⟩) 1 1, .bool true] W fun en w' => en = .returned (.bool true) ∧ ∃ n, w' = W.drewN n) := fun W hW =>
    qSame_yes v1 _ [([(0, 0, 0), (9, 0, 0), (0, 9, 0)], 4)] [([(0, 0, 0), (9, 0, 0), (0, 9, 0)], 4)] true rfl (fun j h1 h2 => ⟨rfl, fun _ => rfl⟩) (by decide) (fun p hp => by rw [List.mem_singleton] at hp; rw [hp]; decide) W (O6.out.keep (by rw [hW]; exact ((Upd.refl _ _).alloc _).alloc _))
      ⟨some ⟨w6.heap.size + 1, 0, none⟩, 1, rfl, fun _ => ⟨_, _, rfl, fun j hj => by
        obtain rfl : j = 0 := by simp at hj; exact hj
        have g1 : W.heap[w6.heap.size + 1]? = some (.cells #[.slice (some ⟨w6.heap.size, 0, none⟩) 3 3, .int .i64 4] 43) := by rw [hW]; have := heap_alloc_new (w6.alloc (.cells #[.int .i64 0, .int .i64 0, .int .i64 0, .int .i64 9, .int .i64 0, .int .i64 0, .int .i64 0, .int .i64 9, .int .i64 0] 51)) (.cells #[.slice (some ⟨w6.heap.size, 0, none⟩) 3 3, .int .i64 4] 43); rw [World.size_alloc] at this; exact this
        have g0 : W.heap[w6.heap.size]? = some (.cells #[.int .i64 0, .int .i64 0, .int .i64 0, .int .i64 9, .int .i64 0, .int .i64 0, .int .i64 0, .int .i64 9, .int .i64 0] 51) := by rw [hW]; exact heap_alloc_keep _ (heap_alloc_new _ _)
        refine ⟨.slice (some ⟨w6.heap.size, 0, none⟩) 3 3, by simp [World.cell?, g1], by simp [World.cell?, g1], _, _, rfl, fun _ => ⟨_, _, rfl, fun j hj => ?_⟩⟩
        have hj' : j = 0 ∨ j = 1 ∨ j = 2 := by simp at hj; omega
        rcases hj' with rfl | rfl | rfl <;> exact ⟨by simp [World.cell?, g0], by simp [World.cell?, g0], by simp [World.cell?, g0]⟩⟩⟩
  go_wp2_with fail
  refine (HS.out _ rfl).mono ?_
  rintro e1 w7 ⟨rfl, n, rfl⟩
  go_wp2_with fail
  go_ret
  exact ⟨rfl, ((U6.out.alloc _).alloc _).drewN n⟩
end Go.Proofs.YtojdgdeefhndiaaGreatDoor
