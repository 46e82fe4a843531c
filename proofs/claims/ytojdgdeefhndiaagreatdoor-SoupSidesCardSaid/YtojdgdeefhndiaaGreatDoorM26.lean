/- Walks of the laws of the polygon files: lines, a string of bounded size. Walks of the laws of the polygon files: sanity. Walks of the laws of the polygon files: SoupReads. -/
import Derived.Test.YtojdgdeefhndiaaGreatDoorM25
import Derived.Deep.DeepCutAuto
import Derived.Deep.CutBlock
namespace Go.Proofs.YtojdgdeefhndiaaGreatDoor
open Go Go.RowKit Sp
set_option maxRecDepth 100000

def numsV : Array Value := #[.string ⟨#[48]⟩, .string ⟨#[49]⟩, .string ⟨#[50]⟩, .string ⟨#[51]⟩, .string ⟨#[45, 49]⟩, .string ⟨#[45, 50]⟩, .string ⟨#[55]⟩, .string ⟨#[50, 48, 57, 55, 49, 53, 49]⟩, .string ⟨#[50, 48, 57, 55, 49, 53, 50]⟩, .string ⟨#[45, 48]⟩, .string ⟨#[48, 48, 55]⟩, .string ⟨#[49, 50, 51, 52, 53, 54, 55, 56, 57, 48, 49, 50, 51, 52, 53]⟩, .string ⟨#[49, 50, 51, 52, 53, 54, 55, 56, 57, 48, 49, 50, 51, 52, 53, 54]⟩, .string ⟨#[120]⟩, .string ⟨#[49, 46, 53]⟩, .string ⟨#[45, 45, 49]⟩, .string ⟨#[45]⟩]
theorem numsV_get : ∀ j, j < 17 → ∃ b : ByteArray, numsV[j]? = some (.string b) ∧ b.size ≤ 16
  | 0, _ => ⟨_, rfl, by decide⟩ | 1, _ => ⟨_, rfl, by decide⟩ | 2, _ => ⟨_, rfl, by decide⟩ | 3, _ => ⟨_, rfl, by decide⟩ | 4, _ => ⟨_, rfl, by decide⟩ | 5, _ => ⟨_, rfl, by decide⟩ | 6, _ => ⟨_, rfl, by decide⟩ | 7, _ => ⟨_, rfl, by decide⟩ | 8, _ => ⟨_, rfl, by decide⟩ | 9, _ => ⟨_, rfl, by decide⟩ | 10, _ => ⟨_, rfl, by decide⟩ | 11, _ => ⟨_, rfl, by decide⟩ | 12, _ => ⟨_, rfl, by decide⟩ | 13, _ => ⟨_, rfl, by decide⟩ | 14, _ => ⟨_, rfl, by decide⟩ | 15, _ => ⟨_, rfl, by decide⟩ | 16, _ => ⟨_, rfl, by decide⟩
  | n + 17, h => absurd h (by omega)
def wordsV : Array Value := #[.string ⟨#[]⟩, .string ⟨#[35, 32, 110, 111, 116, 101]⟩, .string ⟨#[118, 118]⟩, .string ⟨#[112, 111, 108, 121]⟩, .string ⟨#[103, 32, 49]⟩, .string ⟨#[118]⟩, .string ⟨#[102]⟩, .string ⟨#[9]⟩, .string ⟨#[111, 32, 120]⟩]
theorem wordsV_get : ∀ j, j < 9 → ∃ b : ByteArray, wordsV[j]? = some (.string b) ∧ b.size ≤ 8
  | 0, _ => ⟨_, rfl, by decide⟩ | 1, _ => ⟨_, rfl, by decide⟩ | 2, _ => ⟨_, rfl, by decide⟩ | 3, _ => ⟨_, rfl, by decide⟩ | 4, _ => ⟨_, rfl, by decide⟩ | 5, _ => ⟨_, rfl, by decide⟩ | 6, _ => ⟨_, rfl, by decide⟩ | 7, _ => ⟨_, rfl, by decide⟩ | 8, _ => ⟨_, rfl, by decide⟩
  | n + 9, h => absurd h (by omega)
def endsV : Array Value := #[.string ⟨#[10]⟩, .string ⟨#[32, 35, 32, 120, 10]⟩, .string ⟨#[13, 10]⟩, .string ⟨#[10, 10]⟩]
theorem endsV_get : ∀ j, j < 4 → ∃ b : ByteArray, endsV[j]? = some (.string b) ∧ b.size ≤ 8
  | 0, _ => ⟨_, rfl, by decide⟩ | 1, _ => ⟨_, rfl, by decide⟩ | 2, _ => ⟨_, rfl, by decide⟩ | 3, _ => ⟨_, rfl, by decide⟩
  | n + 4, h => absurd h (by omega)
set_option maxHeartbeats 1500000 in
theorem lawLines_any (A : Option Addr) (cap : Nat) (l : List Quad) (poly : Bool) (_hl : l.length ≤ cap) (_hc : cap ≤ maxLen) (w : World) (h : RdQ w A l) :
    Calls Tryz.prog 13 #[.slice A l.length cap, .bool poly] w fun en w' => strB 10000 w en w' := by
  unfold maxLen at _hc
  have H := Lib.hid h
  have HU0 : Hid (Upd noBlk w (w.alloc (.cells numsV 9))) := (Upd.refl _ _).alloc _
  have HN0 : Hid ((w.alloc (.cells numsV 9)).heap[w.heap.size]? = some (.cells numsV 9)) := heap_alloc_new _ _
  clear h
  go_enter Tryz.func13, Tryz.ntmps13
  go_wp2_with fail
  go_loopw [6, 7, 8, 9, 10, 11, 12] (fun s i _ _ _ _ _ wr => ∃ (k : Nat) (b : ByteArray), s = .string b ∧ i = .int .i64 k ∧ k ≤ l.length ∧ k ≤ 30 ∧ b.size ≤ 200 * k ∧ Upd noBlk w wr ∧ wr.heap[w.heap.size]? = some (.cells numsV 9)) (fun _ i _ _ _ _ _ _ => 30 - (intOf i).toNat)
  case atStart => exact ⟨0, _, rfl, rfl, Nat.zero_le _, Nat.zero_le _, Nat.le_refl _, HU0.out, HN0.out⟩
  case round =>
    obtain ⟨k, b, rfl, rfl, hk, hk30, hb, hu, hn⟩ := hrel
    have HU := Lib.hid hu
    have HN := Lib.hid hn
    clear hu hn
    by_cases hgo : k < l.length ∧ k < 30
    · obtain ⟨hlt, hl30⟩ := hgo
      have hlt' : ((k : Nat) : Int) < ((l.length : Nat) : Int) := by omega
      have hl30' : ((k : Nat) : Int) < 30 := by omega
      obtain ⟨bb, off, rfl, ea⟩ := H.out (by omega)
      obtain ⟨hq, hf⟩ := ea k hlt
      obtain ⟨q0, q1, q2, q3⟩ := hq.keep HU.out
      clear ea hq
      generalize l[k] = q at *
      obtain ⟨x0, x1, x2, x3⟩ := q
      simp only at q0 q1 q2 q3
      have HF := Lib.hid hf
      clear hf
      go_upto_block 2 with (go_at_call 16; refine (Mod_any _ 9 (by decide) (by decide) _).mono ?_; rintro e1 w1 ⟨rfl, rfl⟩)
      obtain ⟨w1, hw1⟩ : ∃ x, x = wr.alloc (.cells #[.int .i64 x0, .int .i64 x1, .int .i64 x2, .int .i64 x3] 53) := ⟨_, rfl⟩
      have hq1 : w1.heap[wr.heap.size]? = some (.cells #[.int .i64 x0, .int .i64 x1, .int .i64 x2, .int .i64 x3] 53) := by rw [hw1]; exact heap_alloc_new _ _
      have hu1 : Upd noBlk w w1 := by rw [hw1]; exact HU.out.alloc _
      have hn1 : w1.heap[w.heap.size]? = some (.cells numsV 9) := by rw [hw1]; exact heap_alloc_keep _ HN.out
      rw [← hw1]
      clear hw1 q0 q1 q2 q3
      have c1 : w1.cell? ⟨wr.heap.size, 1, none⟩ = some (.int .i64 x1) := by simp [World.cell?, hq1]
      have c2 : w1.cell? ⟨wr.heap.size, 2, none⟩ = some (.int .i64 x2) := by simp [World.cell?, hq1]
      have d2 : (w1.alloc (.cells wordsV 9)).cell? ⟨wr.heap.size, 2, none⟩ = some (.int .i64 x2) := cell_alloc_keep _ c2
      have d1 : (w1.alloc (.cells wordsV 9)).cell? ⟨wr.heap.size, 1, none⟩ = some (.int .i64 x1) := cell_alloc_keep _ c1
      have HQ1 := Lib.hid hq1
      have HU1 := Lib.hid hu1
      have HN1 := Lib.hid hn1
      clear hq1 hu1 hn1
      go_cut [9, 10, 30] (fun n wd _ wx => ∃ (nn : Nat) (wb : ByteArray), n = .int .i64 nn ∧ nn ≤ 5 ∧ wd = .string wb ∧ wb.size ≤ 8 ∧ Upd noBlk w wx ∧ wx.heap[wr.heap.size]? = some (.cells #[.int .i64 x0, .int .i64 x1, .int .i64 x2, .int .i64 x3] 53) ∧ wx.heap[w.heap.size]? = some (.cells numsV 9))
      case first =>
        have hm : x0 % 9 = 0 ∨ x0 % 9 = 1 ∨ x0 % 9 = 2 ∨ 3 ≤ x0 % 9 := by omega
        obtain ⟨j9, hj9⟩ : ∃ j : Nat, x1 % 9 = j := ⟨(x1 % 9).toNat, by omega⟩
        obtain ⟨j3, hj3⟩ : ∃ j : Nat, x1 % 3 = j := ⟨(x1 % 3).toNat, by omega⟩
        obtain ⟨j5, hj5⟩ : ∃ j : Nat, x2 % 5 = j := ⟨(x2 % 5).toNat, by omega⟩
        have hj9' : j9 < 9 := by omega
        have hj3' : j3 < 3 := by omega
        have hj5' : j5 < 5 := by omega
        obtain ⟨wd, hwd, hwb⟩ := short_get wordsV_get hj9' (heap_alloc_new w1 (.cells wordsV 9))
        unfold wordsV at d1 d2 hwd
        rcases hm with hm | hm | hm | hm
        · go_wp2_with (go_at_call 16; refine (Mod_any _ _ (by decide) (by decide) _).mono ?_; rintro e1 w1 ⟨rfl, rfl⟩)
          go_meet
          case rel => exact ⟨3 + j3, _, by go_num, by omega, rfl, by decide, HU1.out, HQ1.out, HN1.out⟩
        · go_wp2_with (go_at_call 16; refine (Mod_any _ _ (by decide) (by decide) _).mono ?_; rintro e1 w1 ⟨rfl, rfl⟩)
          go_meet
          case rel => exact ⟨3 + j3, _, by go_num, by omega, rfl, by decide, HU1.out, HQ1.out, HN1.out⟩
        · have hj9'' : ((j9 : Nat) : Int) < 9 := by omega
          go_wp2_with (go_at_call 16; refine (Mod_any _ _ (by decide) (by decide) _).mono ?_; rintro e1 w1 ⟨rfl, rfl⟩)
          go_meet
          case rel => exact ⟨j5, _, by go_num, by omega, rfl, hwb, HU1.out.alloc _, heap_alloc_keep _ HQ1.out, heap_alloc_keep _ HN1.out⟩
        · have e0 : (x0 % 9 == 0) = false := by rw [beq_eq_false_iff_ne]; omega
          have e1 : (x0 % 9 == 1) = false := by rw [beq_eq_false_iff_ne]; omega
          have e2 : (x0 % 9 == 2) = false := by rw [beq_eq_false_iff_ne]; omega
          go_wp2_with (go_at_call 16; refine (Mod_any _ _ (by decide) (by decide) _).mono ?_; rintro e1 w1 ⟨rfl, rfl⟩)
          go_meet
          case rel => exact ⟨3, _, by go_num, by omega, rfl, by decide, HU1.out, HQ1.out, HN1.out⟩
      case rest =>
        obtain ⟨nn, wb, rfl, hnn, rfl, hwb, hu, hq, hn⟩ := hcut
        clear c1 c2 d1 d2
        have c0 : wc.cell? ⟨wr.heap.size, 0, none⟩ = some (.int .i64 x0) := by simp [World.cell?, hq]
        have c1 : wc.cell? ⟨wr.heap.size, 1, none⟩ = some (.int .i64 x1) := by simp [World.cell?, hq]
        have c2 : wc.cell? ⟨wr.heap.size, 2, none⟩ = some (.int .i64 x2) := by simp [World.cell?, hq]
        have c3 : wc.cell? ⟨wr.heap.size, 3, none⟩ = some (.int .i64 x3) := by simp [World.cell?, hq]
        have HUC := Lib.hid hu
        have HNC := Lib.hid hn
        clear hu hq hn HQ1 HU1 HN1
        go_upto_if 49 with fail
        go_cut [9, 10] (fun n wd wx => wc = wx ∧ ∃ (nn : Nat) (wb : ByteArray), n = .int .i64 nn ∧ nn ≤ 5 ∧ wd = .string wb ∧ wb.size ≤ 8)
        case first =>
          cases poly with
          | false =>
            go_wp2_with fail
            go_meet
            case rel => exact ⟨rfl, nn, wb, rfl, hnn, rfl, hwb⟩
          | true =>
            by_cases hm5 : x0 % 5 = 0
            · go_wp2_with (go_at_call 16; refine (Mod_any _ _ (by decide) (by decide) _).mono ?_; rintro e1 w1 ⟨rfl, rfl⟩)
              go_meet
              case rel => exact ⟨rfl, 1, _, by go_num, by decide, rfl, by decide⟩
            · have e5 : (x0 % 5 == 0) = false := by rw [beq_eq_false_iff_ne]; exact hm5
              go_wp2_with (go_at_call 16; refine (Mod_any _ _ (by decide) (by decide) _).mono ?_; rintro e1 w1 ⟨rfl, rfl⟩)
              go_meet
              case rel => exact ⟨rfl, nn, _, rfl, hnn, rfl, by decide⟩
        case rest =>
          clear hnn hwb nn wb
          obtain ⟨rfl, nn, wb, rfl, hnn, rfl, hwb⟩ := hcut
          go_wp2_with fail
          go_loopw [10, 11, 12] (fun wd kk _ wx => wc = wx ∧ ∃ (j : Nat) (wb : ByteArray), kk = .int .i64 j ∧ j ≤ nn ∧ wd = .string wb ∧ wb.size ≤ 8 + 17 * j) (fun _ kk _ _ => nn - (intOf kk).toNat)
          case atStart => exact ⟨rfl, 0, wb, rfl, Nat.zero_le _, rfl, hwb⟩
          case round =>
            clear hwb wb
            obtain ⟨rfl, j, wb, rfl, hj, rfl, hwb⟩ := hrel
            by_cases hjn : j < nn
            · have hjn' : ((j : Nat) : Int) < ((nn : Nat) : Int) := by omega
              go_upto_region 26 with (go_at_call 16; refine (Mod_any _ _ (by decide) (by decide) _).mono ?_; rintro e1 w1 ⟨rfl, rfl⟩)
              obtain ⟨m4, hm4⟩ : ∃ m : Nat, wrap64 (x2 + wrap64 ((j : Int) * x3)) % 4 = m := ⟨(wrap64 (x2 + wrap64 ((j : Int) * x3)) % 4).toNat, by omega⟩
              have hm4' : m4 < 17 := by omega
              rw [hm4]
              clear hm4
              go_cut [74] (fun tt wx => wc = wx ∧ ∃ c : Bool, tt = .bool c)
              case first =>
                by_cases h23 : x1.tmod 23 = 0
                · have e23 : (x1.tmod 23 == 0) = true := by rw [h23]; rfl
                  clear h23
                  cases h1 : ((j : Int) == 1) <;>
                    (go_wp2_with fail
                     go_meet
                     case rel => exact ⟨rfl, _, rfl⟩)
                · have e23 : (x1.tmod 23 == 0) = false := by rw [beq_eq_false_iff_ne]; exact h23
                  clear h23
                  go_wp2_with fail
                  go_meet
                  case rel => exact ⟨rfl, _, rfl⟩
              case rest =>
                obtain ⟨rfl, c, rfl⟩ := hcut
                go_upto_if 74 with fail
                go_cut [12] (fun m wx => wc = wx ∧ ∃ mm : Nat, m = .int .i64 mm ∧ mm < 17)
                case first =>
                  cases c with
                  | false =>
                    go_wp2_with fail
                    go_meet
                    case rel => exact ⟨rfl, m4, rfl, hm4'⟩
                  | true =>
                    obtain ⟨m5, hm5⟩ : ∃ m : Nat, x3 % 17 = m := ⟨(x3 % 17).toNat, by omega⟩
                    go_wp2_with (go_at_call 16; refine (Mod_any _ _ (by decide) (by decide) _).mono ?_; rintro e1 w1 ⟨rfl, rfl⟩)
                    go_meet
                    case rel => exact ⟨rfl, m5, rfl, by omega⟩
                case rest =>
                  clear hm4' m4
                  obtain ⟨rfl, mm, rfl, hmm⟩ := hcut
                  go_upto_region 28 with fail
                  go_cut [90] (fun tt wx => wc = wx ∧ ∃ c : Bool, tt = .bool c)
                  case first =>
                    cases poly with
                    | false =>
                      go_wp2_with fail
                      go_meet
                      case rel => exact ⟨rfl, _, rfl⟩
                    | true =>
                      cases hw : (wb.toList == [112, 111, 108, 121]) with
                      | false =>
                        go_wp2_with fail
                        go_meet
                        case rel => exact ⟨rfl, _, rfl⟩
                      | true =>
                        go_wp2_with fail
                        go_meet
                        case rel => exact ⟨rfl, _, rfl⟩
                  case rest =>
                    obtain ⟨rfl, c2, rfl⟩ := hcut
                    go_upto_if 90 with fail
                    go_cut [12] (fun m wx => wc = wx ∧ ∃ mm : Nat, m = .int .i64 mm ∧ mm < 17)
                    case first =>
                      cases c2 with
                      | false =>
                        go_wp2_with fail
                        go_meet
                        case rel => exact ⟨rfl, mm, rfl, hmm⟩
                      | true =>
                        go_wp2_with fail
                        go_meet
                        case rel => exact ⟨rfl, 3, rfl, by decide⟩
                    case rest =>
                      clear hmm mm
                      obtain ⟨rfl, mm, rfl, hmm⟩ := hcut
                      have hmm' : ((mm : Nat) : Int) < 17 := by omega
                      obtain ⟨wd, hwd, hwe⟩ := short_get numsV_get hmm HNC.out
                      go_wp2_with fail
                      refine ⟨⟨trivial, j + 1, _, by go_num, hjn, rfl, ?_⟩, by simp [intOf]; omega⟩
                      have e1 : (⟨#[32]⟩ : ByteArray).size = 1 := rfl
                      simp only [ba_size, e1]; omega
            · have hjn' : ¬ ((j : Nat) : Int) < ((nn : Nat) : Int) := by omega
              obtain ⟨j4, hj4⟩ : ∃ j : Nat, x3 % 4 = j := ⟨(x3 % 4).toNat, by omega⟩
              have hj4' : j4 < 4 := by omega
              have hj4'' : ((j4 : Nat) : Int) < 4 := by omega
              obtain ⟨wd, hwd, hwe⟩ := short_get endsV_get hj4' (heap_alloc_new wc (.cells endsV 9))
              have d3 : (wc.alloc (.cells endsV 9)).cell? ⟨wr.heap.size, 3, none⟩ = some (.int .i64 x3) := cell_alloc_keep _ c3
              unfold endsV at d3 hwd
              go_wp2_with (go_at_call 16; refine (Mod_any _ _ (by decide) (by decide) _).mono ?_; rintro e1 w1 ⟨rfl, rfl⟩)
              refine ⟨⟨k + 1, _, rfl, by go_num, hlt, hl30, ?_, HUC.out.alloc _, heap_alloc_keep _ HNC.out⟩, by simp [intOf]; omega⟩
              rw [ba_size, ba_size]; omega
    · by_cases hlt : k < l.length
      · have hlt' : ((k : Nat) : Int) < ((l.length : Nat) : Int) := by omega
        have hl30' : ¬ ((k : Nat) : Int) < 30 := by omega
        go_wp2_with fail
        go_ret
        exact ⟨b, rfl, by omega, HU.out⟩
      · have hlt' : ¬ ((k : Nat) : Int) < ((l.length : Nat) : Int) := by omega
        go_wp2_with fail
        go_ret
        exact ⟨b, rfl, by omega, HU.out⟩
end Go.Proofs.YtojdgdeefhndiaaGreatDoor
namespace Go.Proofs.YtojdgdeefhndiaaGreatDoor
open Go Go.RowKit Sp
set_option maxRecDepth 100000

theorem read_closed (s : Bytes) (r : Out) (h : readS s = r) (hs : s.length ≤ 100) (w : World) (hsh : w.ShapedOpen Tryz.prog) : Calls Tryz.prog 17 #[.string (bs s)] w fun en w' => readQ r w en w' := by
  have := read_any s (by omega) w hsh
  rw [h] at this
  exact this
theorem san1 (w : World) (hsh : w.ShapedOpen Tryz.prog) : Calls Tryz.prog 17 #[.string ⟨#[118, 32, 48, 32, 48, 32, 48, 10, 118, 32, 57, 32, 48, 32, 48, 10, 118, 32, 48, 32, 57, 32, 48, 32, 35, 32, 116, 111, 112, 10, 102, 32, 49, 32, 50, 32, 45, 49, 10]⟩] w fun en w' => readQ (.ok [([(0, 0, 0), (9, 0, 0), (0, 9, 0)], 4)]) w en w' :=
  read_closed [118, 32, 48, 32, 48, 32, 48, 10, 118, 32, 57, 32, 48, 32, 48, 10, 118, 32, 48, 32, 57, 32, 48, 32, 35, 32, 116, 111, 112, 10, 102, 32, 49, 32, 50, 32, 45, 49, 10] (.ok [([(0, 0, 0), (9, 0, 0), (0, 9, 0)], 4)]) (by kernel_rfl) (by decide) w hsh
theorem san2 (w : World) (hsh : w.ShapedOpen Tryz.prog) : Calls Tryz.prog 17 #[.string ⟨#[112, 111, 108, 121, 32, 51, 10, 49, 32, 50, 32, 51, 10, 52, 32, 53, 32, 54]⟩] w fun en w' => readQ (.bad 3 12) w en w' :=
  read_closed [112, 111, 108, 121, 32, 51, 10, 49, 32, 50, 32, 51, 10, 52, 32, 53, 32, 54] (.bad 3 12) (by kernel_rfl) (by decide) w hsh
theorem san3 (w : World) (hsh : w.ShapedOpen Tryz.prog) : Calls Tryz.prog 17 #[.string ⟨#[118, 32, 49, 32, 50]⟩] w fun en w' => readQ (.bad 1 10) w en w' :=
  read_closed [118, 32, 49, 32, 50] (.bad 1 10) (by kernel_rfl) (by decide) w hsh
theorem san4 (w : World) (hsh : w.ShapedOpen Tryz.prog) : Calls Tryz.prog 17 #[.string ⟨#[118, 32, 49, 32, 50, 32, 45, 51]⟩] w fun en w' => readQ (.bad 1 3) w en w' :=
  read_closed [118, 32, 49, 32, 50, 32, 45, 51] (.bad 1 3) (by kernel_rfl) (by decide) w hsh
theorem san5 (w : World) (hsh : w.ShapedOpen Tryz.prog) : Calls Tryz.prog 17 #[.string ⟨#[102, 32, 49, 32, 49, 32, 49]⟩] w fun en w' => readQ (.bad 1 14) w en w' :=
  read_closed [102, 32, 49, 32, 49, 32, 49] (.bad 1 14) (by kernel_rfl) (by decide) w hsh
theorem san6 (w : World) (hsh : w.ShapedOpen Tryz.prog) : Calls Tryz.prog 17 #[.string ⟨#[83, 79, 85, 80, 1, 0, 0, 0, 2]⟩] w fun en w' => readQ (.bad 8 11) w en w' :=
  read_closed [83, 79, 85, 80, 1, 0, 0, 0, 2] (.bad 8 11) (by kernel_rfl) (by decide) w hsh
set_option maxHeartbeats 1000000 in
theorem sanity_any (w : World) (hsh : w.ShapedOpen Tryz.prog) : Calls Tryz.prog 11 #[] w fun en w' => en = .returned (.bool true) ∧ Upd noBlk w w' := by
  have H1 := Lib.hid (san1 w hsh)
  have HSH := Lib.hid hsh
  clear hsh
  go_enter Tryz.func11, Tryz.ntmps11
  go_wp2_with fail
  refine H1.out.mono ?_
  rintro e1 w1 ⟨v1, rfl, o1, u1⟩
  have O1 := Lib.hid o1.rd
  have U1 := Lib.hid u1
  clear o1 u1
  have H2 := Lib.hid (san2 w1 (U1.out.shaped HSH.out))
  go_wp2_with fail
  refine H2.out.mono ?_
  rintro e1 w2 ⟨rfl, u2⟩
  have U2 := Lib.hid (U1.out.trans u2)
  have O2 := Lib.hid (O1.out.keep u2)
  clear u2 U1 O1 H2
  have H3 := Lib.hid (san3 w2 (U2.out.shaped HSH.out))
  go_wp2_with fail
  refine H3.out.mono ?_
  rintro e1 w3 ⟨rfl, u3⟩
  have U3 := Lib.hid (U2.out.trans u3)
  have O3 := Lib.hid (O2.out.keep u3)
  clear u3 U2 O2 H3
  have H4 := Lib.hid (san4 w3 (U3.out.shaped HSH.out))
  go_wp2_with fail
  refine H4.out.mono ?_
  rintro e1 w4 ⟨rfl, u4⟩
  have U4 := Lib.hid (U3.out.trans u4)
  have O4 := Lib.hid (O3.out.keep u4)
  clear u4 U3 O3 H4
  have H5 := Lib.hid (san5 w4 (U4.out.shaped HSH.out))
  go_wp2_with fail
  refine H5.out.mono ?_
  rintro e1 w5 ⟨rfl, u5⟩
  have U5 := Lib.hid (U4.out.trans u5)
  have O5 := Lib.hid (O4.out.keep u5)
  clear u5 U4 O4 H5
  have H6 := Lib.hid (san6 w5 (U5.out.shaped HSH.out))
  go_wp2_with fail
  refine H6.out.mono ?_
  rintro e1 w6 ⟨rfl, u6⟩
  have U6 := Lib.hid (U5.out.trans u6)
  have O6 := Lib.hid (O5.out.keep u6)
  clear u6 U5 O5 H6
  have HS : Hid (∀ W, W = (w6.alloc (.cells #[.int .i64 0, .int .i64 0, .int .i64 0, .int .i64 9, .int .i64 0, .int .i64 0, .int .i64 0, .int .i64 9, .int .i64 0] 51)).alloc (.cells #[.slice (some ⟨w6.heap.size, 0, none⟩) 3 3, .int .i64 4] 43) →
      Calls Tryz.prog 18 #[v1, .slice (some ⟨w6.heap.size + 1, 0, none⟩) 1 1, .bool true] W fun en w' => en = .returned (.bool true) ∧ ∃ n, w' = W.drewN n) := fun W hW =>
    qSame_yes v1 _ [([(0, 0, 0), (9, 0, 0), (0, 9, 0)], 4)] [([(0, 0, 0), (9, 0, 0), (0, 9, 0)], 4)] true rfl (fun j h1 h2 => ⟨rfl, fun _ => rfl⟩) (by decide) (fun p hp => by rw [List.mem_singleton] at hp; rw [hp]; decide) W (O6.out.keep (by rw [hW]; exact ((Upd.refl _ _).alloc _).alloc _))
      ⟨some ⟨w6.heap.size + 1, 0, none⟩, 1, rfl, fun _ => ⟨_, _, rfl, fun j hj => by
        obtain rfl : j = 0 := by simp at hj; exact hj
        have g1 : W.heap[w6.heap.size + 1]? = some (.cells #[.slice (some ⟨w6.heap.size, 0, none⟩) 3 3, .int .i64 4] 43) := by rw [hW]; have := heap_alloc_new (w6.alloc (.cells #[.int .i64 0, .int .i64 0, .int .i64 0, .int .i64 9, .int .i64 0, .int .i64 0, .int .i64 0, .int .i64 9, .int .i64 0] 51)) (.cells #[.slice (some ⟨w6.heap.size, 0, none⟩) 3 3, .int .i64 4] 43); rw [World.size_alloc] at this; exact this
        have g0 : W.heap[w6.heap.size]? = some (.cells #[.int .i64 0, .int .i64 0, .int .i64 0, .int .i64 9, .int .i64 0, .int .i64 0, .int .i64 0, .int .i64 9, .int .i64 0] 51) := by rw [hW]; exact heap_alloc_keep _ (heap_alloc_new _ _)
        refine ⟨.slice (some ⟨w6.heap.size, 0, none⟩) 3 3, by simp [World.cell?, g1], by simp [World.cell?, g1], _, _, rfl, fun _ => ⟨_, _, rfl, fun j hj => ?_⟩⟩
        have hj' : j = 0 ∨ j = 1 ∨ j = 2 := by simp at hj; omega
        rcases hj' with rfl | rfl | rfl <;> exact ⟨by simp [World.cell?, g0], by simp [World.cell?, g0], by simp [World.cell?, g0]⟩⟩⟩
  go_wp2_with fail
  refine (HS.out _ rfl).mono ?_
  rintro e1 w7 ⟨rfl, n, rfl⟩
  go_wp2_with fail
  go_ret
  exact ⟨rfl, ((U6.out.alloc _).alloc _).drewN n⟩
end Go.Proofs.YtojdgdeefhndiaaGreatDoor
namespace Go.Proofs.YtojdgdeefhndiaaGreatDoor
open Go Go.RowKit Sp
set_option maxRecDepth 100000

theorem bs_back (b : ByteArray) : bs b.data.toList = b := by obtain ⟨d⟩ := b; rfl
theorem agrees_ba (b : ByteArray) (hb : b.size ≤ 4294901760) (w : World) (hsh : w.ShapedOpen Tryz.prog) :
    Calls Tryz.prog 12 #[.string b] w fun en w' => en = .returned (.bool true) ∧ Upd noBlk w w' := by
  have := agrees_any b.data.toList (by simpa using hb) w hsh
  rw [bs_back] at this
  exact this
set_option maxHeartbeats 1000000 in
theorem lawSoupReads (A : Option Addr) (cap : Nat) (l : List Quad) (s : ByteArray) (hl : l.length ≤ cap) (hc : cap ≤ maxLen) (hs : s.size ≤ 4294000000) (w : World) (hsh : w.ShapedOpen Tryz.prog) (h : RdQ w A l) :
    Calls Tryz.prog 3 #[.slice A l.length cap, .string s] w fun en w' => en = .returned (.bool true) ∧ Upd noBlk w w' := by
  have H := Lib.hid h
  have HSH := Lib.hid hsh
  have HC := Lib.hid hc
  have H1 := Lib.hid (sanity_any w hsh)
  clear h hsh hc
  go_enter Tryz.func3, Tryz.ntmps3
  go_wp2_with fail
  refine H1.out.mono ?_
  rintro e1 w1 ⟨rfl, u1⟩
  have U1 := Lib.hid u1
  clear u1
  go_wp2_with fail
  refine (lawLines_any A cap l false hl HC.out w1 (H.out.keep U1.out)).mono ?_
  rintro e1 w2 ⟨b1, rfl, hb1, u2⟩
  have U2 := Lib.hid (U1.out.trans u2)
  clear u2 U1
  go_wp2_with fail
  refine (agrees_ba _ (by omega) _ (U2.out.shaped HSH.out)).mono ?_
  rintro e1 w3 ⟨rfl, u3⟩
  have U3 := Lib.hid (U2.out.trans u3)
  clear u3 U2
  go_wp2_with fail
  refine (lawLines_any A cap l true hl HC.out w3 (H.out.keep U3.out)).mono ?_
  rintro e1 w4 ⟨b2, rfl, hb2, u4⟩
  have U4 := Lib.hid (U3.out.trans u4)
  clear u4 U3
  go_wp2_with fail
  refine (agrees_ba _ (by omega) _ (U4.out.shaped HSH.out)).mono ?_
  rintro e1 w5 ⟨rfl, u5⟩
  have U5 := Lib.hid (U4.out.trans u5)
  clear u5 U4
  go_wp2_with fail
  refine (lawLines_any A cap l true hl HC.out w5 (H.out.keep U5.out)).mono ?_
  rintro e1 w6 ⟨b3, rfl, hb3, u6⟩
  have U6 := Lib.hid (U5.out.trans u6)
  clear u6 U5
  go_wp2_with fail
  refine (agrees_ba _ (by rw [ba_size]; show 7 + _ ≤ _; omega) _ (U6.out.shaped HSH.out)).mono ?_
  rintro e1 w7 ⟨rfl, u7⟩
  have U7 := Lib.hid (U6.out.trans u7)
  clear u7 U6
  go_wp2_with fail
  refine (lawLines_any A cap l false hl HC.out w7 (H.out.keep U7.out)).mono ?_
  rintro e1 w8 ⟨b4, rfl, hb4, u8⟩
  have U8 := Lib.hid (U7.out.trans u8)
  clear u8 U7
  go_wp2_with fail
  refine (agrees_ba _ (by rw [ba_size]; show 24 + _ ≤ _; omega) _ (U8.out.shaped HSH.out)).mono ?_
  rintro e1 w9 ⟨rfl, u9⟩
  have U9 := Lib.hid (U8.out.trans u9)
  clear u9 U8
  go_wp2_with fail
  refine (agrees_ba _ (by omega) _ (U9.out.shaped HSH.out)).mono ?_
  rintro e1 w10 ⟨rfl, u10⟩
  have U10 := Lib.hid (U9.out.trans u10)
  clear u10 U9
  go_wp2_with fail
  refine (agrees_ba _ (by rw [ba_size]; show 7 + _ ≤ _; omega) _ (U10.out.shaped HSH.out)).mono ?_
  rintro e1 w11 ⟨rfl, u11⟩
  have U11 := Lib.hid (U10.out.trans u11)
  clear u11 U10
  go_wp2_with fail
  go_ret
  exact ⟨rfl, U11.out⟩
theorem lawSoupReads_c (A : Option Addr) (cap : Nat) (l : List Quad) (s : ByteArray) (hl : l.length ≤ cap) (hc : cap ≤ maxLen) (hs : s.size ≤ 1048576) (w : World) (hsh : w.ShapedOpen Tryz.prog) (h : RdQ w A l) :
    Calls Tryz.prog 3 #[.slice A l.length cap, .string s] w fun en w' => en = .returned (.bool true) ∧ Upd noBlk w w' := lawSoupReads A cap l s hl hc (by omega) w hsh h
end Go.Proofs.YtojdgdeefhndiaaGreatDoor
