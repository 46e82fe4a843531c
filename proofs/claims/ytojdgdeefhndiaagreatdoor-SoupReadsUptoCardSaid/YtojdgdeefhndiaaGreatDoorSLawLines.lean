/- Walks of the laws of the polygon files: lines, a string of bounded size. -/
import Derived.Test.YtojdgdeefhndiaaGreatDoorSMod
import Derived.Deep.DeepCutAuto
import Derived.Deep.CutBlock
namespace Go.Proofs.YtojdgdeefhndiaaGreatDoor
open Go Go.RowKit Sp
set_option maxRecDepth 100000

def numsV : Array Value := #[.string ⟨#[48]⟩, .string ⟨#[49]⟩, .string ⟨#[50]⟩, .string ⟨#[51]⟩, .string ⟨#[45, 49]⟩, .string ⟨#[45, 50]⟩, .string ⟨#[55]⟩, .string ⟨#[50, 48, 57, 55, 49, 53, 49]⟩, .string ⟨#[50, 48, 57, 55, 49, 53, 50]⟩, .string ⟨#[45, 48]⟩, .string ⟨#[48, 48, 55]⟩, .string ⟨#[49, 50, 51, 52, 53, 54, 55, 56, 57, 48, 49, 50, 51, 52, 53]⟩, .string ⟨#[49, 50, 51, 52, 53, 54, 55, 56, 57, 48, 49, 50, 51, 52, 53, 54]⟩, .string ⟨#[120]⟩, .string ⟨#[49, 46, 53]⟩, .string ⟨#[45, 45, 49]⟩, .string ⟨#[45]⟩]
theorem numsV_get : ∀ j, j < 17 → ∃ b : ByteArray, numsV[j]? = some (.string b) ∧ b.size ≤ 16
  | 0, _ => ⟨_, rfl, by decide⟩ | 1, _ => ⟨_, rfl, by decide⟩ | 2, _ => ⟨_, rfl, by decide⟩ | 3, _ => ⟨_, rfl, by decide⟩ | 4, _ => ⟨_, rfl, by decide⟩ | 5, _ => ⟨_, rfl, by decide⟩ | 6, _ => ⟨_, rfl, by decide⟩ | 7, _ => ⟨_, rfl, by decide⟩ | 8, _ => ⟨_, rfl, by decide⟩ | 9, _ => ⟨_, rfl, by decide⟩ | 10, _ => ⟨_, rfl, by decide⟩ | 11, _ => ⟨_, rfl, by decide⟩ | 12, _ => ⟨_, rfl, by decide⟩ | 13, _ => ⟨_, rfl, by decide⟩ | 14, _ => ⟨_, rfl, by decide⟩ | 15, _ => ⟨_, rfl, by decide⟩ | 16, _ => ⟨_, rfl, by decide⟩
  | n + 17, h => absurd h (by omega)
def wordsV : Array Value := #[.string ⟨#[]⟩, .string ⟨#[35, 32, 110, 111, 116, 101]⟩, .string ⟨#[118, 118]⟩, .string ⟨#[112, 111, 108, 121]⟩, .string ⟨#[103, 32, 49]⟩, .string ⟨#[118]⟩, .string ⟨#[102]⟩, .string ⟨#[9]⟩, .string ⟨#[111, 32, 120]⟩]
theorem wordsV_get : ∀ j, j < 9 → ∃ b : ByteArray, wordsV[j]? = some (.string b) ∧ b.size ≤ 8
  | 0, _ => ⟨_, rfl, by decide⟩ | 1, _ => ⟨_, rfl, by decide⟩ | 2, _ => ⟨_, rfl, by decide⟩ | 3, _ => ⟨_, rfl, by decide⟩ | 4, _ => ⟨_, rfl, by decide⟩ | 5, _ => ⟨_, rfl, by decide⟩ | 6, _ => ⟨_, rfl, by decide⟩ | 7, _ => ⟨_, rfl, by decide⟩ | 8, _ => ⟨_, rfl, by decide⟩
  | n + 9, h => absurd h (by omega)
def endsV : Array Value := #[.string ⟨#[10]⟩, .string ⟨#[32, 35, 32, 120, 10]⟩, .string ⟨#[13, 10]⟩, .string ⟨#[10, 10]⟩]
theorem endsV_get : ∀ j, j < 4 → ∃ b : ByteArray, endsV[j]? = some (.string b) ∧ b.size ≤ 8
  | 0, _ => ⟨_, rfl, by decide⟩ | 1, _ => ⟨_, rfl, by decide⟩ | 2, _ => ⟨_, rfl, by decide⟩ | 3, _ => ⟨_, rfl, by decide⟩
  | n + 4, h => absurd h (by omega)
set_option maxHeartbeats 1500000 in
theorem lawLines_any (A : Option Addr) (cap : Nat) (l : List Quad) (poly : Bool) (hl : l.length ≤ cap) (hc : cap ≤ maxLen) (w : World) (h : RdQ w A l) :
    Calls Tryz.prog 13 #[.slice A l.length cap, .bool poly] w fun en w' => strB 10000 w en w' := by
  unfold maxLen at hc
  have H := Lib.hid h
  have HU0 : Hid (Upd noBlk w (w.alloc (.cells numsV 9))) := (Upd.refl _ _).alloc _
  have HN0 : Hid ((w.alloc (.cells numsV 9)).heap[w.heap.size]? = some (.cells numsV 9)) := heap_alloc_new _ _
  clear h
  go_enter Tryz.func13, Tryz.ntmps13
  go_wp2_with fail
  go_loopw [6, 7, 8, 9, 10, 11, 12] (fun s i _ _ _ _ _ wr => ∃ (k : Nat) (b : ByteArray), s = .string b ∧ i = .int .i64 k ∧ k ≤ l.length ∧ k ≤ 30 ∧ b.size ≤ 200 * k ∧ Upd noBlk w wr ∧ wr.heap[w.heap.size]? = some (.cells numsV 9)) (fun _ i _ _ _ _ _ _ => 30 - (intOf i).toNat)
  case atStart => exact ⟨0, _, rfl, rfl, Nat.zero_le _, Nat.zero_le _, Nat.le_refl _, HU0.out, HN0.out⟩
  case round =>
    obtain ⟨k, b, rfl, rfl, hk, hk30, hb, hu, hn⟩ := hrel
    have HU := Lib.hid hu
    have HN := Lib.hid hn
    clear hu hn
    by_cases hgo : k < l.length ∧ k < 30
    · obtain ⟨hlt, hl30⟩ := hgo
      have hlt' : ((k : Nat) : Int) < ((l.length : Nat) : Int) := by omega
      have hl30' : ((k : Nat) : Int) < 30 := by omega
      obtain ⟨bb, off, rfl, ea⟩ := H.out (by omega)
      obtain ⟨hq, hf⟩ := ea k hlt
      obtain ⟨q0, q1, q2, q3⟩ := hq.keep HU.out
      clear ea hq
      generalize l[k] = q at *
      obtain ⟨x0, x1, x2, x3⟩ := q
      simp only at q0 q1 q2 q3
      have HF := Lib.hid hf
      clear hf
      go_upto_block 2 with (go_at_call 16; refine (Mod_any _ 9 (by decide) (by decide) _).mono ?_; rintro e1 w1 ⟨rfl, rfl⟩)
      obtain ⟨w1, hw1⟩ : ∃ x, x = wr.alloc (.cells #[.int .i64 x0, .int .i64 x1, .int .i64 x2, .int .i64 x3] 53) := ⟨_, rfl⟩
      have hq1 : w1.heap[wr.heap.size]? = some (.cells #[.int .i64 x0, .int .i64 x1, .int .i64 x2, .int .i64 x3] 53) := by rw [hw1]; exact heap_alloc_new _ _
      have hu1 : Upd noBlk w w1 := by rw [hw1]; exact HU.out.alloc _
      have hn1 : w1.heap[w.heap.size]? = some (.cells numsV 9) := by rw [hw1]; exact heap_alloc_keep _ HN.out
      rw [← hw1]
      clear hw1 q0 q1 q2 q3
      have c1 : w1.cell? ⟨wr.heap.size, 1, none⟩ = some (.int .i64 x1) := by simp [World.cell?, hq1]
      have c2 : w1.cell? ⟨wr.heap.size, 2, none⟩ = some (.int .i64 x2) := by simp [World.cell?, hq1]
      have d2 : (w1.alloc (.cells wordsV 9)).cell? ⟨wr.heap.size, 2, none⟩ = some (.int .i64 x2) := cell_alloc_keep _ c2
      have d1 : (w1.alloc (.cells wordsV 9)).cell? ⟨wr.heap.size, 1, none⟩ = some (.int .i64 x1) := cell_alloc_keep _ c1
      have HQ1 := Lib.hid hq1
      have HU1 := Lib.hid hu1
      have HN1 := Lib.hid hn1
      clear hq1 hu1 hn1
      go_cut [9, 10, 30] (fun n wd _ wx => ∃ (nn : Nat) (wb : ByteArray), n = .int .i64 nn ∧ nn ≤ 5 ∧ wd = .string wb ∧ wb.size ≤ 8 ∧ Upd noBlk w wx ∧ wx.heap[wr.heap.size]? = some (.cells #[.int .i64 x0, .int .i64 x1, .int .i64 x2, .int .i64 x3] 53) ∧ wx.heap[w.heap.size]? = some (.cells numsV 9))
      case first =>
        have hm : x0 % 9 = 0 ∨ x0 % 9 = 1 ∨ x0 % 9 = 2 ∨ 3 ≤ x0 % 9 := by omega
        obtain ⟨j9, hj9⟩ : ∃ j : Nat, x1 % 9 = j := ⟨(x1 % 9).toNat, by omega⟩
        obtain ⟨j3, hj3⟩ : ∃ j : Nat, x1 % 3 = j := ⟨(x1 % 3).toNat, by omega⟩
        obtain ⟨j5, hj5⟩ : ∃ j : Nat, x2 % 5 = j := ⟨(x2 % 5).toNat, by omega⟩
        have hj9' : j9 < 9 := by omega
        have hj3' : j3 < 3 := by omega
        have hj5' : j5 < 5 := by omega
        obtain ⟨wd, hwd, hwb⟩ := short_get wordsV_get hj9' (heap_alloc_new w1 (.cells wordsV 9))
        unfold wordsV at d1 d2 hwd
        rcases hm with hm | hm | hm | hm
        · go_wp2_with (go_at_call 16; refine (Mod_any _ _ (by decide) (by decide) _).mono ?_; rintro e1 w1 ⟨rfl, rfl⟩)
          go_meet
          case rel => exact ⟨3 + j3, _, by go_num, by omega, rfl, by decide, HU1.out, HQ1.out, HN1.out⟩
        · go_wp2_with (go_at_call 16; refine (Mod_any _ _ (by decide) (by decide) _).mono ?_; rintro e1 w1 ⟨rfl, rfl⟩)
          go_meet
          case rel => exact ⟨3 + j3, _, by go_num, by omega, rfl, by decide, HU1.out, HQ1.out, HN1.out⟩
        · have hj9'' : ((j9 : Nat) : Int) < 9 := by omega
          go_wp2_with (go_at_call 16; refine (Mod_any _ _ (by decide) (by decide) _).mono ?_; rintro e1 w1 ⟨rfl, rfl⟩)
          go_meet
          case rel => exact ⟨j5, _, by go_num, by omega, rfl, hwb, HU1.out.alloc _, heap_alloc_keep _ HQ1.out, heap_alloc_keep _ HN1.out⟩
        · have e0 : (x0 % 9 == 0) = false := by rw [beq_eq_false_iff_ne]; omega
          have e1 : (x0 % 9 == 1) = false := by rw [beq_eq_false_iff_ne]; omega
          have e2 : (x0 % 9 == 2) = false := by rw [beq_eq_false_iff_ne]; omega
          go_wp2_with (go_at_call 16; refine (Mod_any _ _ (by decide) (by decide) _).mono ?_; rintro e1 w1 ⟨rfl, rfl⟩)
          go_meet
          case rel => exact ⟨3, _, by go_num, by omega, rfl, by decide, HU1.out, HQ1.out, HN1.out⟩
      case rest =>
        obtain ⟨nn, wb, rfl, hnn, rfl, hwb, hu, hq, hn⟩ := hcut
        clear c1 c2 d1 d2
        have c0 : wc.cell? ⟨wr.heap.size, 0, none⟩ = some (.int .i64 x0) := by simp [World.cell?, hq]
        have c1 : wc.cell? ⟨wr.heap.size, 1, none⟩ = some (.int .i64 x1) := by simp [World.cell?, hq]
        have c2 : wc.cell? ⟨wr.heap.size, 2, none⟩ = some (.int .i64 x2) := by simp [World.cell?, hq]
        have c3 : wc.cell? ⟨wr.heap.size, 3, none⟩ = some (.int .i64 x3) := by simp [World.cell?, hq]
        have HUC := Lib.hid hu
        have HNC := Lib.hid hn
        clear hu hq hn HQ1 HU1 HN1
        go_upto_if 49 with fail
        go_cut [9, 10] (fun n wd wx => wc = wx ∧ ∃ (nn : Nat) (wb : ByteArray), n = .int .i64 nn ∧ nn ≤ 5 ∧ wd = .string wb ∧ wb.size ≤ 8)
        case first =>
          cases poly with
          | false =>
            go_wp2_with fail
            go_meet
            case rel => exact ⟨rfl, nn, wb, rfl, hnn, rfl, hwb⟩
          | true =>
            by_cases hm5 : x0 % 5 = 0
            · go_wp2_with (go_at_call 16; refine (Mod_any _ _ (by decide) (by decide) _).mono ?_; rintro e1 w1 ⟨rfl, rfl⟩)
              go_meet
              case rel => exact ⟨rfl, 1, _, by go_num, by decide, rfl, by decide⟩
            · have e5 : (x0 % 5 == 0) = false := by rw [beq_eq_false_iff_ne]; exact hm5
              go_wp2_with (go_at_call 16; refine (Mod_any _ _ (by decide) (by decide) _).mono ?_; rintro e1 w1 ⟨rfl, rfl⟩)
              go_meet
              case rel => exact ⟨rfl, nn, _, rfl, hnn, rfl, by decide⟩
        case rest =>
          clear hnn hwb nn wb
          obtain ⟨rfl, nn, wb, rfl, hnn, rfl, hwb⟩ := hcut
          go_wp2_with fail
          go_loopw [10, 11, 12] (fun wd kk _ wx => wc = wx ∧ ∃ (j : Nat) (wb : ByteArray), kk = .int .i64 j ∧ j ≤ nn ∧ wd = .string wb ∧ wb.size ≤ 8 + 17 * j) (fun _ kk _ _ => nn - (intOf kk).toNat)
          case atStart => exact ⟨rfl, 0, wb, rfl, Nat.zero_le _, rfl, hwb⟩
          case round =>
            clear hwb wb
            obtain ⟨rfl, j, wb, rfl, hj, rfl, hwb⟩ := hrel
            by_cases hjn : j < nn
            · have hjn' : ((j : Nat) : Int) < ((nn : Nat) : Int) := by omega
              go_upto_region 26 with (go_at_call 16; refine (Mod_any _ _ (by decide) (by decide) _).mono ?_; rintro e1 w1 ⟨rfl, rfl⟩)
              obtain ⟨m4, hm4⟩ : ∃ m : Nat, wrap64 (x2 + wrap64 ((j : Int) * x3)) % 4 = m := ⟨(wrap64 (x2 + wrap64 ((j : Int) * x3)) % 4).toNat, by omega⟩
              have hm4' : m4 < 17 := by omega
              rw [hm4]
              clear hm4
              go_cut [74] (fun tt wx => wc = wx ∧ ∃ c : Bool, tt = .bool c)
              case first =>
                by_cases h23 : x1.tmod 23 = 0
                · have e23 : (x1.tmod 23 == 0) = true := by rw [h23]; rfl
                  clear h23
                  cases h1 : ((j : Int) == 1) <;>
                    (go_wp2_with fail
                     go_meet
                     case rel => exact ⟨rfl, _, rfl⟩)
                · have e23 : (x1.tmod 23 == 0) = false := by rw [beq_eq_false_iff_ne]; exact h23
                  clear h23
                  go_wp2_with fail
                  go_meet
                  case rel => exact ⟨rfl, _, rfl⟩
              case rest =>
                obtain ⟨rfl, c, rfl⟩ := hcut
                go_upto_if 74 with fail
                go_cut [12] (fun m wx => wc = wx ∧ ∃ mm : Nat, m = .int .i64 mm ∧ mm < 17)
                case first =>
                  cases c with
                  | false =>
                    go_wp2_with fail
                    go_meet
                    case rel => exact ⟨rfl, m4, rfl, hm4'⟩
                  | true =>
                    obtain ⟨m5, hm5⟩ : ∃ m : Nat, x3 % 17 = m := ⟨(x3 % 17).toNat, by omega⟩
                    go_wp2_with (go_at_call 16; refine (Mod_any _ _ (by decide) (by decide) _).mono ?_; rintro e1 w1 ⟨rfl, rfl⟩)
                    go_meet
                    case rel => exact ⟨rfl, m5, rfl, by omega⟩
                case rest =>
                  clear hm4' m4
                  obtain ⟨rfl, mm, rfl, hmm⟩ := hcut
                  go_upto_region 28 with fail
                  go_cut [90] (fun tt wx => wc = wx ∧ ∃ c : Bool, tt = .bool c)
                  case first =>
                    cases poly with
                    | false =>
                      go_wp2_with fail
                      go_meet
                      case rel => exact ⟨rfl, _, rfl⟩
                    | true =>
                      cases hw : (wb.toList == [112, 111, 108, 121]) with
                      | false =>
                        go_wp2_with fail
                        go_meet
                        case rel => exact ⟨rfl, _, rfl⟩
                      | true =>
                        go_wp2_with fail
                        go_meet
                        case rel => exact ⟨rfl, _, rfl⟩
                  case rest =>
                    obtain ⟨rfl, c2, rfl⟩ := hcut
                    go_upto_if 90 with fail
                    go_cut [12] (fun m wx => wc = wx ∧ ∃ mm : Nat, m = .int .i64 mm ∧ mm < 17)
                    case first =>
                      cases c2 with
                      | false =>
                        go_wp2_with fail
                        go_meet
                        case rel => exact ⟨rfl, mm, rfl, hmm⟩
                      | true =>
                        go_wp2_with fail
                        go_meet
                        case rel => exact ⟨rfl, 3, rfl, by decide⟩
                    case rest =>
                      clear hmm mm
                      obtain ⟨rfl, mm, rfl, hmm⟩ := hcut
                      have hmm' : ((mm : Nat) : Int) < 17 := by omega
                      obtain ⟨wd, hwd, hwe⟩ := short_get numsV_get hmm HNC.out
                      go_wp2_with fail
                      refine ⟨⟨trivial, j + 1, _, by go_num, hjn, rfl, ?_⟩, by simp [intOf]; omega⟩
                      have e1 : (⟨#[32]⟩ : ByteArray).size = 1 := rfl
                      simp only [ba_size, e1]; omega
            · have hjn' : ¬ ((j : Nat) : Int) < ((nn : Nat) : Int) := by omega
              obtain ⟨j4, hj4⟩ : ∃ j : Nat, x3 % 4 = j := ⟨(x3 % 4).toNat, by omega⟩
              have hj4' : j4 < 4 := by omega
              have hj4'' : ((j4 : Nat) : Int) < 4 := by omega
              obtain ⟨wd, hwd, hwe⟩ := short_get endsV_get hj4' (heap_alloc_new wc (.cells endsV 9))
              have d3 : (wc.alloc (.cells endsV 9)).cell? ⟨wr.heap.size, 3, none⟩ = some (.int .i64 x3) := cell_alloc_keep _ c3
              unfold endsV at d3 hwd
              go_wp2_with (go_at_call 16; refine (Mod_any _ _ (by decide) (by decide) _).mono ?_; rintro e1 w1 ⟨rfl, rfl⟩)
              refine ⟨⟨k + 1, _, rfl, by go_num, hlt, hl30, ?_, HUC.out.alloc _, heap_alloc_keep _ HNC.out⟩, by simp [intOf]; omega⟩
              rw [ba_size, ba_size]; omega
    · by_cases hlt : k < l.length
      · have hlt' : ((k : Nat) : Int) < ((l.length : Nat) : Int) := by omega
        have hl30' : ¬ ((k : Nat) : Int) < 30 := by omega
        go_wp2_with fail
        go_ret
        exact ⟨b, rfl, by omega, HU.out⟩
      · have hlt' : ¬ ((k : Nat) : Int) < ((l.length : Nat) : Int) := by omega
        go_wp2_with fail
        go_ret
        exact ⟨b, rfl, by omega, HU.out⟩
end Go.Proofs.YtojdgdeefhndiaaGreatDoor
