/- From the row's condition to the library's table of powers of ten. No condition. Plain laws of the polygon files: the places of what was read are in increasing order. No condition. Walks of the program of the polygon files: wrong. Walks of the program of the polygon files: line. Walks of the program of the polygon files: fixed. -/
import Derived.Test.YtojdgdeefhndiaaGreatDoorM27
import Derived.Test.YtojdgdeefhndiaaGreatDoorM42
import Derived.LaidSub
import Derived.Test.YtojdgdeefhndiaaGreatDoorM25
import Derived.Test.YtojdgdeefhndiaaGreatDoorM28
import Derived.Test.YtojdgdeefhndiaaGreatDoorM8
import Derived.Test.YtojdgdeefhndiaaGreatDoorM29
namespace Go.Proofs.YtojdgdeefhndiaaGreatDoor
open Go Go.RowKit
set_option maxRecDepth 100000
theorem pow_of_laid {W : World} (h : laidMetH Tryz.prog Rows.soupBackRow.laid W) : Pow W := by
  have h2 := laidMetH.filter (fun x => x.1 == "internal/strconv.uint64pow10") h
  have e : Rows.soupBackRow.laid.filter (fun x => x.1 == "internal/strconv.uint64pow10") = [("internal/strconv.uint64pow10", Lib.tabData .u64 Lib.pow10Tab)] := by kernel_rfl
  rw [e] at h2
  have h3 : laidMet Tryz.prog [("internal/strconv.uint64pow10", Lib.tabData .u64 Lib.pow10Tab)] W := h2
  exact Lib.tabIs_of_head (g := 5) (t := 189) (e := 104) (n := 20) (by kernel_rfl) (by kernel_rfl) (by kernel_rfl) (by kernel_rfl) (by kernel_rfl) (by kernel_rfl) h3
end Go.Proofs.YtojdgdeefhndiaaGreatDoor
namespace Go.Proofs.YtojdgdeefhndiaaGreatDoor
open Go Go.RowKit
namespace Sp
/-- In increasing order, and all below. -/
def upTo (ps : List Poly) (i : Nat) : Prop := ps.Pairwise (fun p q => p.2 < q.2) ∧ ∀ p, p ∈ ps → p.2 < i
theorem upTo.mono {ps : List Poly} {i j : Nat} (h : upTo ps i) (hij : i ≤ j) : upTo ps j := ⟨h.1, fun p hp => by have := h.2 p hp; omega⟩
theorem upTo.snoc {ps : List Poly} {i j : Nat} (h : upTo ps i) (c : List Pt) (hij : i < j) : upTo (ps ++ [(c, i)]) j := by
  refine ⟨List.pairwise_append.2 ⟨h.1, by simp, fun p hp q hq => ?_⟩, fun p hp => ?_⟩
  · rw [List.mem_singleton] at hq; subst hq; exact h.2 p hp
  · rw [List.mem_append, List.mem_singleton] at hp
    rcases hp with hp | rfl
    · have := h.2 p hp; omega
    · exact hij
theorem upTo.addLast {ps : List Poly} {i : Nat} (h : upTo ps i) (p : Pt) : upTo (addLast ps p) i := by
  unfold Sp.addLast
  cases hl : ps.getLast? with
  | none => exact h
  | some q =>
    obtain ⟨d, rfl⟩ := List.getLast?_eq_some_iff.1 hl
    simp only [List.dropLast_concat]
    obtain ⟨h1, h2⟩ := h
    rw [List.pairwise_append] at h1
    refine ⟨List.pairwise_append.2 ⟨h1.1, by simp, fun a ha b hb => ?_⟩, fun a ha => ?_⟩
    · rw [List.mem_singleton] at hb; subst hb; exact h1.2.2 a ha q (by simp)
    · rw [List.mem_append, List.mem_singleton] at ha
      rcases ha with ha | rfl
      · exact h2 a (by simp [ha])
      · exact h2 q (by simp)
theorem oneGo_up : ∀ (ls : List Bytes) (i : Nat) (cs : List Pt) (ps out : List Poly), oneGo i ls cs ps = .ok out → upTo ps i → out.Pairwise (fun p q => p.2 < q.2)
  | [], i, cs, ps, out, h, h1 => by rw [oneGo] at h; cases h; exact h1.1
  | l :: r, i, cs, ps, out, h, h1 => by
    rw [oneGo] at h
    split at h
    · exact oneGo_up r _ _ _ _ h (h1.mono (by omega))
    · split at h
      · split at h
        · cases h
        · exact oneGo_up r _ _ _ _ h (h1.mono (by omega))
      · split at h
        · split at h
          · cases h
          · split at h
            · cases h
            · exact oneGo_up r _ _ _ _ h (h1.snoc _ (by omega))
        · cases h
theorem twoGo_up : ∀ (ls : List Bytes) (i left : Nat) (ps out : List Poly), twoGo i ls left ps = .ok out → upTo ps i → out.Pairwise (fun p q => p.2 < q.2)
  | [], i, left, ps, out, h, h1 => by
    rw [twoGo] at h
    split at h
    · cases h; exact h1.1
    · cases h
  | l :: r, i, left, ps, out, h, h1 => by
    rw [twoGo] at h
    split at h
    · exact twoGo_up r _ _ _ _ h (h1.mono (by omega))
    · split at h
      · split at h
        · cases h
        · split at h
          · cases h
          · exact twoGo_up r _ _ _ _ h (h1.snoc _ (by omega))
      · split at h
        · cases h
        · exact twoGo_up r _ _ _ _ h ((h1.addLast _).mono (by omega))
theorem polysB_up (s : Bytes) : ∀ (k at_ : Nat) (acc out : List Poly), polysB s at_ k acc = .ok out → upTo acc at_ → out.Pairwise (fun p q => p.2 < q.2)
  | 0, at_, acc, out, h, h1 => by
    rw [polysB] at h
    split at h
    · cases h; exact h1.1
    · cases h
  | k + 1, at_, acc, out, h, h1 => by
    rw [polysB] at h
    split at h
    · cases h
    · split at h
      · cases h
      · split at h
        · cases h
        · exact polysB_up s k _ _ _ h (h1.snoc _ (by omega))
theorem readS_up {s : Bytes} {out : List Poly} (h : readS s = .ok out) : out.Pairwise (fun p q => p.2 < q.2) := by
  have h0 : ∀ i, upTo [] i := fun i => ⟨List.Pairwise.nil, fun p hp => by cases hp⟩
  unfold readS at h
  split at h
  · unfold threeS at h
    split at h
    · cases h
    · exact polysB_up s _ _ _ _ h (h0 _)
  · split at h
    · exact twoGo_up _ _ _ _ _ h (h0 _)
    · exact oneGo_up _ _ _ _ _ h (h0 _)
end Sp
end Go.Proofs.YtojdgdeefhndiaaGreatDoor
namespace Go.Proofs.YtojdgdeefhndiaaGreatDoor
open Go Go.RowKit Sp
set_option maxRecDepth 100000
theorem wrong1_any (x y z : Int) (w : World) : Calls Tryz.prog 54 #[.agg #[.int .i64 x, .int .i64 y, .int .i64 z]] w fun en w' => en = .returned (.bool (!inR (x, y, z))) ∧ Upd noBlk w w' := by
  go_enter Tryz.func54, Tryz.ntmps54
  go_wp2_with fail
  refine (inRange_any x y z _).mono ?_
  rintro e1 w1 ⟨rfl, u1⟩
  go_wp2_with fail
  go_ret
  exact ⟨rfl, ((Upd.refl _ _).alloc _).trans u1⟩
set_option maxHeartbeats 400000 in
theorem indexFuncP_any (A : Option Addr) (cap : Nat) (l : List Pt) (hl : ((l.length : Nat) : Int) ≤ 4294967296) (w : World) (h : 0 < l.length → ∃ b off, A = some ⟨b, off, none⟩ ∧ ∀ j (h : j < l.length), PtAt w b (off + j * 3) l[j]) :
    Calls Tryz.prog 82 #[.slice A l.length cap, .func (.func 54) #[] #[]] w fun en w' => ∃ z : Int, en = .returned (.int .i64 z) ∧ decide (0 ≤ z) = l.any (fun x => !inR x) ∧ Upd noBlk w w' := by
  have H := Lib.hid h
  clear h
  go_enter Tryz.func82, Tryz.ntmps82
  go_wp2_with fail
  go_loopw [4, 5, 8] (fun _ _ i wr => ∃ k : Nat, i = .int .i64 k ∧ k ≤ l.length ∧ (∀ x, x ∈ l.take k → inR x = true) ∧ Upd noBlk w wr) (fun _ _ i _ => l.length - (intOf i).toNat)
  case atStart => exact ⟨0, rfl, Nat.zero_le _, by simp, Upd.refl _ _⟩
  case round =>
    obtain ⟨k, rfl, hk, ha, hu⟩ := hrel
    have HU := Lib.hid hu
    have HX := Lib.hid ha
    clear hu ha
    by_cases hlt : k < l.length
    · obtain ⟨b, off, rfl, ea⟩ := H.out (by omega)
      obtain ⟨c0, c1, c2⟩ := (ea k hlt).keep HU.out
      have hlt' : ((k : Nat) : Int) < ((l.length : Nat) : Int) := by omega
      have HM : Hid (l[k] ∈ l) := List.getElem_mem hlt
      have HT : Hid (l.take (k + 1) = l.take k ++ [l[k]]) := List.take_succ_eq_append_getElem hlt
      clear ea
      generalize l[k] = pt at *
      obtain ⟨x, y, z⟩ := pt
      simp only at c0 c1 c2
      rcases hn : inR (x, y, z) with _ | _
      · have hcall : ∀ w', Calls Tryz.prog 54 #[.agg #[.int .i64 x, .int .i64 y, .int .i64 z]] w' fun en w'' => en = .returned (.bool true) ∧ Upd noBlk w' w'' := by
          intro w'; have := wrong1_any x y z w'; rwa [hn] at this
        have HC := Lib.hid hcall
        have HR : Hid (l.any (fun x => !inR x) = true) := by
          show _ = _; rw [List.any_eq_true]; exact ⟨_, HM.out, by rw [hn]; rfl⟩
        clear hcall hn
        go_wp2_with (go_at_call 54; refine (HC.out _).mono ?_; rintro e w2 ⟨rfl, u2⟩)
        go_ret
        exact ⟨_, rfl, by rw [HR.out]; simp, HU.out.trans u2⟩
      · have hcall : ∀ w', Calls Tryz.prog 54 #[.agg #[.int .i64 x, .int .i64 y, .int .i64 z]] w' fun en w'' => en = .returned (.bool false) ∧ Upd noBlk w' w'' := by
          intro w'; have := wrong1_any x y z w'; rwa [hn] at this
        have HC := Lib.hid hcall
        have HN : Hid (∀ x, x ∈ l.take (k + 1) → inR x = true) := by
          intro x hx
          rw [HT.out, List.mem_append] at hx
          rcases hx with hx | hx
          · exact HX.out x hx
          · rw [List.mem_singleton] at hx; rw [hx]; exact hn
        clear hcall hn
        go_wp2_with (go_at_call 54; refine (HC.out _).mono ?_; rintro e w2 ⟨rfl, u2⟩; have U2 := Lib.hid (HU.out.trans u2); clear u2)
        go_roundw
        case rel => exact ⟨k + 1, by go_num, hlt, HN.out, U2.out⟩
        case measure => simp [intOf]; omega
    · have HR : Hid (l.any (fun x => !inR x) = false) := by
        show _ = _; rw [List.any_eq_false]
        intro x hx
        have : x ∈ l.take k := by rw [List.take_of_length_le (by omega)]; exact hx
        rw [HX.out x this]; simp
      have hlt' : ¬ ((k : Nat) : Int) < ((l.length : Nat) : Int) := by omega
      go_wp2
      go_ret
      exact ⟨_, rfl, by rw [HR.out]; rfl, HU.out⟩
set_option maxHeartbeats 400000 in
theorem containsFuncP_any (A : Option Addr) (cap : Nat) (l : List Pt) (hl : ((l.length : Nat) : Int) ≤ 4294967296) (w : World) (h : 0 < l.length → ∃ b off, A = some ⟨b, off, none⟩ ∧ ∀ j (h : j < l.length), PtAt w b (off + j * 3) l[j]) :
    Calls Tryz.prog 53 #[.slice A l.length cap, .func (.func 54) #[] #[]] w fun en w' => en = .returned (.bool (l.any (fun x => !inR x))) ∧ Upd noBlk w w' := by
  go_enter Tryz.func53, Tryz.ntmps53
  go_wp2_with fail
  refine (indexFuncP_any A cap l hl w h).mono ?_
  rintro e w1 ⟨z, rfl, hz, u1⟩
  have HZ := Lib.hid hz
  clear hz
  go_wp2
  go_ret
  exact ⟨by rw [← HZ.out]; rfl, u1⟩
set_option maxHeartbeats 1000000 in
theorem pwrong_any (v : Value) (ps : List Poly) (hn : ps.length ≤ 100) (hpl : ∀ p, p ∈ ps → p.1.length ≤ 4294967296) (w : World) (h : RdPolys w v ps) :
    Calls Tryz.prog 33 #[v] w fun en w' => en = .returned (.int .i64 (firstWrong ps)) ∧ Upd noBlk w w' := by
  obtain ⟨A, cap, rfl, hr⟩ := h
  have HR := Lib.hid hr
  have HPL := Lib.hid hpl
  have hlen : ((ps.length : Nat) : Int) ≤ 100 := by omega
  clear hr hpl
  go_enter Tryz.func33, Tryz.ntmps33
  go_wp2_with fail
  go_loopw [4, 10, 14, 19, 24] (fun _ i _ _ _ wr => ∃ k : Nat, i = .int .i64 k ∧ k ≤ ps.length ∧ firstWrong (ps.drop k) = firstWrong ps ∧ Upd noBlk w wr) (fun _ i _ _ _ _ => ps.length - (intOf i).toNat)
  case atStart => exact ⟨0, rfl, Nat.zero_le _, rfl, Upd.refl _ _⟩
  case round =>
    obtain ⟨k, rfl, hk, hfw, hu⟩ := hrel
    have HF := Lib.hid hfw
    have HU := Lib.hid hu
    clear hfw hu
    by_cases hlt : k < ps.length
    · have hlt' : ((k : Nat) : Int) < ((ps.length : Nat) : Int) := by omega
      obtain ⟨b, off, rfl, f1⟩ := HR.out (by omega)
      obtain ⟨pv, c10, c11, r1⟩ := f1 k hlt
      have d0 := HU.out.cell c10 id
      have d1 := HU.out.cell c11 id
      have r2 := r1.keep HU.out
      have HPK := Lib.hid (HPL.out _ (List.getElem_mem hlt))
      have HN : Hid (wrongS ps[k].1 = 0 → firstWrong (ps.drop (k + 1)) = firstWrong ps) := fun h0 => by rw [← firstWrong_drop hlt h0]; exact HF.out
      have HA : Hid (wrongS ps[k].1 ≠ 0 → wrongS ps[k].1 = firstWrong ps) := fun h0 => by rw [← firstWrong_at hlt h0]; exact HF.out
      clear f1 c10 c11 r1
      generalize ps[k] = pk at *
      obtain ⟨pts, place⟩ := pk
      obtain ⟨B, cp, rfl, e1⟩ := r2
      simp only at d0 d1 HN HA HPK
      have hbk : (wr.alloc (.cells #[.slice B pts.length cp, .int .i64 place] 43)).heap[wr.heap.size]? = some (.cells #[.slice B pts.length cp, .int .i64 place] 43) := heap_alloc_new _ _
      have HU1 : Hid (Upd noBlk w (wr.alloc (.cells #[.slice B pts.length cp, .int .i64 place] 43))) := HU.out.alloc _
      have hpl : ((pts.length : Nat) : Int) ≤ 4294967296 := by have := HPK.out; omega
      have HCF := Lib.hid (containsFuncP_any B cp pts hpl (wr.alloc (.cells #[.slice B pts.length cp, .int .i64 place] 43)) (fun h0 => by
        obtain ⟨b2, off2, e2, e3⟩ := e1 h0
        exact ⟨b2, off2, e2, fun j hj => (e3 j hj).keep ((Upd.refl _ _).alloc _)⟩))
      clear e1
      by_cases h3 : pts.length < 3
      · have h3' : ((pts.length : Nat) : Int) < 3 := by omega
        have HW : Hid (firstWrong ps = 11) := by
          have h1 : wrongS pts = 11 := by unfold wrongS; rw [if_pos h3]
          show _ = _; rw [← HA.out (by omega), h1]
        clear h3
        go_wp2_with fail
        go_ret
        exact ⟨by rw [HW.out]; rfl, HU1.out⟩
      · have h3' : ¬ ((pts.length : Nat) : Int) < 3 := by omega
        by_cases h64 : 64 < pts.length
        · have h64' : (64 : Int) < ((pts.length : Nat) : Int) := by omega
          have HW : Hid (firstWrong ps = 2) := by
            have h1 : wrongS pts = 2 := by unfold wrongS; rw [if_neg h3, if_pos h64]
            show _ = _; rw [← HA.out (by omega), h1]
          clear h3 h64
          go_wp2_with fail
          go_ret
          exact ⟨by rw [HW.out]; rfl, HU1.out⟩
        · have h64' : ¬ (64 : Int) < ((pts.length : Nat) : Int) := by omega
          have HWS : Hid (wrongS pts = if pts.all inR then 0 else 3) := by show _ = _; unfold wrongS; rw [if_neg h3, if_neg h64]
          have HAA : Hid (pts.any (fun x => !inR x) = !pts.all inR) := by show _ = _; rw [List.not_all_eq_any_not]
          clear h3 h64
          rcases hall : pts.all inR with _ | _
          · have hcf := HCF.out
            rw [HAA.out, hall] at hcf
            have HCG := Lib.hid hcf
            have HW : Hid (firstWrong ps = 3) := by
              have h1 : wrongS pts = 3 := by rw [HWS.out, hall]; rfl
              show _ = _; rw [← HA.out (by omega), h1]
            clear hcf hall
            go_wp2_with fail
            refine HCG.out.mono ?_
            rintro e1 w2 ⟨rfl, u2⟩
            have U2 := Lib.hid (HU1.out.trans u2)
            clear u2
            go_wp2_with fail
            go_ret
            exact ⟨by rw [HW.out]; rfl, U2.out⟩
          · have hcf := HCF.out
            rw [HAA.out, hall] at hcf
            have HCG := Lib.hid hcf
            have HW : Hid (firstWrong (ps.drop (k + 1)) = firstWrong ps) := HN.out (by rw [HWS.out, hall]; rfl)
            clear hcf hall
            go_wp2_with fail
            refine HCG.out.mono ?_
            rintro e1 w2 ⟨rfl, u2⟩
            have U2 := Lib.hid (HU1.out.trans u2)
            clear u2
            go_wp2_with fail
            exact ⟨⟨k + 1, by go_num, hlt, HW.out, U2.out⟩, by simp [intOf]; omega⟩
    · obtain rfl : k = ps.length := by omega
      have HW : Hid (firstWrong ps = 0) := by show _ = _; rw [← HF.out, List.drop_length]; rfl
      go_wp2_with fail
      go_ret
      exact ⟨by rw [HW.out]; rfl, HU.out⟩
end Go.Proofs.YtojdgdeefhndiaaGreatDoor
namespace Go.Proofs.YtojdgdeefhndiaaGreatDoor
open Go Go.RowKit Sp Bg
set_option maxRecDepth 100000
/-- A slice that reads as numbers. -/
def RdN (w : World) (v : Value) (ns : List Nat) : Prop := ∃ A cap, v = .slice A ns.length cap ∧ (0 < ns.length → ∃ b off, A = some ⟨b, off, none⟩ ∧ ∀ j (h : j < ns.length), w.cell? ⟨b, off + j, none⟩ = some (.int .i64 (ns[j] : Nat)))
def wordL (word : Bytes) : List Bytes := if word = [] then [] else [word]
/-- A line. -/
def lineB (word : Bytes) (ns : List Nat) : Bytes := joinW (wordL word ++ ns.map dec) ++ [10]
set_option maxHeartbeats 1000000 in
theorem line_any (word : Bytes) (v : Value) (ns : List Nat) (hw : word = [] ∨ word = wV ∨ word = wF ∨ word = wPoly) (hn : ns.length ≤ 100) (hm : ∀ n, n ∈ ns → n < 16777216) (h0 : word ≠ [] ∨ ns ≠ []) (w : World) (hp : Pow w) (h : RdN w v ns) :
    Calls Tryz.prog 57 #[.string (bs word), v] w fun en w' => strR (lineB word ns) w en w' := by
  obtain ⟨A, cap, rfl, hr⟩ := h
  have HR := Lib.hid hr
  have HP := Lib.hid hp
  have HM := Lib.hid hm
  have H0 := Lib.hid h0
  have hlen : ((ns.length : Nat) : Int) ≤ 100 := by omega
  clear hr hp hm h0
  go_enter Tryz.func57, Tryz.ntmps57
  go_upto_if 9 with fail
  go_cut [5, 9] (fun wv _ wx => wx.ownsRow w.heap.size 9 1 wv (wordL word).length (wsV (wordL word)) ∧ Upd noBlk w wx)
  case first =>
    by_cases hw0 : word = []
    · subst hw0
      have e1 : (bs ([] : Bytes)).toList.isEmpty = true := by kernel_rfl
      clear hw
      rw [e1]
      go_wp2_with fail
      go_meet
      case rel => exact ⟨World.ownsRow_nil _ _ _ _, Upd.refl _ _⟩
    · have e1 : (bs word).toList.isEmpty = false := by
        rcases hw with rfl | rfl | rfl | rfl
        · exact absurd rfl hw0
        all_goals kernel_rfl
      have hwl : wordL word = [word] := by unfold wordL; rw [if_neg hw0]
      obtain ⟨g, cp, w', r, o, u⟩ := append_str (v := .slice none 0 0) (ls := []) (Upd.refl noBlk w) (World.ownsRow_nil _ _ _ _) word (by simp)
      clear hw
      have R := Lib.hid r
      rw [e1]
      go_wp2_with (at_builtin; refine wpList_append_run rfl _ _ _ rfl rfl rfl R.out ?_)
      go_meet
      case rel => exact ⟨by rw [hwl]; exact o, u⟩
  case rest =>
    obtain ⟨ho, hu⟩ := hcut
    have HO := Lib.hid ho
    have HU := Lib.hid hu
    clear ho hu
    have HW1 : Hid ((wordL word).length ≤ 1 ∧ ∀ x, x ∈ wordL word → x.length ≤ 100) := by
      unfold wordL
      rcases hw with rfl | rfl | rfl | rfl
      · exact ⟨by simp, fun x hx => by simp at hx⟩
      all_goals exact ⟨by decide, by decide⟩
    go_wp2_with fail
    go_loopw [5, 7, 16] (fun wv _ i wr => ∃ k : Nat, i = .int .i64 k ∧ k ≤ ns.length ∧ wr.ownsRow w.heap.size 9 1 wv (wordL word ++ (ns.take k).map dec).length (wsV (wordL word ++ (ns.take k).map dec)) ∧ Upd noBlk w wr) (fun _ _ i _ => ns.length - (intOf i).toNat)
    case atStart => exact ⟨0, rfl, Nat.zero_le _, by rw [List.take_zero, List.map_nil, List.append_nil]; exact HO.out, HU.out⟩
    case round =>
      obtain ⟨k, rfl, hk, ho, hu⟩ := hrel
      have HO := Lib.hid ho
      have HU := Lib.hid hu
      have HL : Hid ((wordL word ++ (ns.take k).map dec).length ≤ 101) := by show _ ≤ _; rw [List.length_append, List.length_map, List.length_take]; have := HW1.out.1; omega
      clear ho hu
      by_cases hlt : k < ns.length
      · have hlt' : ((k : Nat) : Int) < ((ns.length : Nat) : Int) := by omega
        obtain ⟨b, off, rfl, ea⟩ := HR.out (by omega)
        have c0 := HU.out.cell (ea k hlt) id
        have HI := Lib.hid (Itoa_any ns[k] (HM.out _ (List.getElem_mem hlt)) wr (HP.out.keep HU.out))
        have HT : Hid (wordL word ++ (ns.take (k + 1)).map dec = (wordL word ++ (ns.take k).map dec) ++ [dec ns[k]]) := by show _ = _; rw [List.take_succ_eq_append_getElem hlt, List.map_append, List.append_assoc]; rfl
        clear ea
        generalize ns[k] = n at *
        go_upto_region 7 with fail
        go_wp2_with fail
        refine HI.out.mono ?_
        rintro e1 w3 ⟨rfl, u3⟩
        obtain ⟨g, cp, w', r, o, u⟩ := append_str (HU.out.trans u3) (ownsRow_upd HO.out u3) (dec n) (by have := HL.out; omega)
        have R := Lib.hid r
        have O := Lib.hid o
        have U := Lib.hid u
        clear r o u u3
        go_wp2_with (at_builtin; refine wpList_append_run rfl _ _ _ rfl rfl rfl R.out ?_)
        have hln : (wordL word ++ List.map dec (List.take k ns)).length = (wordL word).length + k := by simp; omega
        have oo := O.out
        rw [hln] at oo
        exact ⟨⟨k + 1, by go_num, hlt, by rw [HT.out]; exact oo, U.out⟩, by simp [intOf]; omega⟩
      · obtain rfl : k = ns.length := by omega
        have HK : Hid (∀ x, x ∈ wordL word ++ (ns.take ns.length).map dec → x.length ≤ 100) := fun x hx => by
          rw [List.mem_append] at hx
          rcases hx with hx | hx
          · exact HW1.out.2 x hx
          · obtain ⟨n, hn, rfl⟩ := List.mem_map.1 hx
            have := dec_len (HM.out n (List.mem_of_mem_take hn)); omega
        have hsz : (bs (joinW (wordL word ++ ns.map dec))).size ≤ 10300 := by
          have h1 := joinW_length _ 100 HK.out
          have h2 := HL.out
          rw [List.take_length] at h1 h2
          rw [bs_size]
          exact Nat.le_trans h1 (by omega)
        have HJ := Lib.hid (Join_any (w0 := w) HO.out (by
          rw [List.take_length]
          intro e
          rw [List.append_eq_nil_iff, List.map_eq_nil_iff] at e
          rcases H0.out with h | h
          · have := e.1; unfold wordL at this; rw [if_neg h] at this; cases this
          · exact h e.2) HK.out (by have := HL.out; omega))
        rw [List.take_length] at HJ
        go_wp2_with fail
        refine HJ.out.mono ?_
        rintro e1 w3 ⟨rfl, u3⟩
        go_wp2_with fail
        go_ret
        exact ⟨by unfold lineB; rw [← bs_append]; rfl, HU.out.trans u3⟩
end Go.Proofs.YtojdgdeefhndiaaGreatDoor
namespace Go.Proofs.YtojdgdeefhndiaaGreatDoor
open Go Go.RowKit Sp Bg
set_option maxRecDepth 100000
theorem make_by (n : Nat) (hn : n ≤ 1000000) (w : World) : ∃ w', (Instr.makeSlice 33 (.int .i64 (n : Int)) (.int .i64 (n : Int))).run Tryz.prog w = .ok (.slice (some ⟨w.heap.size, 0, none⟩) n n) w' ∧
    RowB w' w.heap.size (List.replicate n 0) ∧ Upd noBlk w w' ∧ w.heap.size < w'.heap.size := by
  obtain ⟨i0, hi, hz0, hz1, hz2⟩ := info_parts info_u8
  have h := run_make (P := Tryz.prog) w 33 5 i0 (.int .u8 0) Tryz.underlying33 hi hz0 .i64 .i64 (n : Int) (n : Int) (by omega) (by omega) (by rw [hz2]; omega) (by omega)
  rw [hz1] at h
  refine ⟨_, h, fun j hj => ?_, (Upd.refl _ _).alloc _, by simp⟩
  rw [List.length_replicate] at hj
  have hh := heap_alloc_new w (.cells (madeCells (Value.int .u8 0).cells ((n : Int).toNat * 1)) 5)
  constructor
  · rw [cell_of_row _ _ _ _ _ _ hh]
    simp [madeCells, hj, Value.cells, Nat.mod_one]
  · simp only [World.frozen?, hh]
    simp
theorem leB_get : ∀ (n v k : Nat) (h : k < (leB n v).length), (leB n v)[k] = UInt8.ofNat (v / 256 ^ k)
  | 0, v, k, h => by simp [leB] at h
  | n + 1, v, 0, h => by simp [leB]
  | n + 1, v, k + 1, h => by
    simp only [leB, List.getElem_cons_succ]
    rw [leB_get n (v / 256) k, Nat.div_div_eq_div_mul, Nat.pow_succ, Nat.mul_comm (256 ^ k)]
theorem row_step {l : Bytes} {n k : Nat} (hl : l.length = n) (h : k < n) : (l.take k ++ List.replicate (n - k) 0).set k (l[k]'(by omega)) = l.take (k + 1) ++ List.replicate (n - (k + 1)) 0 := by
  have h1 : (l.take k).length = k := by rw [List.length_take]; omega
  rw [List.set_append_right _ _ (by omega), h1, Nat.sub_self, show n - k = (n - (k + 1)) + 1 by omega, List.replicate_succ, List.set_cons_zero, List.take_succ_eq_append_getElem (by omega), List.append_assoc]; rfl
set_option maxHeartbeats 1000000 in
theorem fixed_any (v n : Nat) (_hv : v ≤ 4294967296) (hn : n ≤ 4) (w : World) : Calls Tryz.prog 59 #[.int .i64 v, .int .i64 n] w fun en w' => strR (leB n v) w en w' := by
  obtain ⟨w1, hmk, hrow, hu1, hlt1⟩ := make_by n (by omega) w
  have HROW := Lib.hid hrow
  have HU1 := Lib.hid hu1
  have hnI : ((n : Nat) : Int) ≤ 4 := by omega
  clear hrow hu1
  go_enter Tryz.func59, Tryz.ntmps59
  go_wp2_with fail
  go_loopw [6, 11] (fun _ i wr => ∃ k : Nat, i = .int .i64 k ∧ k ≤ n ∧ RowB wr w.heap.size ((leB n v).take k ++ List.replicate (n - k) 0) ∧ Upd noBlk w wr) (fun _ i _ => n - (intOf i).toNat)
  case atStart => exact ⟨0, rfl, Nat.zero_le _, HROW.out, HU1.out⟩
  case round =>
    obtain ⟨k, rfl, hk, hr, hu⟩ := hrel
    have HR := Lib.hid hr
    have HU := Lib.hid hu
    clear hr hu
    by_cases hlt : k < n
    · have hlt' : ((k : Nat) : Int) < ((n : Nat) : Int) := by omega
      obtain ⟨r1, r2⟩ := HR.out k (by rw [List.length_append, List.length_take, List.length_replicate, leB_length]; omega)
      have hst := row_step (l := leB n v) (leB_length n v) hlt
      have hget := leB_get n v k (by rw [leB_length]; exact hlt)
      have h8 : (v : Int) / 2 ^ (8 * k) % 256 = (((leB n v)[k]'(by rw [leB_length]; exact hlt)).toNat : Nat) := by
        have e1 : (2 : Int) ^ (8 * k) = ((256 ^ k : Nat) : Int) := by rw [Int.natCast_pow, Int.pow_mul]; rfl
        have e2 : (v : Int) / ((256 ^ k : Nat) : Int) = ((v / 256 ^ k : Nat) : Int) := (Int.natCast_ediv _ _).symm
        rw [hget, e1, e2]
        generalize v / 256 ^ k = m
        simp
      have HB := Lib.hid (HR.out.set (k := k) (by rw [List.length_append, List.length_take, List.length_replicate, leB_length]; omega) ((leB n v)[k]'(by rw [leB_length]; exact hlt)))
      rw [hst] at HB
      have HU2 : Hid (Upd noBlk w (wr.setCell ⟨w.heap.size, k, none⟩ (.int .u8 (((leB n v)[k]'(by rw [leB_length]; exact hlt)).toNat : Nat)))) := HU.out.setCell (fun h => by simp only at h; omega) _
      clear hst hget
      generalize (leB n v)[k]'(by rw [leB_length]; exact hlt) = c at *
      go_wp2_with fail
      exact ⟨⟨k + 1, by go_num, hlt, HB.out, HU2.out⟩, by simp [intOf]; omega⟩
    · obtain rfl : k = n := by omega
      have hcv := RowB.conv (n := k) (cap := k) (w := wr) (N := w.heap.size) (l := leB k v) (by rw [leB_length]) (by have := HR.out; rw [Nat.sub_self, List.replicate_zero, List.append_nil, List.take_of_length_le (by rw [leB_length]; exact Nat.le_refl _)] at this; exact this)
      go_wp2_with fail
      go_ret
      exact ⟨rfl, HU.out⟩
end Go.Proofs.YtojdgdeefhndiaaGreatDoor
