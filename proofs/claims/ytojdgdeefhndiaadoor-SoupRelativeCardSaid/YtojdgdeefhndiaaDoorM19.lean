/- Walks of the reference's numbers. No condition. Walks of the reference's numbers. No condition. -/
import Derived.Test.YtojdgdeefhndiaaDoorM18
import Derived.Deep.DeepCutAuto
import Derived.Deep.CutBlock
namespace Go.Proofs.YtojdgdeefhndiaaDoor
open Go Go.RowKit Sp Bg
set_option maxRecDepth 100000

/-- What holds between the digits of a difference. -/
def MinI (A0 A1 B0 B1 : Int) : Nat → List Nat → Nat → Prop
  | 0, acc, bo => acc = [] ∧ bo = 0
  | 1, acc, bo => ∃ x : Nat, acc = [x] ∧ x < 65536 ∧ bo ≤ 1 ∧ (x : Int) = A0 - B0 + 65536 * bo
  | 2, acc, bo => ∃ x y : Nat, acc = [x, y] ∧ x < 65536 ∧ y < 65536 ∧ bo ≤ 1 ∧ (x : Int) + 65536 * y = A0 + 65536 * A1 - B0 - 65536 * B1 + 4294967296 * bo
  | _, _, _ => False
theorem MinI.bo {A0 A1 B0 B1 : Int} {k : Nat} {acc : List Nat} {bo : Nat} (h : MinI A0 A1 B0 B1 k acc bo) : bo ≤ 1 := by
  match k, h with
  | 0, h => rw [h.2]; omega
  | 1, ⟨_, _, _, h, _⟩ => exact h
  | 2, ⟨_, _, _, _, _, h, _⟩ => exact h
theorem MinI.step {A0 A1 B0 B1 : Int} {k : Nat} {acc : List Nat} {bo : Nat} (h : MinI A0 A1 B0 B1 k acc bo) (hk : k < 2) {A B : Int} (ha : A = if k = 0 then A0 else A1) (hb : B = if k = 0 then B0 else B1) {x bo' : Nat} (hx : x < 65536) (h1 : bo' ≤ 1) (he : (x : Int) = A - bo - B + 65536 * bo') :
    MinI A0 A1 B0 B1 (k + 1) (acc ++ [x]) bo' := by
  match k, hk, h with
  | 0, _, h =>
    obtain ⟨rfl, rfl⟩ := h
    simp only [if_true] at ha hb
    exact ⟨x, rfl, hx, h1, by subst ha; subst hb; rw [he]; simp⟩
  | 1, _, h =>
    obtain ⟨y, rfl, hy, h2, h3⟩ := h
    simp only [Nat.one_ne_zero, if_false] at ha hb
    exact ⟨y, x, rfl, hy, hx, h1, by subst ha; subst hb; omega⟩
theorem dg_len_le {a b : Nat} (h : b ≤ a) : (dg b).length ≤ (dg a).length := by
  rcases dg_cases a with ⟨e1, f1⟩ | ⟨e1, f1⟩ | ⟨e1, f1⟩ <;> rcases dg_cases b with ⟨e2, f2⟩ | ⟨e2, f2⟩ | ⟨e2, f2⟩ <;> rw [f1, f2] <;> simp <;> omega
theorem dg_parts (a : Nat) : ((dg a).getD 0 0 : Int) + 65536 * ((dg a).getD 1 0 : Int) = a := by
  rcases dg_cases a with ⟨e1, f1⟩ | ⟨e1, f1⟩ | ⟨e1, f1⟩ <;> rw [f1] <;> simp <;> omega
theorem MinI.fin {R S : Nat} {acc : List Nat} {bo : Nat} (hR : R < 4294967296) (hS : S ≤ R) (h : MinI ((dg R).getD 0 0) ((dg R).getD 1 0) ((dg S).getD 0 0) ((dg S).getD 1 0) (dg R).length acc bo) : trimS acc = dg (R - S) := by
  have h1 := dg_parts R
  have h2 := dg_parts S
  have h3 := dg_len_le hS
  rcases dg_cases R with ⟨e1, f1⟩ | ⟨e1, f1⟩ | ⟨e1, f1⟩
  · rw [f1] at h
    obtain ⟨rfl, _⟩ := h
    rw [show R - S = 0 by omega]; rfl
  · rw [f1] at h h1 h3
    obtain ⟨x, rfl, hx, hb, he⟩ := h
    have h4 : (dg S).getD 1 0 = 0 := by rw [List.getD_eq_getElem?_getD, List.getElem?_eq_none (by simpa using h3)]; rfl
    rw [h4] at h2
    simp at h1 he h2
    have hxx : x = R - S := by omega
    rw [trim1 x hx, hxx]
  · rw [f1] at h
    obtain ⟨x, y, rfl, hx, hy, hb, he⟩ := h
    generalize (dg S).getD 0 0 = B0 at he h2
    generalize (dg S).getD 1 0 = B1 at he h2
    simp only [List.getD_cons_zero, List.getD_cons_succ] at he
    have hxx : x + 65536 * y = R - S := by omega
    rw [trim2 x y hx hy, hxx]
set_option maxHeartbeats 800000 in
theorem minus_any (v1 v2 : Value) (R S b1 b2 : Nat) (hR : R < 4294967296) (hS : S ≤ R) (w : World) (h1 : OwnN b1 w v1 (dg R)) (h2 : OwnN b2 w v2 (dg S)) :
    Calls Tryd.prog 30 #[v1, v2] w fun en w' => numR w.heap.size (dg (R - S)) w en w' := by
  obtain ⟨A1, c1, rfl⟩ := h1.form
  obtain ⟨A2, c2, rfl⟩ := h2.form
  have H1 := Lib.hid h1
  have H2 := Lib.hid h2
  have D1 := Lib.hid (dg_lt hR)
  have D2 := Lib.hid (dg_lt (show S < 4294967296 by omega))
  have HFI : Hid (∀ acc bo, MinI ((dg R).getD 0 0) ((dg R).getD 1 0) ((dg S).getD 0 0) ((dg S).getD 1 0) (dg R).length acc bo → trimS acc = dg (R - S)) := fun acc bo h => h.fin hR hS
  have hlr := dg_le R
  clear h1 h2
  have hg : Hid (∀ (l : List Nat) (j : Nat) (h : j < l.length), j < 2 → ((l[j] : Nat) : Int) = if j = 0 then ((l.getD 0 0 : Nat) : Int) else ((l.getD 1 0 : Nat) : Int)) := fun l j h hj => by
    have hjj : j = 0 ∨ j = 1 := by omega
    rcases hjj with rfl | rfl <;> simp [h]
  have hgn : Hid (∀ (l : List Nat) (j : Nat), l.length ≤ j → j < 2 → (0 : Int) = if j = 0 then ((l.getD 0 0 : Nat) : Int) else ((l.getD 1 0 : Nat) : Int)) := fun l j h hj => by
    have hjj : j = 0 ∨ j = 1 := by omega
    rcases hjj with rfl | rfl <;> simp [List.getElem?_eq_none h]
  obtain ⟨I, hI⟩ : ∃ I : Nat → List Nat → Nat → Prop, I = MinI ((dg R).getD 0 0) ((dg R).getD 1 0) ((dg S).getD 0 0) ((dg S).getD 1 0) := ⟨_, rfl⟩
  have HIE := Lib.hid hI
  have HI0 : Hid (I 0 [] 0) := by rw [hI]; exact ⟨rfl, rfl⟩
  have HF : Hid (∀ acc bo, I (dg R).length acc bo → trimS acc = dg (R - S)) := by rw [hI]; exact HFI.out
  clear hI HFI
  go_enter Tryd.func30, Tryd.ntmps30
  go_wp2_with fail
  go_loopw [5, 6, 7, 8] (fun v bv i _ wr => ∃ (k bo : Nat) (acc : List Nat), i = .int .i64 k ∧ k ≤ (dg R).length ∧ bv = .int .i64 bo ∧ acc.length = k ∧ (∀ d, d ∈ acc → d < 65536) ∧ I k acc bo ∧ OwnN w.heap.size wr v acc ∧ Upd noBlk w wr) (fun _ _ i _ _ => (dg R).length - (intOf i).toNat)
  case atStart => exact ⟨0, 0, [], rfl, Nat.zero_le _, rfl, rfl, fun d hd => (by cases hd), HI0.out, OwnN.nil _ _, Upd.refl _ _⟩
  case round =>
    obtain ⟨k, bo, acc, rfl, hk, rfl, hal, had, hi, ho, hu⟩ := hrel
    have HAL := Lib.hid hal
    have HAD := Lib.hid had
    have HII := Lib.hid hi
    have HO := Lib.hid ho
    have HU := Lib.hid hu
    clear hal had hi ho hu
    by_cases hlt : k < (dg R).length
    · have hlt' : ((k : Nat) : Int) < (((dg R).length : Nat) : Int) := by omega
      have hbo : ((bo : Nat) : Int) ≤ 1 := by have := HII.out; rw [HIE.out] at this; have := this.bo; omega
      obtain ⟨g1, cc1, hv1, f1, _, _, _, _⟩ := H1.out.cells (by omega)
      cases hv1
      have x1 := HU.out.cell (f1 k hlt) id
      have hA := Lib.hid (hg.out _ k hlt (by omega))
      have hlA : (dg R)[k] < 65536 := D1.out _ (List.getElem_mem hlt)
      clear f1
      generalize (dg R)[k] = A at *
      have key : ∀ (x bo' : Nat) (B : Int), B = (if k = 0 then (((dg S).getD 0 0 : Nat) : Int) else (((dg S).getD 1 0 : Nat) : Int)) → x < 65536 → bo' ≤ 1 → (x : Int) = A - bo - B + 65536 * bo' → I (k + 1) (acc ++ [x]) bo' := fun x bo' B hB hx hb he => by
        have := HII.out
        rw [HIE.out] at this ⊢
        exact this.step (by omega) hA.out hB hx hb he
      have KEY := Lib.hid key
      have fin : ∀ (x bo' : Nat), x < 65536 → I (k + 1) (acc ++ [x]) bo' → ∃ g cap w6, (Builtin.append_ #[46, 46] 46 #[_, .slice (some ⟨wr.heap.size, 0, none⟩) 1 1]).run Tryd.prog (wr.alloc (.cells #[.int .i64 x] 3)) = .ok (.slice (some ⟨g, 0, none⟩) (acc.length + 1) cap) w6 ∧ OwnN w.heap.size w6 (.slice (some ⟨g, 0, none⟩) (acc.length + 1) cap) (acc ++ [x]) ∧ Upd noBlk w w6 := fun x bo' hx _ => by
        obtain ⟨g, cap, w6, r6, o6, v6⟩ := append_n HU.out.size HO.out x (by have := HAL.out; omega)
        exact ⟨g, cap, w6, r6, o6, HU.out.then v6 (fun i hi e => by have := (HO.out.lt _ e).1; omega)⟩
      have FIN := Lib.hid fin
      clear key fin
      by_cases hlb : k < (dg S).length
      · have hlb' : ((k : Nat) : Int) < (((dg S).length : Nat) : Int) := by omega
        obtain ⟨g2, cc2, hv2, f2, _, _, _, _⟩ := H2.out.cells (by omega)
        cases hv2
        have x2 := HU.out.cell (f2 k hlb) id
        have hB := Lib.hid (hg.out _ k hlb (by omega))
        have hlB : (dg S)[k] < 65536 := D2.out _ (List.getElem_mem hlb)
        clear f2
        generalize (dg S)[k] = B at *
        by_cases hneg : (A : Int) - bo - B < 0
        · obtain ⟨x, hx⟩ : ∃ x : Nat, (x : Int) = (A : Int) - bo - B + 65536 := ⟨((A : Int) - bo - B + 65536).toNat, by omega⟩
          have hI := Lib.hid (KEY.out x 1 B hB.out (by omega) (by omega) (by omega))
          obtain ⟨g, cap, w6, r6, o6, u6⟩ := FIN.out x 1 (by omega) hI.out
          have R6 := Lib.hid r6
          have O6 := Lib.hid o6
          have U6 := Lib.hid u6
          have hx2 : (A : Int) - bo - B + 65536 = (x : Int) := hx.symm
          have hxl : x < 65536 := by omega
          clear r6 o6 u6 hx
          go_wp2_with (at_builtin; refine wpList_append_run rfl _ _ _ rfl rfl rfl R6.out ?_)
          exact ⟨⟨k + 1, 1, acc ++ [x], by go_num, hlt, rfl, by rw [List.length_append, HAL.out]; rfl, fun d hd => by rw [List.mem_append, List.mem_singleton] at hd; rcases hd with hd | rfl; exact HAD.out d hd; exact hxl, hI.out, O6.out, U6.out⟩, by simp [intOf]; omega⟩
        · obtain ⟨x, hx⟩ : ∃ x : Nat, (x : Int) = (A : Int) - bo - B := ⟨((A : Int) - bo - B).toNat, by omega⟩
          have hI := Lib.hid (KEY.out x 0 B hB.out (by omega) (by omega) (by omega))
          obtain ⟨g, cap, w6, r6, o6, u6⟩ := FIN.out x 0 (by omega) hI.out
          have hx2 : (A : Int) - bo - B = (x : Int) := hx.symm
          have R6 := Lib.hid r6
          have O6 := Lib.hid o6
          have U6 := Lib.hid u6
          have hxl : x < 65536 := by omega
          clear r6 o6 u6 hx
          go_wp2_with (at_builtin; refine wpList_append_run rfl _ _ _ rfl rfl rfl R6.out ?_)
          exact ⟨⟨k + 1, 0, acc ++ [x], by go_num, hlt, rfl, by rw [List.length_append, HAL.out]; rfl, fun d hd => by rw [List.mem_append, List.mem_singleton] at hd; rcases hd with hd | rfl; exact HAD.out d hd; exact hxl, hI.out, O6.out, U6.out⟩, by simp [intOf]; omega⟩
      · have hlb' : ¬ ((k : Nat) : Int) < (((dg S).length : Nat) : Int) := by omega
        have hB := Lib.hid (hgn.out (dg S) k (by omega) (by omega))
        by_cases hneg : (A : Int) - bo < 0
        · obtain ⟨x, hx⟩ : ∃ x : Nat, (x : Int) = (A : Int) - bo + 65536 := ⟨((A : Int) - bo + 65536).toNat, by omega⟩
          have hI := Lib.hid (KEY.out x 1 0 hB.out (by omega) (by omega) (by omega))
          obtain ⟨g, cap, w6, r6, o6, u6⟩ := FIN.out x 1 (by omega) hI.out
          have hx2 : (A : Int) - bo + 65536 = (x : Int) := hx.symm
          have R6 := Lib.hid r6
          have O6 := Lib.hid o6
          have U6 := Lib.hid u6
          have hxl : x < 65536 := by omega
          clear r6 o6 u6 hx
          go_wp2_with (at_builtin; refine wpList_append_run rfl _ _ _ rfl rfl rfl R6.out ?_)
          exact ⟨⟨k + 1, 1, acc ++ [x], by go_num, hlt, rfl, by rw [List.length_append, HAL.out]; rfl, fun d hd => by rw [List.mem_append, List.mem_singleton] at hd; rcases hd with hd | rfl; exact HAD.out d hd; exact hxl, hI.out, O6.out, U6.out⟩, by simp [intOf]; omega⟩
        · obtain ⟨x, hx⟩ : ∃ x : Nat, (x : Int) = (A : Int) - bo := ⟨((A : Int) - bo).toNat, by omega⟩
          have hI := Lib.hid (KEY.out x 0 0 hB.out (by omega) (by omega) (by omega))
          obtain ⟨g, cap, w6, r6, o6, u6⟩ := FIN.out x 0 (by omega) hI.out
          have hx2 : (A : Int) - bo = (x : Int) := hx.symm
          have R6 := Lib.hid r6
          have O6 := Lib.hid o6
          have U6 := Lib.hid u6
          have hxl : x < 65536 := by omega
          clear r6 o6 u6 hx
          go_wp2_with (at_builtin; refine wpList_append_run rfl _ _ _ rfl rfl rfl R6.out ?_)
          exact ⟨⟨k + 1, 0, acc ++ [x], by go_num, hlt, rfl, by rw [List.length_append, HAL.out]; rfl, fun d hd => by rw [List.mem_append, List.mem_singleton] at hd; rcases hd with hd | rfl; exact HAD.out d hd; exact hxl, hI.out, O6.out, U6.out⟩, by simp [intOf]; omega⟩
    · obtain rfl : k = (dg R).length := by omega
      have hd := Lib.hid (HF.out acc bo HII.out)
      have HT := Lib.hid (trim_any _ _ acc (by rw [HAL.out]; omega) wr HO.out)
      obtain ⟨Av, cv, rfl⟩ := HO.out.form
      go_wp2_with fail
      refine HT.out.mono ?_
      rintro e1 w2 ⟨v, rfl, ov, rfl⟩
      obtain ⟨Av, cv, rfl⟩ := ov.form
      go_wp2_with fail
      go_ret
      exact ⟨_, rfl, by rw [← hd.out]; exact ov, HU.out⟩
end Go.Proofs.YtojdgdeefhndiaaDoor
namespace Go.Proofs.YtojdgdeefhndiaaDoor
open Go Go.RowKit Sp Bg
set_option maxRecDepth 100000

/-- What the division comes to. -/
def overR (base n : Nat) (w : World) (en : Ending) (w' : World) : Prop := ∃ q r, en = .returned (.tuple #[q, r]) ∧ OwnN base w' q (dg (n / 10)) ∧ OwnN base w' r (dg (n % 10)) ∧ Upd noBlk w w'
theorem valL_drop {l : List Nat} {k : Nat} (h : k < l.length) : valL (l.drop k) = l[k] + 65536 * valL (l.drop (k + 1)) := by
  rw [List.drop_eq_getElem_cons h]; rfl
theorem zeros_set (k x : Nat) (tq : List Nat) : (List.replicate (k + 1) 0 ++ tq).set k x = List.replicate k 0 ++ (x :: tq) := by
  induction k with
  | zero => rfl
  | succ k ih =>
    rw [show k + 1 + 1 = (k + 1) + 1 from rfl, List.replicate_succ, List.cons_append, List.set_cons_succ, ih]; rfl
/-- One number of a row turned. -/
theorem OwnN.set {w : World} {base g n cap : Nat} {l : List Nat} (h : OwnN base w (.slice (some ⟨g, 0, none⟩) n cap) l) (hn : n = l.length) (k x : Nat) : OwnN base (w.setCell ⟨g, k, none⟩ (.int .i64 x)) (.slice (some ⟨g, 0, none⟩) n cap) (l.set k x) := by
  subst hn
  have := World.ownsRow.stored h k (.int .i64 x)
  unfold OwnN
  rw [List.length_set, List.map_set]
  exact this.1
set_option maxHeartbeats 1500000 in
theorem over_any (v1 v2 : Value) (n b1 b2 : Nat) (hn : n < 4294967296) (h0 : 0 < n) (w : World) (h1 : OwnN b1 w v1 (dg n)) (h2 : OwnN b2 w v2 [10]) :
    Calls Tryd.prog 17 #[v1, v2] w fun en w' => overR w.heap.size n w en w' := by
  obtain ⟨A1, c1, rfl⟩ := h1.form
  obtain ⟨A2, c2, rfl⟩ := h2.form
  have H1 := Lib.hid h1
  have H2 := Lib.hid h2
  have D1 := Lib.hid (dg_lt hn)
  have hlr := dg_le n
  have HV : Hid (valL ((dg n).drop 0) = n) := by show _ = _; rw [List.drop_zero, dg_val]
  have hl0 : 0 < (dg n).length := by rcases dg_cases n with ⟨e, _⟩ | ⟨_, e⟩ | ⟨_, e⟩; omega; rw [e]; simp; rw [e]; simp
  obtain ⟨w1, hmk, hown, hu⟩ := make_ints (dg n).length (by omega) w
  have HO1 := Lib.hid hown
  have HU1 := Lib.hid hu
  clear h1 h2 hown
  have hlw : w.heap.size < w1.heap.size := (HO1.out.lt _ rfl).2
  clear hu
  generalize hl : dg n = l at *
  have HLE := Lib.hid hl
  clear hl
  go_enter Tryd.func17, Tryd.ntmps17
  go_wp2_with fail
  go_loopw [7, 8, 9, 10, 11] (fun rv i _ _ _ wr => ∃ (k R : Nat) (tq : List Nat), i = .int .i64 ((k : Int) - 1) ∧ k ≤ l.length ∧ k + tq.length = l.length ∧ (∀ d, d ∈ tq → d < 65536) ∧ valL tq = valL (l.drop k) / 10 ∧ R = valL (l.drop k) % 10 ∧ OwnN (w.heap.size + 1) wr rv (dg R) ∧ OwnN w.heap.size wr (.slice (some ⟨w.heap.size, 0, none⟩) l.length l.length) (List.replicate k 0 ++ tq) ∧ Upd noBlk w wr) (fun _ i _ _ _ _ => (intOf i + 1).toNat)
  case atStart => exact ⟨l.length, 0, [], rfl, Nat.le_refl _, rfl, fun d hd => (by cases hd), by rw [List.drop_eq_nil_of_le (Nat.le_refl _)]; rfl, by rw [List.drop_eq_nil_of_le (Nat.le_refl _)]; rfl, OwnN.nil _ _, by rw [List.append_nil]; exact HO1.out, HU1.out⟩
  case round =>
    obtain ⟨k, R, tq, rfl, hk, htl, htd, htv, hRv, hor, hoq, hup⟩ := hrel
    have HTL := Lib.hid htl
    have HTD := Lib.hid htd
    have HTV := Lib.hid htv
    have HRV := Lib.hid hRv
    have HOR := Lib.hid hor
    have HOQ := Lib.hid hoq
    have HUP := Lib.hid hup
    have hR10 : R < 10 := by rw [hRv]; omega
    clear htl htd htv hRv hor hoq hup
    by_cases hk0 : k = 0
    · subst hk0
      have hq := Lib.hid (trim_any _ _ _ (by rw [List.replicate_zero, List.nil_append]; have := HTL.out; omega) wr HOQ.out)
      have hd : Hid (trimS (List.replicate 0 0 ++ tq) = dg (n / 10)) := by
        show _ = _
        rw [List.replicate_zero, List.nil_append, trim_dg (by have := HTL.out; omega) HTD.out, HTV.out, HV.out]
      have hr : Hid (R = n % 10) := by show _ = _; rw [HRV.out, HV.out]
      obtain ⟨Ar, cr, hrv⟩ := HOR.out.form
      subst hrv
      go_wp2_with fail
      refine hq.out.mono ?_
      rintro e1 w2 ⟨v, rfl, ov, rfl⟩
      obtain ⟨Av, cv, rfl⟩ := ov.form
      go_wp2_with fail
      go_ret2
      exact ⟨_, _, rfl, by rw [← hd.out]; exact ov, by rw [← hr.out]; exact HOR.out.mono (by omega), HUP.out⟩
    · obtain ⟨j, rfl⟩ : ∃ j, k = j + 1 := ⟨k - 1, by omega⟩
      clear hk0
      have hji : (((j + 1 : Nat) : Int) - 1) = (j : Int) := by omega
      rw [hji]
      have hjl : j < l.length := by omega
      have hj0 : (0 : Int) ≤ (j : Int) := by omega
      have hjl' : ((j : Nat) : Int) < ((l.length : Nat) : Int) := by omega
      obtain ⟨g1, cc1, hv1, f1, _, _, _, hg1⟩ := H1.out.cells (by omega)
      cases hv1
      have x1 := HUP.out.cell (f1 j hjl) id
      have hlA : l[j] < 65536 := D1.out _ (List.getElem_mem hjl)
      have HVD := Lib.hid (valL_drop hjl)
      clear f1 hji
      generalize l[j] = A at *
      obtain ⟨V, hV⟩ : ∃ V, V = A + 65536 * R := ⟨_, rfl⟩
      have hVb : V < 655360 := by omega
      have hO0 : OwnN wr.heap.size (wr.alloc (.cells #[.int .i64 A] 3)) (.slice (some ⟨wr.heap.size, 0, none⟩) 1 1) [A] := ⟨rfl, .inr ⟨_, _, _, rfl, Nat.le_refl _, heap_alloc_new _ _, Nat.le_refl _, by unfold maxLen; decide, rfl, rfl⟩⟩
      obtain ⟨i0, hi0, hz0, hz1, hz2⟩ := info_parts info_in
      obtain ⟨v6, w6, r6, o6, g6, _⟩ := append_src (P := Tryd.prog) (wr.alloc (.cells #[.int .i64 A] 3)) 46 46 3 i0 _ 1 8 Tryd.underlying46 hi0 hz0 hz1 hz2 rfl (by omega) hO0 (by simp) (HOR.out.alloc (.cells #[.int .i64 A] 3)) (by intro u hu; obtain ⟨d, _, rfl⟩ := List.mem_map.1 hu; rfl) (by have := dg_le R; unfold maxLen; simp; omega) (by have := dg_le R; simp; omega)
      have hu6 : Upd noBlk wr w6 := ((Upd.refl _ _).alloc _).then (upd_of_grown g6 (F := fun k => k = wr.heap.size) (fun k hk _ => by cases hk; rfl)) (fun i hi e => by have e' : i = wr.heap.size := e; omega)
      have ho6 : OwnN wr.heap.size w6 v6 (A :: dg R) := by
        unfold OwnN
        rw [List.length_cons, Nat.add_comm]
        exact o6
      have hdA : Hid (trimS (A :: dg R) = dg V) := by
        show _ = _
        have hdl := dg_le R
        rcases dg_cases R with ⟨e, f⟩ | ⟨_, f⟩ | ⟨e, f⟩
        · rw [f, hV, e, trim1 A hlA]; simp
        · rw [f, hV, trim2 A R hlA (by omega)]
        · omega
      have HT := Lib.hid (trim_any _ _ _ (by rw [List.length_cons]; have := dg_le R; omega) w6 ho6)
      rw [hdA.out] at HT
      have R6 := Lib.hid r6
      have U6 := Lib.hid hu6
      have hlr6 : wr.heap.size ≤ w6.heap.size := hu6.size
      have hlwr : w.heap.size + 1 ≤ wr.heap.size := by have h := (HOQ.out.lt w.heap.size rfl).2; omega
      obtain ⟨Ar, cr, hrv⟩ := HOR.out.form
      subst hrv
      clear hO0 r6 o6 g6 hu6 ho6 hi0 hz0 hz1 hz2
      go_upto_region 9 with (at_builtin; refine wpList_append_run rfl _ _ _ rfl rfl rfl R6.out ?_)
      refine HT.out.mono ?_
      rintro e1 w7 ⟨v7, rfl, o7, rfl⟩
      have U7 : Hid (Upd noBlk w w6) := HUP.out.trans U6.out
      have O7 : Hid (OwnN (w.heap.size + 1) w6 v7 (dg V)) := o7.mono (by omega)
      have Q7 : Hid (OwnN w.heap.size w6 (.slice (some ⟨w.heap.size, 0, none⟩) l.length l.length) (List.replicate (j + 1) 0 ++ tq)) := HOQ.out.upd U6.out
      have HC := Lib.hid (compare_any v7 _ V 10 _ _ (by omega) (by decide) w6 o7 (H2.out.upd U7.out))
      have HV6 := Lib.hid hV
      clear o7 hV HT
      obtain ⟨A7, c7, hv7⟩ := O7.out.form
      subst hv7
      go_upto_if 33 with fail
      refine HC.out.mono ?_
      rintro e1 w8 ⟨rfl, n8, rfl⟩
      go_upto_if 33 with fail
      go_cut [10, 33] (fun hh _ wx => w6.drewN n8 = wx ∧ ∃ hi : Nat, hh = .int .i64 hi ∧ V / 10 < hi ∧ hi ≤ 65536)
      case first =>
        by_cases hv : V < 10
        · have e1 := cmp_lt hv
          rw [e1]
          clear e1
          go_wp2_with fail
          go_meet
          case rel => exact ⟨rfl, 1, rfl, by omega, by decide⟩
        · have e1 : ¬ cmpN V 10 < 0 := by
            unfold cmpN
            rw [if_neg hv]
            split <;> decide
          go_wp2_with fail
          go_meet
          case rel => exact ⟨rfl, 65536, rfl, by omega, by decide⟩
      case rest =>
        obtain ⟨rfl, hi, rfl, hhi, hhi2⟩ := hcut
        have U8 : Hid (Upd noBlk wr (w6.drewN n8)) := U6.out.drewN n8
        go_wp2_with fail
        obtain ⟨wo, rfl⟩ : ∃ wo : World, wo = wr := ⟨_, rfl⟩
        go_loopw [9, 10, 11] (fun lo h _ wr' => ∃ (lw hw : Nat), lo = .int .i64 lw ∧ h = .int .i64 hw ∧ lw ≤ V / 10 ∧ V / 10 < hw ∧ hw ≤ 65536 ∧ Upd noBlk (w6.drewN n8) wr') (fun lo h _ _ => (intOf h - intOf lo).toNat)
        case atStart => exact ⟨0, hi, rfl, rfl, Nat.zero_le _, hhi, hhi2, Upd.refl _ _⟩
        case round =>
          obtain ⟨lw, hw, rfl, rfl, hl1, hl2, hl3, hu⟩ := hrel
          have UB : Hid (Upd noBlk wo wr) := U8.out.trans hu
          have UC : Hid (Upd noBlk w6 wr) := ((Upd.refl _ _).drewN n8).trans hu
          clear hu
          by_cases hd : (1 : Int) < (hw : Int) - lw
          · obtain ⟨mm, hmm⟩ : ∃ mm : Nat, ((lw : Int) + hw) / 2 = mm := ⟨(((lw : Int) + hw) / 2).toNat, by omega⟩
            have hm1 : lw < mm := by omega
            have hm2 : mm < hw := by omega
            have HBY := Lib.hid (by_any _ mm _ (by omega) wr (H2.out.upd (HUP.out.trans UB.out)))
            go_wp2_with fail
            refine HBY.out.mono ?_
            rintro e1 w9 ⟨v9, rfl, o9, u9⟩
            obtain ⟨A9, c9, hv9⟩ := o9.form
            subst hv9
            have HC2 := Lib.hid (compare_any _ _ (10 * mm) V _ _ (by omega) (by omega) w9 o9 (O7.out.upd (UC.out.trans u9)))
            have U9 := Lib.hid u9
            clear o9 u9 HBY
            go_wp2_with fail
            refine HC2.out.mono ?_
            rintro e1 w10 ⟨rfl, n10, rfl⟩
            have UN : Hid (Upd noBlk (w6.drewN n8) (w9.drewN n10)) := by
              have h1 : Upd noBlk w6 (w9.drewN n10) := (UC.out.trans U9.out).drewN n10
              exact ⟨h1.os, h1.tape, h1.output, h1.size, h1.block⟩
            by_cases hle : 10 * mm ≤ V
            · have e1 : cmpN (10 * mm) V ≤ 0 := by unfold cmpN; split; decide; rw [if_pos (by omega)]; decide
              go_wp2_with fail
              exact ⟨⟨mm, hw, rfl, rfl, by omega, hl2, hl3, UN.out⟩, by simp [intOf]; omega⟩
            · have e1 : ¬ cmpN (10 * mm) V ≤ 0 := by rw [cmp_gt (by omega)]; decide
              go_wp2_with fail
              exact ⟨⟨lw, mm, rfl, rfl, hl1, by omega, by omega, UN.out⟩, by simp [intOf]; omega⟩
          · have hlw10 : lw = V / 10 := by omega
            have hq := Q7.out.upd UC.out
            have hlq : (List.replicate (j + 1) 0 ++ tq).length = l.length := by rw [List.length_append, List.length_replicate]; exact HTL.out
            obtain ⟨gq, cq, hvq, fq, _, _, _, hgq⟩ := hq.cells (by omega)
            rw [hlq] at hvq
            cases hvq
            obtain ⟨uq, cqv⟩ : ∃ u, wr.cell? ⟨w.heap.size, j, none⟩ = some u := ⟨_, fq j (by omega)⟩
            have zq : wr.frozen? ⟨w.heap.size, j, none⟩ = false := by
              have hq' := hq
              unfold OwnN at hq'
              rw [hlq] at hq'
              exact World.ownsRow.frozenAt hq' j
            have HQ9 : Hid (OwnN w.heap.size (wr.setCell ⟨w.heap.size, j, none⟩ (.int .i64 lw)) (.slice (some ⟨w.heap.size, 0, none⟩) l.length l.length) (List.replicate j 0 ++ (lw :: tq))) := by
              have := hq.set hlq.symm j lw
              rw [zeros_set] at this
              exact this
            have US : Hid (Upd noBlk w (wr.setCell ⟨w.heap.size, j, none⟩ (.int .i64 lw))) := (HUP.out.trans UB.out).setCell (fun h => absurd h (Nat.lt_irrefl _)) _
            have OS : Hid (OwnN (w.heap.size + 1) (wr.setCell ⟨w.heap.size, j, none⟩ (.int .i64 lw)) (.slice A7 (dg V).length c7) (dg V)) := (O7.out.upd UC.out).keep (F := fun k => k = w.heap.size) ((Upd.refl (fun k => k = w.heap.size) wr).setCell (p := ⟨w.heap.size, j, none⟩) (fun _ => rfl) _) (fun k hk e => by have := ((O7.out.upd UC.out).lt k e).1; omega)
            have HBY := Lib.hid (by_any _ lw _ (by omega) _ (H2.out.upd US.out))
            have HNV : Hid (V - 10 * lw = V % 10) := by show _ = _; omega
            have hV10 : 10 * lw ≤ V := by omega
            have HLW := Lib.hid hlw10
            have hlw6 : lw < 65536 := by omega
            clear fq hq hlq hlw10
            go_wp2_with fail
            refine HBY.out.mono ?_
            rintro e1 w9 ⟨v9, rfl, o9, u9⟩
            obtain ⟨A9, c9, hv9⟩ := o9.form
            subst hv9
            have HM := Lib.hid (minus_any _ _ V (10 * lw) _ _ (by omega) hV10 w9 (OS.out.upd u9) o9)
            have U9 := Lib.hid u9
            clear o9 u9 HBY
            go_wp2_with fail
            refine HM.out.mono ?_
            rintro e1 w10 ⟨v10, rfl, o10, u10⟩
            have U10 := Lib.hid u10
            have O10 := Lib.hid o10
            clear u10 o10
            go_wp2_with fail
            refine ⟨⟨j, V % 10, lw :: tq, by go_num, by omega, ?_, ?_, ?_, ?_, ?_, HQ9.out.upd (U9.out.trans U10.out), US.out.trans (U9.out.trans U10.out)⟩, by simp [intOf]⟩
            · rw [List.length_cons]; have := HTL.out; omega
            · intro d hd
              rw [List.mem_cons] at hd
              rcases hd with rfl | hd
              · exact hlw6
              · exact HTD.out d hd
            · rw [HVD.out, valL, HTV.out, HLW.out]
              have h1 := HRV.out
              have h2 := HV6.out
              omega
            · rw [HVD.out]
              have h1 := HRV.out
              have h2 := HV6.out
              omega
            · rw [← HNV.out]
              refine O10.out.mono ?_
              have h1 := UB.out.size
              have h2 := U9.out.size
              have h3 : (wr.setCell ⟨w.heap.size, j, none⟩ (.int .i64 lw)).heap.size = wr.heap.size := by simp
              omega
end Go.Proofs.YtojdgdeefhndiaaDoor
