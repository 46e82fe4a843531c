/- Walks of the program of the polygon files: isPolys. -/
import Derived.Test.YtojdgdeefhndiaaGreatDoorSLines
import Derived.Test.YtojdgdeefhndiaaGreatDoorSAt
namespace Go.Proofs.YtojdgdeefhndiaaGreatDoor
open Go Go.RowKit Sp
set_option maxRecDepth 100000
attribute [local go_sem] Oper.semAt_some
theorem pair0 (x y : Value) : (#[x, y] : Array Value).getD 0 undef = x := rfl
theorem pair1 (x y : Value) : (#[x, y] : Array Value).getD 1 undef = y := rfl

theorem firstWord_nil : ∀ (ls : List Bytes) (i : Nat), numbered i ls = [] → firstWord ls = []
  | [], _, _ => rfl
  | l :: r, i, h => by
    rw [numbered] at h
    rw [firstWord]
    split at h
    · rename_i hw; rw [hw]; exact firstWord_nil r (i + 1) h
    · cases h
theorem firstWord_cons : ∀ (ls : List Bytes) (i : Nat) (x : Nat × List Bytes) (rest : List (Nat × List Bytes)), numbered i ls = x :: rest → ∃ w ws, x.2 = w :: ws ∧ firstWord ls = w
  | [], _, _, _, h => by cases h
  | l :: r, i, x, rest, h => by
    rw [numbered] at h
    rw [firstWord]
    split at h
    · rename_i hw; rw [hw]; exact firstWord_cons r (i + 1) x rest h
    · rename_i w ws hw
      rw [hw]
      cases h
      exact ⟨w, ws, rfl, rfl⟩
def isPolysS (s : Bytes) : Bool := decide (firstWord (linesOf s) = wPoly)
theorem kps_putObj {N0 : Nat} (W : World) (l : Nat) (o o' : Obj) (hl : N0 ≤ l) (ho : W.heap[l]? = some o) (hc : o.isCells = false) : KpS N0 W (W.putObj l o') :=
  ⟨by simp, fun k hk => World.putObj_heap_other (by omega), fun k cs fr h => by
    by_cases e : k = l
    · subst e; rw [h] at ho; cases ho; cases hc
    · exact (World.putObj_heap_other e).trans h⟩

set_option maxHeartbeats 2000000 in
theorem isPolys_any (s : Bytes) (hs : s.length < 4294967281) (w : World) (hsh : w.ShapedOpen Tryz.prog) :
    Calls Tryz.prog 30 #[.string (bs s)] w fun en w' => en = .returned (.bool (isPolysS s)) ∧ Upd noBlk w w' := by
  refine calls_of_wpAt (n := 5) Tryz.func30 rfl ?_
  simp only [Tryz.ntmps30, List.size_toArray, List.length_cons, List.length_nil, Nat.reduceAdd, Nat.reduceSub, Array.replicate_succ, Array.replicate_zero, List.push_toArray, List.append_toArray, List.nil_append, List.cons_append]
  refine wpAt_seq (wpAt_of (n := 5) ?_)
  gi_wp2_with fail
  refine wpAt_seq (wpAt_seq (wpAt_of (n := 5) ?_))
  gi_wp2_with fail
  refine ⟨trivial, (callsIn_wide.2 (lines_any s _)).mono ?_⟩
  rintro e w1 ⟨rfl, rfl⟩
  gi_wp2_with fail
  refine wpAt_block (wpAt_range (n := 5) (rangeP_core (F := Fence.wide) (n := 5) rfl (by omega) Tryz.func30 trivial (gf := 69) (lb := #[.pointer (some ⟨w.heap.size + 1, 0, none⟩)]) rfl trivial (enters_of Tryz.func69 (by kernel_rfl) rfl)
    (Ar := ArL) (Kp := KpS w.heap.size) (lines1_seq s hs 4 w.heap.size (w.heap.size + 1) w _ hsh rfl ?q1 ?q2 ?q3) KpS.trans (fun W l o o' hl ho hc => kps_putObj W l o o' (by simp at hl; omega) ho hc) (Below.refl _ _)
    (fun x args W h => by obtain ⟨A, rfl, _⟩ := h; rfl) (fun x args A B row h => ArL.keep h)
    (fun pre W => pre = [] ∧ Upd noBlk w W ∧ W.heap[w.heap.size]? = some (.cells #[.bool false] 4))
    (fun c pre W => c = .ret ∧ (∃ x ws rest, pre = [(x, ws :: rest)] ∧ W.heap[w.heap.size]? = some (.cells #[.bool (decide (ws = wPoly))] 4)) ∧ Upd noBlk w W)
    (fun _ _ => False) ?hI ?hIx ?h0 (fun args => { tmps := #[.string (bs s), undef, .pointer (some ⟨w.heap.size, 0, none⟩), undef, args.getD 1 undef, .string (bs s), .func (.func 69) #[] #[.pointer (some ⟨w.heap.size + 1, 0, none⟩)], args.getD 0 undef, args.getD 1 undef, undef, undef, undef, undef], defers := [] }) ?assign ?body ?done ?stop ?panic))
  case q1 => exact fun k hk => (heap_alloc_old _ _ (by simp; omega)).trans (heap_alloc_old _ _ hk)
  case q2 => simp; omega
  case q3 => have h := heap_alloc_new (w.alloc (.cells #[.bool false] 4)) (.cells #[.string (bs s)] 9); simpa using h
  case hI => exact fun _ X Y row h hg hr => ⟨h.1, grown_upd h.2.1 (by simp; omega) hg hr, grown_cells h.2.2 hg hr⟩
  case hIx => exact fun _ _ X Y row h hg hr => ⟨h.1, by obtain ⟨x, ws, rest, h1, h2⟩ := h.2.1; exact ⟨x, ws, rest, h1, grown_cells h2 hg hr⟩, grown_upd h.2.2 (by simp; omega) hg hr⟩
  case h0 => exact ⟨rfl, ((Upd.refl _ _).alloc _).alloc _, heap_alloc_keep _ (heap_alloc_new _ _)⟩
  case assign =>
    intro l x args W K h hK
    obtain ⟨A, rfl, hrd⟩ := h
    gi_wp2_with fail
    exact hK
  case body =>
    rintro l pre x args W ⟨rfl, hup, hbx⟩ har hok
    obtain ⟨A, rfl, hrd⟩ := har
    obtain ⟨rest, hr⟩ := hok
    obtain ⟨wd, ws, hx, hfw⟩ := firstWord_cons _ _ x rest hr.symm
    obtain ⟨i, ww⟩ := x
    simp only at hx hrd ⊢
    subst hx
    obtain ⟨b, off, rfl, hc⟩ := hrd (by simp)
    have c0 : W.cell? ⟨b, off, none⟩ = some (.string (bs wd)) := hc 0 (by simp)
    have c2 : W.cell? ⟨w.heap.size, 0, none⟩ = some (.bool false) := by simp [World.cell?, hbx]
    have z2 : W.frozen? ⟨w.heap.size, 0, none⟩ = false := by simp [World.frozen?, hbx]
    have HU := Lib.hid hup
    have HBX := Lib.hid hbx
    clear hc hrd hr hfw hup hbx
    simp only [pair0, pair1]
    gi_wp2_with fail
    refine ⟨KeepsOthers.setCell _ _ _, rfl, ⟨i, wd, ws, rfl, ?_⟩, HU.out.setCell (fun h => absurd h (Nat.lt_irrefl _)) _⟩
    refine (heap_setCell_eq _ HBX.out).trans ?_
    rw [bs_toList]
    have e : (wd == [112, 111, 108, 121]) = decide (wd = wPoly) := by rw [Bool.eq_iff_iff, beq_iff_eq, decide_eq_true_eq]; rfl
    rw [e]; rfl
  case done =>
    intro D xs W hD hS h hk
    obtain ⟨rfl, hup, hbx⟩ := h
    have c2 : W.cell? ⟨w.heap.size, 0, none⟩ = some (.bool false) := by simp [World.cell?, hbx]
    have z2 : W.frozen? ⟨w.heap.size, 0, none⟩ = false := by simp [World.frozen?, hbx]
    have HBX := Lib.hid hbx
    have hfw : isPolysS s = false := by
      unfold isPolysS; rw [firstWord_nil _ _ hS.symm]; decide
    have HF := Lib.hid hfw
    clear hbx hS hfw
    refine wpAt_of (n := 5) ?_
    gi_wp2_with fail
    have hk' : (W.setCell ⟨w.heap.size, 0, none⟩ (.bool false)).heap[D]? = some (.deferred (some [])) := heap_setCell_ne _ hk (by simp at hD; omega)
    refine ⟨by simp, .inl ⟨_, _, rfl, run_takeDeferred hk', ?_⟩⟩
    have hb5 : ((W.setCell ⟨w.heap.size, 0, none⟩ (.bool false)).putObj D (.deferred none)).heap[w.heap.size]? = some (.cells #[.bool false] 4) := by
      rw [World.putObj_heap_other (by simp at hD; omega)]; exact (heap_setCell_eq _ HBX.out).trans rfl
    have hc5 : ((W.setCell ⟨w.heap.size, 0, none⟩ (.bool false)).putObj D (.deferred none)).cell? ⟨w.heap.size, 0, none⟩ = some (.bool false) := by simp [World.cell?, hb5]
    refine ⟨.bool false, by simp [results, Tryz.f30, go_sem, hc5], by rw [HF.out], ?_⟩
    exact (hup.setCell (p := ⟨w.heap.size, 0, none⟩) (fun h => absurd h (Nat.lt_irrefl _)) _).then (upd_putObj0 _ D _) (fun i hi e => by simp at hD; omega)
  case stop =>
    intro D c pre W hD hS h hk
    obtain ⟨rfl, ⟨x, ws, rest, rfl, hbx⟩, hup⟩ := h
    gi_wp2_with fail
    refine ⟨by simp, .inl ⟨_, _, rfl, run_takeDeferred hk, ?_⟩⟩
    have hb5 : (W.putObj D (.deferred none)).heap[w.heap.size]? = some (.cells #[.bool (decide (ws = wPoly))] 4) := by
      rw [World.putObj_heap_other (by simp at hD; omega)]; exact hbx
    have hc5 : (W.putObj D (.deferred none)).cell? ⟨w.heap.size, 0, none⟩ = some (.bool (decide (ws = wPoly))) := by simp [World.cell?, hb5]
    obtain ⟨rest', hr⟩ := hS
    obtain ⟨wd, ws', hx, hfw⟩ := firstWord_cons _ _ _ _ hr.symm
    cases hx
    refine ⟨.bool (decide (ws = wPoly)), by simp [results, Tryz.f30, go_sem, hc5], by unfold isPolysS; rw [hfw], ?_⟩
    exact hup.then (upd_putObj0 W D _) (fun i hi e => by simp at hD; omega)
  case panic =>
    intro D chain W hD h
    exact h.elim
end Go.Proofs.YtojdgdeefhndiaaGreatDoor
