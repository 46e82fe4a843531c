/- Walks of the program of the polygon files: isPolys. General lemmas: an append onto a row of the call's own. No condition. Walks of the program of the polygon files: numbers. -/
import Derived.Test.YtojdgdeefhndiaaDoorM6
import Derived.Test.YtojdgdeefhndiaaDoorM2
import Derived.Lib.AtoiErrMem
namespace Go.Proofs.YtojdgdeefhndiaaDoor
open Go Go.RowKit Sp
set_option maxRecDepth 100000
attribute [local go_sem] Oper.semAt_some
theorem pair0 (x y : Value) : (#[x, y] : Array Value).getD 0 undef = x := rfl
theorem pair1 (x y : Value) : (#[x, y] : Array Value).getD 1 undef = y := rfl

theorem firstWord_nil : ∀ (ls : List Bytes) (i : Nat), numbered i ls = [] → firstWord ls = []
  | [], _, _ => rfl
  | l :: r, i, h => by
    rw [numbered] at h
    rw [firstWord]
    split at h
    · rename_i hw; rw [hw]; exact firstWord_nil r (i + 1) h
    · cases h
theorem firstWord_cons : ∀ (ls : List Bytes) (i : Nat) (x : Nat × List Bytes) (rest : List (Nat × List Bytes)), numbered i ls = x :: rest → ∃ w ws, x.2 = w :: ws ∧ firstWord ls = w
  | [], _, _, _, h => by cases h
  | l :: r, i, x, rest, h => by
    rw [numbered] at h
    rw [firstWord]
    split at h
    · rename_i hw; rw [hw]; exact firstWord_cons r (i + 1) x rest h
    · rename_i w ws hw
      rw [hw]
      cases h
      exact ⟨w, ws, rfl, rfl⟩
def isPolysS (s : Bytes) : Bool := decide (firstWord (linesOf s) = wPoly)
theorem kps_putObj {N0 : Nat} (W : World) (l : Nat) (o o' : Obj) (hl : N0 ≤ l) (ho : W.heap[l]? = some o) (hc : o.isCells = false) : KpS N0 W (W.putObj l o') :=
  ⟨by simp, fun k hk => World.putObj_heap_other (by omega), fun k cs fr h => by
    by_cases e : k = l
    · subst e; rw [h] at ho; cases ho; cases hc
    · exact (World.putObj_heap_other e).trans h⟩

set_option maxHeartbeats 2000000 in
theorem isPolys_any (s : Bytes) (hs : s.length < 4294967281) (w : World) (hsh : w.ShapedOpen Tryd.prog) :
    Calls Tryd.prog 13 #[.string (bs s)] w fun en w' => en = .returned (.bool (isPolysS s)) ∧ Upd noBlk w w' := by
  refine calls_of_wpAt (n := 5) Tryd.func13 rfl ?_
  simp only [Tryd.ntmps13, List.size_toArray, List.length_cons, List.length_nil, Nat.reduceAdd, Nat.reduceSub, Array.replicate_succ, Array.replicate_zero, List.push_toArray, List.append_toArray, List.nil_append, List.cons_append]
  refine wpAt_seq (wpAt_of (n := 5) ?_)
  gi_wp2_with fail
  refine wpAt_seq (wpAt_seq (wpAt_of (n := 5) ?_))
  gi_wp2_with fail
  refine ⟨trivial, (callsIn_wide.2 (lines_any s _)).mono ?_⟩
  rintro e w1 ⟨rfl, rfl⟩
  gi_wp2_with fail
  refine wpAt_block (wpAt_range (n := 5) (rangeP_core (F := Fence.wide) (n := 5) rfl (by omega) Tryd.func13 trivial (gf := 31) (lb := #[.pointer (some ⟨w.heap.size + 1, 0, none⟩)]) rfl trivial (enters_of Tryd.func31 (by kernel_rfl) rfl)
    (Ar := ArL) (Kp := KpS w.heap.size) (lines1_seq s hs 4 w.heap.size (w.heap.size + 1) w _ hsh rfl ?q1 ?q2 ?q3) KpS.trans (fun W l o o' hl ho hc => kps_putObj W l o o' (by simp at hl; omega) ho hc) (Below.refl _ _)
    (fun x args W h => by obtain ⟨A, rfl, _⟩ := h; rfl) (fun x args A B row h => ArL.keep h)
    (fun pre W => pre = [] ∧ Upd noBlk w W ∧ W.heap[w.heap.size]? = some (.cells #[.bool false] 4))
    (fun c pre W => c = .ret ∧ (∃ x ws rest, pre = [(x, ws :: rest)] ∧ W.heap[w.heap.size]? = some (.cells #[.bool (decide (ws = wPoly))] 4)) ∧ Upd noBlk w W)
    (fun _ _ => False) ?hI ?hIx ?h0 (fun args => { tmps := #[.string (bs s), undef, .pointer (some ⟨w.heap.size, 0, none⟩), undef, args.getD 1 undef, .string (bs s), .func (.func 31) #[] #[.pointer (some ⟨w.heap.size + 1, 0, none⟩)], args.getD 0 undef, args.getD 1 undef, undef, undef, undef, undef], defers := [] }) ?assign ?body ?done ?stop ?panic))
  case q1 => exact fun k hk => (heap_alloc_old _ _ (by simp; omega)).trans (heap_alloc_old _ _ hk)
  case q2 => simp; omega
  case q3 => have h := heap_alloc_new (w.alloc (.cells #[.bool false] 4)) (.cells #[.string (bs s)] 9); simpa using h
  case hI => exact fun _ X Y row h hg hr => ⟨h.1, grown_upd h.2.1 (by simp; omega) hg hr, grown_cells h.2.2 hg hr⟩
  case hIx => exact fun _ _ X Y row h hg hr => ⟨h.1, by obtain ⟨x, ws, rest, h1, h2⟩ := h.2.1; exact ⟨x, ws, rest, h1, grown_cells h2 hg hr⟩, grown_upd h.2.2 (by simp; omega) hg hr⟩
  case h0 => exact ⟨rfl, ((Upd.refl _ _).alloc _).alloc _, heap_alloc_keep _ (heap_alloc_new _ _)⟩
  case assign =>
    intro l x args W K h hK
    obtain ⟨A, rfl, hrd⟩ := h
    gi_wp2_with fail
    exact hK
  case body =>
    rintro l pre x args W ⟨rfl, hup, hbx⟩ har hok
    obtain ⟨A, rfl, hrd⟩ := har
    obtain ⟨rest, hr⟩ := hok
    obtain ⟨wd, ws, hx, hfw⟩ := firstWord_cons _ _ x rest hr.symm
    obtain ⟨i, ww⟩ := x
    simp only at hx hrd ⊢
    subst hx
    obtain ⟨b, off, rfl, hc⟩ := hrd (by simp)
    have c0 : W.cell? ⟨b, off, none⟩ = some (.string (bs wd)) := hc 0 (by simp)
    have c2 : W.cell? ⟨w.heap.size, 0, none⟩ = some (.bool false) := by simp [World.cell?, hbx]
    have z2 : W.frozen? ⟨w.heap.size, 0, none⟩ = false := by simp [World.frozen?, hbx]
    have HU := Lib.hid hup
    have HBX := Lib.hid hbx
    clear hc hrd hr hfw hup hbx
    simp only [pair0, pair1]
    gi_wp2_with fail
    refine ⟨KeepsOthers.setCell _ _ _, rfl, ⟨i, wd, ws, rfl, ?_⟩, HU.out.setCell (fun h => absurd h (Nat.lt_irrefl _)) _⟩
    refine (heap_setCell_eq _ HBX.out).trans ?_
    rw [bs_toList]
    have e : (wd == [112, 111, 108, 121]) = decide (wd = wPoly) := by rw [Bool.eq_iff_iff, beq_iff_eq, decide_eq_true_eq]; rfl
    rw [e]; rfl
  case done =>
    intro D xs W hD hS h hk
    obtain ⟨rfl, hup, hbx⟩ := h
    have c2 : W.cell? ⟨w.heap.size, 0, none⟩ = some (.bool false) := by simp [World.cell?, hbx]
    have z2 : W.frozen? ⟨w.heap.size, 0, none⟩ = false := by simp [World.frozen?, hbx]
    have HBX := Lib.hid hbx
    have hfw : isPolysS s = false := by
      unfold isPolysS; rw [firstWord_nil _ _ hS.symm]; decide
    have HF := Lib.hid hfw
    clear hbx hS hfw
    refine wpAt_of (n := 5) ?_
    gi_wp2_with fail
    have hk' : (W.setCell ⟨w.heap.size, 0, none⟩ (.bool false)).heap[D]? = some (.deferred (some [])) := heap_setCell_ne _ hk (by simp at hD; omega)
    refine ⟨by simp, .inl ⟨_, _, rfl, run_takeDeferred hk', ?_⟩⟩
    have hb5 : ((W.setCell ⟨w.heap.size, 0, none⟩ (.bool false)).putObj D (.deferred none)).heap[w.heap.size]? = some (.cells #[.bool false] 4) := by
      rw [World.putObj_heap_other (by simp at hD; omega)]; exact (heap_setCell_eq _ HBX.out).trans rfl
    have hc5 : ((W.setCell ⟨w.heap.size, 0, none⟩ (.bool false)).putObj D (.deferred none)).cell? ⟨w.heap.size, 0, none⟩ = some (.bool false) := by simp [World.cell?, hb5]
    refine ⟨.bool false, by simp [results, Tryd.f13, go_sem, hc5], by rw [HF.out], ?_⟩
    exact (hup.setCell (p := ⟨w.heap.size, 0, none⟩) (fun h => absurd h (Nat.lt_irrefl _)) _).then (upd_putObj0 _ D _) (fun i hi e => by simp at hD; omega)
  case stop =>
    intro D c pre W hD hS h hk
    obtain ⟨rfl, ⟨x, ws, rest, rfl, hbx⟩, hup⟩ := h
    gi_wp2_with fail
    refine ⟨by simp, .inl ⟨_, _, rfl, run_takeDeferred hk, ?_⟩⟩
    have hb5 : (W.putObj D (.deferred none)).heap[w.heap.size]? = some (.cells #[.bool (decide (ws = wPoly))] 4) := by
      rw [World.putObj_heap_other (by simp at hD; omega)]; exact hbx
    have hc5 : (W.putObj D (.deferred none)).cell? ⟨w.heap.size, 0, none⟩ = some (.bool (decide (ws = wPoly))) := by simp [World.cell?, hb5]
    obtain ⟨rest', hr⟩ := hS
    obtain ⟨wd, ws', hx, hfw⟩ := firstWord_cons _ _ _ _ hr.symm
    cases hx
    refine ⟨.bool (decide (ws = wPoly)), by simp [results, Tryd.f13, go_sem, hc5], by unfold isPolysS; rw [hfw], ?_⟩
    exact hup.then (upd_putObj0 W D _) (fun i hi e => by simp at hD; omega)
  case panic =>
    intro D chain W hD h
    exact h.elim
end Go.Proofs.YtojdgdeefhndiaaDoor
namespace Go.Proofs.YtojdgdeefhndiaaDoor
open Go Go.RowKit

theorem upd_of_grown {F : Nat → Prop} {w w' : World} {row : Option Nat} (hg : w.grownBy w' row) (hr : ∀ k, row = some k → k < w.heap.size → F k) : Upd F w w' := (Upd.refl F w).grown hg hr
theorem ownsRow_keep {w w' : World} {base n : Nat} {T : TypeId} {s : Nat} {v : Value} {xs : List Value} (own : w.ownsRow base T s v n xs) (hk : ∀ g, v.ownBlock = some g → w'.heap[g]? = w.heap[g]?) : w'.ownsRow base T s v n xs := by
  refine ⟨own.1, ?_⟩
  rcases own.2 with h | ⟨g, cap, cur, rfl, hg, hh, r⟩
  · exact .inl h
  · exact .inr ⟨g, cap, cur, rfl, hg, (hk g (by simp [Value.ownBlock])).trans hh, r⟩
theorem ownsRow_upd {w w' : World} {base n : Nat} {T : TypeId} {s : Nat} {v : Value} {xs : List Value} (own : w.ownsRow base T s v n xs) (hu : Upd noBlk w w') : w'.ownsRow base T s v n xs :=
  ownsRow_keep own (fun g hg => hu.block g (own.lt g hg).2 id)
/-- 'append(own, x)' where the row was begun behind w0. -/
theorem append_item {P : Program} {F : Nat → Prop} {w0 w : World} (t ty e : TypeId) (i : TypeInfo) (z : Value) (size bytes : Nat) (ht : P.underlying t = some (.slice e)) (hi : P.info? e = some i) (hz : i.zero = some z)
    (hsize : i.size = size) (hby : i.bytes = bytes) (hzs : z.cells.size = size) (hsz : 0 < size) (hup : Upd F w0 w) {v : Value} {n : Nat} {xs : List Value} (hown : w.ownsRow w0.heap.size e size v n xs)
    (news : List Value) (hl : news.length = size) (h1 : ∀ u ∈ news, u.oneCell' = true) (h63 : n + 1 ≤ maxLen) (hbytes : (n + 1) * bytes ≤ 140737488355328) :
    ∃ g cap w', (Builtin.append_ #[t, t] ty #[v, .slice (some ⟨w.heap.size, 0, none⟩) 1 1]).run P (w.alloc (.cells news.toArray e)) = .ok (.slice (some ⟨g, 0, none⟩) (n + 1) cap) w' ∧
      w'.ownsRow w0.heap.size e size (.slice (some ⟨g, 0, none⟩) (n + 1) cap) (n + 1) (xs ++ news) ∧ Upd F w0 w' ∧ Upd (fun k => v.ownBlock = some k) w w' ∧ (v.ownBlock = some g ∨ g = w.heap.size + 1) ∧ g < w'.heap.size := by
  obtain ⟨g, cap, w', r, o, gr, hat, hlt⟩ := append_one (P := P) w t ty e i z size bytes ht hi hz hsize hby hzs hsz hown hup.size news hl h1 h63 hbytes
  have hu2 : Upd (fun k => v.ownBlock = some k) w w' := (upd_of_grown (World.grownBy_alloc w _ v.ownBlock) (fun j hj _ => hj)).trans (upd_of_grown gr (fun j hj _ => hj))
  exact ⟨g, cap, w', r, o, hup.then hu2 (fun j hj hj' => absurd (hown.lt j hj').1 (by omega)), hu2, hat, hlt⟩
end Go.Proofs.YtojdgdeefhndiaaDoor
namespace Go.Proofs.YtojdgdeefhndiaaDoor
open Go Go.RowKit Sp
set_option maxRecDepth 100000

def numsP (least most : Nat) (ws : List Bytes) : R (List Int) :=
  if ws.length < least || ws.any (fun x => !isNum x) then .bad 10 else if most < ws.length then .bad 2 else if ws.any Sp.long then .bad 11 else .ok (ws.map Sp.valOf)
/-- What numbers comes to. -/
def NumsQ (r : R (List Int)) (place : Int) (w : World) (en : Ending) (w' : World) : Prop :=
  match r with
  | .ok zs => ∃ v, en = .returned v ∧ w'.ownsRow w.heap.size 3 1 v zs.length (zs.map (Value.int .i64)) ∧ Upd noBlk w w'
  | .bad e => en = .panicked (fail place e) ∧ Upd noBlk w w'
theorem info_i : (Tryd.prog.info? 3).map (fun i => (i.zero, i.size, i.bytes)) = some (some (.int .i64 0), 1, 8) := by kernel_rfl

theorem decFrom_digs : ∀ (l : Bytes) (acc : Nat), l.all isDig = true → Lib.decFrom acc l = some (l.foldl (fun a c => 10 * a + (c.toNat - 48)) acc)
  | [], _, _ => rfl
  | c :: r, acc, h => by
    rw [List.all_cons, Bool.and_eq_true] at h
    have hc : 48 ≤ c.toNat ∧ c.toNat ≤ 57 := by simpa [isDig] using h.1
    unfold Lib.decFrom Lib.digitVal
    rw [if_pos hc]
    simp only
    rw [decFrom_digs r _ h.2, List.foldl_cons, Nat.mul_comm]
theorem atoi_val {l : Bytes} (h : isNum l = true) : Lib.atoi l = some (Sp.valOf l) := by
  unfold isNum at h
  rw [Bool.and_eq_true] at h
  obtain ⟨h1, h2⟩ := h
  cases l with
  | nil => simp [unminus] at h1
  | cons c r =>
    unfold Lib.atoi Sp.valOf natOf
    by_cases hc : c = 45
    · subst hc
      have hu : unminus (45 :: r) = r := by simp [unminus]
      rw [hu] at h1 h2
      have hr : r ≠ [] := by simpa using h1
      have hd : Lib.decNat r = some (r.foldl (fun a c => 10 * a + (c.toNat - 48)) 0) := by unfold Lib.decNat; rw [if_neg (by simpa using hr), decFrom_digs r 0 h2]
      rw [hu]
      simp [hd]
    · have hu : unminus (c :: r) = c :: r := by simp [unminus, hc]
      rw [hu] at h1 h2
      have hd : 48 ≤ c.toNat ∧ c.toNat ≤ 57 := by rw [List.all_cons, Bool.and_eq_true] at h2; simpa [isDig] using h2.1
      have h43 : ¬ c = 43 := by intro e; subst e; simp at hd
      have hdd : Lib.decNat (c :: r) = some ((c :: r).foldl (fun a c => 10 * a + (c.toNat - 48)) 0) := by unfold Lib.decNat; rw [if_neg (by simp), decFrom_digs (c :: r) 0 h2]
      rw [hu]
      simp [hc, h43, hdd]
theorem size_long {l : Bytes} (h : Sp.long l = false) : l.length ≤ 18 := by
  unfold Sp.long at h
  simp at h
  cases l with
  | nil => simp
  | cons c r =>
    unfold unminus at h
    by_cases hc : c = 45 <;> simp [hc] at h <;> simp <;> omega
theorem Upd.bytesWorld (w : World) (e : TypeId) (s : ByteArray) : Upd noBlk w (Lib.bytesWorld w e s) := Upd.ofBelow (Lib.bytesWorld_below w e s)

theorem numsP_rest {least most : Nat} {ws : List Bytes} (c1 : ¬ ws.length < least) (c2 : ws.any (fun x => !isNum x) = false) (c3 : ¬ most < ws.length) : numsP least most ws = if ws.any Sp.long then .bad 11 else .ok (ws.map Sp.valOf) := by
  unfold numsP; rw [if_neg (by simp only [c2, Bool.or_false, decide_eq_true_eq]; exact c1), if_neg c3]
set_option maxHeartbeats 600000 in
theorem numbers_any (A : Option Addr) (cap : Nat) (ws : List Bytes) (least most : Nat) (place : Int) (_h1 : least ≤ 1000) (_h2 : most ≤ 1000) (hl : ws.length ≤ 4294967296) (hs : short ws) (w : World) (h : RdW w A ws) :
    Calls Tryd.prog 25 #[.slice A ws.length cap, .int .i64 least, .int .i64 most, .int .i64 place] w fun en w' => NumsQ (numsP least most ws) place w en w' := by
  have H := Lib.hid h
  have HS := Lib.hid hs
  clear h hs
  by_cases c1 : ws.length < least
  · have hp : Hid (numsP least most ws = .bad 10) := by show _ = _; unfold numsP; rw [if_pos (by simp [c1])]
    rw [hp.out]
    have c1' : decide (least ≤ ws.length) = false := by simp; omega
    go_enter Tryd.func25, Tryd.ntmps25
    go_wp2_with (go_at_call 21; refine (check_bad _ _ _).mono ?_; rintro e w2 ⟨rfl, rfl⟩)
    exact ⟨rfl, rfl, Upd.refl _ _⟩
  · have c1' : ((least : Nat) : Int) ≤ ((ws.length : Nat) : Int) := by omega
    rcases c2 : ws.any (fun x => !isNum x) with _ | _
    · have hcf := containsFunc_any A cap ws (by omega) HS.out w H.out
      rw [c2] at hcf
      have HCF := Lib.hid hcf
      have hnum : Hid (∀ x, x ∈ ws → isNum x = true) := by
        intro x hx
        rw [List.any_eq_false] at c2
        simpa using c2 x hx
      by_cases c3 : most < ws.length
      · have hp : Hid (numsP least most ws = .bad 2) := by show _ = _; unfold numsP; rw [if_neg (by simp [c1, c2]), if_pos c3]
        rw [hp.out]
        have c3' : decide (ws.length ≤ most) = false := by simp; omega
        clear hcf c2
        go_enter Tryd.func25, Tryd.ntmps25
        go_wp2_with fail
        refine HCF.out.mono ?_
        rintro e w1 ⟨rfl, u1⟩
        go_wp2_with fail
        refine (check_ok _ _ _).mono ?_
        rintro e w2 ⟨rfl, rfl⟩
        go_wp2_with fail
        refine (check_bad _ _ _).mono ?_
        rintro e w2 ⟨rfl, rfl⟩
        exact ⟨rfl, rfl, u1⟩
      · have c3' : decide (ws.length ≤ most) = true := by simp; omega
        clear hcf
        go_enter Tryd.func25, Tryd.ntmps25
        go_wp2_with fail
        refine HCF.out.mono ?_
        rintro e w1 ⟨rfl, u1⟩
        have U1 := Lib.hid u1
        clear u1
        go_wp2_with fail
        refine (check_ok _ _ _).mono ?_
        rintro e w2 ⟨rfl, rfl⟩
        go_wp2_with fail
        refine (check_ok _ _ _).mono ?_
        rintro e w2 ⟨rfl, rfl⟩
        go_wp2_with fail
        have HR := Lib.hid (numsP_rest (least := least) (most := most) c1 c2 c3)
        clear c1 c2 c3 c1' c3' HCF
        go_loopw [9, 11, 12, 13, 33] (fun v _ _ _ i wr => ∃ k : Nat, i = .int .i64 k ∧ k ≤ ws.length ∧ (∀ x, x ∈ ws.take k → Sp.long x = false) ∧ wr.ownsRow w.heap.size 3 1 v k ((ws.take k).map (fun x => Value.int .i64 (Sp.valOf x))) ∧ Upd noBlk w wr) (fun _ _ _ _ i _ => ws.length - (intOf i).toNat)
        case atStart => exact ⟨0, rfl, Nat.zero_le _, by simp, World.ownsRow_nil _ _ _ _, U1.out⟩
        case round =>
          obtain ⟨k, rfl, hk, hx, ho, hu⟩ := hrel
          have HU := Lib.hid hu
          have HO := Lib.hid ho
          have HX := Lib.hid hx
          clear hu ho hx U1
          by_cases hlt : k < ws.length
          · obtain ⟨b, off, rfl, ea⟩ := H.out (by omega)
            have c0 : wr.cell? ⟨b, off + k, none⟩ = some (.string (bs ws[k])) := HU.out.cell (ea k hlt) id
            have hmem : ws[k] ∈ ws := List.getElem_mem hlt
            have hisn := Lib.hid (hnum.out _ hmem)
            have hk1 : Hid (ws.take (k + 1) = ws.take k ++ [ws[k]]) := List.take_succ_eq_append_getElem hlt
            have hlt' : ((k : Nat) : Int) < ((ws.length : Nat) : Int) := by omega
            have hszu : (⟨(unminus ws[k]).toArray⟩ : ByteArray).size = (unminus ws[k]).length := by simp [ByteArray.size]
            have hub : ((unminus ws[k]).length : Int) ≤ 4294967296 := by have := unminus_le ws[k]; have := HS.out _ hmem; omega
            clear ea
            by_cases hlong : 15 < (unminus ws[k]).length
            · have hp : Hid (numsP least most ws = .bad 11) := by
                show _ = _; rw [HR.out, if_pos]; rw [List.any_eq_true]; exact ⟨_, hmem, by unfold Sp.long; simpa using hlong⟩
              have hd : decide ((((unminus ws[k]).length : Nat) : Int) ≤ 15) = false := by simp; omega
              clear hmem hlong
              go_wp2_with fail
              refine (Tryd.strings_TrimPrefix _ ⟨#[45]⟩ _).mono ?_
              rw [bs_data, trimPrefix_minus]
              rintro e w3 ⟨rfl, rfl⟩
              go_wp2_with fail
              refine (check_bad _ _ _).mono ?_
              rintro e w3 ⟨rfl, rfl⟩
              refine ⟨rfl, ?_⟩
              show NumsQ (numsP least most ws) place w _ _
              rw [hp.out]
              exact ⟨rfl, HU.out⟩
            · have hl0 : Sp.long ws[k] = false := by unfold Sp.long; simpa using hlong
              have hd : decide ((((unminus ws[k]).length : Nat) : Int) ≤ 15) = true := by simp; omega
              have HL0 := Lib.hid hl0
              clear hmem hlong hl0
              go_wp2_with fail
              refine (Tryd.strings_TrimPrefix _ ⟨#[45]⟩ _).mono ?_
              rw [bs_data, trimPrefix_minus]
              rintro e w3 ⟨rfl, rfl⟩
              go_wp2_with fail
              refine (check_ok _ _ _).mono ?_
              rintro e w3 ⟨rfl, rfl⟩
              go_wp2_with fail
              refine (Tryd.strconv_Atoi (bs ws[k]) (Sp.valOf ws[k]) (by rw [bs_size]; exact size_long HL0.out) (by rw [bs_data]; exact atoi_val hisn.out) _).mono ?_
              rintro e w4 ⟨rfl, tt, rfl⟩
              have hU4 : Hid (Upd noBlk w (Lib.bytesWorld w3 5 tt)) := HU.out.trans (Upd.bytesWorld w3 5 tt)
              have m2 : Hid (k + 1 ≤ maxLen) := by show _ ≤ _; unfold maxLen; omega
              have b1 : Hid ((k + 1) * 8 ≤ 140737488355328) := by show _ ≤ _; omega
              obtain ⟨i0, hi0, hz0, hz1, hz2⟩ := info_parts info_i
              obtain ⟨gg, cp, w5, r5, o5, hup5, _, _, _⟩ := append_item (w0 := w) (w := Lib.bytesWorld w3 5 tt) 46 46 3 i0 _ 1 8 Tryd.underlying46 hi0 hz0 hz1 hz2 rfl (by omega) hU4.out
                (ownsRow_upd HO.out (Upd.bytesWorld w3 5 tt)) [.int .i64 (Sp.valOf ws[k])] rfl (by simp [Value.oneCell']) m2.out b1.out
              have hup := Lib.hid hup5
              have O5 : Hid (w5.ownsRow w.heap.size 3 1 (.slice (some ⟨gg, 0, none⟩) (k + 1) cp) (k + 1) ((ws.take (k + 1)).map (fun x => Value.int .i64 (Sp.valOf x)))) := by
                show World.ownsRow _ _ _ _ _ _ _; rw [hk1.out, List.map_append]; exact o5
              have HX1 : Hid (∀ x, x ∈ ws.take (k + 1) → Sp.long x = false) := by
                intro x hx
                rw [hk1.out, List.mem_append] at hx
                rcases hx with hx | hx
                · exact HX.out x hx
                · rw [List.mem_singleton] at hx; rw [hx]; exact HL0.out
              have R5 := Lib.hid r5
              clear r5 o5 hup5
              go_wp2_with (at_builtin; refine wpList_append_run rfl _ _ _ rfl rfl rfl R5.out ?_)
              go_roundw
              case rel => exact ⟨k + 1, by go_num, hlt, HX1.out, O5.out, hup.out⟩
              case measure => simp [intOf]; omega
          · have hkk : k = ws.length := by omega
            have hw : ws.take k = ws := List.take_of_length_le (by omega)
            have hp : Hid (numsP least most ws = .ok (ws.map Sp.valOf)) := by
              show _ = _; rw [HR.out, if_neg]; rw [Bool.not_eq_true, List.any_eq_false]; intro x hx; rw [HX.out x (by rw [hw]; exact hx)]; simp
            have O6 : Hid (wr.ownsRow w.heap.size 3 1 u9 (ws.map Sp.valOf).length ((ws.map Sp.valOf).map (Value.int .i64))) := by
              have := HO.out; rw [hw, hkk] at this; show World.ownsRow _ _ _ _ _ _ _; rw [List.length_map, List.map_map]; exact this
            have hlt' : ¬ ((k : Nat) : Int) < ((ws.length : Nat) : Int) := by omega
            clear hw hkk
            go_wp2
            go_ret
            show NumsQ (numsP least most ws) place w _ _
            rw [hp.out]
            exact ⟨_, rfl, O6.out, HU.out⟩
    · have hp : Hid (numsP least most ws = .bad 10) := by show _ = _; unfold numsP; rw [if_pos (by simp [c2])]
      rw [hp.out]
      have hcf := containsFunc_any A cap ws (by omega) HS.out w H.out
      rw [c2] at hcf
      have HCF := Lib.hid hcf
      clear hcf c2
      go_enter Tryd.func25, Tryd.ntmps25
      go_wp2_with fail
      refine HCF.out.mono ?_
      rintro e w1 ⟨rfl, u1⟩
      go_wp2_with fail
      refine (check_bad _ _ _).mono ?_
      rintro e w2 ⟨rfl, rfl⟩
      exact ⟨rfl, rfl, u1⟩
end Go.Proofs.YtojdgdeefhndiaaDoor
