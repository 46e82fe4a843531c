/- Walks of the laws: CoderItems. -/
import Derived.Test.YtadfolnhomongaaDoorLawI
import Derived.Test.YtadfolnhomongaaDoorArg
import Derived.Test.YtadfolnhomongaaDoorRegionC
namespace Go.Proofs.YtadfolnhomongaaDoor
open Go Go.RowKit Pc
set_option maxRecDepth 100000

/-- An item of the law: its context, whether it is a number, and which. -/
abbrev It := Int × Bool × Nat
def itCells (cs : List Value) (x : It) : Prop := cs = [.int .i64 x.1, .bool x.2.1, .int .u64 (x.2.2 : Int)] ∧ x.2.2 < 2 ^ 64
def itBits (x : It) : List (Int × Bool) := if x.2.1 then numBits x.1 x.2.2 else [(x.1, decide (x.2.2 % 2 = 1))]
theorem itBits_length {x : It} (h : x.2.2 < 2 ^ 64) : (itBits x).length ≤ 128 := by
  unfold itBits
  split
  · exact numBits_length _ h
  · simp
/-- Both writers. -/
structure TwoW (w wr : World) (b m : Nat) (e : E) (F G : Nat → Prop) : Prop where
  rep : WRep wr b e F
  rr : RWRep wr m e G
  nf : NewF F w
  ng : NewF G w
  ne : ∀ k, F k → ¬ G k
  up : Upd noBlk w wr
theorem TwoW.upd {w wr w2 : World} {b m : Nat} {e : E} {F G : Nat → Prop} (h : TwoW w wr b m e F G) (hu : Upd noBlk wr w2) : TwoW w w2 b m e F G :=
  ⟨h.rep.upd hu (fun _ _ => id), h.rr.upd hu (fun _ _ => id), h.nf, h.ng, h.ne, h.up.trans hu⟩
/-- Behind a step of the first writer. -/
structure TwoA (w wr : World) (b m : Nat) (e e' : E) (F G : Nat → Prop) : Prop where
  rep : WRep wr b e' F
  rr : RWRep wr m e G
  nf : NewF F w
  ng : NewF G w
  ne : ∀ k, F k → ¬ G k
  up : Upd noBlk w wr
theorem TwoW.first {w wr : World} {b m : Nat} {e e' : E} {F G : Nat → Prop} (h : TwoW w wr b m e F G) {w2 : World} {F' : Nat → Prop} (q : WG F wr w2 b e' F') : TwoA w w2 b m e e' F' G := by
  have hG := h.rr.lt
  exact ⟨q.rep, h.rr.upd q.up (fun k hk hf => h.ne k hf hk), fun j hj => (q.new j hj).elim (h.nf j) (fun x => Nat.le_trans h.up.size x), h.ng,
    fun k hk hg => (q.new k hk).elim (fun x => h.ne k x hg) (fun x => by have := hG k hg; omega), upd_new h.up q.up h.nf⟩
theorem TwoA.upd {w wr w2 : World} {b m : Nat} {e e' : E} {F G : Nat → Prop} (h : TwoA w wr b m e e' F G) (hu : Upd noBlk wr w2) : TwoA w w2 b m e e' F G :=
  ⟨h.rep.upd hu (fun _ _ => id), h.rr.upd hu (fun _ _ => id), h.nf, h.ng, h.ne, h.up.trans hu⟩
theorem TwoA.second {w wr : World} {b m : Nat} {e e' : E} {F G : Nat → Prop} (h : TwoA w wr b m e e' F G) {w2 : World} {G' : Nat → Prop} (q : RWG G wr w2 m e' G') : TwoW w w2 b m e' F G' := by
  have hF := h.rep.lt
  exact ⟨h.rep.upd q.up (fun k hk hg => h.ne k hk hg), q.rep, h.nf, fun j hj => (q.new j hj).elim (h.ng j) (fun x => Nat.le_trans h.up.size x),
    fun k hk hg => (q.new k hg).elim (fun x => h.ne k hk x) (fun x => by have := hF k hk; omega), upd_new h.up q.up h.ng⟩

theorem it_take {l : List It} {k : Nat} (h : k < l.length) : (l.take (k + 1)).flatMap itBits = (l.take k).flatMap itBits ++ itBits l[k] := by
  rw [take_snoc h, List.flatMap_append]; simp
theorem it_length {l : List It} (hN : ∀ j (h : j < l.length), l[j].2.2 < 2 ^ 64) (k : Nat) (hk : k ≤ l.length) : ((l.take k).flatMap itBits).length ≤ 128 * k := by
  induction k with
  | zero => simp
  | succ k ih =>
    rw [it_take (by omega), List.length_append]
    have := ih (by omega)
    have := itBits_length (hN k (by omega))
    omega
theorem it_drop {l : List It} {k M : Nat} (h : k < M) (hM : M ≤ l.length) : ((l.take M).drop k).flatMap itBits = itBits (l[k]'(by omega)) ++ ((l.take M).drop (k + 1)).flatMap itBits := by
  have e : (l.take M).drop k = (l[k]'(by omega)) :: (l.take M).drop (k + 1) := by
    rw [List.drop_eq_getElem_cons (by rw [List.length_take]; omega)]; simp
  rw [e]; rfl
theorem encFrom_append (e : E) (a b : List (Int × Bool)) : encFrom e (a ++ b) = encFrom (encFrom e a) b := by simp [encFrom, List.foldl_append]
theorem mod2_bool (n : Nat) : (((n : Nat) : Int) % 2 == 1) = decide (n % 2 = 1) := by
  rw [Bool.eq_iff_iff]; simp; omega

/-- The three cells of an item. -/
def Cells3 (w : World) (b o : Nat) (x : It) : Prop := w.cell? ⟨b, o, none⟩ = some (.int .i64 x.1) ∧ w.cell? ⟨b, o + 1, none⟩ = some (.bool x.2.1) ∧ w.cell? ⟨b, o + 2, none⟩ = some (.int .u64 (x.2.2 : Int))
theorem Cells3.keep {w w' : World} {b o : Nat} {x : It} (h : Cells3 w b o x) (hu : Upd noBlk w w') : Cells3 w' b o x := ⟨hu.cell h.1 id, hu.cell h.2.1 id, hu.cell h.2.2 id⟩
theorem RdL.it {w : World} {A : Option Addr} {l : List It} (h : RdL 3 itCells w A l) (h0 : 0 < l.length) : ∃ b off, A = some ⟨b, off, none⟩ ∧ (∀ j (h : j < l.length), Cells3 w b (off + j * 3) l[j]) ∧ ∀ j (h : j < l.length), l[j].2.2 < 2 ^ 64 := by
  obtain ⟨b, off, e, h1⟩ := h h0
  refine ⟨b, off, e, fun j hj => ?_, fun j hj => ?_⟩
  · obtain ⟨cs, _, ⟨rfl, _⟩, h4⟩ := h1 j hj
    exact ⟨h4 0 _ rfl, h4 1 _ rfl, h4 2 _ rfl⟩
  · obtain ⟨cs, _, ⟨_, h3⟩, _⟩ := h1 j hj
    exact h3
theorem RdL.itN {w : World} {A : Option Addr} {l : List It} (h : RdL 3 itCells w A l) : ∀ j (h : j < l.length), l[j].2.2 < 2 ^ 64 := by
  intro j hj
  obtain ⟨_, _, _, _, h1⟩ := h.it (by omega)
  exact h1 j hj

set_option maxHeartbeats 3000000 in
theorem lawItems_any (A : Option Addr) (ca : Nat) (l : List It) (w : World) (hl : ((l.length : Nat) : Int) ≤ 9223372036854775807) (ha : RdL 3 itCells w A l) :
    Calls Tryd.prog 12 #[.slice A l.length ca] w fun e w' => e = .returned (.bool true) ∧ Upd noBlk w w' := by
  have HA := Lib.hid ha
  have HN := Lib.hid ha.itN
  clear ha
  obtain ⟨M, hM, hM1, hM2⟩ : ∃ M : Nat, min ((l.length : Nat) : Int) 40 = (M : Int) ∧ M ≤ l.length ∧ M ≤ 40 := ⟨min l.length 40, by omega, by omega, by omega⟩
  go_enter Tryd.func12, Tryd.ntmps12
  go_wp2_with (first | (go_at_call 14; refine (sanity_any _).mono ?_; rintro e w1 ⟨rfl, u1⟩; have U1 := Lib.hid u1; clear u1) | (go_at_call 23; refine (NewWriter_any _).mono ?_; rintro e w2 ⟨rfl, rfl⟩) | (go_at_call 32; refine (rNewWriter_any _).mono ?_; rintro e w' ⟨rfl, rfl⟩))
  have T0 : Hid (∃ F G, TwoW w ((w1.alloc (.cells wZero 73)).alloc (.cells Tryd.zeroCells91 91)) w1.heap.size (w1.heap.size + 1) E.init F G) := by
    have h1 := U1.out.size
    have h2 := rNewWriter_rep (w1.alloc (.cells wZero 73))
    have e0 : (w1.alloc (.cells wZero 73)).heap.size = w1.heap.size + 1 := by simp
    rw [e0] at h2
    refine ⟨_, _, (NewWriter_rep w1).upd ((Upd.refl noBlk _).alloc _) (fun _ _ => id), h2, fun k hk => by subst hk; exact h1, fun k hk => by subst hk; omega, fun k hk hg => by subst hk; omega, (U1.out.alloc _).alloc _⟩
  clear hM
  go_loopw [7] (fun i wr => ∃ k : Nat, i = .int .i64 k ∧ k ≤ M ∧ ∃ F G, TwoW w wr w1.heap.size (w1.heap.size + 1) (encFrom E.init ((l.take k).flatMap itBits)) F G) (fun i _ => 40 - (intOf i).toNat)
  case atStart => obtain ⟨F, G, h⟩ := T0.out; exact ⟨0, rfl, Nat.zero_le _, F, G, h⟩
  case round =>
    obtain ⟨k, rfl, hk, F, G, hd⟩ := hrel
    have HD := Lib.hid hd
    clear hd T0
    have kb : ((k : Nat) : Int) ≤ 40 := by omega
    have HL : Hid ((encFrom E.init ((l.take k).flatMap itBits)).done.length + 300 ≤ 1000000) := by
      show _ ≤ _
      have h4 := encFrom_done_length E.init ((l.take k).flatMap itBits)
      have h5 := it_length HN.out k (by omega)
      have h6 : E.init.done.length = 0 := rfl
      omega
    by_cases hlt : k < M
    · have hkl : k < l.length := by omega
      have hkl' : ((k : Nat) : Int) < ((l.length : Nat) : Int) := by omega
      obtain ⟨b, off, rfl, ea, _⟩ := HA.out.it (by omega)
      have EA : Hid (Cells3 w b (off + k * 3) l[k]) := ea k hkl
      have hn64 := Lib.hid (HN.out k hkl)
      have HX : Hid (encFrom E.init ((l.take (k + 1)).flatMap itBits) = encFrom (encFrom E.init ((l.take k).flatMap itBits)) (itBits l[k])) := by show _ = _; rw [it_take hkl, encFrom_append]
      clear ea
      generalize encFrom E.init ((l.take k).flatMap itBits) = e at *
      generalize l[k] = x at *
      obtain ⟨c, num, n⟩ := x
      have e0 := HD.out.up.cell EA.out.2.1 id
      cases num
      · have HX2 : Hid (encFrom E.init ((l.take (k + 1)).flatMap itBits) = e.bit c (decide (n % 2 = 1))) := HX.out
        have hm2 := mod2_bool n
        have hnn : 0 ≤ ((n : Nat) : Int) := by omega
        go_wp2_with fail
        refine wp_region_ord 13 [(0, true), (1, true), (2, true), (3, true), (4, true), (5, true), (6, true), (7, true), (8, true), (9, true), (10, true), (11, true), (12, true)] (fun w' => Cells3 w' b (off + k * 3) (c, false, n)) (by kernel_rfl) (by kernel_rfl) (fun c a d v w h => by cases d <;> exact h) (EA.out.keep HD.out.up.drew) ?_
        (apply wpG_sure rfl rfl; focus (intro w' hw'; obtain ⟨g1, g2, g3⟩ := hw'; go_simp; rfl))
        (apply wpG_sure rfl rfl; focus (intro w' hw'; obtain ⟨g1, g2, g3⟩ := hw'; go_simp; rfl))
        (apply wpG_sure rfl rfl; focus (intro w' hw'; obtain ⟨g1, g2, g3⟩ := hw'; go_simp; rfl))
        (apply wpG_sure rfl rfl; focus (intro w' hw'; obtain ⟨g1, g2, g3⟩ := hw'; go_simp; rfl))
        (apply wpG_sure rfl rfl; focus (intro w' hw'; obtain ⟨g1, g2, g3⟩ := hw'; go_simp; rfl))
        (apply wpG_sure rfl rfl; focus (intro w' hw'; obtain ⟨g1, g2, g3⟩ := hw'; go_simp; rfl))
        (apply wpG_sure rfl rfl; focus (intro w' hw'; obtain ⟨g1, g2, g3⟩ := hw'; go_simp; rfl))
        (apply wpG_sure rfl rfl; focus (intro w' hw'; obtain ⟨g1, g2, g3⟩ := hw'; go_simp; rfl))
        (apply wpG_sure rfl rfl; focus (intro w' hw'; obtain ⟨g1, g2, g3⟩ := hw'; go_simp; rfl))
        (apply wpG_sure rfl rfl; focus (intro w' hw'; obtain ⟨g1, g2, g3⟩ := hw'; go_simp; rfl))
        (apply wpG_sure rfl rfl; focus (intro w' hw'; obtain ⟨g1, g2, g3⟩ := hw'; go_simp; rfl))
        (apply wpG_sure rfl rfl; focus (intro w' hw'; obtain ⟨g1, g2, g3⟩ := hw'; go_simp; rfl))
        (apply wpG_sure rfl rfl; focus (intro w' hw'; obtain ⟨g1, g2, g3⟩ := hw'; go_simp; rfl))
        refine wpG_nil ?_
        go_wp2_with (go_at_call 24; refine ((WG.self (HD.out.upd (Upd.refl noBlk _).drew).rep).bit c (((n : Nat) : Int) % 2 == 1) (by have := HL.out; omega)).mono ?_; rw [mod2_bool]; rintro en w2 ⟨rfl, F2, q2⟩; have T1 := Lib.hid ((HD.out.upd (Upd.refl noBlk _).drew).first q2); clear q2)
        refine wp_region_ord 13 [(0, true), (1, true), (2, true), (3, true), (4, true), (5, true), (6, true), (7, true), (8, true), (9, true), (10, true), (11, true), (12, true)] (fun w' => Cells3 w' b (off + k * 3) (c, false, n)) (by kernel_rfl) (by kernel_rfl) (fun c a d v w h => by cases d <;> exact h) (EA.out.keep T1.out.up.drew) ?_
        (apply wpG_sure rfl rfl; focus (intro w' hw'; obtain ⟨g1, g2, g3⟩ := hw'; go_simp; rfl))
        (apply wpG_sure rfl rfl; focus (intro w' hw'; obtain ⟨g1, g2, g3⟩ := hw'; go_simp; rfl))
        (apply wpG_sure rfl rfl; focus (intro w' hw'; obtain ⟨g1, g2, g3⟩ := hw'; go_simp; rfl))
        (apply wpG_sure rfl rfl; focus (intro w' hw'; obtain ⟨g1, g2, g3⟩ := hw'; go_simp; rfl))
        (apply wpG_sure rfl rfl; focus (intro w' hw'; obtain ⟨g1, g2, g3⟩ := hw'; go_simp; rfl))
        (apply wpG_sure rfl rfl; focus (intro w' hw'; obtain ⟨g1, g2, g3⟩ := hw'; go_simp; rfl))
        (apply wpG_sure rfl rfl; focus (intro w' hw'; obtain ⟨g1, g2, g3⟩ := hw'; go_simp; rfl))
        (apply wpG_sure rfl rfl; focus (intro w' hw'; obtain ⟨g1, g2, g3⟩ := hw'; go_simp; rfl))
        (apply wpG_sure rfl rfl; focus (intro w' hw'; obtain ⟨g1, g2, g3⟩ := hw'; go_simp; rfl))
        (apply wpG_sure rfl rfl; focus (intro w' hw'; obtain ⟨g1, g2, g3⟩ := hw'; go_simp; rfl))
        (apply wpG_sure rfl rfl; focus (intro w' hw'; obtain ⟨g1, g2, g3⟩ := hw'; go_simp; rfl))
        (apply wpG_sure rfl rfl; focus (intro w' hw'; obtain ⟨g1, g2, g3⟩ := hw'; go_simp; rfl))
        (apply wpG_sure rfl rfl; focus (intro w' hw'; obtain ⟨g1, g2, g3⟩ := hw'; go_simp; rfl))
        refine wpG_nil ?_
        go_wp2_with (go_at_call 35; refine ((RWG.self ((T1.out.upd (Upd.refl noBlk _).drew).rr)).bit c (((n : Nat) : Int) % 2 == 1) (by have := HL.out; omega)).mono ?_; rw [mod2_bool]; rintro en w3 ⟨rfl, G2, q2⟩; have T2 := Lib.hid ((T1.out.upd (Upd.refl noBlk _).drew).second q2); clear q2)
        go_roundw
        case rel => exact ⟨k + 1, by go_num, hlt, _, _, by rw [HX2.out]; exact T2.out⟩
        case measure => simp [intOf]; omega
      · have HX2 : Hid (encFrom E.init ((l.take (k + 1)).flatMap itBits) = encFrom e (numBits c n)) := HX.out
        have hnn : 0 ≤ ((n : Nat) : Int) := by omega
        go_wp2_with fail
        refine wp_region_ord 11 [(0, true), (1, true), (2, true), (3, true), (4, true), (5, true), (6, true), (7, true), (8, true), (9, true), (10, true)] (fun w' => Cells3 w' b (off + k * 3) (c, true, n)) (by kernel_rfl) (by kernel_rfl) (fun c a d v w h => by cases d <;> exact h) (EA.out.keep HD.out.up.drew) ?_
        (apply wpG_sure rfl rfl; focus (intro w' hw'; obtain ⟨g1, g2, g3⟩ := hw'; go_simp; rfl))
        (apply wpG_sure rfl rfl; focus (intro w' hw'; obtain ⟨g1, g2, g3⟩ := hw'; go_simp; rfl))
        (apply wpG_sure rfl rfl; focus (intro w' hw'; obtain ⟨g1, g2, g3⟩ := hw'; go_simp; rfl))
        (apply wpG_sure rfl rfl; focus (intro w' hw'; obtain ⟨g1, g2, g3⟩ := hw'; go_simp; rfl))
        (apply wpG_sure rfl rfl; focus (intro w' hw'; obtain ⟨g1, g2, g3⟩ := hw'; go_simp; rfl))
        (apply wpG_sure rfl rfl; focus (intro w' hw'; obtain ⟨g1, g2, g3⟩ := hw'; go_simp; rfl))
        (apply wpG_sure rfl rfl; focus (intro w' hw'; obtain ⟨g1, g2, g3⟩ := hw'; go_simp; rfl))
        (apply wpG_sure rfl rfl; focus (intro w' hw'; obtain ⟨g1, g2, g3⟩ := hw'; go_simp; rfl))
        (apply wpG_sure rfl rfl; focus (intro w' hw'; obtain ⟨g1, g2, g3⟩ := hw'; go_simp; rfl))
        (apply wpG_sure rfl rfl; focus (intro w' hw'; obtain ⟨g1, g2, g3⟩ := hw'; go_simp; rfl))
        (apply wpG_sure rfl rfl; focus (intro w' hw'; obtain ⟨g1, g2, g3⟩ := hw'; go_simp; rfl))
        refine wpG_nil ?_
        go_wp2_with (go_at_call 33; refine (WNumber_any (WG.self (HD.out.upd (Upd.refl noBlk _).drew).rep) c n hn64.out (by have := HL.out; omega)).mono ?_; rintro en w2 ⟨rfl, F2, q2⟩; have T1 := Lib.hid ((HD.out.upd (Upd.refl noBlk _).drew).first q2); clear q2)
        refine wp_region_ord 11 [(0, true), (1, true), (2, true), (3, true), (4, true), (5, true), (6, true), (7, true), (8, true), (9, true), (10, true)] (fun w' => Cells3 w' b (off + k * 3) (c, true, n)) (by kernel_rfl) (by kernel_rfl) (fun c a d v w h => by cases d <;> exact h) (EA.out.keep T1.out.up.drew) ?_
        (apply wpG_sure rfl rfl; focus (intro w' hw'; obtain ⟨g1, g2, g3⟩ := hw'; go_simp; rfl))
        (apply wpG_sure rfl rfl; focus (intro w' hw'; obtain ⟨g1, g2, g3⟩ := hw'; go_simp; rfl))
        (apply wpG_sure rfl rfl; focus (intro w' hw'; obtain ⟨g1, g2, g3⟩ := hw'; go_simp; rfl))
        (apply wpG_sure rfl rfl; focus (intro w' hw'; obtain ⟨g1, g2, g3⟩ := hw'; go_simp; rfl))
        (apply wpG_sure rfl rfl; focus (intro w' hw'; obtain ⟨g1, g2, g3⟩ := hw'; go_simp; rfl))
        (apply wpG_sure rfl rfl; focus (intro w' hw'; obtain ⟨g1, g2, g3⟩ := hw'; go_simp; rfl))
        (apply wpG_sure rfl rfl; focus (intro w' hw'; obtain ⟨g1, g2, g3⟩ := hw'; go_simp; rfl))
        (apply wpG_sure rfl rfl; focus (intro w' hw'; obtain ⟨g1, g2, g3⟩ := hw'; go_simp; rfl))
        (apply wpG_sure rfl rfl; focus (intro w' hw'; obtain ⟨g1, g2, g3⟩ := hw'; go_simp; rfl))
        (apply wpG_sure rfl rfl; focus (intro w' hw'; obtain ⟨g1, g2, g3⟩ := hw'; go_simp; rfl))
        (apply wpG_sure rfl rfl; focus (intro w' hw'; obtain ⟨g1, g2, g3⟩ := hw'; go_simp; rfl))
        refine wpG_nil ?_
        go_wp2_with (go_at_call 34; refine (rWNumber_any (RWG.self ((T1.out.upd (Upd.refl noBlk _).drew).rr)) c n hn64.out (by have := HL.out; omega)).mono ?_; rintro en w3 ⟨rfl, G2, q2⟩; have T2 := Lib.hid ((T1.out.upd (Upd.refl noBlk _).drew).second q2); clear q2)
        go_roundw
        case rel => exact ⟨k + 1, by go_num, hlt, _, _, by rw [HX2.out]; exact T2.out⟩
        case measure => simp [intOf]; omega
    · obtain rfl : k = M := by omega
      have hlt' : ¬ ((k : Nat) : Int) < ((k : Nat) : Int) := by omega
      have HE : Hid (encFrom E.init ((l.take k).flatMap itBits) = encFrom E.init ((l.take k).flatMap itBits)) := rfl
      go_wp2_with fail
      have hcall : Calls Tryd.prog 25 #[.pointer (some ⟨w1.heap.size, 0, none⟩)] wr fun en w' => en = .returned (.string (str (encode ((l.take k).flatMap itBits)))) ∧ Upd noBlk wr w' := WFinish_any _ _ _ _ HD.out.rep (by have := HL.out; omega)
      refine hcall.mono ?_
      rintro e w2 ⟨rfl, u2⟩
      have H2 := Lib.hid (HD.out.upd u2)
      clear hcall u2 HD
      go_wp2_with fail
      refine (NewReader_any _ _).mono ?_
      rintro e w3 ⟨rfl, rfl⟩
      have H3 := Lib.hid (H2.out.upd ((Upd.refl noBlk w2).alloc (.cells (rZero (encode ((l.take k).flatMap itBits))) 75)))
      have HR : Hid (RG noBlk w (w2.alloc (.cells (rZero (encode ((l.take k).flatMap itBits))) 75)) w2.heap.size (D.ofCode (encode ((l.take k).flatMap itBits))) (· = w2.heap.size)) :=
        ⟨NewReader_rep (encode_lt _) w2, fun j hj => .inr (by subst hj; exact H2.out.up.size), H3.out.up⟩
      go_wp2_with fail
      have hcall : Calls Tryd.prog 36 #[.pointer (some ⟨w1.heap.size + 1, 0, none⟩)] (w2.alloc (.cells (rZero (encode ((l.take k).flatMap itBits))) 75)) fun en w' => en = .returned (.string (str (encode ((l.take k).flatMap itBits)))) ∧ Upd noBlk (w2.alloc (.cells (rZero (encode ((l.take k).flatMap itBits))) 75)) w' := rWFinish_any _ _ _ _ H3.out.rr (by have := HL.out; omega)
      refine hcall.mono ?_
      rintro e w4 ⟨rfl, u4⟩
      have HR4 : Hid (RG noBlk w w4 w2.heap.size (D.ofCode (encode ((l.take k).flatMap itBits))) (· = w2.heap.size)) := ⟨HR.out.rep.upd u4 (fun _ _ => id), HR.out.new, HR.out.up.trans u4⟩
      have HG : Hid (Pc.Good (D.ofCode (encode ((l.take k).flatMap itBits))) (((l.take k).drop 0).flatMap itBits)) := by show Pc.Good _ _; rw [List.drop_zero]; exact Pc.Good.start _
      clear hcall u4 H2 H3 HR
      generalize encode ((l.take k).flatMap itBits) = code at *
      go_wp2_with fail
      go_loopw [10, 11, 12] (fun i _ _ wr => ∃ j : Nat, i = .int .i64 j ∧ j ≤ k ∧ ∃ d F, RG noBlk w wr w2.heap.size d F ∧ Pc.Good d (((l.take k).drop j).flatMap itBits)) (fun i _ _ _ => 40 - (intOf i).toNat)
      case atStart => exact ⟨0, rfl, Nat.zero_le _, _, _, HR4.out, HG.out⟩
      case round =>
        obtain ⟨j, rfl, hj, d, F5, hr, hg⟩ := hrel
        have HR2 := Lib.hid hr
        have HG2 := Lib.hid hg
        clear hr hg HR4 HG
        have jb : ((j : Nat) : Int) ≤ 40 := by omega
        by_cases hlt2 : j < k
        · have hkl : j < l.length := by omega
          have hkl' : ((j : Nat) : Int) < ((l.length : Nat) : Int) := by omega
          obtain ⟨b, off, rfl, ea, _⟩ := HA.out.it (by omega)
          have EA : Hid (Cells3 w b (off + j * 3) l[j]) := ea j hkl
          have hn64 := Lib.hid (HN.out j hkl)
          have G0 : Hid (Pc.Good d (itBits l[j] ++ ((l.take k).drop (j + 1)).flatMap itBits)) := by have := HG2.out; rw [it_drop hlt2 (by omega)] at this; exact this
          clear ea HG2
          generalize l[j] = x at *
          obtain ⟨c, num, n⟩ := x
          have e0 := HR2.out.up.cell EA.out.1 (fun h => h)
          have e1 := HR2.out.up.cell EA.out.2.1 (fun h => h)
          have e2 := HR2.out.up.cell EA.out.2.2 (fun h => h)
          have hnn : 0 ≤ ((n : Nat) : Int) := by omega
          cases num
          · have G1 : Pc.Good d ((c, decide (n % 2 = 1)) :: ((l.take k).drop (j + 1)).flatMap itBits) := G0.out
            have G2 : Hid (d.one c = decide (n % 2 = 1)) := G1.head.1
            have G3 := Lib.hid G1.head.2
            clear G0 G1
            obtain ⟨p, hp⟩ : ∃ p : Bool, (((n : Nat) : Int) % 2 == 1) = p := ⟨_, rfl⟩
            have hcall : ∀ w', RG noBlk w w' w2.heap.size d F5 → Calls Tryd.prog 28 #[.pointer (some ⟨w2.heap.size, 0, none⟩), .int .i64 c] w' fun en w'' => en = .returned (.bool p) ∧ ∃ F', RG noBlk w w'' w2.heap.size (d.bit c) F' := by
              intro w' h; have := h.bit c; rw [G2.out, ← mod2_bool, hp] at this; exact this
            have HC := Lib.hid hcall
            clear hcall
            go_wp2_with fail
            refine wp_region_tree 14 (OT.sures [0, 1, 2, 3, 4, 5, 7, 8, 9, 10, 11, 12, 13] (.run 6 .nil)) (fun w' => Cells3 w' b (off + j * 3) (c, false, n)) (by kernel_rfl) (by kernel_rfl) (fun c a d v w h => by cases d <;> exact h) (EA.out.keep HR2.out.up.drew) ?_
            simp only [OT.sures]
            have HP := Lib.hid hp
            clear hp
            iterate 12 (apply wpT_sure rfl rfl; focus (intro w' hw'; obtain ⟨g1, g2, g3⟩ := hw'; go_simp; rfl))
            refine wpT_sure rfl rfl (.bool p) (fun w' hw' => by rw [← HP.out]; go_simp; rfl) ?_
            refine wpT_run (fun w' => Cells3 w' b (off + j * 3) (c, false, n)) (fun _ h => h) rfl (fun K hK => ?_)
            go_simp
            refine (HC.out _ ⟨HR2.out.rep.upd (Upd.refl noBlk wr).drew (fun _ _ h => h), HR2.out.new, HR2.out.up.drew⟩).mono ?_
            rintro e w6 ⟨rfl, F6, r6⟩
            have R6 := Lib.hid r6
            clear r6 e0 e1 e2
            refine hK _ _ ⟨EA.out.keep R6.out.up, ?_⟩
            clear hK K
            refine wpT_nil ?_
            clear HP
            cases p
            all_goals
              go_wp2
              exact ⟨⟨j + 1, by go_num, hlt2, _, _, R6.out, G3.out⟩, by simp [intOf]; omega⟩
          · obtain ⟨g1, g2, g3⟩ := number_good (r := ((l.take k).drop (j + 1)).flatMap itBits) hn64.out G0.out
            have G3 := Lib.hid g3
            have hcall : Calls Tryd.prog 30 #[.pointer (some ⟨w2.heap.size, 0, none⟩), .int .i64 c] wr fun en w' => en = .returned (.tuple #[.int .u64 (n : Int), .bool true]) ∧ ∃ F', RG noBlk w w' w2.heap.size (d.number c).d F' := by
              have := RNumber_any HR2.out c; unfold numV at this; rw [g1, g2] at this; exact this
            have HC := Lib.hid hcall
            clear hcall g1 g2 g3 G0
            go_wp2_with fail
            refine HC.out.mono ?_
            rintro e w6 ⟨rfl, F6, r6⟩
            have R6 := Lib.hid r6
            have e2' := R6.out.up.cell EA.out.2.2 (fun h => h)
            clear r6 e0 e1 e2
            go_wp2
            go_roundw
            case rel => exact ⟨j + 1, by go_num, hlt2, _, _, R6.out, G3.out⟩
            case measure => simp [intOf]; omega
        · have HF := Lib.hid HR2.out.up
          obtain rfl : j = k := by omega
          clear hlt2
          go_wp2
          go_ret
          exact ⟨rfl, HF.out⟩

theorem lawItems (v : Value) (l : List It) (w : World) (h : ArgL 3 itCells w v l) :
    Calls Tryd.prog 12 #[v] w fun e w' => e = .returned (.bool true) ∧ Upd noBlk w w' := by
  obtain ⟨A, ca, rfl, ra, m1, m2⟩ := h
  unfold maxLen at m2
  exact lawItems_any A ca l w (by omega) ra
end Go.Proofs.YtadfolnhomongaaDoor
