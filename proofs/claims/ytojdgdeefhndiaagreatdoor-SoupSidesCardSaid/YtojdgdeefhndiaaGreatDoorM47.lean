/- Walks of the polygon files: Write, the program's and the reference's, whatever is wrong. No condition. Walks of the laws of the polygon files: SoupBack. What a reading of an argument tells (polygon files): corners. No condition. Lists of polygons appended: the first ones, one, the last ones of a row. No condition. -/
import Derived.Test.YtojdgdeefhndiaaGreatDoorM46
import Derived.Test.YtojdgdeefhndiaaGreatDoorM43
import Derived.Test.YtojdgdeefhndiaaGreatDoorM39
import Derived.Test.YtojdgdeefhndiaaGreatDoorM41
import Derived.Test.YtojdgdeefhndiaaGreatDoorM4
import Derived.Test.YtojdgdeefhndiaaGreatDoorM27
import Derived.Test.YtojdgdeefhndiaaGreatDoorM25
import Derived.Deep.Strs
namespace Go.Proofs.YtojdgdeefhndiaaGreatDoor
open Go Go.RowKit Sp Bg
set_option maxRecDepth 100000
/-- What Write comes to: the text, and the error. -/
def textS (form : Int) (ps : List Poly) : Bytes := if form = 1 then write1 ps else if form = 2 then write2 ps else write3 ps
def errS (form : Int) (ps : List Poly) : Nat := if form < 1 ∨ 3 < form then 1 else firstWrong ps
def outS (form : Int) (ps : List Poly) : Bytes := if errS form ps = 0 then textS form ps else []
theorem outS_bad {form : Int} {ps : List Poly} (h : errS form ps ≠ 0) : outS form ps = [] := by unfold outS; rw [if_neg h]
set_option maxHeartbeats 1000000 in
theorem pWrite_any (form : Int) (v : Value) (ps : List Poly) (hn : ps.length ≤ 100) (hpl : ∀ p, p ∈ ps → p.1.length ≤ 4294967296) (w : World) (hp : Pow w) (h : RdPolys w v ps) :
    Calls Tryz.prog 19 #[.int .i64 form, v] w fun en w' => writeR (outS form ps) (errS form ps) w en w' := by
  have HW := Lib.hid (pwrong_any v ps hn hpl w h)
  have HP := Lib.hid hp
  have HR := Lib.hid h
  clear hp h hpl
  by_cases h1 : form < 1
  · have he : errS form ps = 1 := by unfold errS; rw [if_pos (.inl h1)]
    have ho := outS_bad (form := form) (ps := ps) (by rw [he]; decide)
    rw [he, ho]
    clear he ho
    go_enter Tryz.func19, Tryz.ntmps19
    go_wp2_with fail
    go_ret2
    exact ⟨rfl, Upd.refl _ _⟩
  · by_cases h3 : 3 < form
    · have he : errS form ps = 1 := by unfold errS; rw [if_pos (.inr h3)]
      have ho := outS_bad (form := form) (ps := ps) (by rw [he]; decide)
      rw [he, ho]
      clear he ho
      go_enter Tryz.func19, Tryz.ntmps19
      go_wp2_with fail
      go_ret2
      exact ⟨rfl, Upd.refl _ _⟩
    · have he : errS form ps = firstWrong ps := by unfold errS; rw [if_neg (by omega)]
      by_cases hf : firstWrong ps = 0
      · have HV := Lib.hid (good_firstWrong hf)
        have ho : outS form ps = textS form ps := by unfold outS; rw [if_pos (by rw [he, hf])]
        rw [he, ho, hf]
        rw [hf] at HW
        clear he ho hf
        have hc : form = 1 ∨ form = 2 ∨ form = 3 := by omega
        rcases hc with rfl | rfl | rfl
        · go_enter Tryz.func19, Tryz.ntmps19
          go_wp2_with fail
          refine HW.out.mono ?_
          rintro e1 w1 ⟨rfl, u1⟩
          go_wp2_with fail
          refine (pWriteFaces_any v ps hn HV.out w1 (HP.out.keep u1) (HR.out.keep u1)).mono ?_
          rintro e1 w2 ⟨rfl, u2⟩
          go_wp2_with fail
          go_ret2
          exact ⟨rfl, u1.trans u2⟩
        · go_enter Tryz.func19, Tryz.ntmps19
          go_wp2_with fail
          refine HW.out.mono ?_
          rintro e1 w1 ⟨rfl, u1⟩
          go_wp2_with fail
          refine (pWritePolys_any v ps hn HV.out w1 (HP.out.keep u1) (HR.out.keep u1)).mono ?_
          rintro e1 w2 ⟨rfl, u2⟩
          go_wp2_with fail
          go_ret2
          exact ⟨rfl, u1.trans u2⟩
        · go_enter Tryz.func19, Tryz.ntmps19
          go_wp2_with fail
          refine HW.out.mono ?_
          rintro e1 w1 ⟨rfl, u1⟩
          go_wp2_with fail
          refine (pWriteBinary_any v ps hn HV.out w1 (HR.out.keep u1)).mono ?_
          rintro e1 w2 ⟨rfl, u2⟩
          go_wp2_with fail
          go_ret2
          exact ⟨rfl, u1.trans u2⟩
      · have ho := outS_bad (form := form) (ps := ps) (by rw [he]; exact hf)
        rw [he, ho]
        have hfI : ¬ ((firstWrong ps : Nat) : Int) = 0 := by omega
        clear he ho
        generalize firstWrong ps = e at *
        go_enter Tryz.func19, Tryz.ntmps19
        go_wp2_with fail
        refine HW.out.mono ?_
        rintro e1 w1 ⟨rfl, u1⟩
        go_wp2_with fail
        go_ret2
        exact ⟨rfl, u1⟩
set_option maxHeartbeats 1000000 in
theorem qWrite_any (form : Int) (v : Value) (ps : List Poly) (hn : ps.length ≤ 100) (w : World) (h : RdPolys w v ps) :
    Calls Tryz.prog 14 #[.int .i64 form, v] w fun en w' => writeR (outS form ps) (errS form ps) w en w' := by
  by_cases h1 : form < 1
  · have he : errS form ps = 1 := by unfold errS; rw [if_pos (.inl h1)]
    have ho := outS_bad (form := form) (ps := ps) (by rw [he]; decide)
    rw [he, ho]
    clear he ho
    go_enter Tryz.func14, Tryz.ntmps14
    go_wp2_with fail
    go_ret2
    exact ⟨rfl, Upd.refl _ _⟩
  · by_cases h3 : 3 < form
    · have he : errS form ps = 1 := by unfold errS; rw [if_pos (.inr h3)]
      have ho := outS_bad (form := form) (ps := ps) (by rw [he]; decide)
      rw [he, ho]
      clear he ho
      go_enter Tryz.func14, Tryz.ntmps14
      go_wp2_with fail
      go_ret2
      exact ⟨rfl, Upd.refl _ _⟩
    · have he : errS form ps = firstWrong ps := by unfold errS; rw [if_neg (by omega)]
      by_cases hf : firstWrong ps = 0
      · have hv := good_firstWrong hf
        have ho : outS form ps = textS form ps := by unfold outS; rw [if_pos (by rw [he, hf])]
        rw [he, ho, hf]
        have hc : form = 1 ∨ form = 2 ∨ form = 3 := by omega
        rcases hc with rfl | rfl | rfl
        · exact qWrite1_any v ps hn hv w h
        · exact qWrite2_any v ps hn hv w h
        · exact qWrite3_any v ps hn hv w h
      · have ho := outS_bad (form := form) (ps := ps) (by rw [he]; exact hf)
        rw [he, ho]
        obtain ⟨A, cap, rfl, hr⟩ := h
        have HR := Lib.hid hr
        have HF := Lib.hid hf
        have hlen : ((ps.length : Nat) : Int) ≤ 100 := by omega
        clear he ho hr hf
        go_enter Tryz.func14, Tryz.ntmps14
        go_wp2_with fail
        go_loopw [6, 7] (fun i _ wr => ∃ k : Nat, i = .int .i64 k ∧ k ≤ ps.length ∧ firstWrong (ps.drop k) = firstWrong ps ∧ Upd noBlk w wr) (fun i _ _ => ps.length - (intOf i).toNat)
        case atStart => exact ⟨0, rfl, Nat.zero_le _, rfl, Upd.refl _ _⟩
        case round =>
          obtain ⟨k, rfl, hk, hfw, hu⟩ := hrel
          have HU := Lib.hid hu
          have HFW := Lib.hid hfw
          clear hu hfw
          by_cases hlt : k < ps.length
          · have hlt' : ((k : Nat) : Int) < ((ps.length : Nat) : Int) := by omega
            obtain ⟨b, off, rfl, f1⟩ := HR.out (by omega)
            obtain ⟨pv, c10, c11, r1⟩ := f1 k hlt
            have d0 := HU.out.cell c10 id
            have d1 := HU.out.cell c11 id
            have HW := Lib.hid (qwrong_any pv ps[k].2 ps[k].1 wr (r1.keep HU.out))
            have HN : Hid (wrongS ps[k].1 = 0 → firstWrong (ps.drop (k + 1)) = firstWrong ps) := fun h0 => by rw [← firstWrong_drop hlt h0]; exact HFW.out
            have HA : Hid (wrongS ps[k].1 ≠ 0 → wrongS ps[k].1 = firstWrong ps) := fun h0 => by rw [← firstWrong_at hlt h0]; exact HFW.out
            clear f1 c10 c11 r1
            generalize ps[k] = pk at *
            by_cases hw0 : wrongS pk.1 = 0
            · have HNX := Lib.hid (HN.out hw0)
              rw [hw0] at HW
              clear hw0
              go_wp2_with fail
              refine HW.out.mono ?_
              rintro e1 w2 ⟨rfl, u2⟩
              go_wp2_with fail
              exact ⟨⟨k + 1, by go_num, hlt, HNX.out, HU.out.trans u2⟩, by simp [intOf]; omega⟩
            · have HE := Lib.hid (HA.out hw0)
              have hwI : ¬ ((wrongS pk.1 : Nat) : Int) = 0 := by omega
              generalize wrongS pk.1 = e at *
              go_wp2_with fail
              refine HW.out.mono ?_
              rintro e1 w2 ⟨rfl, u2⟩
              go_wp2_with fail
              go_ret2
              exact ⟨by rw [HE.out]; rfl, HU.out.trans u2⟩
          · exfalso
            obtain rfl : k = ps.length := by omega
            have h1 := HFW.out
            rw [List.drop_length] at h1
            exact HF.out h1.symm
end Go.Proofs.YtojdgdeefhndiaaGreatDoor
namespace Go.Proofs.YtojdgdeefhndiaaGreatDoor
open Go Go.RowKit Sp Bg
set_option maxRecDepth 100000
theorem not_magic_one (ps : List Poly) : magic.isPrefixOf (write1 ps) = false := by
  apply not_magic
  cases ps with
  | nil => exact fun h => by cases h
  | cons p r =>
    have := write1_head (ps := p :: r) (by simp) []
    rw [List.append_nil] at this
    rcases this with h | h <;> rw [h] <;> exact fun h => by cases h
/-- What was written is read back. -/
theorem read_back (m : Nat) (hm : m < 3) (ps : List Poly) (hv : ∀ p, p ∈ ps → validP p.1) (hl : ps.length ≤ 100) : ∃ ps', ps'.map (·.1) = ps.map (·.1) ∧ readS (outS (1 + (m : Int)) ps) = .ok ps' ∧ (outS (1 + (m : Int)) ps).length ≤ 300000 ∧ errS (1 + (m : Int)) ps = 0 := by
  have he : errS (1 + (m : Int)) ps = 0 := by unfold errS; rw [if_neg (by omega)]; exact firstWrong_good hv
  have ho : outS (1 + (m : Int)) ps = textS (1 + (m : Int)) ps := by unfold outS; rw [if_pos he]
  rw [ho, he]
  have hc : m = 0 ∨ m = 1 ∨ m = 2 := by omega
  rcases hc with rfl | rfl | rfl
  · have ht : textS (1 + ((0 : Nat) : Int)) ps = write1 ps := rfl
    rw [ht]
    obtain ⟨ps', e1, e2⟩ := read_one [] ps (fun x hx => by cases hx) hv (by omega) (not_magic_one ps)
    exact ⟨ps', e1, e2, by have := write1_length ps [] hv (by simp; omega); show (body1 [] ps).length ≤ _; omega, rfl⟩
  · have ht : textS (1 + ((1 : Nat) : Int)) ps = write2 ps := rfl
    rw [ht]
    have hlen : (write2 ps).length ≤ 300000 := by have := body2_length ps hv; rw [write2_body]; omega
    have hw : (linesAll (write2 ps)).map (·.2) = ps.flatMap polyW := by
      have e : write2 ps = joinL ((ps.flatMap polyW).map joinW) := rfl
      rw [e, linesAll_joinL (lines_good (W2_good ps))]
      exact numbered_words _ 1 (W2_good ps)
    have hmg : magic.isPrefixOf (write2 ps) = false := by
      apply not_magic
      cases ps with
      | nil => exact fun h => by cases h
      | cons p r =>
        have := write2_head (ps := p :: r) (by simp) []
        rw [List.append_nil] at this
        rw [this]; exact fun h => by cases h
    obtain ⟨ps', e1, e2⟩ := read_W2 hw hmg hv (by omega)
    exact ⟨ps', e1, e2, hlen, rfl⟩
  · have ht : textS (1 + ((2 : Nat) : Int)) ps = write3 ps := rfl
    rw [ht]
    obtain ⟨ps', e1, e2⟩ := read_three ps [] hv (by omega)
    rw [List.append_nil, if_pos rfl] at e2
    exact ⟨ps', e1, e2, by have := (write3_length ps hv).2; omega, rfl⟩
set_option maxHeartbeats 1500000 in
theorem lawSoupBack_c (A : Option Addr) (cap : Nat) (l : List Quad) (n : Int) (hl : l.length ≤ cap) (hc : cap ≤ maxLen) (_hf : (Lit.int .i64 n).wf = true) (w : World) (hsh : w.ShapedOpen Tryz.prog) (hpow : Pow w) (h : RdQ w A l) :
    Calls Tryz.prog 8 #[.slice A l.length cap, .int .i64 n] w fun en w' => en = .returned (.bool true) ∧ Upd noBlk w w' := by
  have H := Lib.hid h
  have HSH := Lib.hid hsh
  have HC := Lib.hid hc
  have HPW := Lib.hid hpow
  have H1 := Lib.hid (sanity_any w hsh)
  clear h hsh hc hpow
  go_enter Tryz.func8, Tryz.ntmps8
  go_wp2_with fail
  refine H1.out.mono ?_
  rintro e1 w1 ⟨rfl, u1⟩
  have U1 := Lib.hid u1
  clear u1
  go_wp2_with fail
  refine (qMade_any A cap l hl HC.out w1 (H.out.keep U1.out)).mono ?_
  rintro e1 w2 ⟨v, ps, rfl, hps, hg, ho, u2⟩
  have U2 := Lib.hid (U1.out.trans u2)
  have HG := Lib.hid (goodPs_valid hg)
  have HO := Lib.hid ho.rd
  obtain ⟨Av, cv, hv⟩ := ho.len
  subst hv
  clear u2 hg ho
  obtain ⟨m, hm⟩ : ∃ m : Nat, n % 3 = m := ⟨(n % 3).toNat, by omega⟩
  have hm' : m < 3 := by omega
  obtain ⟨ps', m1, r1, hl1, he1⟩ := read_back m hm' ps HG.out (by omega)
  have HW := Lib.hid (pWrite_any (1 + (m : Int)) _ ps (by omega) (fun p hp => by have := (HG.out p hp).2.1; omega) w2 (HPW.out.keep U2.out) HO.out)
  rw [he1] at HW
  have M1 := Lib.hid m1
  have R1 := Lib.hid r1
  have hv' : Hid (∀ p, p ∈ ps' → validP p.1) := fun p hp => by
    have h1 : p.1 ∈ ps'.map (·.1) := List.mem_map.2 ⟨p, hp, rfl⟩
    rw [M1.out] at h1
    obtain ⟨p0, h2, h3⟩ := List.mem_map.1 h1
    rw [← h3]; exact HG.out p0 h2
  have hl' : Hid (ps'.length = ps.length) := Lib.hid (by have := congrArg List.length M1.out; simpa using this)
  clear m1 r1 he1
  generalize outS (1 + (m : Int)) ps = s at *
  go_wp2_with (go_at_call 16; refine (Mod_any _ _ (by decide) (by decide) _).mono ?_; rintro e1 w1 ⟨rfl, rfl⟩)
  refine HW.out.mono ?_
  rintro e1 w3 ⟨rfl, u3⟩
  have U3 := Lib.hid (U2.out.trans u3)
  have HO3 := Lib.hid (HO.out.keep u3)
  have HR := Lib.hid (read_ba s _ R1.out (by omega) w3 (U3.out.shaped HSH.out))
  clear u3
  go_wp2_with fail
  refine HR.out.mono ?_
  rintro e1 w5 ⟨v5, rfl, o5, u5⟩
  obtain ⟨A5, c5, hv5⟩ := o5.len
  subst hv5
  have HO5 := Lib.hid o5.rd
  have S1 := Lib.hid (same_ok _ _ ps ps' M1.out.symm (by rw [hl'.out]; omega) hv'.out w5 (HO3.out.keep u5) o5.rd)
  have U5 := Lib.hid (U3.out.trans u5)
  have hpl : ((ps'.length : Nat) : Int) ≤ 100 := by have := hl'.out; omega
  clear o5 u5
  go_wp2_with fail
  refine S1.out.mono ?_
  rintro e1 w6 ⟨rfl, n6, rfl⟩
  go_wp2_with fail
  go_loopw [13] (fun i wr => ∃ j nd : Nat, i = .int .i64 ((j : Int) + 1) ∧ (j < ps'.length ∨ j = 0) ∧ wr = w5.drewN nd) (fun i _ => ps'.length + 1 - (intOf i).toNat)
  case atStart => exact ⟨0, n6, rfl, .inr rfl, rfl⟩
  case round =>
    obtain ⟨j, nd, rfl, hj, rfl⟩ := hrel
    by_cases hlt : j + 1 < ps'.length
    · have hlt' : ((j : Nat) : Int) + 1 < ((ps'.length : Nat) : Int) := by omega
      have hlt2 : ((j : Nat) : Int) < ((ps'.length : Nat) : Int) := by omega
      obtain ⟨A6, c6, he6, g6⟩ := HO5.out
      cases he6
      obtain ⟨b, off, rfl, f6⟩ := g6 (by omega)
      obtain ⟨pv1, c10, c11, _⟩ := f6 (j + 1) hlt
      obtain ⟨pv2, c20, c21, _⟩ := f6 j (by omega)
      have hup : ¬ ((ps'[j + 1].2 : Nat) : Int) ≤ ((ps'[j].2 : Nat) : Int) := by
        have := List.pairwise_iff_getElem.1 (readS_up R1.out) j (j + 1) (by omega) hlt (by omega)
        omega
      clear f6 g6
      generalize ps'[j + 1].2 = x1 at *
      generalize ps'[j].2 = x2 at *
      go_wp2_with fail
      go_quiet (fail)
      go_wp2_with fail
      exact ⟨⟨j + 1, _, by go_num, .inl hlt, rfl⟩, by simp [intOf]; omega⟩
    · have hlt' : ¬ ((j : Nat) : Int) + 1 < ((ps'.length : Nat) : Int) := by omega
      go_wp2_with fail
      go_ret
      exact ⟨rfl, U5.out.drewN nd⟩
end Go.Proofs.YtojdgdeefhndiaaGreatDoor
namespace Go.Proofs.YtojdgdeefhndiaaGreatDoor
open Go Go.RowKit Go.ChangeShapes Go.WideShapes Go.ChangeAt
set_option maxRecDepth 100000
theorem argP_of_reading {H : Type} {enc : TypeId × Value → H} {W : World} {d : DataW H} {p : List MemPlace} {v : Value}
    (hval : Value.okWide Tryz.prog W .any 0 41 v) (h : DataW.Trod enc Tryz.prog W 0 (fun _ => true) true 41 v d p) : ∃ (l : List Sp.Pt) (A : Option Addr) (cap : Nat), v = .slice A l.length cap ∧ RdPts W (.slice A l.length cap) l ∧ l.length ≤ cap ∧ cap ≤ maxLen := by
  obtain ⟨l, A, cap, rfl, h1, h2, h3⟩ := argL_of_reading (size := 3) (by decide) (fun cs (q : Sp.Pt) => cs = [.int .i64 q.1, .int .i64 q.2.1, .int .i64 q.2.2]) Tryz.underlying41 (by kernel_rfl) (fun n cs x hx => by
    obtain ⟨y0, y1, y2, m, _, hl, g0, g1, g2⟩ := Deep.trod_struct3 Tryz.underlying51 hx
    have hl3 : cs.length = 3 := by rw [hl]; kernel_rfl
    have hci : Tryz.prog.cellsOf 3 = 1 := by kernel_rfl
    match cs, hl3 with
    | [a, b, c], _ =>
      simp only [hci] at g0 g1 g2
      obtain ⟨z0, e0, _, w0⟩ := DataW.trod_int Tryz.underlying3 g0
      obtain ⟨z1, e1, _, w1⟩ := DataW.trod_int Tryz.underlying3 g1
      obtain ⟨z2, e2, _, w2⟩ := DataW.trod_int Tryz.underlying3 g2
      simp at e0 e1 e2
      subst e0; subst e1; subst e2
      exact ⟨(z0, z1, z2), rfl⟩) hval h
  refine ⟨l, A, cap, rfl, ⟨A, cap, rfl, fun h0 => ?_⟩, h2, h3⟩
  obtain ⟨b, off, e, h4⟩ := h1 h0
  refine ⟨b, off, e, fun j hj => ?_⟩
  obtain ⟨cs, _, rfl, h5⟩ := h4 j hj
  exact ⟨by simpa using h5 0 _ rfl, h5 1 _ rfl, h5 2 _ rfl⟩
end Go.Proofs.YtojdgdeefhndiaaGreatDoor
namespace Go.Proofs.YtojdgdeefhndiaaGreatDoor
open Go Go.RowKit Sp
set_option maxRecDepth 100000
theorem polyVs_len' : ∀ qs : List (Value × Poly), (polyVs qs).length = qs.length * 2
  | [] => rfl
  | q :: r => by
    have e : polyVs (q :: r) = [q.1, .int .i64 q.2.2] ++ polyVs r := rfl
    rw [e, List.length_append, polyVs_len' r, List.length_cons]; simp; omega
theorem polyVs_app (a b : List (Value × Poly)) : polyVs (a ++ b) = polyVs a ++ polyVs b := by simp [polyVs]
theorem polyVs_take {qs : List (Value × Poly)} {k : Nat} (h : k ≤ qs.length) : (polyVs qs).take (k * 2) = polyVs (qs.take k) := by
  have e : polyVs qs = polyVs (qs.take k) ++ polyVs (qs.drop k) := by rw [← polyVs_app, List.take_append_drop]
  have hl : (polyVs (qs.take k)).length = k * 2 := by rw [polyVs_len', List.length_take]; omega
  rw [e, ← hl, List.take_left]
theorem polyVs_drop {qs : List (Value × Poly)} {k : Nat} (h : k ≤ qs.length) : (polyVs qs).drop (k * 2) = polyVs (qs.drop k) := by
  have e : polyVs qs = polyVs (qs.take k) ++ polyVs (qs.drop k) := by rw [← polyVs_app, List.take_append_drop]
  have hl : (polyVs (qs.take k)).length = k * 2 := by rw [polyVs_len', List.length_take]; omega
  rw [e, ← hl, List.drop_left]
theorem row_take {w : World} {base n k cv : Nat} {Av : Option Addr} {qs : List (Value × Poly)} (h : w.ownsRow base 43 2 (.slice Av n cv) n (polyVs qs)) (hn : n = qs.length) (hk : k ≤ n) : w.ownsRow base 43 2 (.slice Av k cv) k (polyVs (qs.take k)) := by
  refine ⟨by rw [polyVs_len', List.length_take]; omega, ?_⟩
  rcases h.2 with ⟨e, h0⟩ | ⟨g, cap, cur, e, hb, hg, h1, h2, h3, h4⟩
  · cases e
    have : k = 0 := by omega
    subst this
    exact .inl ⟨rfl, rfl⟩
  · cases e
    refine .inr ⟨g, cv, cur, rfl, hb, hg, by omega, h2, h3, ?_⟩
    rw [← polyVs_take (by omega), ← h4, List.take_take]
    congr 1; omega
theorem one_polys {w : World} {base : Nat} {v : Value} {n : Nat} {qs : List (Value × Poly)} (_h : w.ownsRow base 43 2 v n (polyVs qs)) (hone : ∀ q, q ∈ qs → q.1.oneCell' = true) : ∀ u ∈ polyVs qs, u.oneCell' = true := by
  intro u hu
  unfold polyVs at hu
  obtain ⟨q, hq, hm⟩ := List.mem_flatMap.1 hu
  simp only [List.mem_cons, List.not_mem_nil, or_false] at hm
  rcases hm with rfl | rfl
  · exact hone q hq
  · rfl
/-- Rows behind a row. -/
theorem app_rows {w : World} {base base' : Nat} {v src : Value} {n m : Nat} {xs : List Value} {ys : List Value} (hown : w.ownsRow base 43 2 v n xs) (hbase : base ≤ w.heap.size) (hsrc : w.ownsRow base' 43 2 src m ys) (h1 : ∀ u ∈ ys, u.oneCell' = true) (hn : n + m ≤ 1000) :
    ∃ v' w', (Builtin.append_ #[31, 31] 31 #[v, src]).run Tryz.prog w = .ok v' w' ∧ w'.ownsRow base 43 2 v' (n + m) (xs ++ ys) ∧ w.grownBy w' v.ownBlock := by
  obtain ⟨i0, hi0, hz0, hz1, hz2⟩ := info_parts info_q
  obtain ⟨v', w', r, o, g, _⟩ := append_src (P := Tryz.prog) w 31 31 43 i0 _ 2 32 Tryz.underlying31 hi0 hz0 hz1 hz2 rfl (by omega) hown hbase hsrc h1 (by unfold maxLen; omega) (by omega)
  exact ⟨v', w', r, o, g⟩
/-- The last ones of a row behind a row. -/
theorem app_drop {w : World} {base base' : Nat} {v : Value} {n m k cv : Nat} {Av : Option Addr} {xs : List Value} {qs : List (Value × Poly)} (hown : w.ownsRow base 43 2 v m xs) (hbase : base ≤ w.heap.size) (h : w.ownsRow base' 43 2 (.slice Av n cv) n (polyVs qs)) (hn : n = qs.length) (hk : k ≤ n) (h1 : ∀ u ∈ polyVs qs, u.oneCell' = true) (hs : m + n ≤ 1000) :
    ∃ v' w', (Builtin.append_ #[31, 31] 31 #[v, .slice (if cv = k then Av else Option.map (fun x => x.add (k * 2)) Av) (n - k) (cv - k)]).run Tryz.prog w = .ok v' w' ∧ w'.ownsRow base 43 2 v' (m + (n - k)) (xs ++ polyVs (qs.drop k)) ∧ w.grownBy w' v.ownBlock := by
  obtain ⟨i0, hi0, hz0, hz1, hz2⟩ := info_parts info_q
  have h1' : ∀ u ∈ polyVs (qs.drop k), u.oneCell' = true := fun u hu => h1 u (by rw [← polyVs_drop (by omega)] at hu; exact List.mem_of_mem_drop hu)
  have hlen : (polyVs (qs.drop k)).length = (n - k) * 2 := by rw [polyVs_len', List.length_drop, hn]
  rcases h.2 with ⟨e, h0⟩ | ⟨g, cap, cur, e, hb, hg, h2, h3, h4, h5⟩
  · cases e
    have hk0 : k = 0 := by omega
    subst hk0
    have hd : polyVs (qs.drop 0) = [] := List.eq_nil_of_length_eq_zero (by rw [hlen])
    rw [hd]
    refine ⟨v, w, ?_, by simpa using hown, ⟨rfl, rfl, rfl, Nat.le_refl _, fun _ _ _ => rfl⟩⟩
    simp only [if_true, Nat.sub_self]
    exact run_append_owned_none (P := Tryz.prog) w base 31 31 43 i0 2 Tryz.underlying31 hi0 v m xs hown
  · cases e
    obtain ⟨a, ha, hcell⟩ : ∃ a, (if cv = k then some ⟨g, 0, none⟩ else Option.map (fun x : Addr => x.add (k * 2)) (some ⟨g, 0, none⟩)) = some a ∧ ∀ j u, (polyVs (qs.drop k))[j]? = some u → w.cell? (a.add j) = some u := by
      by_cases hcv : cv = k
      · rw [if_pos hcv]
        refine ⟨_, rfl, fun j u hj => ?_⟩
        have : (polyVs (qs.drop k)).length = 0 := by rw [hlen]; omega
        rw [List.eq_nil_of_length_eq_zero this] at hj; cases hj
      · rw [if_neg hcv]
        refine ⟨_, rfl, fun j u hj => ?_⟩
        rw [← polyVs_drop (by omega), List.getElem?_drop] at hj
        have := h.cells (g := g) rfl _ _ hj
        simp only [Addr.add] at this ⊢
        by_cases hz : k * 2 = 0
        · simp [hz] at this ⊢
          by_cases hj0 : j = 0
          · simp [hj0] at this ⊢; exact this
          · simp [hj0] at this ⊢; exact this
        · by_cases hj0 : j = 0
          · simp [hz, hj0] at this ⊢; exact this
          · have : ¬ k * 2 + j = 0 := by omega
            simp_all
    rw [ha]
    obtain ⟨v', w', r, o, gr, _⟩ := run_append_own_at (P := Tryz.prog) w base 31 31 43 i0 _ 2 32 Tryz.underlying31 hi0 hz0 hz1 hz2 rfl (by omega) v m xs hown a (n - k) (cv - k) (polyVs (qs.drop k)) hlen hcell h1' (by unfold maxLen; omega) (by omega) hbase
    exact ⟨v', w', r, o, gr⟩
/-- A row of polygons whose corners can be read. -/
theorem rdPolys_of_row {w : World} {base : Nat} {v : Value} {qs : List (Value × Poly)} (h2 : w.ownsRow base 43 2 v qs.length (polyVs qs)) (h1 : ∀ q, q ∈ qs → RdPts w q.1 q.2.1) : RdPolys w v (qs.map (·.2)) := by
  obtain ⟨A, cap, rfl⟩ := own_form h2
  refine ⟨A, cap, by rw [List.length_map], fun h0 => ?_⟩
  rcases h2.2 with ⟨_, h3⟩ | ⟨g, c, cur, e, _⟩
  · simp at h0; omega
  · cases e
    have hl : (polyVs qs).length = qs.length * 2 := h2.1
    refine ⟨g, 0, rfl, fun j hj => ?_⟩
    rw [List.length_map] at hj
    obtain ⟨a1, a2⟩ := flat2_get qs j hj
    rw [Nat.zero_add, List.getElem_map]
    exact ⟨qs[j].1, by rw [World.ownsRow.cellAt h2 (j * 2) (by omega)]; exact a1, by rw [World.ownsRow.cellAt h2 (j * 2 + 1) (by omega)]; exact a2, h1 _ (List.getElem_mem hj)⟩
end Go.Proofs.YtojdgdeefhndiaaGreatDoor
