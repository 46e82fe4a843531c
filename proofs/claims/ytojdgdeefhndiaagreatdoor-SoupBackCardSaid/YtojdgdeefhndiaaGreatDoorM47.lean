/- Walks of the polygon files: Write, the program's and the reference's, whatever is wrong. No condition. Walks of the laws of the polygon files: SoupBack. -/
import Derived.Test.YtojdgdeefhndiaaGreatDoorM46
import Derived.Test.YtojdgdeefhndiaaGreatDoorM43
import Derived.Test.YtojdgdeefhndiaaGreatDoorM39
import Derived.Test.YtojdgdeefhndiaaGreatDoorM41
import Derived.Test.YtojdgdeefhndiaaGreatDoorM4
namespace Go.Proofs.YtojdgdeefhndiaaGreatDoor
open Go Go.RowKit Sp Bg
set_option maxRecDepth 100000
/-- What Write comes to: the text, and the error. -/
def textS (form : Int) (ps : List Poly) : Bytes := if form = 1 then write1 ps else if form = 2 then write2 ps else write3 ps
def errS (form : Int) (ps : List Poly) : Nat := if form < 1 ∨ 3 < form then 1 else firstWrong ps
def outS (form : Int) (ps : List Poly) : Bytes := if errS form ps = 0 then textS form ps else []
theorem outS_bad {form : Int} {ps : List Poly} (h : errS form ps ≠ 0) : outS form ps = [] := by unfold outS; rw [if_neg h]
set_option maxHeartbeats 1000000 in
theorem pWrite_any (form : Int) (v : Value) (ps : List Poly) (hn : ps.length ≤ 100) (hpl : ∀ p, p ∈ ps → p.1.length ≤ 4294967296) (w : World) (hp : Pow w) (h : RdPolys w v ps) :
    Calls Tryz.prog 19 #[.int .i64 form, v] w fun en w' => writeR (outS form ps) (errS form ps) w en w' := by
  have HW := Lib.hid (pwrong_any v ps hn hpl w h)
  have HP := Lib.hid hp
  have HR := Lib.hid h
  clear hp h hpl
  by_cases h1 : form < 1
  · have he : errS form ps = 1 := by unfold errS; rw [if_pos (.inl h1)]
    have ho := outS_bad (form := form) (ps := ps) (by rw [he]; decide)
    rw [he, ho]
    clear he ho
    go_enter Tryz.func19, Tryz.ntmps19
    go_wp2_with fail
    go_ret2
    exact ⟨rfl, Upd.refl _ _⟩
  · by_cases h3 : 3 < form
    · have he : errS form ps = 1 := by unfold errS; rw [if_pos (.inr h3)]
      have ho := outS_bad (form := form) (ps := ps) (by rw [he]; decide)
      rw [he, ho]
      clear he ho
      go_enter Tryz.func19, Tryz.ntmps19
      go_wp2_with fail
      go_ret2
      exact ⟨rfl, Upd.refl _ _⟩
    · have he : errS form ps = firstWrong ps := by unfold errS; rw [if_neg (by omega)]
      by_cases hf : firstWrong ps = 0
      · have HV := Lib.hid (good_firstWrong hf)
        have ho : outS form ps = textS form ps := by unfold outS; rw [if_pos (by rw [he, hf])]
        rw [he, ho, hf]
        rw [hf] at HW
        clear he ho hf
        have hc : form = 1 ∨ form = 2 ∨ form = 3 := by omega
        rcases hc with rfl | rfl | rfl
        · go_enter Tryz.func19, Tryz.ntmps19
          go_wp2_with fail
          refine HW.out.mono ?_
          rintro e1 w1 ⟨rfl, u1⟩
          go_wp2_with fail
          refine (pWriteFaces_any v ps hn HV.out w1 (HP.out.keep u1) (HR.out.keep u1)).mono ?_
          rintro e1 w2 ⟨rfl, u2⟩
          go_wp2_with fail
          go_ret2
          exact ⟨rfl, u1.trans u2⟩
        · go_enter Tryz.func19, Tryz.ntmps19
          go_wp2_with fail
          refine HW.out.mono ?_
          rintro e1 w1 ⟨rfl, u1⟩
          go_wp2_with fail
          refine (pWritePolys_any v ps hn HV.out w1 (HP.out.keep u1) (HR.out.keep u1)).mono ?_
          rintro e1 w2 ⟨rfl, u2⟩
          go_wp2_with fail
          go_ret2
          exact ⟨rfl, u1.trans u2⟩
        · go_enter Tryz.func19, Tryz.ntmps19
          go_wp2_with fail
          refine HW.out.mono ?_
          rintro e1 w1 ⟨rfl, u1⟩
          go_wp2_with fail
          refine (pWriteBinary_any v ps hn HV.out w1 (HR.out.keep u1)).mono ?_
          rintro e1 w2 ⟨rfl, u2⟩
          go_wp2_with fail
          go_ret2
          exact ⟨rfl, u1.trans u2⟩
      · have ho := outS_bad (form := form) (ps := ps) (by rw [he]; exact hf)
        rw [he, ho]
        have hfI : ¬ ((firstWrong ps : Nat) : Int) = 0 := by omega
        clear he ho
        generalize firstWrong ps = e at *
        go_enter Tryz.func19, Tryz.ntmps19
        go_wp2_with fail
        refine HW.out.mono ?_
        rintro e1 w1 ⟨rfl, u1⟩
        go_wp2_with fail
        go_ret2
        exact ⟨rfl, u1⟩
set_option maxHeartbeats 1000000 in
theorem qWrite_any (form : Int) (v : Value) (ps : List Poly) (hn : ps.length ≤ 100) (w : World) (h : RdPolys w v ps) :
    Calls Tryz.prog 14 #[.int .i64 form, v] w fun en w' => writeR (outS form ps) (errS form ps) w en w' := by
  by_cases h1 : form < 1
  · have he : errS form ps = 1 := by unfold errS; rw [if_pos (.inl h1)]
    have ho := outS_bad (form := form) (ps := ps) (by rw [he]; decide)
    rw [he, ho]
    clear he ho
    go_enter Tryz.func14, Tryz.ntmps14
    go_wp2_with fail
    go_ret2
    exact ⟨rfl, Upd.refl _ _⟩
  · by_cases h3 : 3 < form
    · have he : errS form ps = 1 := by unfold errS; rw [if_pos (.inr h3)]
      have ho := outS_bad (form := form) (ps := ps) (by rw [he]; decide)
      rw [he, ho]
      clear he ho
      go_enter Tryz.func14, Tryz.ntmps14
      go_wp2_with fail
      go_ret2
      exact ⟨rfl, Upd.refl _ _⟩
    · have he : errS form ps = firstWrong ps := by unfold errS; rw [if_neg (by omega)]
      by_cases hf : firstWrong ps = 0
      · have hv := good_firstWrong hf
        have ho : outS form ps = textS form ps := by unfold outS; rw [if_pos (by rw [he, hf])]
        rw [he, ho, hf]
        have hc : form = 1 ∨ form = 2 ∨ form = 3 := by omega
        rcases hc with rfl | rfl | rfl
        · exact qWrite1_any v ps hn hv w h
        · exact qWrite2_any v ps hn hv w h
        · exact qWrite3_any v ps hn hv w h
      · have ho := outS_bad (form := form) (ps := ps) (by rw [he]; exact hf)
        rw [he, ho]
        obtain ⟨A, cap, rfl, hr⟩ := h
        have HR := Lib.hid hr
        have HF := Lib.hid hf
        have hlen : ((ps.length : Nat) : Int) ≤ 100 := by omega
        clear he ho hr hf
        go_enter Tryz.func14, Tryz.ntmps14
        go_wp2_with fail
        go_loopw [6, 7] (fun i _ wr => ∃ k : Nat, i = .int .i64 k ∧ k ≤ ps.length ∧ firstWrong (ps.drop k) = firstWrong ps ∧ Upd noBlk w wr) (fun i _ _ => ps.length - (intOf i).toNat)
        case atStart => exact ⟨0, rfl, Nat.zero_le _, rfl, Upd.refl _ _⟩
        case round =>
          obtain ⟨k, rfl, hk, hfw, hu⟩ := hrel
          have HU := Lib.hid hu
          have HFW := Lib.hid hfw
          clear hu hfw
          by_cases hlt : k < ps.length
          · have hlt' : ((k : Nat) : Int) < ((ps.length : Nat) : Int) := by omega
            obtain ⟨b, off, rfl, f1⟩ := HR.out (by omega)
            obtain ⟨pv, c10, c11, r1⟩ := f1 k hlt
            have d0 := HU.out.cell c10 id
            have d1 := HU.out.cell c11 id
            have HW := Lib.hid (qwrong_any pv ps[k].2 ps[k].1 wr (r1.keep HU.out))
            have HN : Hid (wrongS ps[k].1 = 0 → firstWrong (ps.drop (k + 1)) = firstWrong ps) := fun h0 => by rw [← firstWrong_drop hlt h0]; exact HFW.out
            have HA : Hid (wrongS ps[k].1 ≠ 0 → wrongS ps[k].1 = firstWrong ps) := fun h0 => by rw [← firstWrong_at hlt h0]; exact HFW.out
            clear f1 c10 c11 r1
            generalize ps[k] = pk at *
            by_cases hw0 : wrongS pk.1 = 0
            · have HNX := Lib.hid (HN.out hw0)
              rw [hw0] at HW
              clear hw0
              go_wp2_with fail
              refine HW.out.mono ?_
              rintro e1 w2 ⟨rfl, u2⟩
              go_wp2_with fail
              exact ⟨⟨k + 1, by go_num, hlt, HNX.out, HU.out.trans u2⟩, by simp [intOf]; omega⟩
            · have HE := Lib.hid (HA.out hw0)
              have hwI : ¬ ((wrongS pk.1 : Nat) : Int) = 0 := by omega
              generalize wrongS pk.1 = e at *
              go_wp2_with fail
              refine HW.out.mono ?_
              rintro e1 w2 ⟨rfl, u2⟩
              go_wp2_with fail
              go_ret2
              exact ⟨by rw [HE.out]; rfl, HU.out.trans u2⟩
          · exfalso
            obtain rfl : k = ps.length := by omega
            have h1 := HFW.out
            rw [List.drop_length] at h1
            exact HF.out h1.symm
end Go.Proofs.YtojdgdeefhndiaaGreatDoor
namespace Go.Proofs.YtojdgdeefhndiaaGreatDoor
open Go Go.RowKit Sp Bg
set_option maxRecDepth 100000
theorem not_magic_one (ps : List Poly) : magic.isPrefixOf (write1 ps) = false := by
  apply not_magic
  cases ps with
  | nil => exact fun h => by cases h
  | cons p r =>
    have := write1_head (ps := p :: r) (by simp) []
    rw [List.append_nil] at this
    rcases this with h | h <;> rw [h] <;> exact fun h => by cases h
/-- What was written is read back. -/
theorem read_back (m : Nat) (hm : m < 3) (ps : List Poly) (hv : ∀ p, p ∈ ps → validP p.1) (hl : ps.length ≤ 100) : ∃ ps', ps'.map (·.1) = ps.map (·.1) ∧ readS (outS (1 + (m : Int)) ps) = .ok ps' ∧ (outS (1 + (m : Int)) ps).length ≤ 300000 ∧ errS (1 + (m : Int)) ps = 0 := by
  have he : errS (1 + (m : Int)) ps = 0 := by unfold errS; rw [if_neg (by omega)]; exact firstWrong_good hv
  have ho : outS (1 + (m : Int)) ps = textS (1 + (m : Int)) ps := by unfold outS; rw [if_pos he]
  rw [ho, he]
  have hc : m = 0 ∨ m = 1 ∨ m = 2 := by omega
  rcases hc with rfl | rfl | rfl
  · have ht : textS (1 + ((0 : Nat) : Int)) ps = write1 ps := rfl
    rw [ht]
    obtain ⟨ps', e1, e2⟩ := read_one [] ps (fun x hx => by cases hx) hv (by omega) (not_magic_one ps)
    exact ⟨ps', e1, e2, by have := write1_length ps [] hv (by simp; omega); show (body1 [] ps).length ≤ _; omega, rfl⟩
  · have ht : textS (1 + ((1 : Nat) : Int)) ps = write2 ps := rfl
    rw [ht]
    have hlen : (write2 ps).length ≤ 300000 := by have := body2_length ps hv; rw [write2_body]; omega
    have hw : (linesAll (write2 ps)).map (·.2) = ps.flatMap polyW := by
      have e : write2 ps = joinL ((ps.flatMap polyW).map joinW) := rfl
      rw [e, linesAll_joinL (lines_good (W2_good ps))]
      exact numbered_words _ 1 (W2_good ps)
    have hmg : magic.isPrefixOf (write2 ps) = false := by
      apply not_magic
      cases ps with
      | nil => exact fun h => by cases h
      | cons p r =>
        have := write2_head (ps := p :: r) (by simp) []
        rw [List.append_nil] at this
        rw [this]; exact fun h => by cases h
    obtain ⟨ps', e1, e2⟩ := read_W2 hw hmg hv (by omega)
    exact ⟨ps', e1, e2, hlen, rfl⟩
  · have ht : textS (1 + ((2 : Nat) : Int)) ps = write3 ps := rfl
    rw [ht]
    obtain ⟨ps', e1, e2⟩ := read_three ps [] hv (by omega)
    rw [List.append_nil, if_pos rfl] at e2
    exact ⟨ps', e1, e2, by have := (write3_length ps hv).2; omega, rfl⟩
set_option maxHeartbeats 1500000 in
theorem lawSoupBack_c (A : Option Addr) (cap : Nat) (l : List Quad) (n : Int) (hl : l.length ≤ cap) (hc : cap ≤ maxLen) (_hf : (Lit.int .i64 n).wf = true) (w : World) (hsh : w.ShapedOpen Tryz.prog) (hpow : Pow w) (h : RdQ w A l) :
    Calls Tryz.prog 8 #[.slice A l.length cap, .int .i64 n] w fun en w' => en = .returned (.bool true) ∧ Upd noBlk w w' := by
  have H := Lib.hid h
  have HSH := Lib.hid hsh
  have HC := Lib.hid hc
  have HPW := Lib.hid hpow
  have H1 := Lib.hid (sanity_any w hsh)
  clear h hsh hc hpow
  go_enter Tryz.func8, Tryz.ntmps8
  go_wp2_with fail
  refine H1.out.mono ?_
  rintro e1 w1 ⟨rfl, u1⟩
  have U1 := Lib.hid u1
  clear u1
  go_wp2_with fail
  refine (qMade_any A cap l hl HC.out w1 (H.out.keep U1.out)).mono ?_
  rintro e1 w2 ⟨v, ps, rfl, hps, hg, ho, u2⟩
  have U2 := Lib.hid (U1.out.trans u2)
  have HG := Lib.hid (goodPs_valid hg)
  have HO := Lib.hid ho.rd
  obtain ⟨Av, cv, hv⟩ := ho.len
  subst hv
  clear u2 hg ho
  obtain ⟨m, hm⟩ : ∃ m : Nat, n % 3 = m := ⟨(n % 3).toNat, by omega⟩
  have hm' : m < 3 := by omega
  obtain ⟨ps', m1, r1, hl1, he1⟩ := read_back m hm' ps HG.out (by omega)
  have HW := Lib.hid (pWrite_any (1 + (m : Int)) _ ps (by omega) (fun p hp => by have := (HG.out p hp).2.1; omega) w2 (HPW.out.keep U2.out) HO.out)
  rw [he1] at HW
  have M1 := Lib.hid m1
  have R1 := Lib.hid r1
  have hv' : Hid (∀ p, p ∈ ps' → validP p.1) := fun p hp => by
    have h1 : p.1 ∈ ps'.map (·.1) := List.mem_map.2 ⟨p, hp, rfl⟩
    rw [M1.out] at h1
    obtain ⟨p0, h2, h3⟩ := List.mem_map.1 h1
    rw [← h3]; exact HG.out p0 h2
  have hl' : Hid (ps'.length = ps.length) := Lib.hid (by have := congrArg List.length M1.out; simpa using this)
  clear m1 r1 he1
  generalize outS (1 + (m : Int)) ps = s at *
  go_wp2_with (go_at_call 16; refine (Mod_any _ _ (by decide) (by decide) _).mono ?_; rintro e1 w1 ⟨rfl, rfl⟩)
  refine HW.out.mono ?_
  rintro e1 w3 ⟨rfl, u3⟩
  have U3 := Lib.hid (U2.out.trans u3)
  have HO3 := Lib.hid (HO.out.keep u3)
  have HR := Lib.hid (read_ba s _ R1.out (by omega) w3 (U3.out.shaped HSH.out))
  clear u3
  go_wp2_with fail
  refine HR.out.mono ?_
  rintro e1 w5 ⟨v5, rfl, o5, u5⟩
  obtain ⟨A5, c5, hv5⟩ := o5.len
  subst hv5
  have HO5 := Lib.hid o5.rd
  have S1 := Lib.hid (same_ok _ _ ps ps' M1.out.symm (by rw [hl'.out]; omega) hv'.out w5 (HO3.out.keep u5) o5.rd)
  have U5 := Lib.hid (U3.out.trans u5)
  have hpl : ((ps'.length : Nat) : Int) ≤ 100 := by have := hl'.out; omega
  clear o5 u5
  go_wp2_with fail
  refine S1.out.mono ?_
  rintro e1 w6 ⟨rfl, n6, rfl⟩
  go_wp2_with fail
  go_loopw [13] (fun i wr => ∃ j nd : Nat, i = .int .i64 ((j : Int) + 1) ∧ (j < ps'.length ∨ j = 0) ∧ wr = w5.drewN nd) (fun i _ => ps'.length + 1 - (intOf i).toNat)
  case atStart => exact ⟨0, n6, rfl, .inr rfl, rfl⟩
  case round =>
    obtain ⟨j, nd, rfl, hj, rfl⟩ := hrel
    by_cases hlt : j + 1 < ps'.length
    · have hlt' : ((j : Nat) : Int) + 1 < ((ps'.length : Nat) : Int) := by omega
      have hlt2 : ((j : Nat) : Int) < ((ps'.length : Nat) : Int) := by omega
      obtain ⟨A6, c6, he6, g6⟩ := HO5.out
      cases he6
      obtain ⟨b, off, rfl, f6⟩ := g6 (by omega)
      obtain ⟨pv1, c10, c11, _⟩ := f6 (j + 1) hlt
      obtain ⟨pv2, c20, c21, _⟩ := f6 j (by omega)
      have hup : ¬ ((ps'[j + 1].2 : Nat) : Int) ≤ ((ps'[j].2 : Nat) : Int) := by
        have := List.pairwise_iff_getElem.1 (readS_up R1.out) j (j + 1) (by omega) hlt (by omega)
        omega
      clear f6 g6
      generalize ps'[j + 1].2 = x1 at *
      generalize ps'[j].2 = x2 at *
      go_wp2_with fail
      go_quiet (fail)
      go_wp2_with fail
      exact ⟨⟨j + 1, _, by go_num, .inl hlt, rfl⟩, by simp [intOf]; omega⟩
    · have hlt' : ¬ ((j : Nat) : Int) + 1 < ((ps'.length : Nat) : Int) := by omega
      go_wp2_with fail
      go_ret
      exact ⟨rfl, U5.out.drewN nd⟩
end Go.Proofs.YtojdgdeefhndiaaGreatDoor
