/- Walks of the laws: CoderNumbers. -/
import Derived.Test.YtadfolnhomongaaDoorWalkN5
import Derived.Test.YtadfolnhomongaaDoorRegionC
namespace Go.Proofs.YtadfolnhomongaaDoor
open Go Go.RowKit Pc
set_option maxRecDepth 100000

/-- Both readers, each at any state. -/
theorem RdAt.cnum {w wr : World} {r m : Nat} {d dm : D} {n : Nat} {F : Nat → Prop} (h : RdAt w wr r m d dm n F) (c : Int) :
    Calls Tryd.prog 30 #[.pointer (some ⟨r, 0, none⟩), .int .i64 c] wr fun en w' => en = .returned (.tuple #[.int .u64 ((d.number c).n : Int), .bool (d.number c).ok]) ∧ ∃ F', RdAt w w' r m (d.number c).d dm n F' := by
  refine (RNumber_any (RG.self h.rep) c).mono ?_
  rintro e w2 ⟨rfl, F', q1, q2, q3⟩
  have hm := h.rr.lt
  exact ⟨rfl, F', q1, h.rr.upd q3 h.ne, fun j hj => (q2 j hj).elim (h.new j) (fun x => Nat.le_trans h.up.size x), h.mnew, fun hF => (q2 m hF).elim h.ne (fun x => by omega), upd_new h.up q3 h.new⟩
theorem RdAt.rnum {w wr : World} {r m : Nat} {d dm : D} {n : Nat} {F : Nat → Prop} (h : RdAt w wr r m d dm n F) (hn : n + 200 ≤ 999999) (c : Int) :
    Calls Tryd.prog 31 #[.pointer (some ⟨m, 0, none⟩), .int .i64 c] wr fun en w' => en = .returned (.tuple #[.int .u64 ((dm.number c).n : Int), .bool (dm.number c).ok]) ∧ ∃ n', n' ≤ n + 130 ∧ RdAt w w' r m d (dm.number c).d n' F := by
  refine (rRNumber_any h.rr hn c).mono ?_
  rintro e w2 ⟨rfl, n', q0, q1, q2⟩
  exact ⟨rfl, n', q0, h.rep.upd q2 (fun k hk hm => h.ne (hm ▸ hk)), q1, h.new, h.mnew, h.ne, upd_new h.up q2 (fun j hj => by rw [hj]; exact h.mnew)⟩

/-- A slice of ints at any address. -/
def RdI (w : World) (A : Option Addr) (l : List Int) : Prop := 0 < l.length → ∃ b off, A = some ⟨b, off, none⟩ ∧ ∀ j (h : j < l.length), w.cell? ⟨b, off + j, none⟩ = some (.int .i64 l[j])

theorem str_cut (s : ByteArray) (m : Nat) : s.extract 0 m = str ((bytesOf s).take m) := by
  conv => lhs; rw [← str_bytesOf s]
  rw [str_extract]; simp
theorem repl_snoc (k : Nat) (x : Nat) : List.replicate k x ++ [x] = List.replicate (k + 1) x := by rw [List.replicate_succ']

set_option maxHeartbeats 3000000 in
theorem lawNumbers_any (s : ByteArray) (z : Int) (A : Option Addr) (ca : Nat) (l : List Int) (w : World) (hs : s.size ≤ maxLen) (hl : ((l.length : Nat) : Int) ≤ 9223372036854775807)
    (ha : RdI w A l) :
    Calls Tryd.prog 11 #[.string s, .int .i64 z, .slice A l.length ca] w fun e w' => e = .returned (.bool true) ∧ Upd noBlk w w' := by
  have HA := Lib.hid ha
  unfold maxLen at hs
  clear ha
  obtain ⟨nn, hn, hn60⟩ : ∃ n : Nat, z % 60 = (n : Int) ∧ n < 60 := ⟨(z % 60).toNat, by omega, by omega⟩
  obtain ⟨m, hm, hm1, hm2⟩ : ∃ m : Nat, min ((s.size : Nat) : Int) 40 = (m : Int) ∧ m ≤ s.size ∧ m ≤ 40 := ⟨min s.size 40, by omega, by omega, by omega⟩
  have hcode : Hid (∀ x, x ∈ List.replicate nn 255 ++ (bytesOf s).take m → x < 256) := by
    intro x hx
    rcases List.mem_append.1 hx with h | h
    · rw [(List.mem_replicate.1 h).2]; omega
    · exact bytesOf_lt s x (List.mem_of_mem_take h)
  go_enter Tryd.func11, Tryd.ntmps11
  go_wp2_with (go_at_call 14; refine (sanity_any _).mono ?_; rintro e w1 ⟨rfl, u1⟩; have U1 := Lib.hid u1; clear u1)
  go_loop [8, 9] (fun x i => ∃ k : Nat, i = .int .i64 k ∧ x = .string (str (List.replicate k 255)) ∧ k ≤ nn) (fun _ i => nn - (intOf i).toNat)
  case atStart => exact ⟨0, rfl, rfl, Nat.zero_le _⟩
  case round =>
    obtain ⟨k, rfl, rfl, hk⟩ := hrel
    by_cases hlt : k < nn
    · have hadd := run_add (P := Tryd.prog) (a := List.replicate k 255) (b := [255]) (c := List.replicate (k + 1) 255) (by rw [List.length_replicate]; simp; omega) (repl_snoc k 255)
      have hadd' : ∀ w, (Op.stringOp .add (str (List.replicate k 255)) ⟨#[255]⟩).run Tryd.prog w = .ok (.string (str (List.replicate (k + 1) 255))) w := hadd
      have hkb : ((k : Nat) : Int) ≤ 60 := by omega
      clear hadd
      go_wp2_with (go_at_call 21; refine (Mod_any _ 60 (by decide) (by decide) _).mono ?_; rintro e w2 ⟨rfl, rfl⟩)
      go_round
      case rel => exact ⟨k + 1, by go_num, rfl, hlt⟩
      case measure => simp [intOf]; omega
    · obtain rfl : k = nn := by omega
      have hadd := run_add (P := Tryd.prog) (a := List.replicate k 255) (b := (bytesOf s).take m) (c := List.replicate k 255 ++ (bytesOf s).take m) (by rw [List.length_replicate, List.length_take]; omega) rfl
      have hcut := str_cut s m
      go_wp2_with (go_at_call 21; refine (Mod_any _ 60 (by decide) (by decide) _).mono ?_; rintro e w2 ⟨rfl, rfl⟩)
      generalize List.replicate k 255 ++ (bytesOf s).take m = code at *
      clear hadd hcut
      refine (NewReader_any code _).mono ?_
      rintro e w3 ⟨rfl, rfl⟩
      go_wp2_with fail
      refine (rNewReader_any code hcode.out _).mono ?_
      rintro e w5 ⟨rfl, n1, n2⟩
      have HR : Hid (RdAt w w5 w1.heap.size (w1.heap.size + 1) (D.ofCode code) (D.ofCode code) 4 (· = w1.heap.size)) := by
        have := RdAt.make (w := w) hcode.out U1.out (Upd.refl noBlk _) (by simpa using n1) n2; show RdAt _ _ _ _ _ _ _ _; simpa using this
      clear n1 n2
      go_wp2_with fail
      clear hn hm
      go_loopw [12, 13, 14, 15, 16] (fun i _ _ _ _ wr => ∃ k : Nat, i = .int .i64 k ∧ k ≤ l.length ∧ k ≤ 12 ∧ ∃ d n F, RdAt w wr w1.heap.size (w1.heap.size + 1) d d n F ∧ n ≤ 4 + 140 * k) (fun i _ _ _ _ _ => 12 - (intOf i).toNat)
      case atStart => exact ⟨0, rfl, Nat.zero_le _, Nat.zero_le _, _, _, _, HR.out, Nat.le_refl _⟩
      case round =>
        obtain ⟨k, rfl, hk1, hk2, d, n, F, hr, hn⟩ := hrel
        have HR2 := Lib.hid hr
        clear hr HR
        have kb : ((k : Nat) : Int) ≤ 12 := by omega
        by_cases hlt : k < l.length ∧ k < 12
        · obtain ⟨h1, h2⟩ := hlt
          obtain ⟨b, off, rfl, ea⟩ := HA.out (by omega)
          have h1' : ((k : Nat) : Int) < ((l.length : Nat) : Int) := by omega
          have h2' : ((k : Nat) : Int) < 12 := by omega
          have EA := Lib.hid (ea k h1)
          have e0 : wr.cell? ⟨b, off + k, none⟩ = some (.int .i64 l[k]) := HR2.out.up.cell EA.out id
          clear ea
          go_wp2_with fail
          refine (HR2.out.cnum l[k]).mono ?_
          rintro e w6 ⟨rfl, F6, r6⟩
          have R6 := Lib.hid r6
          have e1 : w6.cell? ⟨b, off + k, none⟩ = some (.int .i64 l[k]) := R6.out.up.cell EA.out id
          clear r6 e0
          go_wp2_with fail
          refine (R6.out.rnum (by omega) l[k]).mono ?_
          rintro e w7 ⟨rfl, n7, hn7, r7⟩
          have R7 := Lib.hid r7
          have e0 : w7.cell? ⟨b, off + k, none⟩ = some (.int .i64 l[k]) := R7.out.up.cell EA.out id
          clear r7 e1
          generalize d.number l[k] = q at *
          go_wp2_with fail
          refine wp_region_tree 21 (OT.sures [0, 1, 2, 3, 4, 5, 6, 7, 8, 9, 10, 11, 12, 13, 15, 16, 17, 18, 19] (.run 14 (.run 20 .nil))) (fun w' => w'.cell? ⟨b, off + k, none⟩ = some (.int .i64 l[k])) (by kernel_rfl) (by kernel_rfl) (fun c a d v w h => by cases d <;> exact h) e0 ?_
          simp only [OT.sures]
          iterate 19 (first | (apply wpT_sure rfl rfl; focus (intro w' hw'; have g1 := hw'; go_simp; rfl)) | (refine wpT_sureG rfl (by go_simp) _ (fun w' hw' => by have g1 := hw'; go_simp; rfl) ?_))
          refine wpT_run (fun w' => w'.cell? ⟨b, off + k, none⟩ = some (.int .i64 l[k])) (fun _ h => h) rfl (fun K hK => ?_)
          go_simp
          refine (R7.out.drew.cbit l[k]).mono ?_
          rintro e w8 ⟨rfl, F8, r8⟩
          have R8 := Lib.hid r8
          clear r8
          refine hK _ _ ⟨R8.out.up.cell EA.out id, ?_⟩
          clear hK K e0
          refine wpT_run (fun w' => w'.cell? ⟨b, off + k, none⟩ = some (.int .i64 l[k])) (fun _ h => h) rfl (fun K hK => ?_)
          go_simp
          refine (R8.out.rbit (by omega) l[k]).mono ?_
          rintro e w9 ⟨rfl, r9⟩
          have R9 := Lib.hid r9
          clear r9
          refine hK _ _ ⟨R9.out.up.cell EA.out id, ?_⟩
          clear hK K
          refine wpT_nil ?_
          go_wp2
          go_roundw
          case rel => exact ⟨k + 1, by go_num, h1, h2, _, _, _, R9.out, by omega⟩
          case measure => simp [intOf]; omega
        · have HF := Lib.hid HR2.out.up
          by_cases h1 : k < l.length
          · have h2 : ¬ ((k : Nat) : Int) < 12 := by omega
            clear hlt
            go_wp2
            go_ret
            exact ⟨rfl, HF.out⟩
          · clear hlt
            go_wp2
            go_ret
            exact ⟨rfl, HF.out⟩
/-- A slice of ints among a law's arguments. -/
def ArgI (w : World) (v : Value) (l : List Int) : Prop := ∃ A cap, v = .slice A l.length cap ∧ RdI w A l ∧ l.length ≤ maxLen
theorem lawNumbers (s : ByteArray) (z : Int) (v : Value) (l : List Int) (w : World) (hs : s.size ≤ maxLen) (_hz : (Lit.int .i64 z).wf = true) (h : ArgI w v l) :
    Calls Tryd.prog 11 #[.string s, .int .i64 z, v] w fun e w' => e = .returned (.bool true) ∧ Upd noBlk w w' := by
  obtain ⟨A, ca, rfl, ra, ma⟩ := h
  unfold maxLen at ma
  exact lawNumbers_any s z A ca l w hs (by omega) ra
end Go.Proofs.YtadfolnhomongaaDoor
