/- Walks of the program of the polygon files: check, isNumber, numbers. -/
import Derived.Test.YtojdgdeefhndiaaGreatDoorRows
import Derived.Test.YtojdgdeefhndiaaGreatDoorLib
import Derived.Test.YtojdgdeefhndiaaGreatDoorSPureB
import Derived.Test.YtojdgdeefhndiaaGreatDoorShelf
namespace Go.Proofs.YtojdgdeefhndiaaGreatDoor
open Go Go.RowKit Sp
set_option maxRecDepth 100000

set_option maxHeartbeats 400000 in
theorem check_ok (place e : Int) (w : World) : Calls Tryz.prog 47 #[.bool true, .int .i64 place, .int .i64 e] w fun en w' => en = .returned (.tuple #[]) ∧ w = w' := by
  go_enter Tryz.func47, Tryz.ntmps47
  go_wp2
  go_end0
  exact ⟨rfl, rfl⟩
def fail (place e : Int) : List PanicEntry := [{ v := .iface 59 (.agg #[.int .i64 place, .int .i64 e]), recovered := false }]
set_option maxHeartbeats 400000 in
theorem check_bad (place e : Int) (w : World) : Calls Tryz.prog 47 #[.bool false, .int .i64 place, .int .i64 e] w fun en w' => en = .panicked (fail place e) ∧ w = w' := by
  go_enter Tryz.func47, Tryz.ntmps47
  go_wp2
  exact ⟨rfl, rfl, rfl⟩

/-- A string of bytes. -/
def bs (l : Bytes) : ByteArray := ⟨l.toArray⟩
theorem bs_data (l : Bytes) : (bs l).data.toList = l := by simp [bs]
theorem bs_size (l : Bytes) : (bs l).size = l.length := by simp [bs, ByteArray.size]
theorem bs_of (s : ByteArray) : bs s.data.toList = s := by apply ByteArray.ext; simp [bs]
theorem bs_toList (l : Bytes) : (bs l).toList = l := ByteArray.toList_mk _
theorem trimPrefix_minus (l : Bytes) : Lib.trimPrefix l [45] = unminus l := by
  cases l with
  | nil => rfl
  | cons c r =>
    unfold Lib.trimPrefix Lib.hasPrefix unminus
    by_cases h : c = 45
    · subst h; simp [List.isPrefixOf]
    · simp [List.isPrefixOf, h, Ne.symm h]
def digs : Bytes := [48, 49, 50, 51, 52, 53, 54, 55, 56, 57]
theorem isDig_eq (c : UInt8) : digs.contains c = isDig c := by
  rw [Bool.eq_iff_iff]
  unfold isDig digs
  simp only [List.contains_eq_mem, List.mem_cons, List.not_mem_nil, or_false, decide_eq_true_eq, ← UInt8.toNat_inj]
  simp
  omega
theorem dropWhile_nil {p : UInt8 → Bool} : ∀ {l : Bytes}, l.dropWhile p = [] ↔ l.all p = true
  | [] => by simp
  | c :: r => by
    rw [List.dropWhile_cons, List.all_cons]
    by_cases h : p c = true
    · rw [if_pos h, dropWhile_nil, h]; simp
    · rw [if_neg h]; simp [h]
theorem dropWhile_all {p : UInt8 → Bool} : ∀ (l : Bytes), (l.dropWhile p).all p = l.all p
  | [] => rfl
  | c :: r => by
    rw [List.dropWhile_cons, List.all_cons]
    by_cases h : p c = true
    · rw [if_pos h, dropWhile_all r, h]; simp
    · rw [if_neg h, List.all_cons]
theorem trimS_nil (l : Bytes) : (Lib.trimS l digs).isEmpty = l.all isDig := by
  have e : (fun c => digs.contains c) = isDig := funext isDig_eq
  rw [Bool.eq_iff_iff, List.isEmpty_iff]
  unfold Lib.trimS Lib.trimLeftS Lib.trimRightS
  rw [e, dropWhile_nil, List.all_reverse, dropWhile_all, List.all_reverse]

theorem ascii_digs : ∀ (j : Nat) b, (⟨#[48, 49, 50, 51, 52, 53, 54, 55, 56, 57]⟩ : ByteArray).data.toList[j]? = some b → b.toNat < 128 := ascii_of_all (by decide)
theorem unminus_le (l : Bytes) : (unminus l).length ≤ l.length := by
  cases l with
  | nil => simp [unminus]
  | cons c r =>
    unfold unminus
    by_cases h : c = 45 <;> simp [h]
set_option maxHeartbeats 400000 in
theorem isNumber_any (l : Bytes) (hl : l.length ≤ 4294967296) (w : World) : Calls Tryz.prog 50 #[.string (bs l)] w fun en w' => en = .returned (.bool (isNum l)) ∧ Upd noBlk w w' := by
  by_cases h0 : unminus l = []
  · have hn : isNum l = false := by unfold isNum; rw [h0]; rfl
    have HN := Lib.hid hn
    clear hn
    go_enter Tryz.func50, Tryz.ntmps50
    go_wp2_with fail
    refine (Tryz.strings_TrimPrefix _ ⟨#[45]⟩ _).mono ?_
    rw [bs_data, trimPrefix_minus]
    rintro e w1 ⟨rfl, rfl⟩
    go_wp2
    go_ret
    exact ⟨by rw [HN.out]; rfl, Upd.refl _ _⟩
  · have hn : isNum l = (!(unminus l).isEmpty && (Lib.trimS (unminus l) digs).isEmpty) := by unfold isNum; rw [trimS_nil]
    have HN := Lib.hid hn
    have hu := unminus_le l
    clear hn
    go_enter Tryz.func50, Tryz.ntmps50
    go_wp2_with fail
    refine (Tryz.strings_TrimPrefix _ ⟨#[45]⟩ _).mono ?_
    rw [bs_data, trimPrefix_minus]
    rintro e w1 ⟨rfl, rfl⟩
    go_wp2_with fail
    refine (Any.strings_Trim_laid Tryz.lays160 (by kernel_rfl) (bs (unminus l)) ⟨#[48, 49, 50, 51, 52, 53, 54, 55, 56, 57]⟩ _ (by rw [bs_size]; omega) (by decide) ascii_digs).mono ?_
    rw [bs_data]
    rintro e w2 ⟨rfl, hb⟩
    have U := Lib.hid (Upd.ofBelow (F := noBlk) hb)
    go_wp2
    go_ret
    exact ⟨by rw [HN.out]; rfl, U.out⟩
end Go.Proofs.YtojdgdeefhndiaaGreatDoor
