/- Parts: General lemmas: an append onto a row of the call's own. No condition. Root packets and group packets as plain functions on bytes. No condition. What a reading of an argument tells (packets); and a world for the witness, in which the listed variables hold what the text lays. -/
import Derived.Test.YtmgklblglpplcaaGreatDoorRPubl2
import Derived.WalkKit
import Derived.WalkSpells
import Derived.WalkLawsBesides
import Derived.Lib.Hide
import Derived.BigQuiet
import Derived.Deep.DeepFit
import Derived.Deep.DeepCutAuto
import Derived.Deep.AppendLies
import Derived.Deep.QuietTactic
import Derived.ProofKit
import Derived.OpenShut
import Derived.ChangeOld
import Derived.Deep.SlicePairs
import Derived.Deep.Grids
import Derived.WideKeyPair
import Derived.Test.YtmgklblglpplcaaGreatDoorCards
import Derived.Test.YtmgklblglpplcaaGreatDoorTie
import Derived.ShutString
import Derived.Below
import Derived.Carry
import Derived.Laws.IdiomArrays
import Derived.Deep.DeepHandedRow
import Derived.Deep.DeepWitnessRowRef
import Derived.Lib.LaidTab
namespace Go.Proofs.YtmgklblglpplcaaGreatDoor
open Go Go.RowKit Go.ChangeShapes Go.WideShapes Go.ChangeAt
set_option maxRecDepth 100000
theorem own:ownKnob Tryz.prog.godebug=none:=by kernel_rfl
theorem laidOut:laidOutB Tryz.prog=true:=by kernel_rfl
def tabCells:DataW Unit→Array Value
 | .agg ds=>(ds.map fun | .lit (.int k n)=>Value.int k n | _=>.nilIface).toArray
 | _=>#[]
def tabPairs:DataW Unit→Array Value
 | .agg ds=>(ds.flatMap fun | .agg es=>es.map (fun | .lit (.int k n)=>Value.int k n | _=>.nilIface) | _=>[]).toArray
 | _=>#[]
def putAt (h:Array Obj) (g:Nat) (cs:Array Value):Array Obj:=h.modify g fun
 | .cells _ t frozen=>.cells cs t frozen
 | o=>o
noncomputable def laidWorld (os:Os):World:=
 { World.holding Tryz.prog os ⟨#[],#[],[]⟩ with
  heap:=putAt (putAt (World.holding Tryz.prog os ⟨#[],#[],[]⟩).heap
   0 (tabCells Go.Pinned.utf8First)) 1 (tabPairs (Rows.laid_unicode_utf8_acceptRanges (H:=Unit))) }
end Go.Proofs.YtmgklblglpplcaaGreatDoor
namespace Go.Proofs.YtmgklblglpplcaaGreatDoor
open Go Go.RowKit
theorem upd_of_grown {F:Nat→Prop} {w w':World} {row:Option Nat} (hg:w.grownBy w' row) (hr:∀k,row=some k→k<w.heap.size→F k):Upd F w w':=(Upd.refl F w).grown hg hr
theorem ownsRow_keep {w w':World} {base n:Nat} {T:TypeId} {s:Nat} {v:Value} {xs:List Value} (own:w.ownsRow base T s v n xs) (hk:∀g,v.ownBlock=some g→w'.heap[g]?=w.heap[g]?):w'.ownsRow base T s v n xs:=by
 refine ⟨own.1,?_⟩;rcases own.2 with h | ⟨g,cap,cur,rfl,hg,hh,r⟩
 ·exact .inl h
 ·exact .inr ⟨g,cap,cur,rfl,hg,(hk g (by simp [Value.ownBlock])).trans hh,r⟩
theorem ownsRow_upd {w w':World} {base n:Nat} {T:TypeId} {s:Nat} {v:Value} {xs:List Value} (own:w.ownsRow base T s v n xs) (hu:Upd noBlk w w'):w'.ownsRow base T s v n xs:=
 ownsRow_keep own (fun g hg=>hu.block g (own.lt g hg).2 id)
end Go.Proofs.YtmgklblglpplcaaGreatDoor
namespace Go.Proofs.YtmgklblglpplcaaGreatDoor
open Go Go.RowKit
namespace Pk
abbrev Bytes:=List UInt8
def digB (n:Nat):Bytes:=if h:n<128 then [UInt8.ofNat n] else UInt8.ofNat (n % 128+128) :: digB (n / 128)
termination_by n
decreasing_by omega
def numR:Nat→Nat→Nat→Bytes→Option (Nat × Bytes)
 | 0,_,_,_=>none
 | _+1,_,_,[]=>none
 | k+1,unit,acc,b :: r=>if b.toNat<128 then some (acc+b.toNat % 128*unit,r) else numR k (unit*128) (acc+b.toNat % 128*unit) r
def readNum (s:Bytes):Option (Nat × Bytes):=numR 9 1 0 s
theorem u8_small {n:Nat} (h:n<256):(UInt8.ofNat n).toNat=n:=by simp;omega
theorem numR_dig:∀(k n unit acc:Nat) (r:Bytes),n<128 ^ k→0<k→numR k unit acc (digB n++r)=some (acc+n*unit,r)
 | 0,_,_,_,_,_,h=>absurd h (by omega)
 | k+1,n,unit,acc,r,h,_=>by
  rw [digB];by_cases hn:n<128
  ·rw [dif_pos hn,List.cons_append,List.nil_append,numR,u8_small (by omega),if_pos hn,Nat.mod_eq_of_lt hn]
  ·rw [dif_neg hn,List.cons_append,numR,u8_small (by omega),if_neg (by omega)];have hk:0<k:=by
    rcases Nat.eq_zero_or_pos k with rfl | hk
    ·simp at h;omega
    ·exact hk
   rw [numR_dig k (n / 128) (unit*128) _ r (by rw [Nat.pow_succ] at h;omega) hk];have e1:(n % 128+128) % 128=n % 128:=by omega
   have e2:acc+n % 128*unit+n / 128*(unit*128)=acc+n*unit:=by
    have:n*unit=(n % 128+128*(n / 128))*unit:=by rw [Nat.mod_add_div]
    rw [this,Nat.add_mul,Nat.add_assoc];congr 2
    rw [Nat.mul_comm unit 128,←Nat.mul_assoc,Nat.mul_comm (n / 128) 128]
   rw [e1,e2]
theorem readNum_dig {n:Nat} (h:n<9223372036854775808) (r:Bytes):readNum (digB n++r)=some (n,r):=by
 unfold readNum;rw [numR_dig 9 n 1 0 r (Nat.lt_of_lt_of_le h (by decide)) (by decide)];simp
def takeR (n:Nat) (s:Bytes):Option (Bytes × Bytes):=if s.length<n then none else some (s.take n,s.drop n)
abbrev Part:=Bytes × Bytes
def partR (s:Bytes):Option (Part × Bytes):=match takeR 32 s with
 | none=>none
 | some (a,r)=>match takeR 32 r with
  | none=>none
  | some (b,r2)=>some ((a,b),r2)
def listR {α:Type} (one:Bytes→Option (α × Bytes)):Nat→Bytes→Option (List α × Bytes)
 | 0,s=>some ([],s)
 | k+1,s=>match one s with
  | none=>none
  | some (x,r)=>match listR one k r with
   | none=>none
   | some (l,r2)=>some (x :: l,r2)
def manyR {α:Type} (one:Bytes→Option (α × Bytes)) (s:Bytes):Option (List α × Bytes):=match readNum s with
 | none=>none
 | some (n,r)=>if 65536<n then none else listR one n r
def partsB (l:List Part):Bytes:=digB l.length++l.flatMap (fun p=>p.1++p.2)
def rootB (l:List Part):Bytes:=3 :: partsB l
def rootR (s:Bytes):Option (List Part):=match s with
 | []=>none
 | b :: r=>if b≠3 then none else match manyR partR r with
  | none=>none
  | some (l,_)=>if rootB l=s then some l else none
theorem takeR_app {n:Nat} {a r:Bytes} (h:a.length=n):takeR n (a++r)=some (a,r):=by
 unfold takeR;rw [if_neg (by rw [List.length_append];omega),←h,List.take_left,List.drop_left]
theorem partR_app {p:Part} {r:Bytes} (h1:p.1.length=32) (h2:p.2.length=32):partR (p.1++p.2++r)=some (p,r):=by
 unfold partR;rw [List.append_assoc,takeR_app h1];simp only;rw [takeR_app h2]
theorem listR_app {α:Type} (one:Bytes→Option (α × Bytes)) (enc:α→Bytes) (good:α→Prop) (h:∀x r,good x→one (enc x++r)=some (x,r)):∀(l:List α) (r:Bytes),(∀x,x∈l→good x)→listR one l.length (l.flatMap enc++r)=some (l,r)
 | [],r,_=>rfl
 | x :: l,r,hg=>by
  rw [List.length_cons,listR,List.flatMap_cons,List.append_assoc,h x _ (hg x (by simp))];simp only;rw [listR_app one enc good h l r (fun y hy=>hg y (by simp [hy]))]
def goodPart (p:Part):Prop:=p.1.length=32∧p.2.length=32
theorem manyR_parts (l:List Part) (r:Bytes) (hl:l.length≤65536) (hg:∀p,p∈l→goodPart p):manyR partR (partsB l++r)=some (l,r):=by
 unfold manyR partsB;rw [List.append_assoc,readNum_dig (by omega)];simp only;rw [if_neg (by omega)];exact listR_app partR (fun p=>p.1++p.2) goodPart (fun x r h=>partR_app h.1 h.2) l r hg
theorem root_back (l:List Part) (hl:l.length≤65536) (hg:∀p,p∈l→goodPart p):rootR (rootB l)=some l:=by
 unfold rootR;have e:rootB l=3 :: partsB l:=rfl;rw [e];simp only;rw [if_neg (by simp)];have:=manyR_parts l [] hl hg;rw [List.append_nil] at this;rw [this];simp only;rw [if_pos e]
structure Grp where
 level:Int
 ins:List Part
 outs:List Bytes
 moves:List ((Int × Int × Int) × (Int × Int × Int))
 err:Int
 total:Int
 neg:Bool
 mag:Bytes
end Pk
end Go.Proofs.YtmgklblglpplcaaGreatDoor
