/- Parts: Walks of the coder: the reader's Bit. Walks of the packets' program: expected, zigzag, places written. No condition. -/
import Derived.Test.YtmgklblglpplcaaGreatDoorRPubl1
import Derived.Test.YtmgklblglpplcaaGreatDoorRPubl2
import Derived.Test.YtmgklblglpplcaaGreatDoorRPubl3
import Derived.Test.YtmgklblglpplcaaGreatDoorRPubl6
import Derived.Test.YtmgklblglpplcaaGreatDoorRPubl8
import Derived.Test.YtmgklblglpplcaaGreatDoorRPubl9
import Derived.Test.YtmgklblglpplcaaGreatDoorRows
import Derived.WalkKit
import Derived.WalkSpells
import Derived.WalkLawsBesides
import Derived.Lib.Hide
import Derived.BigQuiet
import Derived.Deep.DeepFit
import Derived.Deep.DeepCutAuto
import Derived.Deep.AppendLies
import Derived.Deep.QuietTactic
import Derived.Deep.RegionHeld3
import Derived.StillTail
import Derived.Maps.OwnOps
import Derived.Maps.OwnSet
import Derived.Maps.RangeWalk
import Derived.WideKeyEntry
import Derived.Deep.MidRow
import Derived.Lib.Bits
import Derived.Laws.EntriesVeiled
import Derived.Handy
import Derived.DeepKeys4
import Derived.ArgAppend
import Derived.Deep.Upon
import Derived.Deep.CutBlock
import Derived.Test.YtmgklblglpplcaaGreatDoorShelf2
import Derived.Test.YtmgklblglpplcaaGreatDoorShelf
import Derived.Laws.BitsAllLaws
import Derived.Lib.Zigzag
namespace Go.Proofs.YtmgklblglpplcaaGreatDoor
open Go Go.RowKit Pc
set_option maxRecDepth 100000
def nx (left:List Nat) (off:Nat):List Nat × Nat:=
 match left with
 | []=>([],off*256 % 4294967296)
 | x :: r=>(r,(off*256+x) % 4294967296)
theorem next_eq (d:D):d.next=⟨d.m,(nx d.left d.off).1,(nx d.left d.off).2⟩:=by
 unfold D.next nx;split<;>rename_i h<;>simp [h]
theorem or_byte (off x:Nat) (hx:x<256):bits .or .u32 ((off:Int)*256 % 4294967296) (x:Int)=(((off*256+x) % 4294967296:Nat):Int):=by
 have e:(off:Int)*256 % 4294967296=((off*256 % 4294967296:Nat):Int):=by omega
 rw [e,u32_or_nat _ _ (by omega) (by omega),nat_join 8 _ _ (by omega) (by omega)];congr 1
 omega
set_option maxHeartbeats 1000000 in
theorem next_any (b:Nat) (c0 c1:Value) (T:TypeId) (left:List Nat) (off:Nat) (hoff:off<4294967296) (hl:∀d,d∈left→d<256) (w:World)
  (hb:w.heap[b]?=some (.cells #[c0,c1,.string (str left),.int .u32 off] T (0,0))) :
  Calls Tryz.prog 153 #[.pointer (some ⟨b,0,none⟩)] w fun e w'=>e=.returned (.tuple #[]) ∧
   w'.heap[b]?=some (.cells #[c0,c1,.string (str (nx left off).1),.int .u32 ((nx left off).2:Nat)] T (0,0))∧Upd (·=b) w w':=by
 have h2:w.cell? ⟨b,2,none⟩=some (.string (str left)):=by rw [cell_of_row w b 2 _ _ _ hb];rfl
 have h3:w.cell? ⟨b,3,none⟩=some (.int .u32 off):=by rw [cell_of_row w b 3 _ _ _ hb];rfl
 have f2:=frozen_of_row w b 2 _ _ hb;have f3:=frozen_of_row w b 3 _ _ hb;have ho:(off:Int)<4294967296:=by omega
 rcases left with _ | ⟨x,r⟩
 ·have hs:(str []).toList=[]:=str_toList _;clear hoff hl;go_enter Tryz.func153,Tryz.ntmps153
  go_wp2
  go_end0
  have hor:bits .or .u32 ((off:Int)*256 % 4294967296) 0=((nx [] off).2:Nat):=(or_byte off 0 (by omega)).trans rfl;rw [hor];exact ⟨rfl,heap_setCell_eq (i:=3) _ hb,(Upd.refl (·=b) w).setCell (fun _=>rfl) _⟩
 ·have hs:(str (x :: r)).toList=UInt8.ofNat x :: r.map UInt8.ofNat:=str_toList _;have hx:(x:Int)<256:=by have:=hl x (by simp);omega
  have hz:(str (x :: r)).size=r.length+1:=by rw [str_size];simp
  have hi:∀(h:0<(str (x :: r)).size),((str (x :: r))[0]'h).toNat=x:=fun h=>str_get (by simp) hl h;clear hoff hl;go_enter Tryz.func153,Tryz.ntmps153
  go_wp2
  go_region
  go_wp2
  go_end0
  have hor:=or_byte off x (by omega);have hex:(str (x :: r)).extract 1 (r.length+1)=str r:=by rw [str_extract];simp
  simp only [hor,hex];exact ⟨by trivial,heap_setCell_eq (w:=w.drew.setCell ⟨b,2,none⟩ _) (i:=3) _ (heap_setCell_eq (w:=w.drew) (i:=2) _ hb),((((Upd.refl (·=b) w).drew).setCell (fun _=>rfl) _).setCell (fun _=>rfl) _)⟩
structure RLive (w:World) (b wb:Nat) (d:D):Prop where
 wf:d.Wf
 blk:w.heap[b]?=some (.cells #[.slice (some ⟨wb,0,none⟩) 4096 4096,.int .u32 d.m.size,.string (str d.left),.int .u32 d.off] 230 (0,0))
 wt:Wts w wb d.m.p
 n1:b≠wb
def rFoot (b wb:Nat):Nat→Prop:=fun k=>k=b∨k=wb
def RRep (w:World) (b:Nat) (d:D) (F:Nat→Prop):Prop:=
 (∃code,(∀x,x∈code→x<256)∧d=D.ofCode code∧w.heap[b]?=some (.cells #[.slice none 0 0,.int .u32 0,.string (str code),.int .u32 0] 230 (0,0))∧F=(·=b))∨∃wb,RLive w b wb d∧F=rFoot b wb
theorem RLive.keep {w w':World} {b wb:Nat} {d:D} (h:RLive w b wb d) (hk:∀k,rFoot b wb k→w'.heap[k]?=w.heap[k]?):RLive w' b wb d:=
 ⟨h.wf,(hk b (.inl rfl)).trans h.blk,h.wt.keep (hk wb (.inr rfl)),h.n1⟩
theorem RRep.keep {w w':World} {b:Nat} {d:D} {F:Nat→Prop} (h:RRep w b d F) (hk:∀k,F k→w'.heap[k]?=w.heap[k]?):RRep w' b d F:=by
 rcases h with ⟨code,h0,h1,h2,rfl⟩ | ⟨wb,h1,rfl⟩
 ·exact .inl ⟨code,h0,h1,(hk b rfl).trans h2,rfl⟩
 ·exact .inr ⟨wb,h1.keep hk,rfl⟩
theorem RLive.lt {w:World} {b wb:Nat} {d:D} (h:RLive w b wb d):∀k,rFoot b wb k→k<w.heap.size:=by
 rintro k (rfl | rfl)
 ·exact lt_of_heap h.blk
 ·exact h.wt.lt
theorem RRep.lt {w:World} {b:Nat} {d:D} {F:Nat→Prop} (h:RRep w b d F):∀k,F k→k<w.heap.size:=by
 rcases h with ⟨code,h0,h1,h2,rfl⟩ | ⟨wb,h1,rfl⟩
 ·intro k hk;subst hk;exact lt_of_heap h2
 ·exact h1.lt
theorem RRep.upd {w w':World} {b:Nat} {d:D} {F G:Nat→Prop} (h:RRep w b d F) (hu:Upd G w w') (hd:∀k,F k→¬G k):RRep w' b d F:=
 h.keep fun k hk=>hu.block k (h.lt k hk) (hd k hk)
theorem RRep.wf {w:World} {b:Nat} {d:D} {F:Nat→Prop} (h:RRep w b d F):d.Wf:=by
 rcases h with ⟨code,h0,h1,h2,rfl⟩ | ⟨wb,h1,rfl⟩
 ·rw [h1];exact D.ofCode_wf h0
 ·exact h1.wf
theorem next_R (b wb:Nat) (d:D) (w:World) (h:RLive w b wb d) :
  Calls Tryz.prog 153 #[.pointer (some ⟨b,0,none⟩)] w fun e w'=>e=.returned (.tuple #[])∧RLive w' b wb d.next∧Upd (·=b) w w':=by
 refine (next_any b _ _ _ d.left d.off h.wf.off h.wf.left w h.blk).mono ?_;rintro e w' ⟨rfl,h1,h2⟩;have hw:=D.next_wf h.wf;rw [next_eq] at hw ⊢;exact ⟨rfl,⟨hw,h1,h.wt.keep (h2.block wb h.wt.lt (fun x=>h.n1 x.symm)),h.n1⟩,h2⟩
def nextN:Nat→D→D
 | 0,d=>d
 | n+1,d=>(nextN n d).next
theorem upd_R (c:Int) (one:Bool) (b wb:Nat) (d:D) (w:World) (h:RLive w b wb d) :
  Calls Tryz.prog 141 #[.pointer (some ⟨b,0,none⟩),.int .i64 c,.bool one,.func (.func 153) #[.pointer (some ⟨b,0,none⟩)] #[]] w fun en w'=>en=.returned (.tuple #[]) ∧
   RLive w' b wb (if d.m.shifts (ctx c) one then (D.next ⟨d.m.step (ctx c) one,d.left,d.off⟩) else ⟨d.m.step (ctx c) one,d.left,d.off⟩)∧Upd (rFoot b wb) w w':=by
 have hw:D.Wf ⟨d.m.step (ctx c) one,d.left,d.off⟩:=⟨M.step_wf h.wf.m (ctx_lt c) one,h.wf.off,h.wf.left⟩;refine update_R c one b wb b d.m h.wf.m w _ _ h.blk rfl rfl h.wt h.n1 _ ?_ ?_
 ·intro hs w' hu;rw [hs];exact ⟨⟨hw,hu.blk,hu.wt,h.n1⟩,hu.up⟩
 ·intro hs w' hu;rw [hs];refine (next_R b wb ⟨d.m.step (ctx c) one,d.left,d.off⟩ w' ⟨hw,hu.blk,hu.wt,h.n1⟩).mono ?_;rintro en w'' ⟨rfl,h1,h2⟩;refine ⟨rfl,?_,h1,hu.up.trans (h2.mono fun k _ hk=>.inl hk)⟩;rw [cell_of_row w'' b 1 _ _ _ h1.blk,next_eq];rfl
theorem begin_R (b:Nat) (d:D) (F:Nat→Prop) (w:World) (h:RRep w b d F) :
  Calls Tryz.prog 137 #[.pointer (some ⟨b,0,none⟩)] w fun en w'=>∃r wb d0,en=.returned (.bool r)∧RLive w' b wb d0∧d=(if r then nextN 4 d0 else d0)∧Upd F w w'∧∀k,rFoot b wb k→F k∨w.heap.size≤k:=by
 rcases h with ⟨code,h0,rfl,h2,rfl⟩ | ⟨wb,h1,rfl⟩
 ·refine (begin_new b w _ 230 h2 rfl (by show 1<4;decide)).mono ?_;rintro en w' ⟨rfl,wb,hlt,hb,hwt,hup⟩;have hlb:=lt_of_heap h2;refine ⟨true,wb,⟨M.init,code,0⟩,rfl,⟨⟨M.init_wf,by show 0<4294967296;omega,h0⟩,hb,hwt,by omega⟩,rfl,hup,?_⟩;rintro k (rfl | rfl)
  ·exact .inl rfl
  ·exact .inr hlt
 ·have hc:w.cell? ⟨b,0,none⟩=some (.slice (some ⟨wb,0,none⟩) 4096 4096):=by rw [cell_of_row w b 0 _ _ _ h1.blk];rfl
  refine (begin_old b w _ _ _ hc).mono ?_;rintro en w' ⟨rfl,rfl⟩;exact ⟨false,wb,d,rfl,h1,rfl,Upd.refl _ _,fun k hk=>.inl hk⟩
structure RAt (w wr:World) (b wb:Nat) (d:D) (F:Nat→Prop):Prop where
 live:RLive wr b wb d
 up:Upd F w wr
 foot:∀k,rFoot b wb k→F k∨w.heap.size≤k
theorem RAt.step {w wr w2:World} {b wb:Nat} {d d2:D} {F:Nat→Prop} (h:RAt w wr b wb d F) (hl:RLive w2 b wb d2) (hu:Upd (rFoot b wb) wr w2):RAt w w2 b wb d2 F:=
 ⟨hl,h.up.then hu (fun i hi hf=>(h.foot i hf).elim id (fun x=>absurd hi (by omega))),h.foot⟩
theorem RAt.done {w wr:World} {b wb:Nat} {d:D} {F:Nat→Prop} (h:RAt w wr b wb d F):∃F',RRep wr b d F'∧Upd F w wr∧∀k,F' k→F k∨w.heap.size≤k:=
 ⟨_,.inr ⟨wb,h.live,rfl⟩,h.up,h.foot⟩
theorem RLive.setOff {w:World} {b wb:Nat} {d:D} (h:RLive w b wb d) {off:Nat} (ho:off<4294967296) (n:Nat) :
  RLive ((w.drewN n).setCell ⟨b,3,none⟩ (.int .u32 off)) b wb ⟨d.m,d.left,off⟩:=
 ⟨⟨h.wf.m,ho,h.wf.left⟩,heap_setCell_eq (w:=w.drewN n) (i:=3) _ h.blk,h.wt.keep (heap_setCell_other (w.drewN n) ⟨b,3,none⟩ wb _ (fun x=>h.n1 x.symm)),h.n1⟩
theorem RLive.drew {w:World} {b wb:Nat} {d:D} (h:RLive w b wb d) (n:Nat):RLive (w.drewN n) b wb d:=h.keep fun _ _=>rfl
theorem bit_of {d:D} {c:Int} {one:Bool} (h:d.one c=one):(if d.m.shifts (ctx c) one then (D.next ⟨d.m.step (ctx c) one,d.left,d.off1 c⟩) else ⟨d.m.step (ctx c) one,d.left,d.off1 c⟩)=d.bit c:=by
 unfold D.bit;rw [h]
set_option maxHeartbeats 1000000 in
theorem RBit_any (b:Nat) (c:Int) (d:D) (F:Nat→Prop) (w:World) (h:RRep w b d F) :
  Calls Tryz.prog 131 #[.pointer (some ⟨b,0,none⟩),.int .i64 c] w fun en w'=>en=.returned (.bool (d.one c)) ∧
   ∃F',RRep w' b (d.bit c) F'∧Upd F w w'∧∀k,F' k→F k∨w.heap.size≤k:=by
 go_enter Tryz.func131,Tryz.ntmps131
 go_wp2_with fail
 refine (begin_R b d F w h).mono ?_;rintro en w1 ⟨r,wb,d0,rfl,h1,hd,h2,h3⟩;have HA:Hid (RAt w w1 b wb d0 F):=⟨h1,h2,h3⟩;have HD:=Lib.hid hd;clear h1 hd h2 h3 h;go_upto_if 12 with (fail)
 go_cut [] (fun wc=>RAt w wc b wb d F)
 case first=>
  cases r
  ·go_wp2_with fail
   go_meet
   rw [HD.out];exact HA.out
  ·go_wp2_with fail
   go_loopw [13] (fun i wr=>∃k:Nat,i=.int .i64 k∧k≤4∧RAt w wr b wb (nextN k d0) F) (fun i _=>4-(intOf i).toNat)
   case atStart=>exact ⟨0,rfl,by omega,HA.out⟩
   case round=>
    obtain ⟨k,rfl,hk,ha⟩:=hrel;have HR:=Lib.hid ha;clear ha;by_cases hlt:k<4
    ·go_wp2_with (go_at_call 153;refine (next_R b wb _ _ HR.out.live).mono ?_;rintro e w2 ⟨rfl,q1,q2⟩)
     go_roundw
     case rel=>exact ⟨k+1,by go_num,hlt,HR.out.step q1 (q2.mono fun k _ hk=>.inl hk)⟩
     case measure=>simp [intOf];omega
    ·obtain rfl:k=4:=by omega
     go_wp2_with fail
     go_meet
     rw [HD.out];exact HR.out
 case rest=>
  have HC:=Lib.hid hcut;have c0:wc.cell? ⟨b,0,none⟩=some (.slice (some ⟨wb,0,none⟩) 4096 4096):=by rw [cell_of_row wc b 0 _ _ _ hcut.live.blk];rfl
  have c1:wc.cell? ⟨b,1,none⟩=some (.int .u32 d.m.size):=by rw [cell_of_row wc b 1 _ _ _ hcut.live.blk];rfl
  have c3:wc.cell? ⟨b,3,none⟩=some (.int .u32 d.off):=by rw [cell_of_row wc b 3 _ _ _ hcut.live.blk];rfl
  have f1:=frozen_of_row wc b 1 _ _ hcut.live.blk;have f3:=frozen_of_row wc b 3 _ _ hcut.live.blk;have hmod:Hid (Mod wc b wb d.m):=⟨c0,c1,f1,hcut.live.wt,hcut.live.n1⟩;have hwf:=hcut.live.wf;clear hcut;by_cases ho:d.m.split (ctx c)≤d.off
  ·have e1:d.one c=true:=by unfold D.one;simpa using ho
   have e2:d.off1 c=d.off-d.m.split (ctx c):=by unfold D.off1;rw [e1];simp
   have t1:((d.m.split (ctx c):Nat):Int)≤(d.off:Int):=by omega
   have t2:((d.off:Int)-((d.m.split (ctx c):Nat):Int)) % 4294967296=((d.off1 c:Nat):Int):=by have:=hwf.off;rw [e2];omega
   have E1:=Lib.hid e1;clear e1 e2 ho;go_wp2_with (first | (go_at_call 139;refine (split_any _ _ _ _ hwf.m _ hmod.out).mono ?_;rintro e w' ⟨rfl,n,rfl⟩))
   have hl2:=Lib.hid (HC.out.live.setOff (D.off1_lt hwf c) n);refine (upd_R c true b wb ⟨d.m,d.left,d.off1 c⟩ _ hl2.out).mono ?_;rintro en w3 ⟨rfl,q1,q2⟩;have Q1:Hid (RLive w3 b wb (d.bit c)):=by have:=q1;rw [bit_of E1.out] at this;exact this
   have Q2:Hid (Upd (rFoot b wb) wc w3):=((Upd.ofDrewN wc n).setCell (fun _=>.inl rfl) _).trans q2;clear q1 q2;go_wp2
   go_ret
   exact ⟨by rw [E1.out];rfl,(HC.out.step Q1.out Q2.out).done⟩
  ·have e1:d.one c=false:=by unfold D.one;simpa using ho
   have e2:d.off1 c=d.off:=by unfold D.off1;rw [e1];simp
   have t1:¬((d.m.split (ctx c):Nat):Int)≤(d.off:Int):=by omega
   have E1:=Lib.hid e1;have E2:=Lib.hid e2;clear e1 e2 ho;go_wp2_with (first | (go_at_call 139;refine (split_any _ _ _ _ hwf.m _ hmod.out).mono ?_;rintro e w' ⟨rfl,n,rfl⟩))
   refine (upd_R c false b wb d _ (HC.out.live.drew n)).mono ?_;rintro en w3 ⟨rfl,q1,q2⟩;have Q1:Hid (RLive w3 b wb (d.bit c)):=by have:=q1;rw [←bit_of E1.out,E2.out];exact this
   have Q2:Hid (Upd (rFoot b wb) wc w3):=(Upd.ofDrewN wc n).trans q2;clear q1 q2;go_wp2
   go_ret
   exact ⟨by rw [E1.out];rfl,(HC.out.step Q1.out Q2.out).done⟩
end Go.Proofs.YtmgklblglpplcaaGreatDoor
namespace Go.Proofs.YtmgklblglpplcaaGreatDoor
open Go Go.RowKit Pk
set_option maxRecDepth 100000
theorem zig_bits {n:Int} (h0:-4611686018427387904≤n) (h1:n≤4611686018427387903):bits BinOp.xor IntKind.u64 (IntKind.u64.wrap (IntKind.u64.wrap n*2)) (IntKind.u64.wrap (n / 9223372036854775808))=((zig n:Nat):Int):=by
 have w1:=IntKind.wrap_u64 n;have w2:=IntKind.wrap_u64 (IntKind.u64.wrap n*2);have w3:=IntKind.wrap_u64 (n / 9223372036854775808);unfold zig;by_cases hn:n<0
 ·have e1:IntKind.u64.wrap (IntKind.u64.wrap n*2)=(((2*n+18446744073709551616).toNat:Nat):Int):=by omega
  have e2:IntKind.u64.wrap (n / 9223372036854775808)=((18446744073709551615:Nat):Int):=by omega
  rw [e1,e2,u64_xor_nat _ _ (by omega) (by omega),Nat.xor_comm,if_pos hn];have:=Lib.xor_ones64 (2*n+18446744073709551616).toNat (by omega);have e3:(2 ^ 64-1:Nat)=18446744073709551615:=by decide
  rw [e3] at this;rw [this];congr 1
  omega
 ·have e1:IntKind.u64.wrap (IntKind.u64.wrap n*2)=(((2*n).toNat:Nat):Int):=by omega
  have e2:IntKind.u64.wrap (n / 9223372036854775808)=((0:Nat):Int):=by omega
  rw [e1,e2,u64_xor_nat _ _ (by omega) (by omega),Nat.xor_zero,if_neg hn]
theorem zigzag_any (n:Int) (h0:-4611686018427387904≤n) (h1:n≤4611686018427387903) (w:World):Calls Tryz.prog 143 #[.int .i64 n] w fun en w'=>en=.returned (.int .u64 ((zig n:Nat):Int))∧w=w':=by
 have HZ:=Lib.hid (zig_bits h0 h1);clear h0 h1;go_enter Tryz.func143,Tryz.ntmps143
 go_wp2_with fail
 go_ret
 exact ⟨by rw [←HZ.out];rfl,rfl⟩
end Go.Proofs.YtmgklblglpplcaaGreatDoor
