/- Parts: A state and a writer side by side: what each step leaves. No condition. Walks of the coder: NewReader. Walks of the coder: the reader's Bit. Walks of the coder: the writer's Number. Walks of the packets' program: a place is written. No condition. Walks of the packets' program: expected, zigzag, places written. No condition. -/
import Derived.Test.YtcikldoaidmnhaaGreatDoorQKeep2
import Derived.Test.YtcikldoaidmnhaaGreatDoorQKeep11
import Derived.Test.YtcikldoaidmnhaaGreatDoorQKeep12
import Derived.Test.YtcikldoaidmnhaaGreatDoorShelf
import Derived.Laws.BitsAllLaws
import Derived.Lib.Zigzag
namespace Go.Proofs.YtcikldoaidmnhaaGreatDoor
open Go Go.RowKit Pc
set_option maxRecDepth 100000
def nx (left:List Nat) (off:Nat):List Nat × Nat:=
 match left with
 | []=>([],off*256 % 4294967296)
 | x :: r=>(r,(off*256+x) % 4294967296)
theorem next_eq (d:D):d.next=⟨d.m,(nx d.left d.off).1,(nx d.left d.off).2⟩:=by
 unfold D.next nx;split<;>rename_i h<;>simp [h]
theorem or_byte (off x:Nat) (hx:x<256):bits .or .u32 ((off:Int)*256 % 4294967296) (x:Int)=(((off*256+x) % 4294967296:Nat):Int):=by
 have e:(off:Int)*256 % 4294967296=((off*256 % 4294967296:Nat):Int):=by omega
 rw [e,u32_or_nat _ _ (by omega) (by omega),nat_join 8 _ _ (by omega) (by omega)];congr 1
 omega
set_option maxHeartbeats 1000000 in
theorem next_any (b:Nat) (c0 c1:Value) (T:TypeId) (left:List Nat) (off:Nat) (hoff:off<4294967296) (hl:∀d,d∈left→d<256) (w:World)
  (hb:w.heap[b]?=some (.cells #[c0,c1,.string (str left),.int .u32 off] T (0,0))) :
  Calls Tryz.prog 176 #[.pointer (some ⟨b,0,none⟩)] w fun e w'=>e=.returned (.tuple #[]) ∧
   w'.heap[b]?=some (.cells #[c0,c1,.string (str (nx left off).1),.int .u32 ((nx left off).2:Nat)] T (0,0))∧Upd (·=b) w w':=by
 have h2:w.cell? ⟨b,2,none⟩=some (.string (str left)):=by rw [cell_of_row w b 2 _ _ _ hb];rfl
 have h3:w.cell? ⟨b,3,none⟩=some (.int .u32 off):=by rw [cell_of_row w b 3 _ _ _ hb];rfl
 have f2:=frozen_of_row w b 2 _ _ hb;have f3:=frozen_of_row w b 3 _ _ hb;have ho:(off:Int)<4294967296:=by omega
 rcases left with _ | ⟨x,r⟩
 ·have hs:(str []).toList=[]:=str_toList _;clear hoff hl;go_enter Tryz.func176,Tryz.ntmps176
  go_wp2
  go_end0
  have hor:bits .or .u32 ((off:Int)*256 % 4294967296) 0=((nx [] off).2:Nat):=(or_byte off 0 (by omega)).trans rfl;rw [hor];exact ⟨rfl,heap_setCell_eq (i:=3) _ hb,(Upd.refl (·=b) w).setCell (fun _=>rfl) _⟩
 ·have hs:(str (x :: r)).toList=UInt8.ofNat x :: r.map UInt8.ofNat:=str_toList _;have hx:(x:Int)<256:=by have:=hl x (by simp);omega
  have hz:(str (x :: r)).size=r.length+1:=by rw [str_size];simp
  have hi:∀(h:0<(str (x :: r)).size),((str (x :: r))[0]'h).toNat=x:=fun h=>str_get (by simp) hl h;clear hoff hl;go_enter Tryz.func176,Tryz.ntmps176
  go_wp2
  go_region
  go_wp2
  go_end0
  have hor:=or_byte off x (by omega);have hex:(str (x :: r)).extract 1 (r.length+1)=str r:=by rw [str_extract];simp
  simp only [hor,hex];exact ⟨by trivial,heap_setCell_eq (w:=w.drew.setCell ⟨b,2,none⟩ _) (i:=3) _ (heap_setCell_eq (w:=w.drew) (i:=2) _ hb),((((Upd.refl (·=b) w).drew).setCell (fun _=>rfl) _).setCell (fun _=>rfl) _)⟩
structure RLive (w:World) (b wb:Nat) (d:D):Prop where
 wf:d.Wf
 blk:w.heap[b]?=some (.cells #[.slice (some ⟨wb,0,none⟩) 4096 4096,.int .u32 d.m.size,.string (str d.left),.int .u32 d.off] 227 (0,0))
 wt:Wts w wb d.m.p
 n1:b≠wb
def rFoot (b wb:Nat):Nat→Prop:=fun k=>k=b∨k=wb
def RRep (w:World) (b:Nat) (d:D) (F:Nat→Prop):Prop:=
 (∃code,(∀x,x∈code→x<256)∧d=D.ofCode code∧w.heap[b]?=some (.cells #[.slice none 0 0,.int .u32 0,.string (str code),.int .u32 0] 227 (0,0))∧F=(·=b))∨∃wb,RLive w b wb d∧F=rFoot b wb
theorem RLive.keep {w w':World} {b wb:Nat} {d:D} (h:RLive w b wb d) (hk:∀k,rFoot b wb k→w'.heap[k]?=w.heap[k]?):RLive w' b wb d:=
 ⟨h.wf,(hk b (.inl rfl)).trans h.blk,h.wt.keep (hk wb (.inr rfl)),h.n1⟩
theorem RRep.keep {w w':World} {b:Nat} {d:D} {F:Nat→Prop} (h:RRep w b d F) (hk:∀k,F k→w'.heap[k]?=w.heap[k]?):RRep w' b d F:=by
 rcases h with ⟨code,h0,h1,h2,rfl⟩ | ⟨wb,h1,rfl⟩
 ·exact .inl ⟨code,h0,h1,(hk b rfl).trans h2,rfl⟩
 ·exact .inr ⟨wb,h1.keep hk,rfl⟩
theorem RLive.lt {w:World} {b wb:Nat} {d:D} (h:RLive w b wb d):∀k,rFoot b wb k→k<w.heap.size:=by
 rintro k (rfl | rfl)
 ·exact lt_of_heap h.blk
 ·exact h.wt.lt
theorem RRep.lt {w:World} {b:Nat} {d:D} {F:Nat→Prop} (h:RRep w b d F):∀k,F k→k<w.heap.size:=by
 rcases h with ⟨code,h0,h1,h2,rfl⟩ | ⟨wb,h1,rfl⟩
 ·intro k hk;subst hk;exact lt_of_heap h2
 ·exact h1.lt
theorem RRep.upd {w w':World} {b:Nat} {d:D} {F G:Nat→Prop} (h:RRep w b d F) (hu:Upd G w w') (hd:∀k,F k→¬G k):RRep w' b d F:=
 h.keep fun k hk=>hu.block k (h.lt k hk) (hd k hk)
theorem RRep.wf {w:World} {b:Nat} {d:D} {F:Nat→Prop} (h:RRep w b d F):d.Wf:=by
 rcases h with ⟨code,h0,h1,h2,rfl⟩ | ⟨wb,h1,rfl⟩
 ·rw [h1];exact D.ofCode_wf h0
 ·exact h1.wf
theorem next_R (b wb:Nat) (d:D) (w:World) (h:RLive w b wb d) :
  Calls Tryz.prog 176 #[.pointer (some ⟨b,0,none⟩)] w fun e w'=>e=.returned (.tuple #[])∧RLive w' b wb d.next∧Upd (·=b) w w':=by
 refine (next_any b _ _ _ d.left d.off h.wf.off h.wf.left w h.blk).mono ?_;rintro e w' ⟨rfl,h1,h2⟩;have hw:=D.next_wf h.wf;rw [next_eq] at hw ⊢;exact ⟨rfl,⟨hw,h1,h.wt.keep (h2.block wb h.wt.lt (fun x=>h.n1 x.symm)),h.n1⟩,h2⟩
def nextN:Nat→D→D
 | 0,d=>d
 | n+1,d=>(nextN n d).next
theorem upd_R (c:Int) (one:Bool) (b wb:Nat) (d:D) (w:World) (h:RLive w b wb d) :
  Calls Tryz.prog 103 #[.pointer (some ⟨b,0,none⟩),.int .i64 c,.bool one,.func (.func 176) #[.pointer (some ⟨b,0,none⟩)] #[]] w fun en w'=>en=.returned (.tuple #[]) ∧
   RLive w' b wb (if d.m.shifts (ctx c) one then (D.next ⟨d.m.step (ctx c) one,d.left,d.off⟩) else ⟨d.m.step (ctx c) one,d.left,d.off⟩)∧Upd (rFoot b wb) w w':=by
 have hw:D.Wf ⟨d.m.step (ctx c) one,d.left,d.off⟩:=⟨M.step_wf h.wf.m (ctx_lt c) one,h.wf.off,h.wf.left⟩;refine update_R c one b wb b d.m h.wf.m w _ _ h.blk rfl rfl h.wt h.n1 _ ?_ ?_
 ·intro hs w' hu;rw [hs];exact ⟨⟨hw,hu.blk,hu.wt,h.n1⟩,hu.up⟩
 ·intro hs w' hu;rw [hs];refine (next_R b wb ⟨d.m.step (ctx c) one,d.left,d.off⟩ w' ⟨hw,hu.blk,hu.wt,h.n1⟩).mono ?_;rintro en w'' ⟨rfl,h1,h2⟩;refine ⟨rfl,?_,h1,hu.up.trans (h2.mono fun k _ hk=>.inl hk)⟩;rw [cell_of_row w'' b 1 _ _ _ h1.blk,next_eq];rfl
theorem begin_R (b:Nat) (d:D) (F:Nat→Prop) (w:World) (h:RRep w b d F) :
  Calls Tryz.prog 99 #[.pointer (some ⟨b,0,none⟩)] w fun en w'=>∃r wb d0,en=.returned (.bool r)∧RLive w' b wb d0∧d=(if r then nextN 4 d0 else d0)∧Upd F w w'∧∀k,rFoot b wb k→F k∨w.heap.size≤k:=by
 rcases h with ⟨code,h0,rfl,h2,rfl⟩ | ⟨wb,h1,rfl⟩
 ·refine (begin_new b w _ 227 h2 rfl (by show 1<4;decide)).mono ?_;rintro en w' ⟨rfl,wb,hlt,hb,hwt,hup⟩;have hlb:=lt_of_heap h2;refine ⟨true,wb,⟨M.init,code,0⟩,rfl,⟨⟨M.init_wf,by show 0<4294967296;omega,h0⟩,hb,hwt,by omega⟩,rfl,hup,?_⟩;rintro k (rfl | rfl)
  ·exact .inl rfl
  ·exact .inr hlt
 ·have hc:w.cell? ⟨b,0,none⟩=some (.slice (some ⟨wb,0,none⟩) 4096 4096):=by rw [cell_of_row w b 0 _ _ _ h1.blk];rfl
  refine (begin_old b w _ _ _ hc).mono ?_;rintro en w' ⟨rfl,rfl⟩;exact ⟨false,wb,d,rfl,h1,rfl,Upd.refl _ _,fun k hk=>.inl hk⟩
structure RAt (w wr:World) (b wb:Nat) (d:D) (F:Nat→Prop):Prop where
 live:RLive wr b wb d
 up:Upd F w wr
 foot:∀k,rFoot b wb k→F k∨w.heap.size≤k
theorem RAt.step {w wr w2:World} {b wb:Nat} {d d2:D} {F:Nat→Prop} (h:RAt w wr b wb d F) (hl:RLive w2 b wb d2) (hu:Upd (rFoot b wb) wr w2):RAt w w2 b wb d2 F:=
 ⟨hl,h.up.then hu (fun i hi hf=>(h.foot i hf).elim id (fun x=>absurd hi (by omega))),h.foot⟩
theorem RAt.done {w wr:World} {b wb:Nat} {d:D} {F:Nat→Prop} (h:RAt w wr b wb d F):∃F',RRep wr b d F'∧Upd F w wr∧∀k,F' k→F k∨w.heap.size≤k:=
 ⟨_,.inr ⟨wb,h.live,rfl⟩,h.up,h.foot⟩
theorem RLive.setOff {w:World} {b wb:Nat} {d:D} (h:RLive w b wb d) {off:Nat} (ho:off<4294967296) (n:Nat) :
  RLive ((w.drewN n).setCell ⟨b,3,none⟩ (.int .u32 off)) b wb ⟨d.m,d.left,off⟩:=
 ⟨⟨h.wf.m,ho,h.wf.left⟩,heap_setCell_eq (w:=w.drewN n) (i:=3) _ h.blk,h.wt.keep (heap_setCell_other (w.drewN n) ⟨b,3,none⟩ wb _ (fun x=>h.n1 x.symm)),h.n1⟩
theorem RLive.drew {w:World} {b wb:Nat} {d:D} (h:RLive w b wb d) (n:Nat):RLive (w.drewN n) b wb d:=h.keep fun _ _=>rfl
theorem bit_of {d:D} {c:Int} {one:Bool} (h:d.one c=one):(if d.m.shifts (ctx c) one then (D.next ⟨d.m.step (ctx c) one,d.left,d.off1 c⟩) else ⟨d.m.step (ctx c) one,d.left,d.off1 c⟩)=d.bit c:=by
 unfold D.bit;rw [h]
set_option maxHeartbeats 1000000 in
theorem RBit_any (b:Nat) (c:Int) (d:D) (F:Nat→Prop) (w:World) (h:RRep w b d F) :
  Calls Tryz.prog 151 #[.pointer (some ⟨b,0,none⟩),.int .i64 c] w fun en w'=>en=.returned (.bool (d.one c)) ∧
   ∃F',RRep w' b (d.bit c) F'∧Upd F w w'∧∀k,F' k→F k∨w.heap.size≤k:=by
 go_enter Tryz.func151,Tryz.ntmps151
 go_wp2_with fail
 refine (begin_R b d F w h).mono ?_;rintro en w1 ⟨r,wb,d0,rfl,h1,hd,h2,h3⟩;have HA:Hid (RAt w w1 b wb d0 F):=⟨h1,h2,h3⟩;have HD:=Lib.hid hd;clear h1 hd h2 h3 h;go_upto_if 12 with (fail)
 go_cut [] (fun wc=>RAt w wc b wb d F)
 case first=>
  cases r
  ·go_wp2_with fail
   go_meet
   rw [HD.out];exact HA.out
  ·go_wp2_with fail
   go_loopw [13] (fun i wr=>∃k:Nat,i=.int .i64 k∧k≤4∧RAt w wr b wb (nextN k d0) F) (fun i _=>4-(intOf i).toNat)
   case atStart=>exact ⟨0,rfl,by omega,HA.out⟩
   case round=>
    obtain ⟨k,rfl,hk,ha⟩:=hrel;have HR:=Lib.hid ha;clear ha;by_cases hlt:k<4
    ·go_wp2_with (go_at_call 176;refine (next_R b wb _ _ HR.out.live).mono ?_;rintro e w2 ⟨rfl,q1,q2⟩)
     go_roundw
     case rel=>exact ⟨k+1,by go_num,hlt,HR.out.step q1 (q2.mono fun k _ hk=>.inl hk)⟩
     case measure=>simp [intOf];omega
    ·obtain rfl:k=4:=by omega
     go_wp2_with fail
     go_meet
     rw [HD.out];exact HR.out
 case rest=>
  have HC:=Lib.hid hcut;have c0:wc.cell? ⟨b,0,none⟩=some (.slice (some ⟨wb,0,none⟩) 4096 4096):=by rw [cell_of_row wc b 0 _ _ _ hcut.live.blk];rfl
  have c1:wc.cell? ⟨b,1,none⟩=some (.int .u32 d.m.size):=by rw [cell_of_row wc b 1 _ _ _ hcut.live.blk];rfl
  have c3:wc.cell? ⟨b,3,none⟩=some (.int .u32 d.off):=by rw [cell_of_row wc b 3 _ _ _ hcut.live.blk];rfl
  have f1:=frozen_of_row wc b 1 _ _ hcut.live.blk;have f3:=frozen_of_row wc b 3 _ _ hcut.live.blk;have hmod:Hid (Mod wc b wb d.m):=⟨c0,c1,f1,hcut.live.wt,hcut.live.n1⟩;have hwf:=hcut.live.wf;clear hcut;by_cases ho:d.m.split (ctx c)≤d.off
  ·have e1:d.one c=true:=by unfold D.one;simpa using ho
   have e2:d.off1 c=d.off-d.m.split (ctx c):=by unfold D.off1;rw [e1];simp
   have t1:((d.m.split (ctx c):Nat):Int)≤(d.off:Int):=by omega
   have t2:((d.off:Int)-((d.m.split (ctx c):Nat):Int)) % 4294967296=((d.off1 c:Nat):Int):=by have:=hwf.off;rw [e2];omega
   have E1:=Lib.hid e1;clear e1 e2 ho;go_wp2_with (first | (go_at_call 101;refine (split_any _ _ _ _ hwf.m _ hmod.out).mono ?_;rintro e w' ⟨rfl,n,rfl⟩))
   have hl2:=Lib.hid (HC.out.live.setOff (D.off1_lt hwf c) n);refine (upd_R c true b wb ⟨d.m,d.left,d.off1 c⟩ _ hl2.out).mono ?_;rintro en w3 ⟨rfl,q1,q2⟩;have Q1:Hid (RLive w3 b wb (d.bit c)):=by have:=q1;rw [bit_of E1.out] at this;exact this
   have Q2:Hid (Upd (rFoot b wb) wc w3):=((Upd.ofDrewN wc n).setCell (fun _=>.inl rfl) _).trans q2;clear q1 q2;go_wp2
   go_ret
   exact ⟨by rw [E1.out];rfl,(HC.out.step Q1.out Q2.out).done⟩
  ·have e1:d.one c=false:=by unfold D.one;simpa using ho
   have e2:d.off1 c=d.off:=by unfold D.off1;rw [e1];simp
   have t1:¬((d.m.split (ctx c):Nat):Int)≤(d.off:Int):=by omega
   have E1:=Lib.hid e1;have E2:=Lib.hid e2;clear e1 e2 ho;go_wp2_with (first | (go_at_call 101;refine (split_any _ _ _ _ hwf.m _ hmod.out).mono ?_;rintro e w' ⟨rfl,n,rfl⟩))
   refine (upd_R c false b wb d _ (HC.out.live.drew n)).mono ?_;rintro en w3 ⟨rfl,q1,q2⟩;have Q1:Hid (RLive w3 b wb (d.bit c)):=by have:=q1;rw [←bit_of E1.out,E2.out];exact this
   have Q2:Hid (Upd (rFoot b wb) wc w3):=(Upd.ofDrewN wc n).trans q2;clear q1 q2;go_wp2
   go_ret
   exact ⟨by rw [E1.out];rfl,(HC.out.step Q1.out Q2.out).done⟩
end Go.Proofs.YtcikldoaidmnhaaGreatDoor
namespace Go.Proofs.YtcikldoaidmnhaaGreatDoor
open Go Go.RowKit Pc
set_option maxRecDepth 100000
def rZero (code:List Nat):Array Value:=#[.slice none 0 0,.int .u32 0,.string (str code),.int .u32 0]
set_option maxHeartbeats 400000 in
theorem NewReader_any (code:List Nat) (w:World):Calls Tryz.prog 115 #[.string (str code)] w fun e w'=>e=.returned (.pointer (some ⟨w.heap.size,0,none⟩))∧w.alloc (.cells (rZero code) 227)=w':=by
 go_enter Tryz.func115,Tryz.ntmps115
 go_wp2
 go_ret
 exact ⟨rfl,rfl⟩
theorem NewReader_rep {code:List Nat} (h:∀x,x∈code→x<256) (w:World):RRep (w.alloc (.cells (rZero code) 227)) w.heap.size (D.ofCode code) (·=w.heap.size):=
 .inl ⟨code,h,rfl,heap_alloc_new w _,rfl⟩
end Go.Proofs.YtcikldoaidmnhaaGreatDoor
namespace Go.Proofs.YtcikldoaidmnhaaGreatDoor
open Go Go.RowKit Pc
set_option maxRecDepth 100000
structure WG (F0:Nat→Prop) (w wr:World) (b:Nat) (e:E) (F:Nat→Prop):Prop where
 rep:WRep wr b e F
 new:∀k,F k→F0 k∨w.heap.size≤k
 up:Upd F0 w wr
theorem WG.self {w:World} {b:Nat} {e:E} {F:Nat→Prop} (h:WRep w b e F):WG F w w b e F:=⟨h,fun _ hk=>.inl hk,Upd.refl _ _⟩
theorem upd_foot {F0 F:Nat→Prop} {w w1 w2:World} (h:Upd F0 w w1) (k:Upd F w1 w2) (hF:∀k,F k→F0 k∨w.heap.size≤k):Upd F0 w w2:=
 h.then k (fun i hi hf=>(hF i hf).elim id (fun x=>absurd hi (by omega)))
theorem WG.upd {F0:Nat→Prop} {w wr w2:World} {b:Nat} {e:E} {F:Nat→Prop} (h:WG F0 w wr b e F) (hu:Upd noBlk wr w2):WG F0 w w2 b e F:=
 ⟨h.rep.upd hu (fun _ _=>id),h.new,h.up.trans (hu.mono (fun _ _ x=>x.elim))⟩
theorem WG.bit {F0:Nat→Prop} {w wr:World} {b:Nat} {e:E} {F:Nat→Prop} (h:WG F0 w wr b e F) (c:Int) (one:Bool) (hlen:e.done.length+1≤1000000) :
  Calls Tryz.prog 49 #[.pointer (some ⟨b,0,none⟩),.int .i64 c,.bool one] wr fun en w'=>en=.returned (.tuple #[])∧∃F',WG F0 w w' b (e.bit c one) F':=by
 refine (WBit_any b c one e F wr h.rep hlen).mono ?_;rintro en w2 ⟨rfl,F',q1,q2,q3⟩;exact ⟨rfl,F',q1,fun j hj=>(q3 j hj).elim (h.new j) (fun x=>.inr (Nat.le_trans h.up.size x)),upd_foot h.up q2 h.new⟩
set_option maxHeartbeats 1000000 in
theorem all_W {F0:Nat→Prop} {w0 w:World} {b:Nat} {e:E} {F:Nat→Prop} (h:WG F0 w0 w b e F) (g:Nat) (c:Int) (one:Bool) (hc:w.cell? ⟨g,0,none⟩=some (.bool one)) (hlen:e.done.length+1≤1000000) :
  Calls Tryz.prog 97 #[.pointer (some ⟨b,0,none⟩),.int .i64 c,.slice (some ⟨g,0,none⟩) 1 1] w fun en w'=>en=.returned (.tuple #[])∧∃F',WG F0 w0 w' b (e.bit c one) F':=by
 have H:=Lib.hid h;have HL:=Lib.hid hlen;clear h hlen;go_enter Tryz.func97,Tryz.ntmps97
 go_wp2_with fail
 refine wp_loop_rounds 2 ?_;rw [rounds_succ];go_wp2_with (go_at_call 49;refine (H.out.bit c one HL.out).mono ?_;rintro e w2 ⟨rfl,F',q⟩;have Q:=Lib.hid q;clear q)
 rw [rounds_succ];go_wp2
 go_end0
 exact ⟨rfl,F',Q.out⟩
theorem bitLen_eq {n:Nat} (h:n<2 ^ 64):Lib.bitLen n=blen n:=by
 have aux:∀f x,x<2 ^ f→Lib.bitLenAux f x=blen x:=by
  intro f;induction f with
  | zero=>
   intro x hx;have:x=0:=by omega
   subst this;rfl
  | succ f ih=>
   intro x hx;unfold Lib.bitLenAux;split
   ·rename_i h0;subst h0;rfl
   ·have h1:=ih (x / 2) (by rw [Nat.pow_succ] at hx;omega);have h2:=blen_pos (n:=x) (by omega);omega
 exact aux 64 n h
theorem bit_val {n j:Nat} (hn:n<2 ^ 64):(bits .and .u64 ((n:Int) / 2 ^ j) 1 == 1)=decide (n / 2 ^ j % 2=1):=by
 have e:(n:Int) / 2 ^ j=((n / 2 ^ j:Nat):Int):=by push_cast;rfl
 have hq:n / 2 ^ j≤n:=Nat.div_le_self _ _;have h1:=u64_and_nat (n / 2 ^ j) 1 (by omega) (by omega);rw [e,show (1:Int)=((1:Nat):Int) from rfl,h1,nat_mask1,Bool.eq_iff_iff];simp;omega
set_option maxHeartbeats 1000000 in
theorem WNumber_any {F0:Nat→Prop} {w0 w:World} {b:Nat} {e:E} {F:Nat→Prop} (h:WG F0 w0 w b e F) (c:Int) (n:Nat) (hn:n<2 ^ 64) (hlen:e.done.length+200≤1000000) :
  Calls Tryz.prog 46 #[.pointer (some ⟨b,0,none⟩),.int .i64 c,.int .u64 n] w fun en w'=>en=.returned (.tuple #[])∧∃F',WG F0 w0 w' b (encFrom e (numBits c n)) F':=by
 have H:=Lib.hid h;have HL:=Lib.hid hlen;have HN:=Lib.hid hn;have hB:=bitLen_eq hn;have hk:=blen_le hn;have hnn:0≤(n:Int):=by omega
 clear h hlen hn;go_enter Tryz.func46,Tryz.ntmps46
 go_wp2_with (go_at_call 96;refine (Tryz.bits_Len64 _ _ hnn (by have:=HN.out;omega)).mono ?_;rw [Int.toNat_natCast,hB];rintro e w2 ⟨rfl,rfl⟩)
 have H':=Lib.hid (H.out);clear H hB;go_loopw [7,12] (fun _ i wr=>∃k:Nat,i=.int .i64 k∧k≤blen n∧∃e' F',WG F0 w0 wr b e' F'∧e'.done.length≤e.done.length+k∧encFrom e' (obits c k (blen n-k)++vbits c n (blen n-1))=encFrom e (numBits c n)) (fun _ i _=>64-(intOf i).toNat)
 case atStart=>exact ⟨0,rfl,Nat.zero_le _,e,F,H'.out,Nat.le_refl _,rfl⟩
 case round=>
  obtain ⟨k,rfl,hkn,e',F',h1,h2,h3⟩:=hrel;have H1:=Lib.hid h1;have H2:=Lib.hid h2;have H3:=Lib.hid h3;clear h1 h2 h3 H';have hkb:(k:Int)≤64:=by omega
  have HS:Hid (e'.done.length+2≤1000000):=by show _≤_;have:=H2.out;have:=HL.out;omega
  by_cases hlt:k<blen n
  ·have HX:Hid (encFrom (e'.bit (nctx c k) true) (obits c (k+1) (blen n-(k+1))++vbits c n (blen n-1))=encFrom e (numBits c n)):=by
    show _=_;rw [←H3.out,show blen n-k=(blen n-(k+1))+1 by omega];rfl
   go_wp2_with (go_at_call 97;refine (all_W (H1.out.upd ((Upd.refl noBlk wr).alloc _)) _ _ true (World.cell?_alloc_new wr _ _ 0) (by have:=HS.out;omega)).mono ?_;rintro en w3 ⟨rfl,F3,q⟩;have Q:Hid (WG F0 w0 w3 b (e'.bit (nctx c k) true) F3):=q;clear q)
   go_roundw
   case rel=>exact ⟨k+1,by go_num,hlt,_,F3,Q.out,by have:=E.bit_done_length e' (nctx c k) true;have:=H2.out;omega,HX.out⟩
   case measure=>simp [intOf];omega
  ·have hkk:k=blen n:=by omega
   have HX:Hid (encFrom (e'.bit (nctx c (blen n)) false) (vbits c n (blen n-1))=encFrom e (numBits c n)):=by
    show _=_;rw [←H3.out,hkk,Nat.sub_self];rfl
   have HT:Hid (e'.done.length≤e.done.length+64):=by show _≤_;have:=H2.out;omega
   clear hkk H2 H3;go_wp2_with (go_at_call 97;refine (all_W (H1.out.upd ((Upd.refl noBlk wr).alloc _)) _ _ false (World.cell?_alloc_new wr _ _ 0) (by have:=HS.out;omega)).mono ?_;rintro en w3 ⟨rfl,F3,q⟩;have Q:Hid (WG F0 w0 w3 b (e'.bit (nctx c (blen n)) false) F3):=q;clear q)
   go_loopw [8] (fun i wr=>∃(z:Int) (m:Nat),i=.int .i64 z∧(z=(m:Int)-1∨(z=-2∧m=0))∧m≤63∧∃e' F',WG F0 w0 wr b e' F'∧e'.done.length+m≤e.done.length+130∧encFrom e' (vbits c n m)=encFrom e (numBits c n)) (fun i _=>(intOf i+1).toNat)
   case atStart=>exact ⟨_,blen n-1,rfl,by omega,by omega,_,F3,Q.out,by have:=E.bit_done_length e' (nctx c (blen n)) false;have:=HT.out;omega,HX.out⟩
   case round=>
    obtain ⟨z,m,rfl,hz,hm,e2,F2,h1,h2,h3⟩:=hrel;have R1:=Lib.hid h1;have R2:=Lib.hid h2;have R3:=Lib.hid h3;clear h1 h2 h3 H1 Q HX HS HT;rcases m with _ | j
    ·have hz0:z<0:=by omega
     have R4:Hid (encFrom e2 []=encFrom e (numBits c n)):=R3.out;clear hz;go_wp2_with fail
     go_end0
     exact ⟨rfl,F2,by rw [←R4.out];exact R1.out⟩
    ·obtain rfl:z=(j:Int):=by omega
     have hj:(j:Int)≤63:=by omega
     have HX:Hid (encFrom (e2.bit (vctx c j) (decide (n / 2 ^ j % 2=1))) (vbits c n j)=encFrom e (numBits c n)):=R3.out;clear hz;have BV:Hid ((bits .and .u64 ((n:Int) / 2 ^ j) 1 == 1)=decide (n / 2 ^ j % 2=1)):=bit_val HN.out;have HS:Hid (e2.done.length+1≤1000000):=by show _≤_;have:=R2.out;have:=HL.out;omega
     go_wp2_with (go_at_call 97;refine (all_W (R1.out.upd ((Upd.refl noBlk wr).alloc _)) _ _ _ (World.cell?_alloc_new wr _ _ 0) HS.out).mono ?_;rintro en w4 ⟨rfl,F4,q⟩;have Q:Hid (WG F0 w0 w4 b (e2.bit (vctx c j) (decide (n / 2 ^ j % 2=1))) F4):=(by rw [←BV.out];exact q);clear q)
     go_roundw
     case rel=>exact ⟨_,j,by go_num,by omega,by omega,_,F4,Q.out,by have:=E.bit_done_length e2 (vctx c j) (decide (n / 2 ^ j % 2=1));have:=R2.out;omega,HX.out⟩
     case measure=>simp [intOf]<;>omega
end Go.Proofs.YtcikldoaidmnhaaGreatDoor
namespace Go.Proofs.YtcikldoaidmnhaaGreatDoor
open Go Go.RowKit Pk
set_option maxRecDepth 100000
def inG (g:Gate):Prop:=inP g.1∧inP g.2.1∧inP g.2.2
theorem wrapC {a b c:Int} (ha:0≤a∧a≤2097151) (hb:0≤b∧b≤2097151) (hc:0≤c∧c≤2097151):IntKind.i64.wrap (a+b)=a+b∧IntKind.i64.wrap (a+b-c)=a+b-c:=⟨wrapN (by omega) (by omega),wrapN (by omega) (by omega)⟩
set_option maxHeartbeats 1000000 in
theorem expected_any (g:Gate) (hg:inG g) (w:World):Calls Tryz.prog 52 #[gateV g] w fun en w'=>en=.returned (ptV (expG g))∧Upd noBlk w w':=by
 obtain ⟨⟨a0,a1,a2⟩,⟨a3,a4,a5⟩,⟨a6,a7,a8⟩⟩:=g;obtain ⟨⟨h0,h1,h2,h3,h4,h5⟩,⟨h6,h7,h8,h9,h10,h11⟩,⟨h12,h13,h14,h15,h16,h17⟩⟩:=hg;simp only at h0 h1 h2 h3 h4 h5 h6 h7 h8 h9 h10 h11 h12 h13 h14 h15 h16 h17;obtain ⟨x1,x2⟩:=wrapC ⟨h0,h1⟩ ⟨h6,h7⟩ ⟨h12,h13⟩;obtain ⟨x3,x4⟩:=wrapC ⟨h2,h3⟩ ⟨h8,h9⟩ ⟨h14,h15⟩;obtain ⟨x5,x6⟩:=wrapC ⟨h4,h5⟩ ⟨h10,h11⟩ ⟨h16,h17⟩;clear h0 h1 h2 h3 h4 h5 h6 h7 h8 h9 h10 h11 h12 h13 h14 h15 h16 h17;unfold gateV triC;go_enter Tryz.func52,Tryz.ntmps52
 go_wp2_with fail
 (try simp only [Exit.inBlock,Exit.then])
 have hz:((w.alloc (.cells #[.int .i64 a0,.int .i64 a1,.int .i64 a2,.int .i64 a3,.int .i64 a4,.int .i64 a5,.int .i64 a6,.int .i64 a7,.int .i64 a8] 105)).alloc (.cells #[.int .i64 (a0+a3-a6),.int .i64 (a1+a4-a7),.int .i64 (a2+a5-a8)] 43)).heap[w.heap.size+1]?=some (.cells #[.int .i64 (a0+a3-a6),.int .i64 (a1+a4-a7),.int .i64 (a2+a5-a8)] 43 (0,0)):=by
  have:=heap_alloc_new (w.alloc (.cells #[.int .i64 a0,.int .i64 a1,.int .i64 a2,.int .i64 a3,.int .i64 a4,.int .i64 a5,.int .i64 a6,.int .i64 a7,.int .i64 a8] 105)) (.cells #[.int .i64 (a0+a3-a6),.int .i64 (a1+a4-a7),.int .i64 (a2+a5-a8)] 43);rw [World.size_alloc] at this;exact this
 refine bodyPost_ret (results_cell_row rfl _ _ (w.heap.size+1) 43 _ (0,0) _ rfl hz Tryz.underlying43 rfl (by kernel_rfl)) rfl ?_;exact ⟨rfl,((Upd.refl _ w).alloc _).alloc _⟩
theorem zig_bits {n:Int} (h0:-4611686018427387904≤n) (h1:n≤4611686018427387903):bits BinOp.xor IntKind.u64 (IntKind.u64.wrap (IntKind.u64.wrap n*2)) (IntKind.u64.wrap (n / 9223372036854775808))=((zig n:Nat):Int):=by
 have w1:=IntKind.wrap_u64 n;have w2:=IntKind.wrap_u64 (IntKind.u64.wrap n*2);have w3:=IntKind.wrap_u64 (n / 9223372036854775808);unfold zig;by_cases hn:n<0
 ·have e1:IntKind.u64.wrap (IntKind.u64.wrap n*2)=(((2*n+18446744073709551616).toNat:Nat):Int):=by omega
  have e2:IntKind.u64.wrap (n / 9223372036854775808)=((18446744073709551615:Nat):Int):=by omega
  rw [e1,e2,u64_xor_nat _ _ (by omega) (by omega),Nat.xor_comm,if_pos hn];have:=Lib.xor_ones64 (2*n+18446744073709551616).toNat (by omega);have e3:(2 ^ 64-1:Nat)=18446744073709551615:=by decide
  rw [e3] at this;rw [this];congr 1
  omega
 ·have e1:IntKind.u64.wrap (IntKind.u64.wrap n*2)=(((2*n).toNat:Nat):Int):=by omega
  have e2:IntKind.u64.wrap (n / 9223372036854775808)=((0:Nat):Int):=by omega
  rw [e1,e2,u64_xor_nat _ _ (by omega) (by omega),Nat.xor_zero,if_neg hn]
theorem zigzag_any (n:Int) (h0:-4611686018427387904≤n) (h1:n≤4611686018427387903) (w:World):Calls Tryz.prog 105 #[.int .i64 n] w fun en w'=>en=.returned (.int .u64 ((zig n:Nat):Int))∧w=w':=by
 have HZ:=Lib.hid (zig_bits h0 h1);clear h0 h1;go_enter Tryz.func105,Tryz.ntmps105
 go_wp2_with fail
 go_ret
 exact ⟨by rw [←HZ.out];rfl,rfl⟩
end Go.Proofs.YtcikldoaidmnhaaGreatDoor
namespace Go.Proofs.YtcikldoaidmnhaaGreatDoor
open Go Go.RowKit Pk Pc
set_option maxRecDepth 100000
theorem encFrom_app (e:E) (a b:List (Int × Bool)):encFrom e (a++b)=encFrom (encFrom e a) b:=by simp [encFrom,List.foldl_append]
def WB (F0:Nat→Prop) (w wr:World) (b:Nat) (l:Pk.Bits) (F:Nat→Prop):Prop:=WG F0 w wr b (encFrom E.init l) F
theorem done_len {l:Pk.Bits} (h:l.length≤900000):(encFrom E.init l).done.length+200≤1000000:=by
 have:=encFrom_done_length E.init l;have h4:E.init.done.length=0:=rfl;omega
theorem WB.bit {F0:Nat→Prop} {w wr:World} {b:Nat} {l:Pk.Bits} {F:Nat→Prop} (h:WB F0 w wr b l F) (c:Int) (one:Bool) (hl:l.length≤900000) :
  Calls Tryz.prog 49 #[.pointer (some ⟨b,0,none⟩),.int .i64 c,.bool one] wr fun en w'=>en=.returned (.tuple #[])∧∃F',WB F0 w w' b (l++[(c,one)]) F':=by
 refine (WG.bit h c one (by have:=done_len hl;omega)).mono ?_;rintro e w' ⟨rfl,F',h'⟩;exact ⟨rfl,F',by unfold WB;rw [encFrom_snoc];exact h'⟩
theorem WB.number {F0:Nat→Prop} {w wr:World} {b:Nat} {l:Pk.Bits} {F:Nat→Prop} (h:WB F0 w wr b l F) (c:Int) (n:Nat) (hn:n<2 ^ 64) (hl:l.length≤900000) :
  Calls Tryz.prog 46 #[.pointer (some ⟨b,0,none⟩),.int .i64 c,.int .u64 n] wr fun en w'=>en=.returned (.tuple #[])∧∃F',WB F0 w w' b (l++numBits c n) F':=by
 refine (WNumber_any h c n hn (done_len hl)).mono ?_;rintro e w' ⟨rfl,F',h'⟩;exact ⟨rfl,F',by unfold WB;rw [encFrom_app];exact h'⟩
theorem WB.upd {F0:Nat→Prop} {w wr w2:World} {b:Nat} {l:Pk.Bits} {F:Nat→Prop} (h:WB F0 w wr b l F) (hu:Upd noBlk wr w2):WB F0 w w2 b l F:=WG.upd h hu
def farC (a b:Int):Prop:=-100000000≤a-b∧a-b≤100000000∧-100000000≤a∧a≤100000000∧-100000000≤b∧b≤100000000
set_option maxHeartbeats 2000000 in
theorem writePlace_any {F0:Nat→Prop} {w w0:World} {b:Nat} {l:Pk.Bits} {F:Nat→Prop} (h:WB F0 w w0 b l F) (c:Int) (hc:0≤c∧c≤1000) (p near:Pt) (h1:farC p.1 near.1) (h2:farC p.2.1 near.2.1) (h3:farC p.2.2 near.2.2) (hl:l.length≤800000) :
  Calls Tryz.prog 51 #[.pointer (some ⟨b,0,none⟩),.int .i64 c,ptV p,ptV near] w0 fun en w'=>en=.returned (.tuple #[])∧∃F',WB F0 w w' b (l++placeB c p near) F':=by
 obtain ⟨p0,p1,p2⟩:=p;obtain ⟨n0,n1,n2⟩:=near;unfold farC at h1 h2 h3;simp only at h1 h2 h3;have hz:=fun n h0 h1 W=>Lib.hid (zigzag_any n h0 h1 W);have z0:=fun W=>hz (p0-n0) (by omega) (by omega) W;have z1:=fun W=>hz (p1-n1) (by omega) (by omega) W;have z2:=fun W=>hz (p2-n2) (by omega) (by omega) W;have d0:IntKind.i64.wrap (p0-n0)=p0-n0:=wrapN (by omega) (by omega);have d1:IntKind.i64.wrap (p1-n1)=p1-n1:=wrapN (by omega) (by omega);have d2:IntKind.i64.wrap (p2-n2)=p2-n2:=wrapN (by omega) (by omega);have c1:IntKind.i64.wrap (c+64)=c+64:=wrapN (by omega) (by omega);have c2:IntKind.i64.wrap (c+128)=c+128:=wrapN (by omega) (by omega);have v0:wrap64 c=c:=by unfold wrap64;omega
 have v1:wrap64 (c+64)=c+64:=by unfold wrap64;omega
 have v2:wrap64 (c+128)=c+128:=by unfold wrap64;omega
 have hs:∀x n:Int,-100000000≤x-n∧x-n≤100000000→zig (x-n)<2 ^ 64:=fun x n k=>by unfold zig;split<;>omega
 have s0:=Lib.hid (hs p0 n0 ⟨by omega,by omega⟩);have s1:=Lib.hid (hs p1 n1 ⟨by omega,by omega⟩);have s2:=Lib.hid (hs p2 n2 ⟨by omega,by omega⟩);have HP:Hid (placeB c (p0,p1,p2) (n0,n1,n2)=numBits c (zig (p0-n0))++numBits (c+64) (zig (p1-n1))++numBits (c+128) (zig (p2-n2))):=by
  show _=_;unfold placeB;rfl
 have HL:Hid (l.length≤800000):=hl;have H0:=Lib.hid (h.upd (((Upd.refl noBlk w0).alloc (.cells #[.int .i64 p0,.int .i64 p1,.int .i64 p2] 43)).alloc (.cells #[.int .i64 n0,.int .i64 n1,.int .i64 n2] 43)));have B0:Hid ((numBits c (zig (p0-n0))).length≤128):=numBits_length c s0.out;have B1:Hid ((numBits (c+64) (zig (p1-n1))).length≤128):=numBits_length _ s1.out;have ix0:∀(x y z:Int) (W:World),(Instr.index 24 (.agg #[.int .i64 x,.int .i64 y,.int .i64 z]) (.int .i64 0)).run Tryz.prog W=.ok (.int .i64 x) W:=fun _ _ _ _=>by kernel_rfl
 have ix1:∀(x y z:Int) (W:World),(Instr.index 24 (.agg #[.int .i64 x,.int .i64 y,.int .i64 z]) (.int .i64 1)).run Tryz.prog W=.ok (.int .i64 y) W:=fun _ _ _ _=>by kernel_rfl
 have ix2:∀(x y z:Int) (W:World),(Instr.index 24 (.agg #[.int .i64 x,.int .i64 y,.int .i64 z]) (.int .i64 2)).run Tryz.prog W=.ok (.int .i64 z) W:=fun _ _ _ _=>by kernel_rfl
 clear hz hs h1 h2 h3 h hl hc;generalize zig (p0-n0)=m0 at *;generalize zig (p1-n1)=m1 at *;generalize zig (p2-n2)=m2 at *;unfold ptV;go_enter Tryz.func51,Tryz.ntmps51
 go_wp2_with fail
 refine wp_loop_rounds 4 ?_;rw [rounds_succ];go_wp2_with fail
 refine (z0 _).out.mono ?_;rintro e w1 ⟨rfl,rfl⟩;have C0:=Lib.hid (WB.number H0.out c m0 s0.out (by have:=HL.out;omega));go_wp2_with fail
 refine C0.out.mono ?_;rintro e w2 ⟨rfl,F1,H1'⟩;have H1:=Lib.hid H1';clear C0 H1';go_wp2_with fail
 rw [rounds_succ];go_wp2_with fail
 refine (z1 _).out.mono ?_;rintro e w1 ⟨rfl,rfl⟩;have C1:=Lib.hid (WB.number H1.out (c+64) m1 s1.out (by have:=HL.out;have:=B0.out;rw [List.length_append];omega));go_wp2_with fail
 refine C1.out.mono ?_;rintro e w3 ⟨rfl,F2,H2'⟩;have H2:=Lib.hid H2';clear C1 H2';go_wp2_with fail
 rw [rounds_succ];go_wp2_with fail
 refine (z2 _).out.mono ?_;rintro e w1 ⟨rfl,rfl⟩;have C2:=Lib.hid (WB.number H2.out (c+128) m2 s2.out (by have:=HL.out;have:=B0.out;have:=B1.out;rw [List.length_append,List.length_append];omega));go_wp2_with fail
 refine C2.out.mono ?_;rintro e w4 ⟨rfl,F3,H3'⟩;have H3:=Lib.hid H3';clear C2 H3';go_wp2_with fail
 rw [rounds_succ];go_wp2_with fail
 go_end0
 refine ⟨rfl,F3,?_⟩;rw [HP.out,←List.append_assoc,←List.append_assoc];exact H3.out
end Go.Proofs.YtcikldoaidmnhaaGreatDoor
namespace Go.Proofs.YtcikldoaidmnhaaGreatDoor
open Go Go.RowKit Pk Pc
set_option maxRecDepth 100000
structure CW (D:Nat→Prop) (w0 wr:World) (b:Nat) (S:Wk) (bw:Nat) (l:Pk.Bits):Prop where
 ex:∃G F,SRep wr b S G∧WRep wr bw (encFrom E.init l) F∧(∀k,G k→¬F k)∧(∀k,G k∨F k→D k∨w0.heap.size≤k)
 up:Upd D w0 wr
theorem CW.upd {D:Nat→Prop} {w0 wr w2:World} {b:Nat} {S:Wk} {bw:Nat} {l:Pk.Bits} (h:CW D w0 wr b S bw l) (hu:Upd noBlk wr w2):CW D w0 w2 b S bw l:=by
 obtain ⟨⟨G,F,h1,h2,h3,h4⟩,h5⟩:=h;exact ⟨⟨G,F,h1.upd hu (fun _ _=>id),h2.upd hu (fun _ _=>id),h3,h4⟩,h5.trans (hu.mono (fun _ _ h=>h.elim))⟩
theorem CW.drew {D:Nat→Prop} {w0 wr:World} {b:Nat} {S:Wk} {bw:Nat} {l:Pk.Bits} (h:CW D w0 wr b S bw l):CW D w0 wr.drew b S bw l:=h.upd (Upd.refl _ wr).drew
theorem CW.stepW {D:Nat→Prop} {w0 wr w':World} {b:Nat} {S:Wk} {bw:Nat} {l':Pk.Bits} {G F F':Nat→Prop} (h1:SRep wr b S G) (h3:∀k,G k→¬F k) (h4:∀k,G k∨F k→D k∨w0.heap.size≤k) (h5:Upd D w0 wr) (h:WB F wr w' bw l' F'):CW D w0 w' b S bw l':=by
 obtain ⟨r,n,u⟩:=h;refine ⟨⟨G,F',h1.upd u (fun k hk=>h3 k hk),r,fun k hk hf=>?_,fun k hk=>?_⟩,h5.then u (fun i hi hf=>(h4 i (.inr hf)).resolve_right (by omega))⟩
 ·rcases n k hf with h | h
  ·exact h3 k hk h
  ·have:=h1.lt k hk;omega
 ·rcases hk with h | h
  ·exact h4 k (.inl h)
  ·rcases n k h with h | h
   ·exact h4 k (.inr h)
   ·exact .inr (by have:=h5.size;omega)
theorem CW.stepS {D:Nat→Prop} {w0 wr w':World} {b:Nat} {S':Wk} {bw:Nat} {l:Pk.Bits} {G F:Nat→Prop} (h2:WRep wr bw (encFrom E.init l) F) (h3:∀k,G k→¬F k) (h4:∀k,G k∨F k→D k∨w0.heap.size≤k) (h5:Upd D w0 wr) (h:SPost G wr w' b S'):CW D w0 w' b S' bw l:=by
 obtain ⟨G',r,n,u⟩:=h;refine ⟨⟨G',F,r,h2.upd u (fun k hf hk=>h3 k hk hf),fun k hk hf=>?_,fun k hk=>?_⟩,h5.then u (fun i hi hg=>(h4 i (.inl hg)).resolve_right (by omega))⟩
 ·rcases n k hk with h | h
  ·exact h3 k h hf
  ·have:=h2.lt k hf;omega
 ·rcases hk with h | h
  ·rcases n k h with h | h
   ·exact h4 k (.inl h)
   ·exact .inr (by have:=h5.size;omega)
  ·exact h4 k (.inr h)
theorem CW.bit {D:Nat→Prop} {w0 wr:World} {b:Nat} {S:Wk} {bw:Nat} {l:Pk.Bits} (h:CW D w0 wr b S bw l) (c:Int) (one:Bool) (hl:l.length≤900000) :
  Calls Tryz.prog 49 #[.pointer (some ⟨bw,0,none⟩),.int .i64 c,.bool one] wr fun en w'=>en=.returned (.tuple #[])∧CW D w0 w' b S bw (l++[(c,one)]):=by
 obtain ⟨⟨G,F,h1,h2,h3,h4⟩,h5⟩:=h;refine (WB.bit (F0:=F) (w:=wr) (WG.self h2) c one hl).mono ?_;rintro e w' ⟨rfl,F',h'⟩;exact ⟨rfl,CW.stepW h1 h3 h4 h5 h'⟩
theorem CW.number {D:Nat→Prop} {w0 wr:World} {b:Nat} {S:Wk} {bw:Nat} {l:Pk.Bits} (h:CW D w0 wr b S bw l) (c:Int) (n:Nat) (hn:n<2 ^ 64) (hl:l.length≤900000) :
  Calls Tryz.prog 46 #[.pointer (some ⟨bw,0,none⟩),.int .i64 c,.int .u64 n] wr fun en w'=>en=.returned (.tuple #[])∧CW D w0 w' b S bw (l++numBits c n):=by
 obtain ⟨⟨G,F,h1,h2,h3,h4⟩,h5⟩:=h;refine (WB.number (F0:=F) (w:=wr) (WG.self h2) c n hn hl).mono ?_;rintro e w' ⟨rfl,F',h'⟩;exact ⟨rfl,CW.stepW h1 h3 h4 h5 h'⟩
theorem CW.place {D:Nat→Prop} {w0 wr:World} {b:Nat} {S:Wk} {bw:Nat} {l:Pk.Bits} (h:CW D w0 wr b S bw l) (c:Int) (hc:0≤c∧c≤1000) (p near:Pt) (k1:farC p.1 near.1) (k2:farC p.2.1 near.2.1) (k3:farC p.2.2 near.2.2) (hl:l.length≤800000) :
  Calls Tryz.prog 51 #[.pointer (some ⟨bw,0,none⟩),.int .i64 c,ptV p,ptV near] wr fun en w'=>en=.returned (.tuple #[])∧CW D w0 w' b S bw (l++placeB c p near):=by
 obtain ⟨⟨G,F,h1,h2,h3,h4⟩,h5⟩:=h;refine (writePlace_any (F0:=F) (w:=wr) (WG.self h2) c hc p near k1 k2 k3 hl).mono ?_;rintro e w' ⟨rfl,F',h'⟩;exact ⟨rfl,CW.stepW h1 h3 h4 h5 h'⟩
theorem CW.last {D:Nat→Prop} {w0 wr:World} {b:Nat} {S:Wk} {bw:Nat} {l:Pk.Bits} (h:CW D w0 wr b S bw l) (hl:S.known.length≤1000000) :
  Calls Tryz.prog 98 #[.pointer (some ⟨b,0,none⟩)] wr fun en w'=>en=.returned (ptV (lastK S.known))∧Upd noBlk wr w':=by
 obtain ⟨G,F,h1,h2,h3,h4⟩:=h.ex;refine (last_any b S G hl wr h1).mono ?_;rintro e w' ⟨rfl,hu⟩;exact ⟨rfl,hu⟩
theorem CW.meet {D:Nat→Prop} {w0 wr:World} {b:Nat} {S:Wk} {bw:Nat} {l:Pk.Bits} (h:CW D w0 wr b S bw l) (p:Pt) (hp:okP p) (hl:S.known.length≤100000) :
  Calls Tryz.prog 50 #[.pointer (some ⟨b,0,none⟩),ptV p] wr fun en w'=>en=.returned (.tuple #[.int .i64 (meetN S.known p),.bool (decide (p∈S.known))])∧CW D w0 w' b ⟨meetK S.known p,S.tris,S.gates⟩ bw l:=by
 obtain ⟨⟨G,F,h1,h2,h3,h4⟩,h5⟩:=h;refine (meet_any b S G p hp hl wr h1).mono ?_;rintro e w' ⟨rfl,h'⟩;exact ⟨rfl,CW.stepS h2 h3 h4 h5 h'⟩
theorem CW.visit {D:Nat→Prop} {w0 wr:World} {b:Nat} {S:Wk} {bw:Nat} {l:Pk.Bits} (h:CW D w0 wr b S bw l) (t:Tri) (first:Nat) (hf:first=0∨first=1) (ht:okT t) (hfr:freeT false S.tris t) (hl:S.tris.length≤100000) (hg:S.gates.length≤1000000) :
  Calls Tryz.prog 53 #[.pointer (some ⟨b,0,none⟩),triV t,.int .i64 first] wr fun en w'=>en=.returned (.bool true)∧CW D w0 w' b (S.visit t first) bw l:=by
 obtain ⟨⟨G,F,h1,h2,h3,h4⟩,h5⟩:=h;refine (visit_any b S G t first hf ht hl hg wr h1).mono ?_;rintro e w' ⟨rfl,_,h'⟩;exact ⟨by rw [decide_eq_true hfr],CW.stepS h2 h3 h4 h5 (h' hfr)⟩
theorem CW.next {D:Nat→Prop} {w0 wr:World} {b:Nat} {S:Wk} {bw:Nat} {l:Pk.Bits} (h:CW D w0 wr b S bw l) (hok:∀g,g∈S.gates→okT g) (hl:S.gates.length≤1000000) :
  Calls Tryz.prog 47 #[.pointer (some ⟨b,0,none⟩)] wr fun en w'=>en=.returned (.tuple #[gateV (nextV S.tris S.gates),.bool (nextB S.tris S.gates)])∧CW D w0 w' b ⟨S.known,S.tris,restG S.tris S.gates⟩ bw l:=by
 obtain ⟨⟨G,F,h1,h2,h3,h4⟩,h5⟩:=h;refine (snext_any b S G hok hl wr h1).mono ?_;rintro e w' ⟨rfl,h'⟩;exact ⟨rfl,CW.stepS h2 h3 h4 h5 h'⟩
theorem CW.finish {D:Nat→Prop} {w0 wr:World} {b:Nat} {S:Wk} {bw:Nat} {l:Pk.Bits} (h:CW D w0 wr b S bw l) (hl:l.length≤900000) :
  Calls Tryz.prog 54 #[.pointer (some ⟨bw,0,none⟩)] wr fun en w'=>en=.returned (.string (str (encode l)))∧Upd noBlk wr w':=by
 obtain ⟨⟨G,F,h1,h2,h3,h4⟩,h5⟩:=h;exact WFinish_any bw _ F wr h2 (by have:=done_len hl;omega)
theorem CW.enter {D:Nat→Prop} {w0 wr:World} {b:Nat} {S:Wk} {bw:Nat} {l:Pk.Bits} (h:CW D w0 wr b S bw l):∃D1:Nat→Prop,(∀k,D1 k→k<wr.heap.size)∧(∀w1,Upd noBlk wr w1→CW D1 w1 w1 b S bw l)∧(∀w1 w' S' l',Upd noBlk wr w1→CW D1 w1 w' b S' bw l'→CW D w0 w' b S' bw l')∧(∀k,D1 k→D k∨w0.heap.size≤k):=by
 obtain ⟨⟨G,F,h1,h2,h3,h4⟩,h5⟩:=h;refine ⟨fun k=>G k∨F k,fun k hk=>?_,fun w1 hu=>?_,fun w1 w' S' l' hu h'=>?_,h4⟩
 ·rcases hk with h | h
  ·exact h1.lt k h
  ·exact h2.lt k h
 ·exact ⟨⟨G,F,h1.upd hu (fun _ _=>id),h2.upd hu (fun _ _=>id),h3,fun k hk=>.inl hk⟩,Upd.refl _ _⟩
 ·obtain ⟨⟨G',F',k1,k2,k3,k4⟩,k5⟩:=h';have hs:=hu.size;have hs5:=h5.size;refine ⟨⟨G',F',k1,k2,k3,fun k hk=>?_⟩,?_⟩
  ·rcases k4 k hk with h | h
   ·exact h4 k h
   ·exact .inr (by omega)
  ·exact (h5.trans (hu.mono (fun _ _ h=>h.elim))).then k5 (fun i hi hd=>(h4 i hd).resolve_right (by omega))
theorem CW.keepObj {D:Nat→Prop} {w0 wr:World} {b:Nat} {S:Wk} {bw:Nat} {l:Pk.Bits} (h:CW D w0 wr b S bw l) {k:Nat} {o:Obj} (ho:w0.heap[k]?=some o) (hk:¬D k):wr.heap[k]?=some o:=h.up.heap ho hk
def cornAt (t:Tri):Nat→Pt
 | 0=>t.1
 | 1=>t.2.1
 | _=>t.2.2
def seedK (t:Tri) (known:List Pt):Nat→List Pt
 | 0=>known
 | j+1=>meetK (seedK t known j) (cornAt t j)
def seedBs (t:Tri) (known:List Pt):Nat→Pk.Bits
 | 0=>[]
 | j+1=>seedBs t known j++cornerB (seedK t known j) (cornAt t j) (lastK (seedK t known j)) 0 192 256
theorem corner_len {known:List Pt} {p near:Pt} {b n q:Int} (hp:inP p) (hn:nearP near) (hk:known.length≤100000):(cornerB known p near b n q).length≤400:=by
 unfold cornerB;split
 ·rw [List.length_cons];have:=numBits_length n (n:=known.length-1-known.idxOf p) (by omega);omega
 ·obtain ⟨p1,p2,p3,p4,p5,p6⟩:=hp;obtain ⟨n1,n2,n3⟩:=hn;rw [List.length_cons];unfold placeB;rw [List.length_append,List.length_append];have a1:=numBits_length q (n:=zig (p.1-near.1)) (by have:=zig_small p1 p2 n1.1 n1.2;omega);have a2:=numBits_length (q+64) (n:=zig (p.2.1-near.2.1)) (by have:=zig_small p3 p4 n2.1 n2.2;omega);have a3:=numBits_length (q+128) (n:=zig (p.2.2-near.2.2)) (by have:=zig_small p5 p6 n3.1 n3.2;omega);omega
theorem seedK_len (t:Tri) (known:List Pt):∀j,(seedK t known j).length≤known.length+j
 | 0=>Nat.le_refl _
 | j+1=>by have:=seedK_len t known j;have h2:=meetK_len (seedK t known j) (cornAt t j);show (meetK _ _).length≤_;omega
theorem cornAt_in {t:Tri} (h:inT t) (j:Nat):inP (cornAt t j):=by
 obtain ⟨h1,h2,h3⟩:=h;match j with
 | 0=>exact h1
 | 1=>exact h2
 | _+2=>exact h3
theorem seedK_in {t:Tri} (h:inT t) {known:List Pt} (hk:∀p,p∈known→inP p):∀j,∀p,p∈seedK t known j→inP p
 | 0=>hk
 | j+1=>meetK_in (seedK_in h hk j) (cornAt_in h j)
theorem seedBs_len {t:Tri} (h:inT t) {known:List Pt} (hk:∀p,p∈known→inP p) (hl:known.length≤90000):∀j,j≤3→(seedBs t known j).length≤400*j
 | 0,_=>Nat.le_refl _
 | j+1,hj=>by
  have h1:=seedBs_len h hk hl j (by omega);have h2:=corner_len (known:=seedK t known j) (p:=cornAt t j) (near:=lastK (seedK t known j)) (b:=0) (n:=192) (q:=256) (cornAt_in h j) (near_of_in (lastK_in (seedK_in h hk j))) (by have:=seedK_len t known j;omega);show (_++_:List _).length≤_;rw [List.length_append];omega
theorem okP_of {p:Pt} (h:inP p):okP p:=by
 obtain ⟨p1,p2,p3,p4,p5,p6⟩:=h;exact ⟨⟨by omega,by omega⟩,⟨by omega,by omega⟩,⟨by omega,by omega⟩⟩
theorem okT_of {t:Tri} (h:inT t):okT t:=⟨okP_of h.1,okP_of h.2.1,okP_of h.2.2⟩
theorem far_of {p near:Pt} (hp:inP p) (hn:nearP near):farC p.1 near.1∧farC p.2.1 near.2.1∧farC p.2.2 near.2.2:=by
 obtain ⟨p1,p2,p3,p4,p5,p6⟩:=hp;obtain ⟨n1,n2,n3⟩:=hn;unfold farC;omega
end Go.Proofs.YtcikldoaidmnhaaGreatDoor
