/- Parts: The kinds of things that packets are made of, as they lie in memory. No condition. Walks of the coder's writer: Bit. -/
import Derived.Test.YtcikldoaidmnhaaGreatDoorRSpoi1
import Derived.Test.YtcikldoaidmnhaaGreatDoorRSpoi3
import Derived.Test.YtcikldoaidmnhaaGreatDoorRSpoi4
import Derived.Test.YtcikldoaidmnhaaGreatDoorRSpoi6
import Derived.Test.YtcikldoaidmnhaaGreatDoorRSpoi7
import Derived.WalkKit
import Derived.WalkSpells
import Derived.WalkLawsBesides
import Derived.Lib.Hide
import Derived.BigQuiet
import Derived.Deep.DeepFit
import Derived.Deep.DeepCutAuto
import Derived.Deep.AppendLies
import Derived.Deep.QuietTactic
import Derived.Deep.MidRow
import Derived.Lib.Bits
import Derived.Test.YtcikldoaidmnhaaGreatDoorRows
import Derived.Deep.RegionHeld3
import Derived.StillTail
import Derived.Laws.EntriesVeiled
import Derived.Handy
namespace Go.Proofs.YtcikldoaidmnhaaGreatDoor
open Go Go.RowKit Pk
set_option maxRecDepth 100000
theorem kinfo_of {T:TypeId} {k b:Nat} (h:((Tryz.prog.info? T).map (fun i=>(i.zero.map (fun z=>z.cells.size),i.size,i.bytes)))=some (some k,k,b)):∃i z,Tryz.prog.info? T=some i∧i.zero=some z∧i.size=k∧i.bytes=b∧z.cells.size=k:=by
 cases hi:Tryz.prog.info? T with
 | none=>rw [hi] at h;cases h
 | some i=>
  rw [hi] at h;simp only [Option.map_some,Option.some.injEq,Prod.mk.injEq] at h;obtain ⟨h1,h2,h3⟩:=h;cases hz:i.zero with
  | none=>rw [hz] at h1;cases h1
  | some z=>rw [hz] at h1;exact ⟨i,z,rfl,hz,h2,h3,by simpa using h1⟩
def ptC (p:Pt):List Value:=[.int .i64 p.1,.int .i64 p.2.1,.int .i64 p.2.2]
noncomputable def kPt:Kd Tryz.prog Pt:={ T:=43,S:=98,k:=3,bytes:=24,enc:=ptC,len:=fun _=>rfl,one:=fun x v hv=>by simp [ptC] at hv;rcases hv with rfl | rfl | rfl<;>rfl,pos:=by decide,small:=by decide,und:=Tryz.underlying98,info:=kinfo_of (by kernel_rfl) }
noncomputable def kTri:Kd Tryz.prog Tri:={ T:=45,S:=28,k:=9,bytes:=72,enc:=triC,len:=fun _=>rfl,one:=fun x v hv=>by simp [triC] at hv;rcases hv with rfl | rfl | rfl | rfl | rfl | rfl | rfl | rfl | rfl<;>rfl,pos:=by decide,small:=by decide,und:=Tryz.underlying28,info:=kinfo_of (by kernel_rfl) }
theorem triAt9 {w:World} {b o:Nat} {t:Tri} (h:kTri.At w b o t) :
  w.cell? ⟨b,o,none⟩=some (.int .i64 t.1.1)∧w.cell? ⟨b,o+1,none⟩=some (.int .i64 t.1.2.1)∧w.cell? ⟨b,o+2,none⟩=some (.int .i64 t.1.2.2)∧w.cell? ⟨b,o+3,none⟩=some (.int .i64 t.2.1.1)∧w.cell? ⟨b,o+4,none⟩=some (.int .i64 t.2.1.2.1)∧w.cell? ⟨b,o+5,none⟩=some (.int .i64 t.2.1.2.2)∧w.cell? ⟨b,o+6,none⟩=some (.int .i64 t.2.2.1)∧w.cell? ⟨b,o+7,none⟩=some (.int .i64 t.2.2.2.1)∧w.cell? ⟨b,o+8,none⟩=some (.int .i64 t.2.2.2.2):=
 ⟨h 0 _ rfl,h 1 _ rfl,h 2 _ rfl,h 3 _ rfl,h 4 _ rfl,h 5 _ rfl,h 6 _ rfl,h 7 _ rfl,h 8 _ rfl⟩
theorem ptAt3 {w:World} {b o:Nat} {p:Pt} (h:kPt.At w b o p):w.cell? ⟨b,o,none⟩=some (.int .i64 p.1)∧w.cell? ⟨b,o+1,none⟩=some (.int .i64 p.2.1)∧w.cell? ⟨b,o+2,none⟩=some (.int .i64 p.2.2):=⟨h 0 _ rfl,h 1 _ rfl,h 2 _ rfl⟩
theorem cellsF9 {w:World} {b:Nat} {x0 x1 x2 x3 x4 x5 x6 x7 x8:Value} {t:TypeId} (h:w.heap[b]?=some (.cells #[x0,x1,x2,x3,x4,x5,x6,x7,x8] t (0,0))) :
  (w.cell? ⟨b,0,none⟩=some x0∧w.cell? ⟨b,1,none⟩=some x1∧w.cell? ⟨b,2,none⟩=some x2∧w.cell? ⟨b,3,none⟩=some x3∧w.cell? ⟨b,4,none⟩=some x4∧w.cell? ⟨b,5,none⟩=some x5∧w.cell? ⟨b,6,none⟩=some x6∧w.cell? ⟨b,7,none⟩=some x7∧w.cell? ⟨b,8,none⟩=some x8) ∧
  (w.frozen? ⟨b,0,none⟩=false∧w.frozen? ⟨b,1,none⟩=false∧w.frozen? ⟨b,2,none⟩=false∧w.frozen? ⟨b,3,none⟩=false∧w.frozen? ⟨b,4,none⟩=false∧w.frozen? ⟨b,5,none⟩=false∧w.frozen? ⟨b,6,none⟩=false∧w.frozen? ⟨b,7,none⟩=false∧w.frozen? ⟨b,8,none⟩=false):=by simp [World.cell?,World.frozen?,h]
theorem set9 {w:World} {b:Nat} {x0 x1 x2 x3 x4 x5 x6 x7 x8:Value} {t:TypeId} (h:w.heap[b]?=some (.cells #[x0,x1,x2,x3,x4,x5,x6,x7,x8] t (0,0))) (y0 y1 y2 y3 y4 y5 y6 y7 y8:Value) :
  (((((((((w.setCell ⟨b,0,none⟩ y0).setCell ⟨b,1,none⟩ y1).setCell ⟨b,2,none⟩ y2).setCell ⟨b,3,none⟩ y3).setCell ⟨b,4,none⟩ y4).setCell ⟨b,5,none⟩ y5).setCell ⟨b,6,none⟩ y6).setCell ⟨b,7,none⟩ y7).setCell ⟨b,8,none⟩ y8).heap[b]?=some (.cells #[y0,y1,y2,y3,y4,y5,y6,y7,y8] t (0,0)):=by
 have h0:(w.setCell ⟨b,0,none⟩ y0).heap[b]?=some (.cells #[y0,x1,x2,x3,x4,x5,x6,x7,x8] t (0,0)):=by simpa using heap_setCell_eq (i:=0) y0 h
 have h1:((w.setCell ⟨b,0,none⟩ y0).setCell ⟨b,1,none⟩ y1).heap[b]?=some (.cells #[y0,y1,x2,x3,x4,x5,x6,x7,x8] t (0,0)):=by simpa using heap_setCell_eq (i:=1) y1 h0
 have h2:(((w.setCell ⟨b,0,none⟩ y0).setCell ⟨b,1,none⟩ y1).setCell ⟨b,2,none⟩ y2).heap[b]?=some (.cells #[y0,y1,y2,x3,x4,x5,x6,x7,x8] t (0,0)):=by simpa using heap_setCell_eq (i:=2) y2 h1
 have h3:((((w.setCell ⟨b,0,none⟩ y0).setCell ⟨b,1,none⟩ y1).setCell ⟨b,2,none⟩ y2).setCell ⟨b,3,none⟩ y3).heap[b]?=some (.cells #[y0,y1,y2,y3,x4,x5,x6,x7,x8] t (0,0)):=by simpa using heap_setCell_eq (i:=3) y3 h2
 have h4:(((((w.setCell ⟨b,0,none⟩ y0).setCell ⟨b,1,none⟩ y1).setCell ⟨b,2,none⟩ y2).setCell ⟨b,3,none⟩ y3).setCell ⟨b,4,none⟩ y4).heap[b]?=some (.cells #[y0,y1,y2,y3,y4,x5,x6,x7,x8] t (0,0)):=by simpa using heap_setCell_eq (i:=4) y4 h3
 have h5:((((((w.setCell ⟨b,0,none⟩ y0).setCell ⟨b,1,none⟩ y1).setCell ⟨b,2,none⟩ y2).setCell ⟨b,3,none⟩ y3).setCell ⟨b,4,none⟩ y4).setCell ⟨b,5,none⟩ y5).heap[b]?=some (.cells #[y0,y1,y2,y3,y4,y5,x6,x7,x8] t (0,0)):=by simpa using heap_setCell_eq (i:=5) y5 h4
 have h6:(((((((w.setCell ⟨b,0,none⟩ y0).setCell ⟨b,1,none⟩ y1).setCell ⟨b,2,none⟩ y2).setCell ⟨b,3,none⟩ y3).setCell ⟨b,4,none⟩ y4).setCell ⟨b,5,none⟩ y5).setCell ⟨b,6,none⟩ y6).heap[b]?=some (.cells #[y0,y1,y2,y3,y4,y5,y6,x7,x8] t (0,0)):=by simpa using heap_setCell_eq (i:=6) y6 h5
 have h7:((((((((w.setCell ⟨b,0,none⟩ y0).setCell ⟨b,1,none⟩ y1).setCell ⟨b,2,none⟩ y2).setCell ⟨b,3,none⟩ y3).setCell ⟨b,4,none⟩ y4).setCell ⟨b,5,none⟩ y5).setCell ⟨b,6,none⟩ y6).setCell ⟨b,7,none⟩ y7).heap[b]?=some (.cells #[y0,y1,y2,y3,y4,y5,y6,y7,x8] t (0,0)):=by simpa using heap_setCell_eq (i:=7) y7 h6
 have h8:(((((((((w.setCell ⟨b,0,none⟩ y0).setCell ⟨b,1,none⟩ y1).setCell ⟨b,2,none⟩ y2).setCell ⟨b,3,none⟩ y3).setCell ⟨b,4,none⟩ y4).setCell ⟨b,5,none⟩ y5).setCell ⟨b,6,none⟩ y6).setCell ⟨b,7,none⟩ y7).setCell ⟨b,8,none⟩ y8).heap[b]?=some (.cells #[y0,y1,y2,y3,y4,y5,y6,y7,y8] t (0,0)):=by simpa using heap_setCell_eq (i:=8) y8 h7
 exact h8
theorem post9 {Q:World→Prop} {w w0:World} {b:Nat} {x0 x1 x2 x3 x4 x5 x6 x7 x8 y0 y1 y2 y3 y4 y5 y6 y7 y8:Value} {t:TypeId} (h:w.heap[b]?=some (.cells #[x0,x1,x2,x3,x4,x5,x6,x7,x8] t (0,0))) (hu:Upd noBlk w0 w) (hb:w0.heap.size≤b)
  (hQ:∀wz:World,wz.heap[b]?=some (.cells #[y0,y1,y2,y3,y4,y5,y6,y7,y8] t (0,0))→Upd noBlk w0 wz→Q wz):Q (((((((((w.setCell ⟨b,0,none⟩ y0).setCell ⟨b,1,none⟩ y1).setCell ⟨b,2,none⟩ y2).setCell ⟨b,3,none⟩ y3).setCell ⟨b,4,none⟩ y4).setCell ⟨b,5,none⟩ y5).setCell ⟨b,6,none⟩ y6).setCell ⟨b,7,none⟩ y7).setCell ⟨b,8,none⟩ y8).drew:=by
 have hlt:∀j:Nat,((⟨b,j,none⟩:Addr).block<w0.heap.size→noBlk (⟨b,j,none⟩:Addr).block):=fun j hh=>absurd hh (Nat.not_lt.2 hb);have u0:Upd noBlk w0 (w.setCell ⟨b,0,none⟩ y0):=Upd.setCell hu (hlt 0) _;have u1:Upd noBlk w0 ((w.setCell ⟨b,0,none⟩ y0).setCell ⟨b,1,none⟩ y1):=Upd.setCell u0 (hlt 1) _;have u2:Upd noBlk w0 (((w.setCell ⟨b,0,none⟩ y0).setCell ⟨b,1,none⟩ y1).setCell ⟨b,2,none⟩ y2):=Upd.setCell u1 (hlt 2) _;have u3:Upd noBlk w0 ((((w.setCell ⟨b,0,none⟩ y0).setCell ⟨b,1,none⟩ y1).setCell ⟨b,2,none⟩ y2).setCell ⟨b,3,none⟩ y3):=Upd.setCell u2 (hlt 3) _;have u4:Upd noBlk w0 (((((w.setCell ⟨b,0,none⟩ y0).setCell ⟨b,1,none⟩ y1).setCell ⟨b,2,none⟩ y2).setCell ⟨b,3,none⟩ y3).setCell ⟨b,4,none⟩ y4):=Upd.setCell u3 (hlt 4) _;have u5:Upd noBlk w0 ((((((w.setCell ⟨b,0,none⟩ y0).setCell ⟨b,1,none⟩ y1).setCell ⟨b,2,none⟩ y2).setCell ⟨b,3,none⟩ y3).setCell ⟨b,4,none⟩ y4).setCell ⟨b,5,none⟩ y5):=Upd.setCell u4 (hlt 5) _;have u6:Upd noBlk w0 (((((((w.setCell ⟨b,0,none⟩ y0).setCell ⟨b,1,none⟩ y1).setCell ⟨b,2,none⟩ y2).setCell ⟨b,3,none⟩ y3).setCell ⟨b,4,none⟩ y4).setCell ⟨b,5,none⟩ y5).setCell ⟨b,6,none⟩ y6):=Upd.setCell u5 (hlt 6) _;have u7:Upd noBlk w0 ((((((((w.setCell ⟨b,0,none⟩ y0).setCell ⟨b,1,none⟩ y1).setCell ⟨b,2,none⟩ y2).setCell ⟨b,3,none⟩ y3).setCell ⟨b,4,none⟩ y4).setCell ⟨b,5,none⟩ y5).setCell ⟨b,6,none⟩ y6).setCell ⟨b,7,none⟩ y7):=Upd.setCell u6 (hlt 7) _;have u8:Upd noBlk w0 (((((((((w.setCell ⟨b,0,none⟩ y0).setCell ⟨b,1,none⟩ y1).setCell ⟨b,2,none⟩ y2).setCell ⟨b,3,none⟩ y3).setCell ⟨b,4,none⟩ y4).setCell ⟨b,5,none⟩ y5).setCell ⟨b,6,none⟩ y6).setCell ⟨b,7,none⟩ y7).setCell ⟨b,8,none⟩ y8):=Upd.setCell u7 (hlt 8) _;have s:=set9 h y0 y1 y2 y3 y4 y5 y6 y7 y8;obtain ⟨wc,hwc⟩:∃wc,wc=(((((((((w.setCell ⟨b,0,none⟩ y0).setCell ⟨b,1,none⟩ y1).setCell ⟨b,2,none⟩ y2).setCell ⟨b,3,none⟩ y3).setCell ⟨b,4,none⟩ y4).setCell ⟨b,5,none⟩ y5).setCell ⟨b,6,none⟩ y6).setCell ⟨b,7,none⟩ y7).setCell ⟨b,8,none⟩ y8):=⟨_,rfl⟩;rw [←hwc] at s u8 ⊢;exact hQ _ s u8.drew
end Go.Proofs.YtcikldoaidmnhaaGreatDoor
namespace Go.Proofs.YtcikldoaidmnhaaGreatDoor
open Go Go.RowKit Pc
set_option maxRecDepth 100000
set_option maxHeartbeats 400000 in
theorem carry_nil (w:World):Calls Tryz.prog 102 #[.slice none 0 0] w fun e w'=>e=.returned (.tuple #[])∧w=w':=by
 go_enter Tryz.func102,Tryz.ntmps102
 go_wp2
 refine wp_loop_once ?_;go_wp2
 go_end0
 exact ⟨rfl,rfl⟩
theorem grownBy_refl (w:World) (r:Option Nat):w.grownBy w r:=⟨rfl,rfl,rfl,Nat.le_refl _,fun _ _ _=>rfl⟩
theorem carry_v {base:Nat} (v:Value) (ds:List Nat) (hds:∀d,d∈ds→d<256) (w:World) (hown:w.ownsRow base 5 1 v ds.length (ds.map byteV)) (hn:ds.length≤maxLen) :
  Calls Tryz.prog 102 #[v] w fun e w'=>e=.returned (.tuple #[])∧w'.ownsRow base 5 1 v ds.length ((carry ds).map byteV)∧w.grownBy w' v.ownBlock:=by
 rcases hown.2 with ⟨rfl,h0⟩ | ⟨g,cap,cur,rfl,r⟩
 ·have hd:ds=[]:=List.eq_nil_of_length_eq_zero h0;subst hd;refine (carry_nil w).mono ?_;rintro e w' ⟨rfl,rfl⟩;exact ⟨rfl,hown,grownBy_refl _ _⟩
 ·exact carry_any base cap g ds hds w hown hn
theorem wrep_fin {F:Nat→Prop} {b wb:Nat} {dv dv':Value} {w w1 w2:World} {e:E} (hu0:Upd F w w1) (hf:∀k,wFoot b wb dv k→F k∨w.heap.size≤k)
  (k1:WLive w2 b wb dv' e) (k2:Upd (wFoot b wb dv) w1 w2) (k3:dv'.ownBlock=dv.ownBlock∨∃g,dv'.ownBlock=some g∧w1.heap.size≤g) :
  ∃F',WRep w2 b e F'∧Upd F w w2∧∀k,F' k→F k∨w.heap.size≤k:=by
 refine ⟨wFoot b wb dv',.inr ⟨wb,dv',k1,rfl⟩,hu0.then k2 (fun i hi hw=>(hf i hw).elim id (fun x=>absurd hi (by omega))),?_⟩;have hs:=hu0.size;rintro k (h | h | h)
 ·exact hf k (.inl h)
 ·exact hf k (.inr (.inl h))
 ·rcases k3 with h3 | ⟨g,h3,h4⟩
  ·exact hf k (.inr (.inr (by unfold inRow at *;rw [←h3];exact h)))
  ·right;have:k=g:=by unfold inRow at h;rw [h3] at h;simpa using h.symm
   omega
theorem WLive.setLow {w:World} {b wb:Nat} {dv:Value} {e:E} (h:WLive w b wb dv e) {low:Nat} (hl:low<4294967296) (n:Nat) :
  WLive ((w.drewN n).setCell ⟨b,3,none⟩ (.int .u32 low)) b wb dv ⟨e.m,e.done,low⟩:=
 ⟨⟨h.wf.m,hl,h.wf.done⟩,heap_setCell_eq (w:=w.drewN n) (i:=3) _ h.blk,h.wt.keep (heap_setCell_other (w.drewN n) ⟨b,3,none⟩ wb _ (fun x=>h.n1 x.symm)),
  ownsRow_setCell_other (w:=w.drewN n) h.own h.n2 _,h.n1,h.n2,h.n3⟩
theorem WLive.carry {w w':World} {b wb:Nat} {dv:Value} {e:E} (h:WLive w b wb dv e) (h1:w'.ownsRow 0 5 1 dv e.done.length ((carry e.done).map byteV)) (h2:w.grownBy w' dv.ownBlock) :
  WLive w' b wb dv ⟨e.m,carry e.done,e.low⟩:=
 ⟨⟨h.wf.m,h.wf.low,carry_lt h.wf.done⟩,(h2.block b (lt_of_heap h.blk) (fun x=>h.n2 x.symm)).trans h.blk,h.wt.keep (h2.block wb h.wt.lt (fun x=>h.n3 x.symm)),
  by rw [carry_length];exact h1,h.n1,h.n2,h.n3⟩
set_option maxHeartbeats 1000000 in
theorem WBit_any (b:Nat) (c:Int) (one:Bool) (e:E) (F:Nat→Prop) (w:World) (h:WRep w b e F) (hlen:e.done.length+1≤1000000) :
  Calls Tryz.prog 49 #[.pointer (some ⟨b,0,none⟩),.int .i64 c,.bool one] w fun en w'=>en=.returned (.tuple #[]) ∧
   ∃F',WRep w' b (e.bit c one) F'∧Upd F w w'∧∀k,F' k→F k∨w.heap.size≤k:=by
 have hF:=h.lt;have he:=h.wf;have hL:=Lib.hid hlen;have hML:Hid (e.done.length≤maxLen):=by show _≤_;unfold maxLen;omega
 clear hlen;have hbx:=h.keep (w':=w.alloc (.cells #[.pointer (some ⟨b,0,none⟩)] 92)) (fun k hk=>_root_.Go.heap_alloc_old w _ (hF k hk));clear h;cases one
 all_goals
  go_enter Tryz.func49,Tryz.ntmps49
  go_wp2_with fail
  refine (begin_W b e F _ hbx).mono ?_;rintro en w1 ⟨r,rfl,wb,dv,hl,hu,hf⟩;have hwc:w1.cell? ⟨w.heap.size,0,none⟩=some (.pointer (some ⟨b,0,none⟩)):=hu.cell (World.cell?_alloc_new w _ _ 0) (fun x=>Nat.lt_irrefl _ (hF _ x));have hnf:¬wFoot b wb dv w.heap.size:=fun x=>(hf _ x).elim (fun y=>Nat.lt_irrefl _ (hF _ y)) (fun y=>by simp at y;omega);have hf':Hid (∀k,wFoot b wb dv k→F k∨w.heap.size≤k):=fun k hk=>(hf k hk).imp id (fun y=>by simp at y;omega);have H2:Hid (Upd F w w1):=((Upd.refl F w).alloc _).trans hu;have H1:=Lib.hid hl;clear hl hu hf hbx
 ·go_wp2_with fail
  refine (upd_W c false b w.heap.size wb dv e w1 he H1.out hwc hnf hL.out).mono ?_;rintro en w2 ⟨rfl,dv',k1,k2,k3⟩;go_wp2
  go_end0
  exact ⟨rfl,wrep_fin H2.out hf'.out k1 k2 k3⟩
 ·have c0:w1.cell? ⟨b,0,none⟩=some (.slice (some ⟨wb,0,none⟩) 4096 4096):=by rw [cell_of_row w1 b 0 _ _ _ H1.out.blk];rfl
  have c1:w1.cell? ⟨b,1,none⟩=some (.int .u32 e.m.size):=by rw [cell_of_row w1 b 1 _ _ _ H1.out.blk];rfl
  have c2:w1.cell? ⟨b,2,none⟩=some dv:=by rw [cell_of_row w1 b 2 _ _ _ H1.out.blk];rfl
  have c3:w1.cell? ⟨b,3,none⟩=some (.int .u32 e.low):=by rw [cell_of_row w1 b 3 _ _ _ H1.out.blk];rfl
  have f1:=frozen_of_row w1 b 1 _ _ H1.out.blk;have f3:=frozen_of_row w1 b 3 _ _ H1.out.blk;have hmod:∀n,Mod (w1.drewN n) b wb e.m:=fun n=>⟨c0,c1,f1,H1.out.wt,H1.out.n1⟩;have hsp:Hid (e.m.split (ctx c)<4294967296):=by
   have:=M.split_bd he.m (ctx_lt c);have:=he.m.hi;show _<_;omega
  have hlw:=Lib.hid he.low;have nwb:w.heap.size≠b:=fun x=>hnf (.inl x);have hM:=Lib.hid hmod;clear hmod;go_wp2_with fail
  go_quiet ((first | (go_at_call 101;exact quiet_drew (split_any _ _ _ _ he.m _ (hM.out _))) | (go_at_call 100;exact quiet_eq (add32_any _ _ hlw.out hsp.out _))))
  by_cases hov:4294967296≤e.low+e.m.split (ctx c)
  ·have hq:((((e.low+e.m.split (ctx c)) / 4294967296:Nat):Int) != 0)=true:=by rw [bne_iff_ne];omega
   have HV:=Lib.hid hov;clear hov;have hl2:=Lib.hid (H1.out.setLow (low:=(e.low+e.m.split (ctx c)) % 4294967296) (Nat.mod_lt _ (by omega)) nq);have hwc2:((w1.drewN nq).setCell ⟨b,3,none⟩ (.int .u32 (((e.low+e.m.split (ctx c)) % 4294967296:Nat):Int))).cell? ⟨w.heap.size,0,none⟩=some (.pointer (some ⟨b,0,none⟩)):=by
    rw [World.cell?_setCell_other _ _ _ _ (by simp)];exact hwc
   have hup2:Hid (Upd (wFoot b wb dv) w1 ((w1.drewN nq).setCell ⟨b,3,none⟩ (.int .u32 (((e.low+e.m.split (ctx c)) % 4294967296:Nat):Int)))):=(Upd.ofDrewN w1 nq).setCell (fun _=>.inl rfl) _;go_wp2_with fail
   refine (carry_v dv e.done he.done _ hl2.out.own hML.out).mono ?_;rintro en w3 ⟨rfl,q1,q2⟩;have hwc3:=q2.cell hwc2 (fun x=>hnf (.inr (.inr x.symm)));have hl3:Hid (WLive w3 b wb dv ⟨e.m,e.done1 (ctx c) true,e.low1 (ctx c) true⟩):=by
    have:=hl2.out.carry q1 q2;have e1:e.done1 (ctx c) true=Pc.carry e.done:=by unfold E.done1;rw [if_pos (by simpa using HV.out)]
    have e2:e.low1 (ctx c) true=(e.low+e.m.split (ctx c)) % 4294967296:=by unfold E.low1;simp
    show WLive _ _ _ _ _;rw [e1,e2];exact this
   have hup3:Hid (Upd (wFoot b wb dv) w1 w3):=hup2.out.grown q2 (fun k hk _=>.inr (.inr hk));clear q1 q2 hwc2 hwc;go_wp2_with fail
   refine (upd_W c true b w.heap.size wb dv e w3 he hl3.out hwc3 hnf hL.out).mono ?_;rintro en w2 ⟨rfl,dv',k1,k2,k3⟩;go_wp2
   go_end0
   exact ⟨rfl,wrep_fin H2.out hf'.out k1 (hup3.out.trans k2) (k3.imp id (fun ⟨g,g1,g2⟩=>⟨g,g1,Nat.le_trans hup3.out.size g2⟩))⟩
  ·have hq:((((e.low+e.m.split (ctx c)) / 4294967296:Nat):Int) != 0)=false:=by rw [bne_eq_false_iff_eq];omega
   have HV:=Lib.hid hov;clear hov;have hl2:Hid (WLive ((w1.drewN nq).setCell ⟨b,3,none⟩ (.int .u32 (((e.low+e.m.split (ctx c)) % 4294967296:Nat):Int))) b wb dv ⟨e.m,e.done1 (ctx c) true,e.low1 (ctx c) true⟩):=by
    have:=H1.out.setLow (low:=(e.low+e.m.split (ctx c)) % 4294967296) (Nat.mod_lt _ (by omega)) nq;have e1:e.done1 (ctx c) true=e.done:=by unfold E.done1;rw [if_neg (by simpa using HV.out)]
    have e2:e.low1 (ctx c) true=(e.low+e.m.split (ctx c)) % 4294967296:=by unfold E.low1;simp
    show WLive _ _ _ _ _;rw [e1,e2];exact this
   have hwc2:((w1.drewN nq).setCell ⟨b,3,none⟩ (.int .u32 (((e.low+e.m.split (ctx c)) % 4294967296:Nat):Int))).cell? ⟨w.heap.size,0,none⟩=some (.pointer (some ⟨b,0,none⟩)):=by
    rw [World.cell?_setCell_other _ _ _ _ (by simp)];exact hwc
   have hup3:Hid (Upd (wFoot b wb dv) w1 ((w1.drewN nq).setCell ⟨b,3,none⟩ (.int .u32 (((e.low+e.m.split (ctx c)) % 4294967296:Nat):Int)))):=(Upd.ofDrewN w1 nq).setCell (fun _=>.inl rfl) _;go_wp2_with fail
   refine (upd_W c true b w.heap.size wb dv e _ he hl2.out hwc2 hnf hL.out).mono ?_;rintro en w2 ⟨rfl,dv',k1,k2,k3⟩;go_wp2
   go_end0
   exact ⟨rfl,wrep_fin H2.out hf'.out k1 (hup3.out.trans k2) (k3.imp id (fun ⟨g,g1,g2⟩=>⟨g,g1,Nat.le_trans hup3.out.size g2⟩))⟩
end Go.Proofs.YtcikldoaidmnhaaGreatDoor
