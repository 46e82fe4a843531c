/- Parts: A region that draws its order, walked along a tree of orders: operations that yield one value in every world of a class, others that are carried out one by one, and forks where two of them are ready. No condition. Reading a cluster as a plain function: what stays true along the way, and that it comes to an end. No condition. The kinds of things that packets are made of, as they lie in memory. No c -/
import Derived.Test.YtmgklblglpplcaaGreatDoorRPubl1
import Derived.Test.YtmgklblglpplcaaGreatDoorRPubl2
import Derived.Test.YtmgklblglpplcaaGreatDoorRPubl3
import Derived.Test.YtmgklblglpplcaaGreatDoorRPubl4
import Derived.Test.YtmgklblglpplcaaGreatDoorRPubl6
import Derived.Test.YtmgklblglpplcaaGreatDoorRPubl8
import Derived.Test.YtmgklblglpplcaaGreatDoorRPubl11
import Derived.Test.YtmgklblglpplcaaGreatDoorRPubl12
import Derived.Test.YtmgklblglpplcaaGreatDoorRPubl14
import Derived.WalkKit
import Derived.WalkSpells
import Derived.WalkLawsBesides
import Derived.Lib.Hide
import Derived.BigQuiet
import Derived.Deep.DeepFit
import Derived.Deep.DeepCutAuto
import Derived.Deep.AppendLies
import Derived.Deep.QuietTactic
import Derived.StillTail
import Derived.Deep.MidRow
import Derived.Lib.Bits
import Derived.Test.YtmgklblglpplcaaGreatDoorRows
import Derived.Deep.RegionHeld3
import Derived.Laws.EntriesVeiled
import Derived.Handy
import Derived.Maps.OwnOps
import Derived.Maps.OwnSet
import Derived.Maps.RangeWalk
import Derived.WideKeyEntry
import Derived.DeepKeys4
import Derived.Deep.CutBlock
import Derived.Test.YtmgklblglpplcaaGreatDoorShelf
import Derived.Laws.BitsAllLaws
namespace Go.Proofs.YtmgklblglpplcaaGreatDoor
open Go Go.RowKit
section
variable {P:Program} {ops:Array Oper} {md:Region.Mode} {C:World→Prop} {Q:Exit→Act→World→Prop}
theorem wpAnyG_mono {n:Nat} {L:Array Bool→Act→World→Prop} {C':World→Prop} (hC:∀w,C' w→C w) :
  ∀(f:Nat) (listed:Array Bool) (a:Act) (w:World),wpAnyG P md ops Q C' n L f listed a w→wpAnyG P md ops Q C n L f listed a w
 | 0,_,_,_,h=>h
 | f+1,_,_,_,h=>⟨h.1,fun i hi=>⟨(h.2 i hi).1,wpOp_mono (fun a' w' h'=>⟨hC _ h'.1,wpAnyG_mono hC f _ a' w' h'.2⟩) (h.2 i hi).2⟩⟩
inductive OT where
 | nil
 | sure (i:Nat) (r:OT)
 | run (i:Nat) (r:OT)
 | fork (i:Nat) (ri:OT) (j:Nat) (rj:OT)
def OT.sures:List Nat→OT→OT
 | [],r=>r
 | i :: l,r=>.sure i (OT.sures l r)
def wpT (P:Program) (ops:Array Oper) (Q:Exit→Act→World→Prop) (L:Act→World→Prop):OT→(World→Prop)→Act→World→Prop
 | .nil,_,a,w=>L a w
 | .sure i r,C,a,w=>∃o v,ops[i]?=some o∧Sure P ops C o v a∧wpT P ops Q L r C (a.put o.dst v) w
 | .run i r,C,a,w=>∃C':World→Prop,(∀w,C' w→C w)∧wpOp P ops Q i (fun a' w'=>C' w'∧wpT P ops Q L r C' a' w') a w
 | .fork i ri j rj,C,a,w=>(∃C':World→Prop,(∀w,C' w→C w)∧wpOp P ops Q i (fun a' w'=>C' w'∧wpT P ops Q L ri C' a' w') a w) ∧
   (∃C':World→Prop,(∀w,C' w→C w)∧wpOp P ops Q j (fun a' w'=>C' w'∧wpT P ops Q L rj C' a' w') a w)
def treeB (md:Region.Mode) (ops:Array Oper) (n:Nat):Nat→OT→Array Bool→Bool
 | 0,.nil,listed=>Region.seqB md ops (ops.size-n) n listed
 | f+1,.sure i r,listed=>decide (i<n)&&(Region.ready md ops listed).contains i&&Region.free md ops listed i&&treeB md ops n f r (listed.setIfInBounds i true)
 | f+1,.run i r,listed=>decide (i<n)&&decide (Region.ready md ops listed=[i])&&treeB md ops n f r (listed.setIfInBounds i true)
 | f+1,.fork i ri j rj,listed=>decide (i<n)&&decide (j<n)&&decide (Region.ready md ops listed=[i,j])&&treeB md ops n f ri (listed.setIfInBounds i true)&&treeB md ops n f rj (listed.setIfInBounds j true)
 | _,_,_=>false
theorem wpAnyG_tree {n:Nat} {Lq:Act→World→Prop} (hsel:Region.noSelect ops=true) (hQ:∀c a d v w,Q (.panic c) (Act.put a d v) w→Q (.panic c) a w)
  (hs:Region.sinkB md ops n=true) (hc:Region.chainB md ops n=true) (hn:n<ops.size) :
  ∀(f:Nat) (t:OT) (C:World→Prop) (listed:Array Bool) (a:Act) (w:World),C w→HeadInv md ops n listed→treeB md ops n f t listed=true→wpT P ops Q Lq t C a w →
  wpAnyG P md ops Q C n (fun listed' a' w'=>Region.seqB md ops (ops.size-n) n listed'=true∧Lq a' w') f listed a w
 | 0,.nil,C,listed,a,w,_,inv,hB,h=>⟨by simpa [treeB] using hB,h⟩
 | f+1,.sure i r,C,listed,a,w,hC,inv,hB,h=>by
  obtain ⟨o,v,h0,hy,hK⟩:=h;simp only [treeB,Bool.and_eq_true,decide_eq_true_eq] at hB;obtain ⟨⟨⟨hin,hr⟩,hf⟩,hB'⟩:=hB;have hr':i∈Region.ready md ops listed:=by simpa using hr
  exact wpAnyG_first h0 (Region.noSelect_spec hsel) (fun c a w=>hQ c a _ _ w) hs hc hn hin (fun listed' a' w' hL=>seqB_ready hL.1) f listed a w inv hC (Region.free_spec h0 hf) hr' hy
   (wpAnyG_tree hsel hQ hs hc hn f r C _ _ w hC (inv.set hr' hin) hB' hK)
 | f+1,.run i r,C,listed,a,w,hC,inv,hB,h=>by
  obtain ⟨C',hCC,h⟩:=h;simp only [treeB,Bool.and_eq_true,decide_eq_true_eq] at hB;obtain ⟨⟨hin,hr⟩,hB'⟩:=hB;have hr':i∈Region.ready md ops listed:=by rw [hr];simp
  refine ⟨fun h0=>(by rw [h0] at hr;cases hr),fun j hj=>?_⟩;rw [hr] at hj;obtain rfl:j=i:=by simpa using hj
  exact ⟨hin,wpOp_mono (fun a' w' h'=>⟨hCC _ h'.1,wpAnyG_mono hCC f _ _ _ (wpAnyG_tree hsel hQ hs hc hn f r C' _ a' w' h'.1 (inv.set hr' hin) hB' h'.2)⟩) h⟩
 | f+1,.fork i ri j rj,C,listed,a,w,hC,inv,hB,h=>by
  obtain ⟨⟨C1,hC1,h1⟩,⟨C2,hC2,h2⟩⟩:=h;simp only [treeB,Bool.and_eq_true,decide_eq_true_eq] at hB;obtain ⟨⟨⟨⟨hin,hjn⟩,hr⟩,hB1⟩,hB2⟩:=hB;have hri:i∈Region.ready md ops listed:=by rw [hr];simp
  have hrj:j∈Region.ready md ops listed:=by rw [hr];simp
  refine ⟨fun h0=>(by rw [h0] at hr;cases hr),fun k hk=>?_⟩;rw [hr] at hk;rcases (by simpa using hk:k=i∨k=j) with rfl | rfl
  ·exact ⟨hin,wpOp_mono (fun a' w' h'=>⟨hC1 _ h'.1,wpAnyG_mono hC1 f _ _ _ (wpAnyG_tree hsel hQ hs hc hn f ri C1 _ a' w' h'.1 (inv.set hri hin) hB1 h'.2)⟩) h1⟩
  ·exact ⟨hjn,wpOp_mono (fun a' w' h'=>⟨hC2 _ h'.1,wpAnyG_mono hC2 f _ _ _ (wpAnyG_tree hsel hQ hs hc hn f rj C2 _ a' w' h'.1 (inv.set hrj hjn) hB2 h'.2)⟩) h2⟩
 | 0,.sure _ _,_,_,_,_,_,_,hB,_=>by simp [treeB] at hB
 | 0,.run _ _,_,_,_,_,_,_,hB,_=>by simp [treeB] at hB
 | 0,.fork _ _ _ _,_,_,_,_,_,_,hB,_=>by simp [treeB] at hB
 | _+1,.nil,_,_,_,_,_,_,hB,_=>by simp [treeB] at hB
def treeTailB (md:Region.Mode) (ops:Array Oper) (n:Nat) (t:OT):Bool:=
 Region.noSelect ops&&decide (n<ops.size)&&Region.sinkB md ops n&&Region.chainB md ops n&&treeB md ops n n t (Array.replicate ops.size false)
theorem wp_region_tree {id:Nat} {a:Act} {w:World} {l:List Oper} (n:Nat) (t:OT) (C:World→Prop) (hm:P.follows .mixedOrders=true) (hB:treeTailB .any l.toArray n t=true)
  (hQ:∀c a d v w,Q (.panic c) (Act.put a d v) w→Q (.panic c) a w) (hC:C w.drew)
  (h:wpT P l.toArray Q (fun a' w'=>wpList P l.toArray Q (l.drop n) a' w') t C a w.drew):(Code.region id l.toArray true).wp P Q a w:=by
 simp only [treeTailB,Bool.and_eq_true,decide_eq_true_eq] at hB;obtain ⟨⟨⟨⟨hsel,hn⟩,hs⟩,hc⟩,hlex⟩:=hB;have hn':n<l.length:=by simpa using hn
 have hdl:(l.drop n).length=l.toArray.size-n:=by simp
 have inv0:HeadInv .any l.toArray n (Array.replicate l.toArray.size false):=
  ⟨by simp,fun j oj _ hl=>(by rw [getD_replicate_false] at hl;cases hl),fun t _ ht=>getD_in (by simpa using ht) (getD_replicate_false _ _)⟩
 have H:=wpAnyG_tree (md:=.any) hsel hQ hs hc hn n t C _ a w.drew hC inv0 hlex h;refine wp_region_any hm ?_;have:=wpAny_of_G (g:=l.toArray.size-n) (fun listed a' w' hL=>by
  have:=wpAny_of_seq (md:=.any) (Q':=Q) (l.drop n) n listed a' w' (fun j=>by simp [List.getElem?_drop]) (by rw [hdl];exact hL.1) hL.2;rwa [hdl] at this) _ _ _ _ H
 rw [show n+(l.toArray.size-n)=l.toArray.size by omega] at this;exact this
variable {L:Act→World→Prop} {r ri rj:OT} {a:Act} {w:World} {i j:Nat} {o oi oj:Oper}
theorem wpT_nil (h:L a w):wpT P ops Q L .nil C a w:=h
theorem wpT_sure (ho:ops[i]?=some o) (hg:o.guard=none) (v:Value) (hv:∀w',C w'→(execOp a.eval o).run P w'=.ok (.value v) w') (h:wpT P ops Q L r C (a.put o.dst v) w) :
  wpT P ops Q L (.sure i r) C a w:=
 ⟨o,v,ho,.inl ⟨by simp [Region.wanted,hg],hv⟩,h⟩
theorem wpT_run (C':World→Prop) (hC:∀w,C' w→C w) (ho:ops[i]?=some o)
  (h:∀K':Act→World→Prop,(∀a' w',C' w'∧wpT P ops Q L r C' a' w'→K' a' w')→if Region.wanted o (yielded ops a.tmps)=true then Oper.wp P o a w K' Q else K' (a.put o.dst undef) w) :
  wpT P ops Q L (.run i r) C a w:=⟨C',hC,wpOp_step ho (fun K' hK=>h K' hK)⟩
theorem wpT_fork (C1 C2:World→Prop) (hC1:∀w,C1 w→C w) (hC2:∀w,C2 w→C w) (hi:ops[i]?=some oi) (hj:ops[j]?=some oj)
  (h1:∀K':Act→World→Prop,(∀a' w',C1 w'∧wpT P ops Q L ri C1 a' w'→K' a' w')→if Region.wanted oi (yielded ops a.tmps)=true then Oper.wp P oi a w K' Q else K' (a.put oi.dst undef) w)
  (h2:∀K':Act→World→Prop,(∀a' w',C2 w'∧wpT P ops Q L rj C2 a' w'→K' a' w')→if Region.wanted oj (yielded ops a.tmps)=true then Oper.wp P oj a w K' Q else K' (a.put oj.dst undef) w) :
  wpT P ops Q L (.fork i ri j rj) C a w:=⟨⟨C1,hC1,wpOp_step hi (fun K' hK=>h1 K' hK)⟩,⟨C2,hC2,wpOp_step hj (fun K' hK=>h2 K' hK)⟩⟩
end
end Go.Proofs.YtmgklblglpplcaaGreatDoor
namespace Go.Proofs.YtmgklblglpplcaaGreatDoor
open Go Go.RowKit Pk
set_option maxRecDepth 100000
theorem kinfo_of {T:TypeId} {k b:Nat} (h:((Tryz.prog.info? T).map (fun i=>(i.zero.map (fun z=>z.cells.size),i.size,i.bytes)))=some (some k,k,b)):∃i z,Tryz.prog.info? T=some i∧i.zero=some z∧i.size=k∧i.bytes=b∧z.cells.size=k:=by
 cases hi:Tryz.prog.info? T with
 | none=>rw [hi] at h;cases h
 | some i=>
  rw [hi] at h;simp only [Option.map_some,Option.some.injEq,Prod.mk.injEq] at h;obtain ⟨h1,h2,h3⟩:=h;cases hz:i.zero with
  | none=>rw [hz] at h1;cases h1
  | some z=>rw [hz] at h1;exact ⟨i,z,rfl,hz,h2,h3,by simpa using h1⟩
def ptC (p:Pt):List Value:=[.int .i64 p.1,.int .i64 p.2.1,.int .i64 p.2.2]
noncomputable def kPt:Kd Tryz.prog Pt:={ T:=167,S:=177,k:=3,bytes:=24,enc:=ptC,len:=fun _=>rfl,one:=fun x v hv=>by simp [ptC] at hv;rcases hv with rfl | rfl | rfl<;>rfl,pos:=by decide,small:=by decide,und:=Tryz.underlying177,info:=kinfo_of (by kernel_rfl) }
noncomputable def kTri:Kd Tryz.prog Tri:={ T:=169,S:=91,k:=9,bytes:=72,enc:=triC,len:=fun _=>rfl,one:=fun x v hv=>by simp [triC] at hv;rcases hv with rfl | rfl | rfl | rfl | rfl | rfl | rfl | rfl | rfl<;>rfl,pos:=by decide,small:=by decide,und:=Tryz.underlying91,info:=kinfo_of (by kernel_rfl) }
theorem ptAt3 {w:World} {b o:Nat} {p:Pt} (h:kPt.At w b o p):w.cell? ⟨b,o,none⟩=some (.int .i64 p.1)∧w.cell? ⟨b,o+1,none⟩=some (.int .i64 p.2.1)∧w.cell? ⟨b,o+2,none⟩=some (.int .i64 p.2.2):=⟨h 0 _ rfl,h 1 _ rfl,h 2 _ rfl⟩
theorem cellsF9 {w:World} {b:Nat} {x0 x1 x2 x3 x4 x5 x6 x7 x8:Value} {t:TypeId} (h:w.heap[b]?=some (.cells #[x0,x1,x2,x3,x4,x5,x6,x7,x8] t (0,0))) :
  (w.cell? ⟨b,0,none⟩=some x0∧w.cell? ⟨b,1,none⟩=some x1∧w.cell? ⟨b,2,none⟩=some x2∧w.cell? ⟨b,3,none⟩=some x3∧w.cell? ⟨b,4,none⟩=some x4∧w.cell? ⟨b,5,none⟩=some x5∧w.cell? ⟨b,6,none⟩=some x6∧w.cell? ⟨b,7,none⟩=some x7∧w.cell? ⟨b,8,none⟩=some x8) ∧
  (w.frozen? ⟨b,0,none⟩=false∧w.frozen? ⟨b,1,none⟩=false∧w.frozen? ⟨b,2,none⟩=false∧w.frozen? ⟨b,3,none⟩=false∧w.frozen? ⟨b,4,none⟩=false∧w.frozen? ⟨b,5,none⟩=false∧w.frozen? ⟨b,6,none⟩=false∧w.frozen? ⟨b,7,none⟩=false∧w.frozen? ⟨b,8,none⟩=false):=by simp [World.cell?,World.frozen?,h]
theorem set9 {w:World} {b:Nat} {x0 x1 x2 x3 x4 x5 x6 x7 x8:Value} {t:TypeId} (h:w.heap[b]?=some (.cells #[x0,x1,x2,x3,x4,x5,x6,x7,x8] t (0,0))) (y0 y1 y2 y3 y4 y5 y6 y7 y8:Value) :
  (((((((((w.setCell ⟨b,0,none⟩ y0).setCell ⟨b,1,none⟩ y1).setCell ⟨b,2,none⟩ y2).setCell ⟨b,3,none⟩ y3).setCell ⟨b,4,none⟩ y4).setCell ⟨b,5,none⟩ y5).setCell ⟨b,6,none⟩ y6).setCell ⟨b,7,none⟩ y7).setCell ⟨b,8,none⟩ y8).heap[b]?=some (.cells #[y0,y1,y2,y3,y4,y5,y6,y7,y8] t (0,0)):=by
 have h0:(w.setCell ⟨b,0,none⟩ y0).heap[b]?=some (.cells #[y0,x1,x2,x3,x4,x5,x6,x7,x8] t (0,0)):=by simpa using heap_setCell_eq (i:=0) y0 h
 have h1:((w.setCell ⟨b,0,none⟩ y0).setCell ⟨b,1,none⟩ y1).heap[b]?=some (.cells #[y0,y1,x2,x3,x4,x5,x6,x7,x8] t (0,0)):=by simpa using heap_setCell_eq (i:=1) y1 h0
 have h2:(((w.setCell ⟨b,0,none⟩ y0).setCell ⟨b,1,none⟩ y1).setCell ⟨b,2,none⟩ y2).heap[b]?=some (.cells #[y0,y1,y2,x3,x4,x5,x6,x7,x8] t (0,0)):=by simpa using heap_setCell_eq (i:=2) y2 h1
 have h3:((((w.setCell ⟨b,0,none⟩ y0).setCell ⟨b,1,none⟩ y1).setCell ⟨b,2,none⟩ y2).setCell ⟨b,3,none⟩ y3).heap[b]?=some (.cells #[y0,y1,y2,y3,x4,x5,x6,x7,x8] t (0,0)):=by simpa using heap_setCell_eq (i:=3) y3 h2
 have h4:(((((w.setCell ⟨b,0,none⟩ y0).setCell ⟨b,1,none⟩ y1).setCell ⟨b,2,none⟩ y2).setCell ⟨b,3,none⟩ y3).setCell ⟨b,4,none⟩ y4).heap[b]?=some (.cells #[y0,y1,y2,y3,y4,x5,x6,x7,x8] t (0,0)):=by simpa using heap_setCell_eq (i:=4) y4 h3
 have h5:((((((w.setCell ⟨b,0,none⟩ y0).setCell ⟨b,1,none⟩ y1).setCell ⟨b,2,none⟩ y2).setCell ⟨b,3,none⟩ y3).setCell ⟨b,4,none⟩ y4).setCell ⟨b,5,none⟩ y5).heap[b]?=some (.cells #[y0,y1,y2,y3,y4,y5,x6,x7,x8] t (0,0)):=by simpa using heap_setCell_eq (i:=5) y5 h4
 have h6:(((((((w.setCell ⟨b,0,none⟩ y0).setCell ⟨b,1,none⟩ y1).setCell ⟨b,2,none⟩ y2).setCell ⟨b,3,none⟩ y3).setCell ⟨b,4,none⟩ y4).setCell ⟨b,5,none⟩ y5).setCell ⟨b,6,none⟩ y6).heap[b]?=some (.cells #[y0,y1,y2,y3,y4,y5,y6,x7,x8] t (0,0)):=by simpa using heap_setCell_eq (i:=6) y6 h5
 have h7:((((((((w.setCell ⟨b,0,none⟩ y0).setCell ⟨b,1,none⟩ y1).setCell ⟨b,2,none⟩ y2).setCell ⟨b,3,none⟩ y3).setCell ⟨b,4,none⟩ y4).setCell ⟨b,5,none⟩ y5).setCell ⟨b,6,none⟩ y6).setCell ⟨b,7,none⟩ y7).heap[b]?=some (.cells #[y0,y1,y2,y3,y4,y5,y6,y7,x8] t (0,0)):=by simpa using heap_setCell_eq (i:=7) y7 h6
 have h8:(((((((((w.setCell ⟨b,0,none⟩ y0).setCell ⟨b,1,none⟩ y1).setCell ⟨b,2,none⟩ y2).setCell ⟨b,3,none⟩ y3).setCell ⟨b,4,none⟩ y4).setCell ⟨b,5,none⟩ y5).setCell ⟨b,6,none⟩ y6).setCell ⟨b,7,none⟩ y7).setCell ⟨b,8,none⟩ y8).heap[b]?=some (.cells #[y0,y1,y2,y3,y4,y5,y6,y7,y8] t (0,0)):=by simpa using heap_setCell_eq (i:=8) y8 h7
 exact h8
end Go.Proofs.YtmgklblglpplcaaGreatDoor
namespace Go.Proofs.YtmgklblglpplcaaGreatDoor
open Go Go.RowKit Pk
set_option maxRecDepth 100000
theorem post3 {Q:World→Prop} {w:World} {b:Nat} {x0 x1 x2 y0 y1 y2:Value} {t:TypeId} (h:w.heap[b]?=some (.cells #[x0,x1,x2] t (0,0)))
  (hQ:∀wz:World,wz.heap[b]?=some (.cells #[y0,y1,y2] t (0,0))→Upd (fun j=>j=b) w wz→Q wz):Q (((w.setCell ⟨b,0,none⟩ y0).setCell ⟨b,1,none⟩ y1).setCell ⟨b,2,none⟩ y2):=by
 have h0:(w.setCell ⟨b,0,none⟩ y0).heap[b]?=some (.cells #[y0,x1,x2] t (0,0)):=by simpa using heap_setCell_eq (i:=0) y0 h
 have h1:((w.setCell ⟨b,0,none⟩ y0).setCell ⟨b,1,none⟩ y1).heap[b]?=some (.cells #[y0,y1,x2] t (0,0)):=by simpa using heap_setCell_eq (i:=1) y1 h0
 have h2:(((w.setCell ⟨b,0,none⟩ y0).setCell ⟨b,1,none⟩ y1).setCell ⟨b,2,none⟩ y2).heap[b]?=some (.cells #[y0,y1,y2] t (0,0)):=by simpa using heap_setCell_eq (i:=2) y2 h1
 exact hQ _ h2 ((((Upd.refl (fun j=>j=b) w).setCell (p:=⟨b,0,none⟩) (fun _=>rfl) _).setCell (p:=⟨b,1,none⟩) (fun _=>rfl) _).setCell (p:=⟨b,2,none⟩) (fun _=>rfl) _)
theorem cellsF3 {w:World} {b:Nat} {x0 x1 x2:Value} {t:TypeId} (h:w.heap[b]?=some (.cells #[x0,x1,x2] t (0,0))) :
  (w.cell? ⟨b,0,none⟩=some x0∧w.cell? ⟨b,1,none⟩=some x1∧w.cell? ⟨b,2,none⟩=some x2)∧(w.frozen? ⟨b,0,none⟩=false∧w.frozen? ⟨b,1,none⟩=false∧w.frozen? ⟨b,2,none⟩=false):=by simp [World.cell?,World.frozen?,h]
theorem cells6 {w:World} {b:Nat} {x0 x1 x2 x3 x4 x5:Value} {t:TypeId} {fr:Nat × Nat} (h:w.heap[b]?=some (.cells #[x0,x1,x2,x3,x4,x5] t fr)) :
  w.cell? ⟨b,0,none⟩=some x0∧w.cell? ⟨b,1,none⟩=some x1∧w.cell? ⟨b,2,none⟩=some x2∧w.cell? ⟨b,3,none⟩=some x3∧w.cell? ⟨b,4,none⟩=some x4∧w.cell? ⟨b,5,none⟩=some x5:=by simp [World.cell?,h]
end Go.Proofs.YtmgklblglpplcaaGreatDoor
namespace Go.Proofs.YtmgklblglpplcaaGreatDoor
open Go Go.RowKit Pc
set_option maxRecDepth 100000
structure RG (F0:Nat→Prop) (w wr:World) (r:Nat) (d:D) (F:Nat→Prop):Prop where
 rep:RRep wr r d F
 new:∀k,F k→F0 k∨w.heap.size≤k
 up:Upd F0 w wr
theorem RG.self {w:World} {r:Nat} {d:D} {F:Nat→Prop} (h:RRep w r d F):RG F w w r d F:=⟨h,fun _ hk=>.inl hk,Upd.refl _ _⟩
theorem RG.bit {F0:Nat→Prop} {w wr:World} {r:Nat} {d:D} {F:Nat→Prop} (h:RG F0 w wr r d F) (c:Int) :
  Calls Tryz.prog 131 #[.pointer (some ⟨r,0,none⟩),.int .i64 c] wr fun en w'=>en=.returned (.bool (d.one c))∧∃F',RG F0 w w' r (d.bit c) F':=by
 refine (RBit_any r c d F wr h.rep).mono ?_;rintro e w2 ⟨rfl,F',q1,q2,q3⟩;exact ⟨rfl,F',q1,fun j hj=>(q3 j hj).elim (h.new j) (fun x=>.inr (Nat.le_trans h.up.size x)),upd_foot h.up q2 h.new⟩
theorem ones_step {c:Int} {k:Nat} (hk:k≤64) (d:D):D.ones c (65-k) d=if d.one (nctx c k) then D.ones c (64-k) (d.bit (nctx c k)) else (k,d.bit (nctx c k)):=by
 rw [show 65-k=(64-k)+1 by omega,D.ones,show 64-(64-k)=k by omega]
def numV (x:NumR):Value:=.tuple #[.int .u64 (x.n:Int),.bool x.ok]
theorem number_many {c:Int} {d d':D} (h:(65,d')=D.ones c 65 d):d.number c=⟨0,false,d'⟩:=by unfold D.number;rw [←h];simp
theorem number_none {c:Int} {d d':D} (h:(0,d')=D.ones c 65 d):d.number c=⟨0,true,d'⟩:=by unfold D.number;rw [←h];simp
theorem number_some {c:Int} {d d':D} {k:Nat} (h:(k,d')=D.ones c 65 d) (h0:0<k) (h1:k≤64):d.number c=⟨(D.val c (k-1) 1 d').1,true,(D.val c (k-1) 1 d').2⟩:=by
 unfold D.number;rw [←h];simp only;rw [if_neg (by omega),if_neg (by omega)]
theorem or_one {x:Nat} (hx:x<9223372036854775808):bits .or .u64 ((x:Int)*2) 1=(((2*x+1:Nat)):Int):=by
 have h:=u64_or_nat (2*x) 1 (by omega) (by omega);rw [show (x:Int)*2=((2*x:Nat):Int) by omega,show (1:Int)=((1:Nat):Int) from rfl,h];rw [nat_join 1 _ _ (by omega) (by omega)]
theorem val_bd {x m:Nat} (hm:m+1≤63) (h:x<2 ^ (64-(m+1))):x<9223372036854775808∧2*x+1<2 ^ (64-m):=by
 have e:2 ^ (64-m)=2 ^ (64-(m+1))*2:=by rw [←Nat.pow_succ];congr 1;omega
 have h1:2 ^ (64-(m+1))≤2 ^ 63:=Nat.pow_le_pow_right (by omega) (by omega);constructor
 ·omega
 ·omega
set_option maxHeartbeats 1000000 in
theorem RNumber_any {F0:Nat→Prop} {w0 w:World} {r:Nat} {d:D} {F:Nat→Prop} (h:RG F0 w0 w r d F) (c:Int) :
  Calls Tryz.prog 151 #[.pointer (some ⟨r,0,none⟩),.int .i64 c] w fun en w'=>en=.returned (numV (d.number c))∧∃F',RG F0 w0 w' r (d.number c).d F':=by
 have H:=Lib.hid h;clear h;go_enter Tryz.func151,Tryz.ntmps151
 go_wp2_with fail
 go_loopw [6] (fun i wr=>∃k:Nat,i=.int .i64 k∧k≤64∧∃d' F',RG F0 w0 wr r d' F'∧D.ones c (65-k) d'=D.ones c 65 d) (fun i _=>65-(intOf i).toNat)
 case atStart=>exact ⟨0,rfl,Nat.zero_le _,d,F,H.out,rfl⟩
 case round=>
  obtain ⟨k,rfl,hk,d',F',h1,h2⟩:=hrel;have H1:=Lib.hid h1;have H2:Hid ((if d'.one (nctx c k) then D.ones c (64-k) (d'.bit (nctx c k)) else (k,d'.bit (nctx c k)))=D.ones c 65 d):=by show _=_;rw [←ones_step hk];exact h2
  have hkb:(k:Int)≤64:=by omega
  clear h1 h2;by_cases ho:d'.one (nctx c k)=true
  ·have HO:=Lib.hid ho;have hcall:Calls Tryz.prog 131 #[.pointer (some ⟨r,0,none⟩),.int .i64 (nctx c k)] wr fun en w'=>en=.returned (.bool true)∧∃F',RG F0 w0 w' r (d'.bit (nctx c k)) F':=by
    have:=H1.out.bit (nctx c k);rwa [ho] at this
   have HC:=Lib.hid hcall;clear ho hcall;by_cases hlt:k<64
   ·have HX:Hid (D.ones c (65-(k+1)) (d'.bit (nctx c k))=D.ones c 65 d):=by
     show _=_;rw [←H2.out,HO.out,if_pos rfl,show 65-(k+1)=64-k by omega]
    have hlt':(k:Int)<64:=by omega
    go_wp2_with (go_at_call 131;refine HC.out.mono ?_;rintro en w3 ⟨rfl,F3,q⟩;have Q:=Lib.hid q;clear q)
    go_roundw
    case rel=>exact ⟨k+1,by go_num,hlt,_,F3,Q.out,HX.out⟩
    case measure=>simp [intOf];omega
   ·obtain rfl:k=64:=by omega
    have HX:Hid (d.number c=⟨0,false,d'.bit (nctx c 64)⟩):=number_many (by rw [←H2.out,HO.out,if_pos rfl];rfl);go_wp2_with (go_at_call 131;refine HC.out.mono ?_;rintro en w3 ⟨rfl,F3,q⟩;have Q:=Lib.hid q;clear q)
    go_ret2
    exact ⟨by rw [HX.out];rfl,F3,by rw [HX.out];exact Q.out⟩
  ·have ho':d'.one (nctx c k)=false:=by simpa using ho
   have HE:Hid ((k,d'.bit (nctx c k))=D.ones c 65 d):=by show _=_;rw [←H2.out,ho',if_neg (by simp)]
   have hcall:Calls Tryz.prog 131 #[.pointer (some ⟨r,0,none⟩),.int .i64 (nctx c k)] wr fun en w'=>en=.returned (.bool false)∧∃F',RG F0 w0 w' r (d'.bit (nctx c k)) F':=by
    have:=H1.out.bit (nctx c k);rwa [ho'] at this
   have HC:=Lib.hid hcall;clear ho ho' hcall H2;rcases Nat.eq_zero_or_pos k with hk0 | hk0
   ·subst hk0;have HX:Hid (d.number c=⟨0,true,d'.bit (nctx c 0)⟩):=number_none HE.out;go_wp2_with (go_at_call 131;refine HC.out.mono ?_;rintro en w3 ⟨rfl,F3,q⟩;have Q:=Lib.hid q;clear q)
    go_ret2
    exact ⟨by rw [HX.out];rfl,F3,by rw [HX.out];exact Q.out⟩
   ·have HX:Hid (d.number c=⟨(D.val c (k-1) 1 (d'.bit (nctx c k))).1,true,(D.val c (k-1) 1 (d'.bit (nctx c k))).2⟩):=number_some HE.out hk0 hk;have hne:((k:Int) == 0)=false:=by rw [beq_eq_false_iff_ne];omega
    go_wp2_with (go_at_call 131;refine HC.out.mono ?_;rintro en w3 ⟨rfl,F3,q⟩;have Q:=Lib.hid q;clear q)
    clear hne HC HE;generalize d'.bit (nctx c k)=d1 at *;go_loopw [7,8] (fun x i wr=>∃(v m:Nat),x=.int .u64 v∧i=.int .i64 ((m:Int)-1)∧m≤63∧v<2 ^ (64-m)∧∃d2 F2,RG F0 w0 wr r d2 F2∧D.val c m v d2=D.val c (k-1) 1 d1) (fun _ i _=>(intOf i+1).toNat)
    case atStart=>exact ⟨1,k-1,rfl,by go_num,by omega,Nat.one_lt_two_pow (by omega),_,F3,Q.out,rfl⟩
    case round=>
     obtain ⟨v,m,rfl,rfl,hm,hv,d2,F2,h1,h2⟩:=hrel;have R1:=Lib.hid h1;have R2:=Lib.hid h2;clear h1 h2 H1 Q;rcases m with _ | j
     ·have h0:decide (((0:Nat):Int)-1 ≥ 0)=false:=by decide
      have HV:Hid ((v,d2)=D.val c (k-1) 1 d1):=R2.out;clear hv;go_wp2_with fail
      go_ret2
      exact ⟨by rw [HX.out,←HV.out];rfl,F2,by rw [HX.out,←HV.out];exact R1.out⟩
     ·have e1:(((j+1:Nat):Int)-1)=(j:Int):=by omega
      rw [e1];have hj:(j:Int)≤62:=by omega
      obtain ⟨v1,v2⟩:=val_bd hm hv;have hvb:(v:Int)<9223372036854775808:=by omega
      have hor:=or_one v1;have V2:=Lib.hid v2;have R3:Hid (D.val c j (2*v+if d2.one (vctx c j) then 1 else 0) (d2.bit (vctx c j))=D.val c (k-1) 1 d1):=R2.out;clear hv e1 v1 v2 R2;by_cases ho:d2.one (vctx c j)=true
      ·have hcall:Calls Tryz.prog 131 #[.pointer (some ⟨r,0,none⟩),.int .i64 (vctx c j)] wr fun en w'=>en=.returned (.bool true)∧∃F',RG F0 w0 w' r (d2.bit (vctx c j)) F':=by
        have:=R1.out.bit (vctx c j);rwa [ho] at this
       have HC:=Lib.hid hcall;have R4:Hid (D.val c j (2*v+1) (d2.bit (vctx c j))=D.val c (k-1) 1 d1):=by show _=_;rw [←R3.out,ho];rfl
       clear ho hcall;go_wp2_with (go_at_call 131;refine HC.out.mono ?_;rintro en w4 ⟨rfl,F4,q⟩;have Q4:=Lib.hid q;clear q)
       go_roundw
       case rel=>exact ⟨2*v+1,j,rfl,by go_num,by omega,V2.out,_,F4,Q4.out,R4.out⟩
       case measure=>simp [intOf]<;>omega
      ·have ho':d2.one (vctx c j)=false:=by simpa using ho
       have hcall:Calls Tryz.prog 131 #[.pointer (some ⟨r,0,none⟩),.int .i64 (vctx c j)] wr fun en w'=>en=.returned (.bool false)∧∃F',RG F0 w0 w' r (d2.bit (vctx c j)) F':=by
        have:=R1.out.bit (vctx c j);rwa [ho'] at this
       have HC:=Lib.hid hcall;have R4:Hid (D.val c j (2*v) (d2.bit (vctx c j))=D.val c (k-1) 1 d1):=by show _=_;rw [←R3.out,ho'];rfl
       clear ho ho' hcall hor;go_wp2_with (go_at_call 131;refine HC.out.mono ?_;rintro en w4 ⟨rfl,F4,q⟩;have Q4:=Lib.hid q;clear q)
       go_roundw
       case rel=>exact ⟨2*v,j,by go_num,by go_num,by omega,by have:=V2.out;omega,_,F4,Q4.out,R4.out⟩
       case measure=>simp [intOf]<;>omega
end Go.Proofs.YtmgklblglpplcaaGreatDoor
namespace Go.Proofs.YtmgklblglpplcaaGreatDoor
open Go Go.RowKit
namespace Pk
open Pc
structure OInv (w:Wk):Prop where
 known:∀p,p∈w.known→inP p
 gates:∀g,g∈w.gates→inP g.1∧inP g.2.1∧inP g.2.2
 tris:∀t,t∈w.tris→inT t
 klen:w.known.length≤3*w.tris.length
 glen:w.gates.length≤3*w.tris.length
theorem OInv.init:OInv Wk.init:=⟨fun p h=>(by cases h),fun g h=>(by cases h),fun t h=>(by cases h),Nat.le_refl _,Nat.le_refl _⟩
theorem OInv.visit {w:Wk} {t:Tri} {first:Nat} (ht:inT t) (k:∀p,p∈w.known→inP p) (g:∀g,g∈w.gates→inP g.1∧inP g.2.1∧inP g.2.2) (hs:∀t,t∈w.tris→inT t) (kl:w.known.length≤3*(w.tris.length+1)) (gl:w.gates.length+(3-first)≤3*(w.tris.length+1)):OInv (w.visit t first):=by
 refine ⟨k,fun x hx=>?_,fun x hx=>?_,?_,?_⟩
 ·rcases List.mem_append.1 hx with hx | hx
  ·exact g x hx
  ·exact gatesT_in ht (List.mem_of_mem_drop hx)
 ·rcases List.mem_append.1 hx with hx | hx
  ·exact hs x hx
  ·rw [List.mem_singleton] at hx;subst hx;exact ht
 ·show w.known.length≤3*(w.tris++[t]).length;rw [List.length_append];simp only [List.length_cons,List.length_nil];omega
 ·show (w.gates++(gatesT t).drop first).length≤3*(w.tris++[t]).length;rw [List.length_append,List.length_append,List.length_drop];have:(gatesT t).length=3:=rfl;simp only [List.length_cons,List.length_nil];omega
end Pk
end Go.Proofs.YtmgklblglpplcaaGreatDoor
