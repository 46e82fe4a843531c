/- Parts: A region that draws its order, walked along a tree of orders in which three operations may be ready at once. No condition. -/
import Derived.Test.YtcikldoaidmnhaaGreatDoorQKeep4
namespace Go.Proofs.YtcikldoaidmnhaaGreatDoor
open Go Go.RowKit
section
variable {P:Program} {ops:Array Oper} {md:Region.Mode} {C:World→Prop} {Q:Exit→Act→World→Prop}
inductive OU where
 | nil
 | sure (i:Nat) (r:OU)
 | run (i:Nat) (r:OU)
 | fork (i:Nat) (ri:OU) (j:Nat) (rj:OU)
 | fork3 (i:Nat) (ri:OU) (j:Nat) (rj:OU) (k:Nat) (rk:OU)
def OU.sures:List Nat→OU→OU
 | [],r=>r
 | i :: l,r=>.sure i (OU.sures l r)
def wpU (P:Program) (ops:Array Oper) (Q:Exit→Act→World→Prop) (L:Act→World→Prop):OU→(World→Prop)→Act→World→Prop
 | .nil,_,a,w=>L a w
 | .sure i r,C,a,w=>∃o v,ops[i]?=some o∧Sure P ops C o v a∧wpU P ops Q L r C (a.put o.dst v) w
 | .run i r,C,a,w=>∃C':World→Prop,(∀w,C' w→C w)∧wpOp P ops Q i (fun a' w'=>C' w'∧wpU P ops Q L r C' a' w') a w
 | .fork i ri j rj,C,a,w=>(∃C':World→Prop,(∀w,C' w→C w)∧wpOp P ops Q i (fun a' w'=>C' w'∧wpU P ops Q L ri C' a' w') a w) ∧
   (∃C':World→Prop,(∀w,C' w→C w)∧wpOp P ops Q j (fun a' w'=>C' w'∧wpU P ops Q L rj C' a' w') a w)
 | .fork3 i ri j rj k rk,C,a,w=>(∃C':World→Prop,(∀w,C' w→C w)∧wpOp P ops Q i (fun a' w'=>C' w'∧wpU P ops Q L ri C' a' w') a w) ∧
   (∃C':World→Prop,(∀w,C' w→C w)∧wpOp P ops Q j (fun a' w'=>C' w'∧wpU P ops Q L rj C' a' w') a w) ∧
   (∃C':World→Prop,(∀w,C' w→C w)∧wpOp P ops Q k (fun a' w'=>C' w'∧wpU P ops Q L rk C' a' w') a w)
def treeU (md:Region.Mode) (ops:Array Oper) (n:Nat):Nat→OU→Array Bool→Bool
 | 0,.nil,listed=>Region.seqB md ops (ops.size-n) n listed
 | f+1,.sure i r,listed=>decide (i<n)&&(Region.ready md ops listed).contains i&&Region.free md ops listed i&&treeU md ops n f r (listed.setIfInBounds i true)
 | f+1,.run i r,listed=>decide (i<n)&&decide (Region.ready md ops listed=[i])&&treeU md ops n f r (listed.setIfInBounds i true)
 | f+1,.fork i ri j rj,listed=>decide (i<n)&&decide (j<n)&&decide (Region.ready md ops listed=[i,j])&&treeU md ops n f ri (listed.setIfInBounds i true)&&treeU md ops n f rj (listed.setIfInBounds j true)
 | f+1,.fork3 i ri j rj k rk,listed=>decide (i<n)&&decide (j<n)&&decide (k<n)&&decide (Region.ready md ops listed=[i,j,k])&&treeU md ops n f ri (listed.setIfInBounds i true)&&treeU md ops n f rj (listed.setIfInBounds j true)&&treeU md ops n f rk (listed.setIfInBounds k true)
 | _,_,_=>false
theorem wpAnyG_treeU {n:Nat} {Lq:Act→World→Prop} (hsel:Region.noSelect ops=true) (hQ:∀c a d v w,Q (.panic c) (Act.put a d v) w→Q (.panic c) a w)
  (hs:Region.sinkB md ops n=true) (hc:Region.chainB md ops n=true) (hn:n<ops.size) :
  ∀(f:Nat) (t:OU) (C:World→Prop) (listed:Array Bool) (a:Act) (w:World),C w→HeadInv md ops n listed→treeU md ops n f t listed=true→wpU P ops Q Lq t C a w →
  wpAnyG P md ops Q C n (fun listed' a' w'=>Region.seqB md ops (ops.size-n) n listed'=true∧Lq a' w') f listed a w
 | 0,.nil,C,listed,a,w,_,inv,hB,h=>⟨by simpa [treeU] using hB,h⟩
 | f+1,.sure i r,C,listed,a,w,hC,inv,hB,h=>by
  obtain ⟨o,v,h0,hy,hK⟩:=h;simp only [treeU,Bool.and_eq_true,decide_eq_true_eq] at hB;obtain ⟨⟨⟨hin,hr⟩,hf⟩,hB'⟩:=hB;have hr':i∈Region.ready md ops listed:=by simpa using hr
  exact wpAnyG_first h0 (Region.noSelect_spec hsel) (fun c a w=>hQ c a _ _ w) hs hc hn hin (fun listed' a' w' hL=>seqB_ready hL.1) f listed a w inv hC (Region.free_spec h0 hf) hr' hy
   (wpAnyG_treeU hsel hQ hs hc hn f r C _ _ w hC (inv.set hr' hin) hB' hK)
 | f+1,.run i r,C,listed,a,w,hC,inv,hB,h=>by
  obtain ⟨C',hCC,h⟩:=h;simp only [treeU,Bool.and_eq_true,decide_eq_true_eq] at hB;obtain ⟨⟨hin,hr⟩,hB'⟩:=hB;have hr':i∈Region.ready md ops listed:=by rw [hr];simp
  refine ⟨fun h0=>(by rw [h0] at hr;cases hr),fun j hj=>?_⟩;rw [hr] at hj;obtain rfl:j=i:=by simpa using hj
  exact ⟨hin,wpOp_mono (fun a' w' h'=>⟨hCC _ h'.1,wpAnyG_mono hCC f _ _ _ (wpAnyG_treeU hsel hQ hs hc hn f r C' _ a' w' h'.1 (inv.set hr' hin) hB' h'.2)⟩) h⟩
 | f+1,.fork i ri j rj,C,listed,a,w,hC,inv,hB,h=>by
  obtain ⟨⟨C1,hC1,h1⟩,⟨C2,hC2,h2⟩⟩:=h;simp only [treeU,Bool.and_eq_true,decide_eq_true_eq] at hB;obtain ⟨⟨⟨⟨hin,hjn⟩,hr⟩,hB1⟩,hB2⟩:=hB;have hri:i∈Region.ready md ops listed:=by rw [hr];simp
  have hrj:j∈Region.ready md ops listed:=by rw [hr];simp
  refine ⟨fun h0=>(by rw [h0] at hr;cases hr),fun k hk=>?_⟩;rw [hr] at hk;rcases (by simpa using hk:k=i∨k=j) with rfl | rfl
  ·exact ⟨hin,wpOp_mono (fun a' w' h'=>⟨hC1 _ h'.1,wpAnyG_mono hC1 f _ _ _ (wpAnyG_treeU hsel hQ hs hc hn f ri C1 _ a' w' h'.1 (inv.set hri hin) hB1 h'.2)⟩) h1⟩
  ·exact ⟨hjn,wpOp_mono (fun a' w' h'=>⟨hC2 _ h'.1,wpAnyG_mono hC2 f _ _ _ (wpAnyG_treeU hsel hQ hs hc hn f rj C2 _ a' w' h'.1 (inv.set hrj hjn) hB2 h'.2)⟩) h2⟩
 | f+1,.fork3 i ri j rj k rk,C,listed,a,w,hC,inv,hB,h=>by
  obtain ⟨⟨C1,hC1,h1⟩,⟨C2,hC2,h2⟩,⟨C3,hC3,h3⟩⟩:=h;simp only [treeU,Bool.and_eq_true,decide_eq_true_eq] at hB;obtain ⟨⟨⟨⟨⟨⟨hin,hjn⟩,hkn⟩,hr⟩,hB1⟩,hB2⟩,hB3⟩:=hB;have hri:i∈Region.ready md ops listed:=by rw [hr];simp
  have hrj:j∈Region.ready md ops listed:=by rw [hr];simp
  have hrk:k∈Region.ready md ops listed:=by rw [hr];simp
  refine ⟨fun h0=>(by rw [h0] at hr;cases hr),fun q hq=>?_⟩;rw [hr] at hq;rcases (by simpa using hq:q=i∨q=j∨q=k) with rfl | rfl | rfl
  ·exact ⟨hin,wpOp_mono (fun a' w' h'=>⟨hC1 _ h'.1,wpAnyG_mono hC1 f _ _ _ (wpAnyG_treeU hsel hQ hs hc hn f ri C1 _ a' w' h'.1 (inv.set hri hin) hB1 h'.2)⟩) h1⟩
  ·exact ⟨hjn,wpOp_mono (fun a' w' h'=>⟨hC2 _ h'.1,wpAnyG_mono hC2 f _ _ _ (wpAnyG_treeU hsel hQ hs hc hn f rj C2 _ a' w' h'.1 (inv.set hrj hjn) hB2 h'.2)⟩) h2⟩
  ·exact ⟨hkn,wpOp_mono (fun a' w' h'=>⟨hC3 _ h'.1,wpAnyG_mono hC3 f _ _ _ (wpAnyG_treeU hsel hQ hs hc hn f rk C3 _ a' w' h'.1 (inv.set hrk hkn) hB3 h'.2)⟩) h3⟩
 | 0,.fork3 _ _ _ _ _ _,_,_,_,_,_,_,hB,_=>by simp [treeU] at hB
 | 0,.sure _ _,_,_,_,_,_,_,hB,_=>by simp [treeU] at hB
 | 0,.run _ _,_,_,_,_,_,_,hB,_=>by simp [treeU] at hB
 | 0,.fork _ _ _ _,_,_,_,_,_,_,hB,_=>by simp [treeU] at hB
 | _+1,.nil,_,_,_,_,_,_,hB,_=>by simp [treeU] at hB
def treeTailU (md:Region.Mode) (ops:Array Oper) (n:Nat) (t:OU):Bool:=
 Region.noSelect ops&&decide (n<ops.size)&&Region.sinkB md ops n&&Region.chainB md ops n&&treeU md ops n n t (Array.replicate ops.size false)
theorem wp_region_treeU {id:Nat} {a:Act} {w:World} {l:List Oper} (n:Nat) (t:OU) (C:World→Prop) (hm:P.follows .mixedOrders=true) (hB:treeTailU .any l.toArray n t=true)
  (hQ:∀c a d v w,Q (.panic c) (Act.put a d v) w→Q (.panic c) a w) (hC:C w.drew)
  (h:wpU P l.toArray Q (fun a' w'=>wpList P l.toArray Q (l.drop n) a' w') t C a w.drew):(Code.region id l.toArray true).wp P Q a w:=by
 simp only [treeTailU,Bool.and_eq_true,decide_eq_true_eq] at hB;obtain ⟨⟨⟨⟨hsel,hn⟩,hs⟩,hc⟩,hlex⟩:=hB;have hn':n<l.length:=by simpa using hn
 have hdl:(l.drop n).length=l.toArray.size-n:=by simp
 have inv0:HeadInv .any l.toArray n (Array.replicate l.toArray.size false):=
  ⟨by simp,fun j oj _ hl=>(by rw [getD_replicate_false] at hl;cases hl),fun t _ ht=>getD_in (by simpa using ht) (getD_replicate_false _ _)⟩
 have H:=wpAnyG_treeU (md:=.any) hsel hQ hs hc hn n t C _ a w.drew hC inv0 hlex h;refine wp_region_any hm ?_;have:=wpAny_of_G (g:=l.toArray.size-n) (fun listed a' w' hL=>by
  have:=wpAny_of_seq (md:=.any) (Q':=Q) (l.drop n) n listed a' w' (fun j=>by simp [List.getElem?_drop]) (by rw [hdl];exact hL.1) hL.2;rwa [hdl] at this) _ _ _ _ H
 rw [show n+(l.toArray.size-n)=l.toArray.size by omega] at this;exact this
variable {L:Act→World→Prop} {r ri rj rk:OU} {a:Act} {w:World} {i j k:Nat} {o oi oj ok:Oper}
theorem wpU_nil (h:L a w):wpU P ops Q L .nil C a w:=h
theorem wpU_sure (ho:ops[i]?=some o) (hg:o.guard=none) (v:Value) (hv:∀w',C w'→(execOp a.eval o).run P w'=.ok (.value v) w') (h:wpU P ops Q L r C (a.put o.dst v) w) :
  wpU P ops Q L (.sure i r) C a w:=
 ⟨o,v,ho,.inl ⟨by simp [Region.wanted,hg],hv⟩,h⟩
theorem wpU_run (C':World→Prop) (hC:∀w,C' w→C w) (ho:ops[i]?=some o)
  (h:∀K':Act→World→Prop,(∀a' w',C' w'∧wpU P ops Q L r C' a' w'→K' a' w')→if Region.wanted o (yielded ops a.tmps)=true then Oper.wp P o a w K' Q else K' (a.put o.dst undef) w) :
  wpU P ops Q L (.run i r) C a w:=⟨C',hC,wpOp_step ho (fun K' hK=>h K' hK)⟩
theorem wpU_fork (C1 C2:World→Prop) (hC1:∀w,C1 w→C w) (hC2:∀w,C2 w→C w) (hi:ops[i]?=some oi) (hj:ops[j]?=some oj)
  (h1:∀K':Act→World→Prop,(∀a' w',C1 w'∧wpU P ops Q L ri C1 a' w'→K' a' w')→if Region.wanted oi (yielded ops a.tmps)=true then Oper.wp P oi a w K' Q else K' (a.put oi.dst undef) w)
  (h2:∀K':Act→World→Prop,(∀a' w',C2 w'∧wpU P ops Q L rj C2 a' w'→K' a' w')→if Region.wanted oj (yielded ops a.tmps)=true then Oper.wp P oj a w K' Q else K' (a.put oj.dst undef) w) :
  wpU P ops Q L (.fork i ri j rj) C a w:=⟨⟨C1,hC1,wpOp_step hi (fun K' hK=>h1 K' hK)⟩,⟨C2,hC2,wpOp_step hj (fun K' hK=>h2 K' hK)⟩⟩
theorem wpU_fork3 (C1 C2 C3:World→Prop) (hC1:∀w,C1 w→C w) (hC2:∀w,C2 w→C w) (hC3:∀w,C3 w→C w) (hi:ops[i]?=some oi) (hj:ops[j]?=some oj) (hk:ops[k]?=some ok)
  (h1:∀K':Act→World→Prop,(∀a' w',C1 w'∧wpU P ops Q L ri C1 a' w'→K' a' w')→if Region.wanted oi (yielded ops a.tmps)=true then Oper.wp P oi a w K' Q else K' (a.put oi.dst undef) w)
  (h2:∀K':Act→World→Prop,(∀a' w',C2 w'∧wpU P ops Q L rj C2 a' w'→K' a' w')→if Region.wanted oj (yielded ops a.tmps)=true then Oper.wp P oj a w K' Q else K' (a.put oj.dst undef) w)
  (h3:∀K':Act→World→Prop,(∀a' w',C3 w'∧wpU P ops Q L rk C3 a' w'→K' a' w')→if Region.wanted ok (yielded ops a.tmps)=true then Oper.wp P ok a w K' Q else K' (a.put ok.dst undef) w) :
  wpU P ops Q L (.fork3 i ri j rj k rk) C a w:=⟨⟨C1,hC1,wpOp_step hi (fun K' hK=>h1 K' hK)⟩,⟨C2,hC2,wpOp_step hj (fun K' hK=>h2 K' hK)⟩,⟨C3,hC3,wpOp_step hk (fun K' hK=>h3 K' hK)⟩⟩
end
end Go.Proofs.YtcikldoaidmnhaaGreatDoor
