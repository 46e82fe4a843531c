/- Parts: Maps made by stores, as functions: the last store of each key; how often a key was counted. No condition. Walks of the coder: NewWriter. Walks of the coder: the reader's Bit. slices.SortFunc over triangles, by the program's own order: the row holds the ordered list. No condition. -/
import Derived.Test.YtcikldoaidmnhaaGreatDoorRSpoi1
import Derived.Test.YtcikldoaidmnhaaGreatDoorRSpoi3
import Derived.Test.YtcikldoaidmnhaaGreatDoorRSpoi4
import Derived.Test.YtcikldoaidmnhaaGreatDoorRSpoi5
import Derived.Test.YtcikldoaidmnhaaGreatDoorRSpoi6
import Derived.Test.YtcikldoaidmnhaaGreatDoorRSpoi7
import Derived.Test.YtcikldoaidmnhaaGreatDoorRSpoi9
import Derived.WalkKit
import Derived.WalkSpells
import Derived.WalkLawsBesides
import Derived.Lib.Hide
import Derived.BigQuiet
import Derived.Deep.DeepFit
import Derived.Deep.DeepCutAuto
import Derived.Deep.AppendLies
import Derived.Deep.QuietTactic
import Derived.Lib.Bits
import Derived.Deep.MidRow
import Derived.Test.YtcikldoaidmnhaaGreatDoorRows
import Derived.Deep.RegionHeld3
import Derived.StillTail
import Derived.Laws.EntriesVeiled
import Derived.Handy
import Derived.Deep.CutBlock
import Derived.Test.YtcikldoaidmnhaaGreatDoorShelf2
namespace Go.Proofs.YtcikldoaidmnhaaGreatDoor
open Go Go.RowKit
namespace Pk
def putAll {κ β:Type} [DecidableEq κ] (ps:List (κ × β)):κ→Option β:=ps.foldl (fun f p=>fun c=>if c=p.1 then some p.2 else f c) (fun _=>none)
theorem putAll_snoc {κ β:Type} [DecidableEq κ] (ps:List (κ × β)) (k:κ) (v:β):(fun c=>if c=k then some v else putAll ps c)=putAll (ps++[(k,v)]):=by unfold putAll;rw [List.foldl_append];rfl
theorem put_from {κ β:Type} [DecidableEq κ] (e:κ):∀(ps:List (κ × β)) (f:κ→Option β),(e∉ps.map (·.1)→ps.foldl (fun f p=>fun c=>if c=p.1 then some p.2 else f c) f e=f e)∧(∀v,(ps.map (·.1)).Nodup→(e,v)∈ps→ps.foldl (fun f p=>fun c=>if c=p.1 then some p.2 else f c) f e=some v)
 | [],f=>⟨fun _=>rfl,fun v _ h=>(by cases h)⟩
 | p :: ps,f=>by
  obtain ⟨h1,h2⟩:=put_from e ps (fun c=>if c=p.1 then some p.2 else f c);refine ⟨fun h=>?_,fun v hn h=>?_⟩
  ·simp only [List.map_cons,List.mem_cons,not_or] at h;rw [List.foldl_cons,h1 h.2,if_neg h.1]
  ·rw [List.map_cons,List.nodup_cons] at hn;rw [List.foldl_cons];rcases List.mem_cons.1 h with h | h
   ·subst h;rw [h1 hn.1,if_pos rfl]
   ·exact h2 v hn.2 h
theorem putAll_none {κ β:Type} [DecidableEq κ] {ps:List (κ × β)} {e:κ} (h:e∉ps.map (·.1)):putAll ps e=none:=(put_from e ps _).1 h
theorem putAll_some {κ β:Type} [DecidableEq κ] {ps:List (κ × β)} {e:κ} {v:β} (hn:(ps.map (·.1)).Nodup) (h:(e,v)∈ps):putAll ps e=some v:=(put_from e ps _).2 v hn h
def pairsT (t:Tri):List ((Pt × Pt) × Pt):=[((t.1,t.2.1),t.2.2),((t.2.1,t.2.2),t.1),((t.2.2,t.1),t.2.1)]
def pairsL (l:List Tri):List ((Pt × Pt) × Pt):=l.flatMap pairsT
theorem pairsL_snoc (l:List Tri) (t:Tri):pairsL (l++[t])=pairsL l++[((t.1,t.2.1),t.2.2)]++[((t.2.1,t.2.2),t.1)]++[((t.2.2,t.1),t.2.1)]:=by unfold pairsL;rw [List.flatMap_append];simp [pairsT]
theorem pairsL_keys (l:List Tri):(pairsL l).map (·.1)=edgesL l:=by
 induction l with
 | nil=>rfl
 | cons t l ih=>
  show (pairsT t++pairsL l).map (·.1)=edgesT t++edgesL l;rw [List.map_append,ih];rfl
theorem putAll_pairs {l:List Tri} (hn:(edgesL l).Nodup) (e:Pt × Pt):putAll (pairsL l) e=third l e.1 e.2:=by
 have hk:=pairsL_keys l;cases h:third l e.1 e.2 with
 | none=>
  refine putAll_none ?_;rw [hk];intro hm;have:=third_isSome l e.1 e.2;rw [h,decide_eq_true hm] at this;cases this
 | some r=>
  refine putAll_some (by rw [hk];exact hn) ?_;obtain ⟨t,k1,k2⟩:=third_some h;refine List.mem_flatMap.2 ⟨t,k1,?_⟩;obtain ⟨p,q⟩:=e;obtain ⟨a,b,c⟩:=t;rcases k2 with k2 | k2 | k2<;>(cases k2;simp [pairsT])
def cntF (ps:List Pt):Pt→Option Int:=fun p=>if p∈ps then some (ps.count p:Nat) else none
theorem cntF_val (ps:List Pt) (p:Pt):(cntF ps p).getD 0=((ps.count p:Nat):Int):=by
 unfold cntF;by_cases h:p∈ps
 ·rw [if_pos h];rfl
 ·rw [if_neg h,List.count_eq_zero_of_not_mem h];rfl
theorem cntF_snoc (ps:List Pt) (p:Pt) {n:Int} (hn:n=((ps.count p:Nat):Int)+1):(fun c=>if c=p then some n else cntF ps c)=cntF (ps++[p]):=by
 subst hn;funext c
 unfold cntF;by_cases h:c=p
 ·subst h;rw [if_pos rfl,if_pos (by simp)];simp [List.count_append]
 ·rw [if_neg h];by_cases h2:c∈ps
  ·rw [if_pos h2,if_pos (by simp [h2]),List.count_append];have:[p].count c=0:=List.count_eq_zero_of_not_mem (by simp [h]);rw [this];rfl
  ·rw [if_neg h2,if_neg (by simp [h2,h])]
theorem corners_snoc (l:List Tri) (t:Tri):(l++[t]).flatMap cornT=l.flatMap cornT++[t.1]++[t.2.1]++[t.2.2]:=by rw [List.flatMap_append];simp [cornT]
theorem corners_len (l:List Tri):(l.flatMap cornT).length=3*l.length:=by
 induction l with
 | nil=>rfl
 | cons t l ih=>rw [List.flatMap_cons,List.length_append,ih,List.length_cons,show (cornT t).length=3 from rfl];omega
end Pk
end Go.Proofs.YtcikldoaidmnhaaGreatDoor
namespace Go.Proofs.YtcikldoaidmnhaaGreatDoor
open Go Go.RowKit Pk Go.Shelf Go.Lib Go.Sort
set_option maxRecDepth 100000
theorem orL_neg (a b c:Int):(orL a b c<0)↔(a<0∨(a=0∧(b<0∨(b=0∧c<0)))):=by
 unfold orL;by_cases h1:a=0
 ·subst h1;by_cases h2:b=0
  ·subst h2;simp
  ·simp [h2]
 ·simp [h1]
theorem cmpP_neg (a b:Pt):cmpP a b<0↔ptLt a b=true:=by
 unfold cmpP;by_cases h:ptLt a b=true
 ·simp [h]
 ·by_cases h2:ptLt b a=true<;>simp [h,h2]
theorem cmpP_zero (a b:Pt):cmpP a b=0↔a=b:=by
 unfold cmpP;by_cases h:ptLt a b=true
 ·rw [if_pos h];exact ⟨fun e=>by omega,fun e=>by rw [e,ptLt_irrefl] at h;cases h⟩
 ·rw [if_neg h];by_cases h2:ptLt b a=true
  ·rw [if_pos h2];exact ⟨fun e=>by omega,fun e=>by rw [e,ptLt_irrefl] at h2;cases h2⟩
  ·rw [if_neg h2];exact ⟨fun _=>ptLt_total (by simpa using h) (by simpa using h2),fun _=>rfl⟩
theorem cmpT_lt (s t:Tri):ltOf cmpT s t=triLt s t:=by
 unfold ltOf cmpT triLt;have h:=orL_neg (cmpP s.1 t.1) (cmpP s.2.1 t.2.1) (cmpP s.2.2 t.2.2);rw [cmpP_neg,cmpP_neg,cmpP_neg,cmpP_zero,cmpP_zero] at h;rw [Bool.eq_iff_iff,decide_eq_true_eq,h];by_cases e1:s.1=t.1
 ·rw [if_neg (by simp [e1])];by_cases e2:s.2.1=t.2.1
  ·rw [if_neg (by simp [e2])];simp [e1,e2,ptLt_irrefl]
  ·rw [if_pos e2];simp [e1,e2,ptLt_irrefl]
 ·rw [if_pos e1];simp [e1]
theorem ltOf_tri:(ltOf cmpT)=triLt:=funext fun s=>funext fun t=>cmpT_lt s t
theorem swoT:SWO (ltOf cmpT):=by
 rw [ltOf_tri];refine ⟨triLt_irrefl,fun _ _ _=>triLt_trans,fun x y z h1 h2=>?_⟩;have:=triLe_trans z y x (by unfold triLe;rw [h2];rfl) (by unfold triLe;rw [h1];rfl);unfold triLe at this;simpa using this
theorem Gr.shape {w w':World} (h:Gr w w'):∃q os',w'=grow (w.drewN q) os':=by
 obtain ⟨hu,hd⟩:=h;refine ⟨w'.drawn-w.drawn,w'.heap.extract w.heap.size w'.heap.size,?_⟩;have h1:=hu.os;have h2:=hu.tape;have h3:=hu.output;have h4:=hu.size;have hh:w'.heap=w.heap++w'.heap.extract w.heap.size w'.heap.size:=by
  apply Array.ext_getElem?;intro k;by_cases hk:k<w.heap.size
  ·rw [hu.block k hk id,Array.getElem?_append_left hk]
  ·rw [Array.getElem?_append_right (by omega),Array.getElem?_extract];by_cases hk2:k<w'.heap.size
   ·rw [if_pos (by omega),show w.heap.size+(k-w.heap.size)=k by omega]
   ·rw [if_neg (by omega),Array.getElem?_eq_none (by omega)]
 obtain ⟨he,ta,dr,os,ou⟩:=w';obtain ⟨he0,ta0,dr0,os0,ou0⟩:=w;simp only at h1 h2 h3 h4 hd hh;subst h1 h2 h3;unfold grow World.drewN;simp only [World.mk.injEq,true_and,and_true];refine ⟨hh,?_⟩
 try omega
theorem cmpLaysT (blk off size:Nat) (w:World):CmpLays Tryz.prog 95 #[] triC 9 cmpT blk off size w:=fun m os dk _ x y=>by
 refine (compareTris_any x y _).mono ?_;rintro e w' ⟨rfl,hg⟩;exact ⟨rfl,hg.shape⟩
instance:Inhabited Tri:=⟨((0,0,0),(0,0,0),(0,0,0))⟩
theorem holdsT {w:World} {base g cap:Nat} {l:List Tri} (h:kTri.Own base w (.slice (some ⟨g,0,none⟩) l.length cap) l):HoldsK triC 9 w g 0 l.toArray:=by
 intro j hj;have hj':j<l.length*9:=by simpa using hj
 have hq:j / 9<l.length:=by omega
 have e:=kTri.flat_get l (j / 9) hq (j % 9) (Nat.mod_lt _ (by decide));have e2:j / 9*9+j % 9=j:=by omega
 have e3:(l.flatMap kTri.enc)[j]?=(triC l[j / 9])[j % 9]?:=by
  have e':(l.flatMap kTri.enc)[j / 9*9+j % 9]?=(triC l[j / 9])[j % 9]?:=e;rwa [e2] at e'
 have hc:=World.ownsRow.cellAt h j hj';rw [Nat.zero_add,hc];refine ⟨?_,World.ownsRow.frozenAt h j⟩;have hlen:j % 9<(triC l[j / 9]).length:=Nat.mod_lt _ (by decide);have hg:(flatK triC 9 l.toArray)[j]! = (triC l[j / 9])[j % 9]!:=by
  rw [get_flatK _ _ _ _ (by simpa using hj')];congr 1
  rw [getElem!_pos _ _ (by simpa using hq)];simp
 show (l.flatMap kTri.enc)[j]?=some ((flatK triC 9 l.toArray)[j]!);rw [hg,e3,List.getElem?_eq_getElem hlen,List.getElem!_eq_getElem?_getD,List.getElem?_eq_getElem hlen];rfl
theorem triLe_of:(fun x y:Tri=>!(ltOf cmpT) y x)=triLe:=by rw [ltOf_tri];rfl
theorem sort_any {base:Nat} (v:Value) (l:List Tri) (hl:l.length<4611686018427387904) (w:World) (h:kTri.Own base w v l) :
  Calls Tryz.prog 94 #[v,.func (.func 95) #[] #[]] w fun en w'=>en=.returned (.tuple #[])∧kTri.Rd w' v (l.mergeSort triLe)∧Upd (fun k=>v.ownBlock=some k) w w':=by
 obtain ⟨A,cap,hv,hc⟩:=h.form;subst hv;rcases Nat.eq_zero_or_pos l.length with h0 | h0
 ·have hn:=AnyF.slices_SortFunc_none (P:=Tryz.prog) (ρ:=Tryz.sortTri_ren) { Tryz.sortTri with } A cap (.func (.func 95) #[] #[]) w;change Calls Tryz.prog 94 _ _ _ at hn;have hl0:l=[]:=List.eq_nil_of_length_eq_zero h0;subst hl0;refine hn.mono ?_;rintro e w' ⟨rfl,rfl⟩;exact ⟨rfl,⟨A,cap,by simp,by simp,fun h=>absurd h (by simp)⟩,Upd.refl _ _⟩
 ·obtain ⟨g,rfl,hg⟩:∃g,A=some ⟨g,0,none⟩∧g<w.heap.size:=by
   rcases h.2 with ⟨_,h1⟩ | ⟨g,c,cur,e,h1,h2,_⟩
   ·omega
   ·cases e;exact ⟨g,rfl,lt_of_heap h2⟩
  have eg:∀args w,(callFunc 95 args).run Tryz.prog w=.ok (.enter 95 args) w:=enters_of Tryz.func95 (by kernel_rfl) rfl;have hH:=holdsT h;have hs:=AnyQ.slices_SortFunc_total Tryz.sortTri 9 Tryz.isAgg45 Tryz.sizeOf45 triC (fun _=>rfl) kTri.one cmpT swoT 95 #[] g 0 cap l.toArray w eg (cmpLaysT _ _ _ _) hH hg (by simpa using hl) (fun x y h1 h2=>by rw [cmpT_lt] at h1 h2;exact triLt_total h1 h2);change Calls Tryz.prog 94 _ _ _ at hs;rw [List.size_toArray] at hs;refine hs.mono ?_;rintro e w' ⟨rfl,n,os,rfl⟩;rw [triLe_of];have hp:(l.mergeSort triLe).length=l.length:=List.length_mergeSort l;have hH2:HoldsK triC 9 (sortWorldK triC 9 w g 0 n (l.mergeSort triLe).toArray os) g 0 (l.mergeSort triLe).toArray:=holdsK_sortWorldK_c triC 9 w g 0 l.toArray (l.mergeSort triLe).toArray n os hH hg (by simp);refine ⟨rfl,⟨some ⟨g,0,none⟩,cap,by rw [hp],by omega,fun _=>⟨g,0,rfl,fun j hj i v hv=>?_⟩⟩,?_⟩
  ·have hi:i<9:=(List.getElem?_eq_some_iff.1 hv).1;have:=(hH2.cell (i:=j) (c:=i) (by simpa using hj) hi).1;have e1:(l.mergeSort triLe).toArray[j]! = (l.mergeSort triLe)[j]:=by rw [getElem!_pos _ _ (by simpa using hj)];simp
   rw [e1] at this;have e2:(triC (l.mergeSort triLe)[j])[i]! = v:=by
    rw [getElem!_pos _ _ (by exact hi)];exact (List.getElem?_eq_some_iff.1 hv).2
   rw [e2] at this;exact this
  ·refine ⟨rfl,rfl,rfl,size_sortWorldK_c triC 9 w g 0 n _ os,fun k hk hF=>?_⟩;have hne:g≠k:=fun e=>hF (by rw [e];rfl);unfold sortWorldK grow putRowK putRow mapBlock;simp only;rw [Array.getElem?_append_left (by simpa [Sort.ahead] using hk),Array.getElem?_modify,if_neg hne];rfl
end Go.Proofs.YtcikldoaidmnhaaGreatDoor
namespace Go.Proofs.YtcikldoaidmnhaaGreatDoor
open Go Go.RowKit Pc
set_option maxRecDepth 100000
set_option maxHeartbeats 400000 in
theorem NewWriter_any (w:World):Calls Tryz.prog 45 #[] w fun e w'=>e=.returned (.pointer (some ⟨w.heap.size,0,none⟩))∧w.alloc (.cells wZero 159)=w':=by
 go_enter Tryz.func45,Tryz.ntmps45
 go_wp2
 go_ret
 exact ⟨rfl,rfl⟩
theorem NewWriter_rep (w:World):WRep (w.alloc (.cells wZero 159)) w.heap.size E.init (·=w.heap.size):=.inl ⟨rfl,heap_alloc_new w _,rfl⟩
end Go.Proofs.YtcikldoaidmnhaaGreatDoor
namespace Go.Proofs.YtcikldoaidmnhaaGreatDoor
open Go Go.RowKit Pc
set_option maxRecDepth 100000
def nx (left:List Nat) (off:Nat):List Nat × Nat:=
 match left with
 | []=>([],off*256 % 4294967296)
 | x :: r=>(r,(off*256+x) % 4294967296)
theorem next_eq (d:D):d.next=⟨d.m,(nx d.left d.off).1,(nx d.left d.off).2⟩:=by
 unfold D.next nx;split<;>rename_i h<;>simp [h]
theorem or_byte (off x:Nat) (hx:x<256):bits .or .u32 ((off:Int)*256 % 4294967296) (x:Int)=(((off*256+x) % 4294967296:Nat):Int):=by
 have e:(off:Int)*256 % 4294967296=((off*256 % 4294967296:Nat):Int):=by omega
 rw [e,u32_or_nat _ _ (by omega) (by omega),nat_join 8 _ _ (by omega) (by omega)];congr 1
 omega
set_option maxHeartbeats 1000000 in
theorem next_any (b:Nat) (c0 c1:Value) (T:TypeId) (left:List Nat) (off:Nat) (hoff:off<4294967296) (hl:∀d,d∈left→d<256) (w:World)
  (hb:w.heap[b]?=some (.cells #[c0,c1,.string (str left),.int .u32 off] T (0,0))) :
  Calls Tryz.prog 176 #[.pointer (some ⟨b,0,none⟩)] w fun e w'=>e=.returned (.tuple #[]) ∧
   w'.heap[b]?=some (.cells #[c0,c1,.string (str (nx left off).1),.int .u32 ((nx left off).2:Nat)] T (0,0))∧Upd (·=b) w w':=by
 have h2:w.cell? ⟨b,2,none⟩=some (.string (str left)):=by rw [cell_of_row w b 2 _ _ _ hb];rfl
 have h3:w.cell? ⟨b,3,none⟩=some (.int .u32 off):=by rw [cell_of_row w b 3 _ _ _ hb];rfl
 have f2:=frozen_of_row w b 2 _ _ hb;have f3:=frozen_of_row w b 3 _ _ hb;have ho:(off:Int)<4294967296:=by omega
 rcases left with _ | ⟨x,r⟩
 ·have hs:(str []).toList=[]:=str_toList _;clear hoff hl;go_enter Tryz.func176,Tryz.ntmps176
  go_wp2
  go_end0
  have hor:bits .or .u32 ((off:Int)*256 % 4294967296) 0=((nx [] off).2:Nat):=(or_byte off 0 (by omega)).trans rfl;rw [hor];exact ⟨rfl,heap_setCell_eq (i:=3) _ hb,(Upd.refl (·=b) w).setCell (fun _=>rfl) _⟩
 ·have hs:(str (x :: r)).toList=UInt8.ofNat x :: r.map UInt8.ofNat:=str_toList _;have hx:(x:Int)<256:=by have:=hl x (by simp);omega
  have hz:(str (x :: r)).size=r.length+1:=by rw [str_size];simp
  have hi:∀(h:0<(str (x :: r)).size),((str (x :: r))[0]'h).toNat=x:=fun h=>str_get (by simp) hl h;clear hoff hl;go_enter Tryz.func176,Tryz.ntmps176
  go_wp2
  go_region
  go_wp2
  go_end0
  have hor:=or_byte off x (by omega);have hex:(str (x :: r)).extract 1 (r.length+1)=str r:=by rw [str_extract];simp
  simp only [hor,hex];exact ⟨by trivial,heap_setCell_eq (w:=w.drew.setCell ⟨b,2,none⟩ _) (i:=3) _ (heap_setCell_eq (w:=w.drew) (i:=2) _ hb),((((Upd.refl (·=b) w).drew).setCell (fun _=>rfl) _).setCell (fun _=>rfl) _)⟩
structure RLive (w:World) (b wb:Nat) (d:D):Prop where
 wf:d.Wf
 blk:w.heap[b]?=some (.cells #[.slice (some ⟨wb,0,none⟩) 4096 4096,.int .u32 d.m.size,.string (str d.left),.int .u32 d.off] 227 (0,0))
 wt:Wts w wb d.m.p
 n1:b≠wb
def rFoot (b wb:Nat):Nat→Prop:=fun k=>k=b∨k=wb
def RRep (w:World) (b:Nat) (d:D) (F:Nat→Prop):Prop:=
 (∃code,(∀x,x∈code→x<256)∧d=D.ofCode code∧w.heap[b]?=some (.cells #[.slice none 0 0,.int .u32 0,.string (str code),.int .u32 0] 227 (0,0))∧F=(·=b))∨∃wb,RLive w b wb d∧F=rFoot b wb
theorem RLive.keep {w w':World} {b wb:Nat} {d:D} (h:RLive w b wb d) (hk:∀k,rFoot b wb k→w'.heap[k]?=w.heap[k]?):RLive w' b wb d:=
 ⟨h.wf,(hk b (.inl rfl)).trans h.blk,h.wt.keep (hk wb (.inr rfl)),h.n1⟩
theorem RRep.keep {w w':World} {b:Nat} {d:D} {F:Nat→Prop} (h:RRep w b d F) (hk:∀k,F k→w'.heap[k]?=w.heap[k]?):RRep w' b d F:=by
 rcases h with ⟨code,h0,h1,h2,rfl⟩ | ⟨wb,h1,rfl⟩
 ·exact .inl ⟨code,h0,h1,(hk b rfl).trans h2,rfl⟩
 ·exact .inr ⟨wb,h1.keep hk,rfl⟩
theorem RLive.lt {w:World} {b wb:Nat} {d:D} (h:RLive w b wb d):∀k,rFoot b wb k→k<w.heap.size:=by
 rintro k (rfl | rfl)
 ·exact lt_of_heap h.blk
 ·exact h.wt.lt
theorem RRep.lt {w:World} {b:Nat} {d:D} {F:Nat→Prop} (h:RRep w b d F):∀k,F k→k<w.heap.size:=by
 rcases h with ⟨code,h0,h1,h2,rfl⟩ | ⟨wb,h1,rfl⟩
 ·intro k hk;subst hk;exact lt_of_heap h2
 ·exact h1.lt
theorem RRep.upd {w w':World} {b:Nat} {d:D} {F G:Nat→Prop} (h:RRep w b d F) (hu:Upd G w w') (hd:∀k,F k→¬G k):RRep w' b d F:=
 h.keep fun k hk=>hu.block k (h.lt k hk) (hd k hk)
theorem RRep.wf {w:World} {b:Nat} {d:D} {F:Nat→Prop} (h:RRep w b d F):d.Wf:=by
 rcases h with ⟨code,h0,h1,h2,rfl⟩ | ⟨wb,h1,rfl⟩
 ·rw [h1];exact D.ofCode_wf h0
 ·exact h1.wf
theorem next_R (b wb:Nat) (d:D) (w:World) (h:RLive w b wb d) :
  Calls Tryz.prog 176 #[.pointer (some ⟨b,0,none⟩)] w fun e w'=>e=.returned (.tuple #[])∧RLive w' b wb d.next∧Upd (·=b) w w':=by
 refine (next_any b _ _ _ d.left d.off h.wf.off h.wf.left w h.blk).mono ?_;rintro e w' ⟨rfl,h1,h2⟩;have hw:=D.next_wf h.wf;rw [next_eq] at hw ⊢;exact ⟨rfl,⟨hw,h1,h.wt.keep (h2.block wb h.wt.lt (fun x=>h.n1 x.symm)),h.n1⟩,h2⟩
def nextN:Nat→D→D
 | 0,d=>d
 | n+1,d=>(nextN n d).next
theorem upd_R (c:Int) (one:Bool) (b wb:Nat) (d:D) (w:World) (h:RLive w b wb d) :
  Calls Tryz.prog 103 #[.pointer (some ⟨b,0,none⟩),.int .i64 c,.bool one,.func (.func 176) #[.pointer (some ⟨b,0,none⟩)] #[]] w fun en w'=>en=.returned (.tuple #[]) ∧
   RLive w' b wb (if d.m.shifts (ctx c) one then (D.next ⟨d.m.step (ctx c) one,d.left,d.off⟩) else ⟨d.m.step (ctx c) one,d.left,d.off⟩)∧Upd (rFoot b wb) w w':=by
 have hw:D.Wf ⟨d.m.step (ctx c) one,d.left,d.off⟩:=⟨M.step_wf h.wf.m (ctx_lt c) one,h.wf.off,h.wf.left⟩;refine update_R c one b wb b d.m h.wf.m w _ _ h.blk rfl rfl h.wt h.n1 _ ?_ ?_
 ·intro hs w' hu;rw [hs];exact ⟨⟨hw,hu.blk,hu.wt,h.n1⟩,hu.up⟩
 ·intro hs w' hu;rw [hs];refine (next_R b wb ⟨d.m.step (ctx c) one,d.left,d.off⟩ w' ⟨hw,hu.blk,hu.wt,h.n1⟩).mono ?_;rintro en w'' ⟨rfl,h1,h2⟩;refine ⟨rfl,?_,h1,hu.up.trans (h2.mono fun k _ hk=>.inl hk)⟩;rw [cell_of_row w'' b 1 _ _ _ h1.blk,next_eq];rfl
theorem begin_R (b:Nat) (d:D) (F:Nat→Prop) (w:World) (h:RRep w b d F) :
  Calls Tryz.prog 99 #[.pointer (some ⟨b,0,none⟩)] w fun en w'=>∃r wb d0,en=.returned (.bool r)∧RLive w' b wb d0∧d=(if r then nextN 4 d0 else d0)∧Upd F w w'∧∀k,rFoot b wb k→F k∨w.heap.size≤k:=by
 rcases h with ⟨code,h0,rfl,h2,rfl⟩ | ⟨wb,h1,rfl⟩
 ·refine (begin_new b w _ 227 h2 rfl (by show 1<4;decide)).mono ?_;rintro en w' ⟨rfl,wb,hlt,hb,hwt,hup⟩;have hlb:=lt_of_heap h2;refine ⟨true,wb,⟨M.init,code,0⟩,rfl,⟨⟨M.init_wf,by show 0<4294967296;omega,h0⟩,hb,hwt,by omega⟩,rfl,hup,?_⟩;rintro k (rfl | rfl)
  ·exact .inl rfl
  ·exact .inr hlt
 ·have hc:w.cell? ⟨b,0,none⟩=some (.slice (some ⟨wb,0,none⟩) 4096 4096):=by rw [cell_of_row w b 0 _ _ _ h1.blk];rfl
  refine (begin_old b w _ _ _ hc).mono ?_;rintro en w' ⟨rfl,rfl⟩;exact ⟨false,wb,d,rfl,h1,rfl,Upd.refl _ _,fun k hk=>.inl hk⟩
structure RAt (w wr:World) (b wb:Nat) (d:D) (F:Nat→Prop):Prop where
 live:RLive wr b wb d
 up:Upd F w wr
 foot:∀k,rFoot b wb k→F k∨w.heap.size≤k
theorem RAt.step {w wr w2:World} {b wb:Nat} {d d2:D} {F:Nat→Prop} (h:RAt w wr b wb d F) (hl:RLive w2 b wb d2) (hu:Upd (rFoot b wb) wr w2):RAt w w2 b wb d2 F:=
 ⟨hl,h.up.then hu (fun i hi hf=>(h.foot i hf).elim id (fun x=>absurd hi (by omega))),h.foot⟩
theorem RAt.done {w wr:World} {b wb:Nat} {d:D} {F:Nat→Prop} (h:RAt w wr b wb d F):∃F',RRep wr b d F'∧Upd F w wr∧∀k,F' k→F k∨w.heap.size≤k:=
 ⟨_,.inr ⟨wb,h.live,rfl⟩,h.up,h.foot⟩
theorem RLive.setOff {w:World} {b wb:Nat} {d:D} (h:RLive w b wb d) {off:Nat} (ho:off<4294967296) (n:Nat) :
  RLive ((w.drewN n).setCell ⟨b,3,none⟩ (.int .u32 off)) b wb ⟨d.m,d.left,off⟩:=
 ⟨⟨h.wf.m,ho,h.wf.left⟩,heap_setCell_eq (w:=w.drewN n) (i:=3) _ h.blk,h.wt.keep (heap_setCell_other (w.drewN n) ⟨b,3,none⟩ wb _ (fun x=>h.n1 x.symm)),h.n1⟩
theorem RLive.drew {w:World} {b wb:Nat} {d:D} (h:RLive w b wb d) (n:Nat):RLive (w.drewN n) b wb d:=h.keep fun _ _=>rfl
theorem bit_of {d:D} {c:Int} {one:Bool} (h:d.one c=one):(if d.m.shifts (ctx c) one then (D.next ⟨d.m.step (ctx c) one,d.left,d.off1 c⟩) else ⟨d.m.step (ctx c) one,d.left,d.off1 c⟩)=d.bit c:=by
 unfold D.bit;rw [h]
set_option maxHeartbeats 1000000 in
theorem RBit_any (b:Nat) (c:Int) (d:D) (F:Nat→Prop) (w:World) (h:RRep w b d F) :
  Calls Tryz.prog 151 #[.pointer (some ⟨b,0,none⟩),.int .i64 c] w fun en w'=>en=.returned (.bool (d.one c)) ∧
   ∃F',RRep w' b (d.bit c) F'∧Upd F w w'∧∀k,F' k→F k∨w.heap.size≤k:=by
 go_enter Tryz.func151,Tryz.ntmps151
 go_wp2_with fail
 refine (begin_R b d F w h).mono ?_;rintro en w1 ⟨r,wb,d0,rfl,h1,hd,h2,h3⟩;have HA:Hid (RAt w w1 b wb d0 F):=⟨h1,h2,h3⟩;have HD:=Lib.hid hd;clear h1 hd h2 h3 h;go_upto_if 12 with (fail)
 go_cut [] (fun wc=>RAt w wc b wb d F)
 case first=>
  cases r
  ·go_wp2_with fail
   go_meet
   rw [HD.out];exact HA.out
  ·go_wp2_with fail
   go_loopw [13] (fun i wr=>∃k:Nat,i=.int .i64 k∧k≤4∧RAt w wr b wb (nextN k d0) F) (fun i _=>4-(intOf i).toNat)
   case atStart=>exact ⟨0,rfl,by omega,HA.out⟩
   case round=>
    obtain ⟨k,rfl,hk,ha⟩:=hrel;have HR:=Lib.hid ha;clear ha;by_cases hlt:k<4
    ·go_wp2_with (go_at_call 176;refine (next_R b wb _ _ HR.out.live).mono ?_;rintro e w2 ⟨rfl,q1,q2⟩)
     go_roundw
     case rel=>exact ⟨k+1,by go_num,hlt,HR.out.step q1 (q2.mono fun k _ hk=>.inl hk)⟩
     case measure=>simp [intOf];omega
    ·obtain rfl:k=4:=by omega
     go_wp2_with fail
     go_meet
     rw [HD.out];exact HR.out
 case rest=>
  have HC:=Lib.hid hcut;have c0:wc.cell? ⟨b,0,none⟩=some (.slice (some ⟨wb,0,none⟩) 4096 4096):=by rw [cell_of_row wc b 0 _ _ _ hcut.live.blk];rfl
  have c1:wc.cell? ⟨b,1,none⟩=some (.int .u32 d.m.size):=by rw [cell_of_row wc b 1 _ _ _ hcut.live.blk];rfl
  have c3:wc.cell? ⟨b,3,none⟩=some (.int .u32 d.off):=by rw [cell_of_row wc b 3 _ _ _ hcut.live.blk];rfl
  have f1:=frozen_of_row wc b 1 _ _ hcut.live.blk;have f3:=frozen_of_row wc b 3 _ _ hcut.live.blk;have hmod:Hid (Mod wc b wb d.m):=⟨c0,c1,f1,hcut.live.wt,hcut.live.n1⟩;have hwf:=hcut.live.wf;clear hcut;by_cases ho:d.m.split (ctx c)≤d.off
  ·have e1:d.one c=true:=by unfold D.one;simpa using ho
   have e2:d.off1 c=d.off-d.m.split (ctx c):=by unfold D.off1;rw [e1];simp
   have t1:((d.m.split (ctx c):Nat):Int)≤(d.off:Int):=by omega
   have t2:((d.off:Int)-((d.m.split (ctx c):Nat):Int)) % 4294967296=((d.off1 c:Nat):Int):=by have:=hwf.off;rw [e2];omega
   have E1:=Lib.hid e1;clear e1 e2 ho;go_wp2_with (first | (go_at_call 101;refine (split_any _ _ _ _ hwf.m _ hmod.out).mono ?_;rintro e w' ⟨rfl,n,rfl⟩))
   have hl2:=Lib.hid (HC.out.live.setOff (D.off1_lt hwf c) n);refine (upd_R c true b wb ⟨d.m,d.left,d.off1 c⟩ _ hl2.out).mono ?_;rintro en w3 ⟨rfl,q1,q2⟩;have Q1:Hid (RLive w3 b wb (d.bit c)):=by have:=q1;rw [bit_of E1.out] at this;exact this
   have Q2:Hid (Upd (rFoot b wb) wc w3):=((Upd.ofDrewN wc n).setCell (fun _=>.inl rfl) _).trans q2;clear q1 q2;go_wp2
   go_ret
   exact ⟨by rw [E1.out];rfl,(HC.out.step Q1.out Q2.out).done⟩
  ·have e1:d.one c=false:=by unfold D.one;simpa using ho
   have e2:d.off1 c=d.off:=by unfold D.off1;rw [e1];simp
   have t1:¬((d.m.split (ctx c):Nat):Int)≤(d.off:Int):=by omega
   have E1:=Lib.hid e1;have E2:=Lib.hid e2;clear e1 e2 ho;go_wp2_with (first | (go_at_call 101;refine (split_any _ _ _ _ hwf.m _ hmod.out).mono ?_;rintro e w' ⟨rfl,n,rfl⟩))
   refine (upd_R c false b wb d _ (HC.out.live.drew n)).mono ?_;rintro en w3 ⟨rfl,q1,q2⟩;have Q1:Hid (RLive w3 b wb (d.bit c)):=by have:=q1;rw [←bit_of E1.out,E2.out];exact this
   have Q2:Hid (Upd (rFoot b wb) wc w3):=(Upd.ofDrewN wc n).trans q2;clear q1 q2;go_wp2
   go_ret
   exact ⟨by rw [E1.out];rfl,(HC.out.step Q1.out Q2.out).done⟩
end Go.Proofs.YtcikldoaidmnhaaGreatDoor
