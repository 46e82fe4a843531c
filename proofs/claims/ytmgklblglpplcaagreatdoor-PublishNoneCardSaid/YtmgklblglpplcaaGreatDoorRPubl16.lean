/- Parts: The state of a walk in memory: what is known, its maps, gates and triangles. No condition. -/
import Derived.Test.YtmgklblglpplcaaGreatDoorRPubl1
import Derived.Test.YtmgklblglpplcaaGreatDoorRPubl2
import Derived.Test.YtmgklblglpplcaaGreatDoorRPubl3
import Derived.Test.YtmgklblglpplcaaGreatDoorRPubl4
import Derived.Test.YtmgklblglpplcaaGreatDoorRPubl5
import Derived.Test.YtmgklblglpplcaaGreatDoorRPubl6
import Derived.Test.YtmgklblglpplcaaGreatDoorRPubl8
import Derived.Test.YtmgklblglpplcaaGreatDoorRPubl9
import Derived.Test.YtmgklblglpplcaaGreatDoorRPubl10
import Derived.Test.YtmgklblglpplcaaGreatDoorRPubl12
import Derived.Test.YtmgklblglpplcaaGreatDoorRPubl13
import Derived.Test.YtmgklblglpplcaaGreatDoorRPubl14
import Derived.Test.YtmgklblglpplcaaGreatDoorRPubl15
import Derived.WalkKit
import Derived.WalkSpells
import Derived.WalkLawsBesides
import Derived.Lib.Hide
import Derived.BigQuiet
import Derived.Deep.DeepFit
import Derived.Deep.DeepCutAuto
import Derived.Deep.AppendLies
import Derived.Deep.QuietTactic
import Derived.Maps.OwnOps
import Derived.Maps.OwnSet
import Derived.Maps.RangeWalk
import Derived.WideKeyEntry
import Derived.Deep.MidRow
import Derived.Lib.Bits
import Derived.Test.YtmgklblglpplcaaGreatDoorRows
import Derived.Deep.RegionHeld3
import Derived.StillTail
import Derived.Laws.EntriesVeiled
import Derived.Handy
import Derived.DeepKeys4
import Derived.ArgAppend
import Derived.Deep.Upon
import Derived.Deep.CutBlock
import Derived.Test.YtmgklblglpplcaaGreatDoorShelf2
namespace Go.Proofs.YtmgklblglpplcaaGreatDoor
open Go Go.RowKit Pk
set_option maxRecDepth 100000
noncomputable def kGate:Kd Tryz.prog Gate:={ T:=184,S:=180,k:=9,bytes:=72,enc:=triC,len:=fun _=>rfl,one:=kTri.one,pos:=by decide,small:=by decide,und:=Tryz.underlying180,info:=kinfo_of (by kernel_rfl) }
def atF (known:List Pt):Pt→Option Int:=fun p=>if p∈known then some ((known.idxOf p:Nat):Int) else none
structure SComp (w:World) (S:Wk) (vK vG vT:Value) (ba bu:Nat):Prop where
 at_:kitAt.At w ba S.known.length (atF S.known)
 used:kitUsed.At w bu (3*S.tris.length) (setF (edgesL S.tris))
 known:kPt.Own 0 w vK S.known
 gates:kGate.Que 0 w vG S.gates
 tris:kTri.Own 0 w vT S.tris
 ab:ba≠bu
structure SLive (w:World) (b:Nat) (S:Wk) (vK vG vT:Value) (ba bu:Nat):Prop where
 blk:w.heap[b]?=some (.cells #[vK,.map (some ba),.map (some bu),vG,vT] 182 (0,0))
 comp:SComp w S vK vG vT ba bu
def sFoot (b:Nat) (vK vG vT:Value) (ba bu:Nat):Nat→Prop:=fun k=>k=b∨k=ba∨k=bu∨vK.ownBlock=some k∨vG.ownBlock=some k∨vT.ownBlock=some k
def SRep (w:World) (b:Nat) (S:Wk) (G:Nat→Prop):Prop:=∃vK vG vT ba bu,SLive w b S vK vG vT ba bu∧G=sFoot b vK vG vT ba bu
theorem own_keepB {α:Type} {K:Kd Tryz.prog α} {w w':World} {v:Value} {l:List α} (h:K.Own 0 w v l) (hk:∀g,v.ownBlock=some g→w'.heap[g]?=w.heap[g]?):K.Own 0 w' v l:=ownsRow_keep h hk
theorem SComp.keepB {w w':World} {S:Wk} {vK vG vT:Value} {ba bu:Nat} (h:SComp w S vK vG vT ba bu) (hk:∀k,k=ba∨k=bu∨vK.ownBlock=some k∨vG.ownBlock=some k∨vT.ownBlock=some k→w'.heap[k]?=w.heap[k]?):SComp w' S vK vG vT ba bu:=
 ⟨h.at_.heap (fun _ ho=>(hk ba (.inl rfl)).trans ho),h.used.heap (fun _ ho=>(hk bu (.inr (.inl rfl))).trans ho),own_keepB h.known (fun g hg=>hk g (.inr (.inr (.inl hg)))),h.gates.keepB (fun g hg=>hk g (.inr (.inr (.inr (.inl hg))))),own_keepB h.tris (fun g hg=>hk g (.inr (.inr (.inr (.inr hg))))),h.ab⟩
theorem SLive.keepB {w w':World} {b:Nat} {S:Wk} {vK vG vT:Value} {ba bu:Nat} (h:SLive w b S vK vG vT ba bu) (hk:∀k,sFoot b vK vG vT ba bu k→w'.heap[k]?=w.heap[k]?):SLive w' b S vK vG vT ba bu:=
 ⟨(hk b (.inl rfl)).trans h.blk,h.comp.keepB (fun k hk'=>hk k (.inr hk'))⟩
theorem SRep.keepB {w w':World} {b:Nat} {S:Wk} {G:Nat→Prop} (h:SRep w b S G) (hk:∀k,G k→w'.heap[k]?=w.heap[k]?):SRep w' b S G:=by
 obtain ⟨vK,vG,vT,ba,bu,h1,rfl⟩:=h;exact ⟨vK,vG,vT,ba,bu,h1.keepB hk,rfl⟩
theorem own_lt {α:Type} {K:Kd Tryz.prog α} {w:World} {v:Value} {l:List α} (h:K.Own 0 w v l) {g:Nat} (hg:v.ownBlock=some g):g<w.heap.size:=by obtain ⟨_,cur,hc⟩:=h.blk hg;exact lt_of_heap hc
theorem que_lt {α:Type} {K:Kd Tryz.prog α} {w:World} {v:Value} {l:List α} (h:K.Que 0 w v l) {g:Nat} (hg:v.ownBlock=some g):g<w.heap.size:=by obtain ⟨_,cur,hc⟩:=h.blk hg;exact lt_of_heap hc
theorem SLive.lt {w:World} {b:Nat} {S:Wk} {vK vG vT:Value} {ba bu:Nat} (h:SLive w b S vK vG vT ba bu):∀k,sFoot b vK vG vT ba bu k→k<w.heap.size:=by
 rintro k (rfl | rfl | rfl | hk | hk | hk)
 ·exact lt_of_heap h.blk
 ·obtain ⟨es,cl,hh⟩:=h.comp.at_.blk;exact lt_of_heap hh
 ·obtain ⟨es,cl,hh⟩:=h.comp.used.blk;exact lt_of_heap hh
 ·exact own_lt h.comp.known hk
 ·exact que_lt h.comp.gates hk
 ·exact own_lt h.comp.tris hk
theorem SRep.lt {w:World} {b:Nat} {S:Wk} {G:Nat→Prop} (h:SRep w b S G):∀k,G k→k<w.heap.size:=by
 obtain ⟨vK,vG,vT,ba,bu,h1,rfl⟩:=h;exact h1.lt
theorem SRep.upd {w w':World} {b:Nat} {S:Wk} {G F:Nat→Prop} (h:SRep w b S G) (hu:Upd F w w') (hd:∀k,G k→¬F k):SRep w' b S G:=h.keepB (fun k hk=>hu.block k (h.lt k hk) (hd k hk))
theorem SLive.upd {w w':World} {b:Nat} {S:Wk} {vK vG vT:Value} {ba bu:Nat} {F:Nat→Prop} (h:SLive w b S vK vG vT ba bu) (hu:Upd F w w') (hd:∀k,sFoot b vK vG vT ba bu k→¬F k):SLive w' b S vK vG vT ba bu:=h.keepB (fun k hk=>hu.block k (h.lt k hk) (hd k hk))
theorem ne_obj {w:World} {i j:Nat} {o o':Obj} (h:w.heap[i]?=some o) (h':w.heap[j]?=some o') (hne:o≠o'):i≠j:=fun e=>by subst e;rw [h] at h';exact hne (Option.some.inj h')
structure SNe (b:Nat) (vK vG vT:Value) (ba bu:Nat):Prop where
 nba:ba≠b
 nbu:bu≠b
 k:vK.ownBlock≠some b
 g:vG.ownBlock≠some b
 t:vT.ownBlock≠some b
 ka:vK.ownBlock≠some ba
 ku:vK.ownBlock≠some bu
 ga:vG.ownBlock≠some ba
 gu:vG.ownBlock≠some bu
 ta:vT.ownBlock≠some ba
 tu:vT.ownBlock≠some bu
 kg:∀i,vK.ownBlock=some i→vG.ownBlock≠some i
 kt:∀i,vK.ownBlock=some i→vT.ownBlock≠some i
 gt:∀i,vG.ownBlock=some i→vT.ownBlock≠some i
theorem SComp.ne {w:World} {b:Nat} {S:Wk} {vK vG vT:Value} {ba bu:Nat} (h:SComp w S vK vG vT ba bu) {cs:Array Value} (hb:w.heap[b]?=some (.cells cs 182 (0,0))):SNe b vK vG vT ba bu:=by
 obtain ⟨e1,c1,ha⟩:=h.at_.blk;obtain ⟨e2,c2,hu⟩:=h.used.blk;have tk:kPt.T=167:=rfl;have tg:kGate.T=184:=rfl;have tt:kTri.T=169:=rfl;refine ⟨ne_obj ha hb (by simp),ne_obj hu hb (by simp),fun e=>?_,fun e=>?_,fun e=>?_,fun e=>?_,fun e=>?_,fun e=>?_,fun e=>?_,fun e=>?_,fun e=>?_,fun i e e'=>?_,fun i e e'=>?_,fun i e e'=>?_⟩
 ·obtain ⟨_,cur,hc⟩:=h.known.blk e;exact ne_obj hc hb (by rw [tk];simp) rfl
 ·obtain ⟨_,cur,hc⟩:=h.gates.blk e;exact ne_obj hc hb (by rw [tg];simp) rfl
 ·obtain ⟨_,cur,hc⟩:=h.tris.blk e;exact ne_obj hc hb (by rw [tt];simp) rfl
 ·obtain ⟨_,cur,hc⟩:=h.known.blk e;exact ne_obj hc ha (by simp) rfl
 ·obtain ⟨_,cur,hc⟩:=h.known.blk e;exact ne_obj hc hu (by simp) rfl
 ·obtain ⟨_,cur,hc⟩:=h.gates.blk e;exact ne_obj hc ha (by simp) rfl
 ·obtain ⟨_,cur,hc⟩:=h.gates.blk e;exact ne_obj hc hu (by simp) rfl
 ·obtain ⟨_,cur,hc⟩:=h.tris.blk e;exact ne_obj hc ha (by simp) rfl
 ·obtain ⟨_,cur,hc⟩:=h.tris.blk e;exact ne_obj hc hu (by simp) rfl
 ·obtain ⟨_,cur,hc⟩:=h.known.blk e;obtain ⟨_,cur',hc'⟩:=h.gates.blk e';exact ne_obj hc hc' (by rw [tk,tg];simp) rfl
 ·obtain ⟨_,cur,hc⟩:=h.known.blk e;obtain ⟨_,cur',hc'⟩:=h.tris.blk e';exact ne_obj hc hc' (by rw [tk,tt];simp) rfl
 ·obtain ⟨_,cur,hc⟩:=h.gates.blk e;obtain ⟨_,cur',hc'⟩:=h.tris.blk e';exact ne_obj hc hc' (by rw [tg,tt];simp) rfl
theorem SLive.ne {w:World} {b:Nat} {S:Wk} {vK vG vT:Value} {ba bu:Nat} (h:SLive w b S vK vG vT ba bu):SNe b vK vG vT ba bu:=h.comp.ne h.blk
theorem SLive.put {w:World} {b:Nat} {S:Wk} {vK vG vT:Value} {ba bu:Nat} {cs:Array Value} (hb:w.heap[b]?=some (.cells cs 182 (0,0))) (hc:SComp w S vK vG vT ba bu) (i:Nat) (v:Value) (hcs:cs.setIfInBounds i v=#[vK,.map (some ba),.map (some bu),vG,vT]) :
  SLive (w.setCell ⟨b,i,none⟩ v) b S vK vG vT ba bu:=by
 have hn:=hc.ne hb;refine ⟨by rw [heap_setCell_eq (i:=i) v hb,hcs],hc.keepB (fun k hk=>?_)⟩;refine heap_setCell_other w ⟨b,i,none⟩ k v (fun e=>?_);have e':k=b:=e;subst e';rcases hk with h | h | h | h | h
 ·exact hn.nba h.symm
 ·exact hn.nbu h.symm
 ·exact hn.k h
 ·exact hn.g h
 ·exact hn.t h
def SPost (G:Nat→Prop) (w w':World) (b:Nat) (S:Wk):Prop:=∃G',SRep w' b S G'∧(∀k,G' k→G k∨w.heap.size≤k)∧Upd G w w'
theorem cells5 {w:World} {b:Nat} {x0 x1 x2 x3 x4:Value} {t:TypeId} (h:w.heap[b]?=some (.cells #[x0,x1,x2,x3,x4] t (0,0))) :
  (w.cell? ⟨b,0,none⟩=some x0∧w.cell? ⟨b,1,none⟩=some x1∧w.cell? ⟨b,2,none⟩=some x2∧w.cell? ⟨b,3,none⟩=some x3∧w.cell? ⟨b,4,none⟩=some x4) ∧
  (w.frozen? ⟨b,0,none⟩=false∧w.frozen? ⟨b,1,none⟩=false∧w.frozen? ⟨b,2,none⟩=false∧w.frozen? ⟨b,3,none⟩=false∧w.frozen? ⟨b,4,none⟩=false):=by simp [World.cell?,World.frozen?,h]
end Go.Proofs.YtmgklblglpplcaaGreatDoor
