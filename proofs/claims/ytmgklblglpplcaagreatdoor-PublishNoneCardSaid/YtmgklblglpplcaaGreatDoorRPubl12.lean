/- Parts: The maps of the packets' program: keyed by points and by edges. No condition. Walks of exact.Less. No condition. Walks of the program's mesh: comparing triangles. No condition. -/
import Derived.Test.YtmgklblglpplcaaGreatDoorRPubl2
import Derived.Test.YtmgklblglpplcaaGreatDoorRPubl3
import Derived.Test.YtmgklblglpplcaaGreatDoorRPubl6
import Derived.Test.YtmgklblglpplcaaGreatDoorRPubl8
import Derived.Test.YtmgklblglpplcaaGreatDoorRPubl9
import Derived.WalkKit
import Derived.WalkSpells
import Derived.WalkLawsBesides
import Derived.Lib.Hide
import Derived.BigQuiet
import Derived.Deep.DeepFit
import Derived.Deep.DeepCutAuto
import Derived.Deep.AppendLies
import Derived.Deep.QuietTactic
import Derived.Lib.Bits
import Derived.Test.YtmgklblglpplcaaGreatDoorRows
import Derived.Deep.RegionHeld3
import Derived.StillTail
import Derived.Laws.EntriesVeiled
import Derived.Handy
import Derived.Maps.OwnOps
import Derived.Maps.OwnSet
import Derived.Maps.RangeWalk
import Derived.WideKeyEntry
import Derived.Deep.MidRow
import Derived.DeepKeys4
namespace Go.Proofs.YtmgklblglpplcaaGreatDoor
open Go Go.RowKit Pk
set_option maxRecDepth 100000
def ptV (p:Pt):Value:=.agg #[.int .i64 p.1,.int .i64 p.2.1,.int .i64 p.2.2]
structure Gr (w w':World):Prop where
 up:Upd noBlk w w'
 dr:w.drawn≤w'.drawn
theorem Gr.refl (w:World):Gr w w:=⟨Upd.refl _ _,Nat.le_refl _⟩
theorem Gr.trans {a b c:World} (h:Gr a b) (k:Gr b c):Gr a c:=⟨h.up.trans k.up,Nat.le_trans h.dr k.dr⟩
theorem Gr.alloc {a w:World} (h:Gr a w) (o:Obj):Gr a (w.alloc o):=⟨h.up.alloc o,h.dr⟩
theorem Gr.drew {a w:World} (h:Gr a w):Gr a w.drew:=⟨h.up.drew,Nat.le_trans h.dr (Nat.le_succ _)⟩
theorem Gr.heap {w w':World} {b:Nat} {o:Obj} (h:Gr w w') (hb:w.heap[b]?=some o) (hf:¬noBlk b):w'.heap[b]?=some o:=h.up.heap hb hf
theorem Gr.cell {w w':World} {a:Addr} {v:Value} (h:Gr w w') (hv:w.cell? a=some v) (hf:¬noBlk a.block):w'.cell? a=some v:=h.up.cell hv hf
end Go.Proofs.YtmgklblglpplcaaGreatDoor
namespace Go.Proofs.YtmgklblglpplcaaGreatDoor
open Go Go.RowKit Pk
set_option maxRecDepth 100000
def triC (t:Tri):List Value:=[.int .i64 t.1.1,.int .i64 t.1.2.1,.int .i64 t.1.2.2,.int .i64 t.2.1.1,.int .i64 t.2.1.2.1,.int .i64 t.2.1.2.2,.int .i64 t.2.2.1,.int .i64 t.2.2.2.1,.int .i64 t.2.2.2.2]
def triV (t:Tri):Value:=.agg (triC t).toArray
theorem cells9 {w:World} {b:Nat} {x0 x1 x2 x3 x4 x5 x6 x7 x8:Value} {t:TypeId} {fr:Nat × Nat} (h:w.heap[b]?=some (.cells #[x0,x1,x2,x3,x4,x5,x6,x7,x8] t fr)) :
  w.cell? ⟨b,0,none⟩=some x0∧w.cell? ⟨b,1,none⟩=some x1∧w.cell? ⟨b,2,none⟩=some x2∧w.cell? ⟨b,3,none⟩=some x3∧w.cell? ⟨b,4,none⟩=some x4∧w.cell? ⟨b,5,none⟩=some x5∧w.cell? ⟨b,6,none⟩=some x6∧w.cell? ⟨b,7,none⟩=some x7∧w.cell? ⟨b,8,none⟩=some x8:=by simp [World.cell?,h]
end Go.Proofs.YtmgklblglpplcaaGreatDoor
namespace Go.Proofs.YtmgklblglpplcaaGreatDoor
open Go Go.RowKit Pk
set_option maxRecDepth 100000
theorem laidOutM:laidOutB Tryz.prog=true:=by kernel_rfl
theorem lawPt:Go.WideMaps.KeyLaw Tryz.prog 167:=deep_law_laid laidOutM (m:=10) (by decide) (of_decide_eq_true (by kernel_rfl)) (by kernel_rfl) (by kernel_rfl)
theorem keyedPt:Maps.Keyed Tryz.prog 167:=Maps.Keyed.of_law lawPt
theorem keyedE:Maps.Keyed Tryz.prog 171:=Maps.Keyed.of_law (deep_law_laid laidOutM (m:=10) (by decide) (of_decide_eq_true (by kernel_rfl)) (by kernel_rfl) (by kernel_rfl))
def ok64 (n:Int):Prop:=-9223372036854775808≤n∧n≤9223372036854775807
theorem wf64 {n:Int} (h:ok64 n):(Lit.int .i64 n).wf=true:=by
 obtain ⟨h1,h2⟩:=h;simp [Lit.wf,IntKind.min,IntKind.max,IntKind.signed,IntKind.bits];omega
def okP (p:Pt):Prop:=ok64 p.1∧ok64 p.2.1∧ok64 p.2.2
def okT (t:Tri):Prop:=okP t.1∧okP t.2.1∧okP t.2.2
def klPt (p:Pt):Lit:=.string (keyBytes [.int .i64 p.1,.int .i64 p.2.1,.int .i64 p.2.2])
theorem keyPt {p:Pt} (h:okP p):keyOf Tryz.prog 167 (ptV p)=some (klPt p):=by
 obtain ⟨x,y,z⟩:=p;obtain ⟨h1,h2,h3⟩:=h;have wx:=wf64 h1;have wy:=wf64 h2;have wz:=wf64 h3;have hkt:Tryz.prog.keyType 167=true:=by kernel_rfl
 obtain ⟨m,hm⟩:∃m,Tryz.prog.types.size=m+1:=⟨Tryz.prog.types.size-1,by kernel_rfl⟩;have hcl:Tryz.prog.cellsOf 167=3:=by kernel_rfl
 have hci:Tryz.prog.cellsOf 3=1:=by kernel_rfl
 unfold keyOf ptV klPt;simp only [Tryz.underlying167];rw [if_pos (by simp [hkt,Value.formed,Tryz.underlying167,hcl]),hm];unfold Program.keyLits;simp only [Tryz.underlying167,Value.cells];rw [if_pos ⟨by rw [hcl];rfl,by kernel_rfl⟩];simp [Program.keyLits,Tryz.underlying3,hci,wx,wy,wz]
abbrev Ed:=Pt × Pt
def okE (e:Ed):Prop:=okP e.1∧okP e.2
def edV (e:Ed):Value:=.agg #[.int .i64 e.1.1,.int .i64 e.1.2.1,.int .i64 e.1.2.2,.int .i64 e.2.1,.int .i64 e.2.2.1,.int .i64 e.2.2.2]
def klE (e:Ed):Lit:=.string (keyBytes [.int .i64 e.1.1,.int .i64 e.1.2.1,.int .i64 e.1.2.2,.int .i64 e.2.1,.int .i64 e.2.2.1,.int .i64 e.2.2.2])
theorem keyLitsPt {p:Pt} (h:okP p) (m:Nat):Tryz.prog.keyLits (m+2) 167 [.int .i64 p.1,.int .i64 p.2.1,.int .i64 p.2.2]=some [.int .i64 p.1,.int .i64 p.2.1,.int .i64 p.2.2]:=by
 obtain ⟨h1,h2,h3⟩:=h;have wx:=wf64 h1;have wy:=wf64 h2;have wz:=wf64 h3;have hcl:Tryz.prog.cellsOf 167=3:=by kernel_rfl
 have hci:Tryz.prog.cellsOf 3=1:=by kernel_rfl
 unfold Program.keyLits;simp only [Tryz.underlying167];rw [if_pos ⟨by rw [hcl];rfl,by kernel_rfl⟩];simp [Program.keyLits,Tryz.underlying3,hci,wx,wy,wz]
theorem keyE {e:Ed} (h:okE e):keyOf Tryz.prog 171 (edV e)=some (klE e):=by
 obtain ⟨p,q⟩:=e;obtain ⟨h1,h2⟩:=h;have hkt:Tryz.prog.keyType 171=true:=by kernel_rfl
 obtain ⟨m,hm⟩:∃m,Tryz.prog.types.size=m+2:=⟨Tryz.prog.types.size-2,by kernel_rfl⟩;have hcl:Tryz.prog.cellsOf 171=6:=by kernel_rfl
 have hci:Tryz.prog.cellsOf 167=3:=by kernel_rfl
 have kp:=keyLitsPt h1 m;have kq:=keyLitsPt h2 m;unfold keyOf edV klE;simp only [Tryz.underlying171];rw [if_pos (by simp [hkt,Value.formed,Tryz.underlying171,hcl]),hm];unfold Program.keyLits;simp only [Tryz.underlying171,Value.cells];rw [if_pos ⟨by rw [hcl];rfl,by kernel_rfl⟩];simp [hci,kp,kq]
theorem ptV_inj (a b:Pt) (h:ptV a=ptV b):a=b:=by
 obtain ⟨a1,a2,a3⟩:=a;obtain ⟨b1,b2,b3⟩:=b;simpa [ptV] using h
theorem edV_inj (a b:Ed) (h:edV a=edV b):a=b:=by
 obtain ⟨⟨a1,a2,a3⟩,⟨a4,a5,a6⟩⟩:=a;obtain ⟨⟨b1,b2,b3⟩,⟨b4,b5,b6⟩⟩:=b;simp only [edV,Value.agg.injEq,Array.mk.injEq,List.cons.injEq,Value.int.injEq,true_and,and_true] at h;obtain ⟨rfl,rfl,rfl,rfl,rfl,rfl⟩:=h;rfl
theorem zero_int (w:World):(zeroValue 3).run Tryz.prog w=.ok (.int .i64 0) w:=by kernel_rfl
theorem zero_bool (w:World):(zeroValue 4).run Tryz.prog w=.ok (.bool false) w:=by kernel_rfl
theorem klE_inj {a b:Ed} (ha:okE a) (hb:okE b) (h:klE a=klE b):a=b:=by
 have h1:=keyE ha;have h2:=keyE hb;rw [←h] at h2;exact edV_inj a b (keyedE.inj h1 h2)
theorem klPt_inj {a b:Pt} (ha:okP a) (hb:okP b) (h:klPt a=klPt b):a=b:=by
 have h1:=keyPt ha;have h2:=keyPt hb;rw [←h] at h2;exact ptV_inj a b (keyedPt.inj h1 h2)
noncomputable def kitUsed:MapKit Tryz.prog Ed Bool:={ t:=179,k:=171,e:=4,encK:=edV,klK:=klE,goodK:=okE,encV:=.bool,dV:=fun b=>.lit (.bool b),goodV:=fun _=>True,zero:=false,R:=mkR (fun _=>True) Value.bool (fun b=>.lit (.bool b)),keyed:=keyedE,ht:=Tryz.underlying179,hkey:=fun _ h=>keyE h,inj:=fun _ _=>klE_inj,hval:=fun b hb=>mkR_val (fun _ _ e=>by cases e;rfl) b hb,hinv:=fun _ _ h=>mkR_inv (fun _ _ e=>by cases e;rfl) h,dinj:=fun _ _ _ _ e=>by cases e;rfl,hz:=zero_bool,gz:=trivial }
noncomputable def kitAt:MapKit Tryz.prog Pt Int:={ t:=178,k:=167,e:=3,encK:=ptV,klK:=klPt,goodK:=okP,encV:=.int .i64,dV:=fun n=>.lit (.int .i64 n),goodV:=fun _=>True,zero:=0,R:=mkR (fun _=>True) (Value.int .i64) (fun n=>.lit (.int .i64 n)),keyed:=keyedPt,ht:=Tryz.underlying178,hkey:=fun _ h=>keyPt h,inj:=fun _ _=>klPt_inj,hval:=fun b hb=>mkR_val (fun _ _ e=>by cases e;rfl) b hb,hinv:=fun _ _ h=>mkR_inv (fun _ _ e=>by cases e;rfl) h,dinj:=fun _ _ _ _ e=>by cases e;rfl,hz:=zero_int,gz:=trivial }
end Go.Proofs.YtmgklblglpplcaaGreatDoor
