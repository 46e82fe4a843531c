/- Parts: The maps of the packets' program: keyed by points and by edges. No condition. -/
import Derived.Test.YtcikldoaidmnhaaGreatDoorRSpoi3
import Derived.Test.YtcikldoaidmnhaaGreatDoorRSpoi6
import Derived.Test.YtcikldoaidmnhaaGreatDoorRSpoi7
import Derived.WalkKit
import Derived.WalkSpells
import Derived.WalkLawsBesides
import Derived.Lib.Hide
import Derived.BigQuiet
import Derived.Deep.DeepFit
import Derived.Deep.DeepCutAuto
import Derived.Deep.AppendLies
import Derived.Deep.QuietTactic
import Derived.Maps.OwnOps
import Derived.Maps.OwnSet
import Derived.Maps.RangeWalk
import Derived.WideKeyEntry
import Derived.Deep.MidRow
import Derived.Lib.Bits
import Derived.Test.YtcikldoaidmnhaaGreatDoorRows
import Derived.Deep.RegionHeld3
import Derived.StillTail
import Derived.Laws.EntriesVeiled
import Derived.Handy
import Derived.DeepKeys4
namespace Go.Proofs.YtcikldoaidmnhaaGreatDoor
open Go Go.RowKit Pk
set_option maxRecDepth 100000
theorem laidOutM:laidOutB Tryz.prog=true:=by kernel_rfl
theorem lawPt:Go.WideMaps.KeyLaw Tryz.prog 43:=deep_law_laid laidOutM (m:=10) (by decide) (of_decide_eq_true (by kernel_rfl)) (by kernel_rfl) (by kernel_rfl)
theorem keyedPt:Maps.Keyed Tryz.prog 43:=Maps.Keyed.of_law lawPt
theorem keyedE:Maps.Keyed Tryz.prog 89:=Maps.Keyed.of_law (deep_law_laid laidOutM (m:=10) (by decide) (of_decide_eq_true (by kernel_rfl)) (by kernel_rfl) (by kernel_rfl))
theorem keyedM:Maps.Keyed Tryz.prog 258:=Maps.Keyed.of_law (deep_law_laid laidOutM (m:=10) (by decide) (of_decide_eq_true (by kernel_rfl)) (by kernel_rfl) (by kernel_rfl))
def ok64 (n:Int):Prop:=-9223372036854775808≤n∧n≤9223372036854775807
theorem wf64 {n:Int} (h:ok64 n):(Lit.int .i64 n).wf=true:=by
 obtain ⟨h1,h2⟩:=h;simp [Lit.wf,IntKind.min,IntKind.max,IntKind.signed,IntKind.bits];omega
def okP (p:Pt):Prop:=ok64 p.1∧ok64 p.2.1∧ok64 p.2.2
def okT (t:Tri):Prop:=okP t.1∧okP t.2.1∧okP t.2.2
def klPt (p:Pt):Lit:=.string (keyBytes [.int .i64 p.1,.int .i64 p.2.1,.int .i64 p.2.2])
theorem keyPt {p:Pt} (h:okP p):keyOf Tryz.prog 43 (ptV p)=some (klPt p):=by
 obtain ⟨x,y,z⟩:=p;obtain ⟨h1,h2,h3⟩:=h;have wx:=wf64 h1;have wy:=wf64 h2;have wz:=wf64 h3;have hkt:Tryz.prog.keyType 43=true:=by kernel_rfl
 obtain ⟨m,hm⟩:∃m,Tryz.prog.types.size=m+1:=⟨Tryz.prog.types.size-1,by kernel_rfl⟩;have hcl:Tryz.prog.cellsOf 43=3:=by kernel_rfl
 have hci:Tryz.prog.cellsOf 3=1:=by kernel_rfl
 unfold keyOf ptV klPt;simp only [Tryz.underlying43];rw [if_pos (by simp [hkt,Value.formed,Tryz.underlying43,hcl]),hm];unfold Program.keyLits;simp only [Tryz.underlying43,Value.cells];rw [if_pos ⟨by rw [hcl];rfl,by kernel_rfl⟩];simp [Program.keyLits,Tryz.underlying3,hci,wx,wy,wz]
abbrev Ed:=Pt × Pt
def okE (e:Ed):Prop:=okP e.1∧okP e.2
def edV (e:Ed):Value:=.agg #[.int .i64 e.1.1,.int .i64 e.1.2.1,.int .i64 e.1.2.2,.int .i64 e.2.1,.int .i64 e.2.2.1,.int .i64 e.2.2.2]
def klE (e:Ed):Lit:=.string (keyBytes [.int .i64 e.1.1,.int .i64 e.1.2.1,.int .i64 e.1.2.2,.int .i64 e.2.1,.int .i64 e.2.2.1,.int .i64 e.2.2.2])
theorem keyLitsPt {p:Pt} (h:okP p) (m:Nat):Tryz.prog.keyLits (m+2) 43 [.int .i64 p.1,.int .i64 p.2.1,.int .i64 p.2.2]=some [.int .i64 p.1,.int .i64 p.2.1,.int .i64 p.2.2]:=by
 obtain ⟨h1,h2,h3⟩:=h;have wx:=wf64 h1;have wy:=wf64 h2;have wz:=wf64 h3;have hcl:Tryz.prog.cellsOf 43=3:=by kernel_rfl
 have hci:Tryz.prog.cellsOf 3=1:=by kernel_rfl
 unfold Program.keyLits;simp only [Tryz.underlying43];rw [if_pos ⟨by rw [hcl];rfl,by kernel_rfl⟩];simp [Program.keyLits,Tryz.underlying3,hci,wx,wy,wz]
theorem keyE {e:Ed} (h:okE e):keyOf Tryz.prog 89 (edV e)=some (klE e):=by
 obtain ⟨p,q⟩:=e;obtain ⟨h1,h2⟩:=h;have hkt:Tryz.prog.keyType 89=true:=by kernel_rfl
 obtain ⟨m,hm⟩:∃m,Tryz.prog.types.size=m+2:=⟨Tryz.prog.types.size-2,by kernel_rfl⟩;have hcl:Tryz.prog.cellsOf 89=6:=by kernel_rfl
 have hci:Tryz.prog.cellsOf 43=3:=by kernel_rfl
 have kp:=keyLitsPt h1 m;have kq:=keyLitsPt h2 m;unfold keyOf edV klE;simp only [Tryz.underlying89];rw [if_pos (by simp [hkt,Value.formed,Tryz.underlying89,hcl]),hm];unfold Program.keyLits;simp only [Tryz.underlying89,Value.cells];rw [if_pos ⟨by rw [hcl];rfl,by kernel_rfl⟩];simp [hci,kp,kq]
theorem keyM {e:Ed} (h:okE e):keyOf Tryz.prog 258 (edV e)=some (klE e):=by
 obtain ⟨p,q⟩:=e;obtain ⟨h1,h2⟩:=h;have hkt:Tryz.prog.keyType 258=true:=by kernel_rfl
 obtain ⟨m,hm⟩:∃m,Tryz.prog.types.size=m+2:=⟨Tryz.prog.types.size-2,by kernel_rfl⟩;have hcl:Tryz.prog.cellsOf 258=6:=by kernel_rfl
 have hci:Tryz.prog.cellsOf 43=3:=by kernel_rfl
 have kp:=keyLitsPt h1 m;have kq:=keyLitsPt h2 m;unfold keyOf edV klE;simp only [Tryz.underlying258];rw [if_pos (by simp [hkt,Value.formed,Tryz.underlying258,hcl]),hm];unfold Program.keyLits;simp only [Tryz.underlying258,Value.cells];rw [if_pos ⟨by rw [hcl];rfl,by kernel_rfl⟩];simp [hci,kp,kq]
theorem ptV_inj (a b:Pt) (h:ptV a=ptV b):a=b:=by
 obtain ⟨a1,a2,a3⟩:=a;obtain ⟨b1,b2,b3⟩:=b;simpa [ptV] using h
theorem edV_inj (a b:Ed) (h:edV a=edV b):a=b:=by
 obtain ⟨⟨a1,a2,a3⟩,⟨a4,a5,a6⟩⟩:=a;obtain ⟨⟨b1,b2,b3⟩,⟨b4,b5,b6⟩⟩:=b;simp only [edV,Value.agg.injEq,Array.mk.injEq,List.cons.injEq,Value.int.injEq,true_and,and_true] at h;obtain ⟨rfl,rfl,rfl,rfl,rfl,rfl⟩:=h;rfl
def ptD (p:Pt):DataW Unit:=.agg [.lit (.int .i64 p.1),.lit (.int .i64 p.2.1),.lit (.int .i64 p.2.2)]
theorem ptD_inj (a b:Pt) (h:ptD a=ptD b):a=b:=by
 obtain ⟨a1,a2,a3⟩:=a;obtain ⟨b1,b2,b3⟩:=b;simpa [ptD] using h
theorem zero_int (w:World):(zeroValue 3).run Tryz.prog w=.ok (.int .i64 0) w:=by kernel_rfl
theorem zero_bool (w:World):(zeroValue 4).run Tryz.prog w=.ok (.bool false) w:=by kernel_rfl
theorem zero_pt (w:World):(zeroValue 43).run Tryz.prog w=.ok (ptV (0,0,0)) w:=by kernel_rfl
theorem klE_inj {a b:Ed} (ha:okE a) (hb:okE b) (h:klE a=klE b):a=b:=by
 have h1:=keyE ha;have h2:=keyE hb;rw [←h] at h2;exact edV_inj a b (keyedE.inj h1 h2)
theorem klPt_inj {a b:Pt} (ha:okP a) (hb:okP b) (h:klPt a=klPt b):a=b:=by
 have h1:=keyPt ha;have h2:=keyPt hb;rw [←h] at h2;exact ptV_inj a b (keyedPt.inj h1 h2)
noncomputable def kitSet:MapKit Tryz.prog Ed Bool:={ t:=236,k:=258,e:=4,encK:=edV,klK:=klE,goodK:=okE,encV:=.bool,dV:=fun b=>.lit (.bool b),goodV:=fun _=>True,zero:=false,R:=mkR (fun _=>True) Value.bool (fun b=>.lit (.bool b)),keyed:=keyedM,ht:=Tryz.underlying236,hkey:=fun _ h=>keyM h,inj:=fun _ _=>klE_inj,hval:=fun b hb=>mkR_val (fun _ _ e=>by cases e;rfl) b hb,hinv:=fun _ _ h=>mkR_inv (fun _ _ e=>by cases e;rfl) h,dinj:=fun _ _ _ _ e=>by cases e;rfl,hz:=zero_bool,gz:=trivial }
noncomputable def kitUsed:MapKit Tryz.prog Ed Bool:={ t:=100,k:=89,e:=4,encK:=edV,klK:=klE,goodK:=okE,encV:=.bool,dV:=fun b=>.lit (.bool b),goodV:=fun _=>True,zero:=false,R:=mkR (fun _=>True) Value.bool (fun b=>.lit (.bool b)),keyed:=keyedE,ht:=Tryz.underlying100,hkey:=fun _ h=>keyE h,inj:=fun _ _=>klE_inj,hval:=fun b hb=>mkR_val (fun _ _ e=>by cases e;rfl) b hb,hinv:=fun _ _ h=>mkR_inv (fun _ _ e=>by cases e;rfl) h,dinj:=fun _ _ _ _ e=>by cases e;rfl,hz:=zero_bool,gz:=trivial }
noncomputable def kitThird:MapKit Tryz.prog Ed Pt:={ t:=87,k:=89,e:=43,encK:=edV,klK:=klE,goodK:=okE,encV:=ptV,dV:=ptD,goodV:=fun _=>True,zero:=(0,0,0),R:=mkR (fun _=>True) ptV ptD,keyed:=keyedE,ht:=Tryz.underlying87,hkey:=fun _ h=>keyE h,inj:=fun _ _=>klE_inj,hval:=fun b hb=>mkR_val ptV_inj b hb,hinv:=fun _ _ h=>mkR_inv ptV_inj h,dinj:=fun _ _ _ _ e=>ptD_inj _ _ e,hz:=zero_pt,gz:=trivial }
noncomputable def kitNext:MapKit Tryz.prog Ed Pt:={ t:=263,k:=258,e:=43,encK:=edV,klK:=klE,goodK:=okE,encV:=ptV,dV:=ptD,goodV:=fun _=>True,zero:=(0,0,0),R:=mkR (fun _=>True) ptV ptD,keyed:=keyedM,ht:=Tryz.underlying263,hkey:=fun _ h=>keyM h,inj:=fun _ _=>klE_inj,hval:=fun b hb=>mkR_val ptV_inj b hb,hinv:=fun _ _ h=>mkR_inv ptV_inj h,dinj:=fun _ _ _ _ e=>ptD_inj _ _ e,hz:=zero_pt,gz:=trivial }
noncomputable def kitAt:MapKit Tryz.prog Pt Int:={ t:=99,k:=43,e:=3,encK:=ptV,klK:=klPt,goodK:=okP,encV:=.int .i64,dV:=fun n=>.lit (.int .i64 n),goodV:=fun _=>True,zero:=0,R:=mkR (fun _=>True) (Value.int .i64) (fun n=>.lit (.int .i64 n)),keyed:=keyedPt,ht:=Tryz.underlying99,hkey:=fun _ h=>keyPt h,inj:=fun _ _=>klPt_inj,hval:=fun b hb=>mkR_val (fun _ _ e=>by cases e;rfl) b hb,hinv:=fun _ _ h=>mkR_inv (fun _ _ e=>by cases e;rfl) h,dinj:=fun _ _ _ _ e=>by cases e;rfl,hz:=zero_int,gz:=trivial }
end Go.Proofs.YtcikldoaidmnhaaGreatDoor
