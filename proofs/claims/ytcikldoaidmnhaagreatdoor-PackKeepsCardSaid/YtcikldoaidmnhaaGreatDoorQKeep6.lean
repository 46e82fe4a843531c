/- Parts: A shape among the arguments, as plain data. No condition. Maps as functions: one element turned in place ('m[k]++'), and kits for whatever is laid by an injective code. No condition. Opening group packets as plain functions on bytes; what is accepted is the packet of what is returned. No condition. Rows of numbers; numbers modulo others. No condition. The lists of triangles that the reference make -/
import Derived.Test.YtcikldoaidmnhaaGreatDoorQKeep1
import Derived.Test.YtcikldoaidmnhaaGreatDoorQKeep2
import Derived.Test.YtcikldoaidmnhaaGreatDoorQKeep4
import Derived.Test.YtcikldoaidmnhaaGreatDoorQKeep5
import Derived.WideKeyEntry
import Derived.DeepKeys4
namespace Go.Proofs.YtcikldoaidmnhaaGreatDoor
open Go Go.RowKit
variable {P:Program} {α β:Type}
theorem MapKit.At.entry [DecidableEq α] {K:MapKit P α β} (L:Go.WideMaps.KeyLaw P K.k) {w:World} {b n:Nat} {f:α→Option β} (h:K.At w b n f) (hn:n<maxLen) {a:α} (ha:K.goodK a) {v:β} (hv:K.goodV v) :
  ∃(v0:Value) (st:Nat) (w1 w2:World),(Instr.mapEntry K.t (.map (some b)) (K.encK a)).run P w=.ok (.tuple #[v0,goInt st]) w1∧(Instr.entryStore K.t (.map (some b)) (goInt st) (K.encV v)).run P w1=.ok () w2 ∧
   K.At w2 b (n+1) (fun c=>if c=a then some v else f c)∧Upd (fun j=>j=b) w w2:=by
 obtain ⟨w',hrun,r1,r2⟩:=h.put hn ha hv;obtain ⟨D,⟨es,clock,hb,hF,hs,hD⟩,_⟩:=h;obtain ⟨v0,st,es1,clock1,he,_,hst⟩:=Go.WideElems.entry_then_store L K.ht K.hz hb hF (K.hkey a ha);have hlt:=lt_of_heap hb;obtain ⟨es',clock',hs1,hs2⟩:=hst (Go.ChangeMaps.setBlock w b (.map es1 clock1)) (K.encV v) (by unfold Go.ChangeMaps.setBlock;simp [hlt]);refine ⟨v0,st,_,_,he,hs1,?_⟩;rw [hs2] at hrun;have e:Go.ChangeMaps.setBlock w b (.map es' clock')=w':=by cases hrun;rfl
 have e2:Go.ChangeMaps.setBlock (Go.ChangeMaps.setBlock w b (.map es1 clock1)) b (.map es' clock')=Go.ChangeMaps.setBlock w b (.map es' clock'):=by unfold Go.ChangeMaps.setBlock;simp
 rw [e2,e];exact ⟨r1,r2⟩
theorem MapKit.At.lookR {K:MapKit P α β} {w:World} {b n:Nat} {f:α→Option β} (h:K.At w b n f) {a:α} (ha:K.goodK a):(Instr.lookup K.t (.map (some b)) (K.encK a) false).run P w=.ok (K.encV ((f a).getD K.zero)) w:=by
 obtain ⟨D,h1,h2,h3,h4,h5⟩:=h;obtain ⟨v,ps,hrun,hv⟩:=h1.lookup K.keyed K.ht (K.hz w) (K.hval _ K.gz) (K.hkey a ha);obtain ⟨c,gc,rfl,hc⟩:=K.hinv v _ hv;rw [h2 a ha] at hc;have hgd:K.goodV ((f a).getD K.zero):=by
  cases hf:f a with
  | none=>exact K.gz
  | some u=>exact h5 a u hf
 have:=K.dinj _ _ hgd gc (by simpa using (Prod.mk.inj hc).1);subst this;exact hrun
theorem MapKit.At.lookOkR {K:MapKit P α β} {w:World} {b n:Nat} {f:α→Option β} (h:K.At w b n f) {a:α} (ha:K.goodK a):(Instr.lookup K.t (.map (some b)) (K.encK a) true).run P w=.ok (.tuple #[K.encV ((f a).getD K.zero),.bool (f a).isSome]) w:=by
 obtain ⟨D,h1,h2,h3,h4,h5⟩:=h;obtain ⟨v,ps,hrun,hv⟩:=h1.look_ok K.keyed K.ht (K.hz w) (K.hval _ K.gz) (K.hkey a ha);obtain ⟨c,gc,rfl,hc⟩:=K.hinv v _ hv;rw [h2 a ha] at hc;rw [h3 a ha] at hrun;have hgd:K.goodV ((f a).getD K.zero):=by
  cases hf:f a with
  | none=>exact K.gz
  | some u=>exact h5 a u hf
 have:=K.dinj _ _ hgd gc (by simpa using (Prod.mk.inj hc).1);subst this;exact hrun
theorem grown_of_upd {w w':World} (h:Upd noBlk w w'):w.grownBy w' none:=⟨h.os,h.tape,h.output,h.size,fun k hk _=>h.block k hk id⟩
theorem grown_of_upd1 {w w':World} {c:Nat} (h:Upd (fun j=>j=c) w w'):w.grownBy w' (some c):=⟨h.os,h.tape,h.output,h.size,fun k hk hc=>h.block k hk (fun e=>hc (by rw [e]))⟩
theorem MapKit.Rng.keep {K:MapKit P α β} {w w':World} {b r n:Nat} {f:α→Option β} {left:α→Bool} {cnt:Nat} (h:K.Rng w b r n f left cnt) (hu:Upd noBlk w w'):K.Rng w' b r n f left cnt:=h.kept (grown_of_upd hu) (by simp) (by simp)
theorem MapKit.Rng.other {K:MapKit P α β} {w w':World} {b r n c:Nat} {f:α→Option β} {left:α→Bool} {cnt:Nat} (h:K.Rng w b r n f left cnt) (hu:Upd (fun j=>j=c) w w') (hb:b≠c) (hr:r≠c):K.Rng w' b r n f left cnt:=h.kept (grown_of_upd1 hu) (by simpa using hb) (by simpa using hr)
theorem MapKit.At.entry2 [DecidableEq α] {K:MapKit P α β} (L:Go.WideMaps.KeyLaw P K.k) {w:World} {b n:Nat} {f:α→Option β} (h:K.At w b n f) (hn:n<maxLen) {a:α} (ha:K.goodK a) :
  ∃(st:Nat) (w1:World),(Instr.mapEntry K.t (.map (some b)) (K.encK a)).run P w=.ok (.tuple #[K.encV ((f a).getD K.zero),goInt st]) w1 ∧
   (K.At w1 b (n+1) (fun c=>if c=a then some ((f a).getD K.zero) else f c)∧Upd (fun j=>j=b) w w1) ∧
   ∀v,K.goodV v→∃w2,(Instr.entryStore K.t (.map (some b)) (goInt st) (K.encV v)).run P w1=.ok () w2∧K.At w2 b (n+1) (fun c=>if c=a then some v else f c)∧Upd (fun j=>j=b) w w2:=by
 have hl:=h.lookR ha;have hkey:=K.hkey a ha;obtain ⟨D,⟨es,clock,hb,hF,hs,hD⟩,_⟩:=id h;obtain ⟨v0,st,es1,clock1,he,_,hst⟩:=Go.WideElems.entry_then_store L K.ht K.hz hb hF hkey;have hlt:=lt_of_heap hb;have hgd:K.goodV ((f a).getD K.zero):=by
  obtain ⟨D',_,_,_,_,h5⟩:=id h;cases hf:f a with
  | none=>exact K.gz
  | some u=>exact h5 a u hf
 obtain ⟨wp,hput,p1,p2⟩:=h.put hn ha hgd;have hv0:v0=K.encV ((f a).getD K.zero)∧Go.ChangeMaps.setBlock w b (.map es1 clock1)=wp:=by
  rcases L.find w hkey es.toList hF.keys with ⟨h1,h2⟩ | ⟨j,e0,h1,h2,h3⟩
  ·simp [Instr.mapEntry,run_underlying K.ht,MapKept.run_getObj_map hb,L.check w false hkey,h1,K.hz,MapKept.run_setObj_map _ hb,Result.andThen] at he;simp [Instr.lookup,run_underlying K.ht,MapKept.run_getObj_map hb,L.check w es.isEmpty hkey,h1,K.hz,Result.andThen] at hl;simp [Instr.mapUpdate,run_underlying K.ht,MapKept.run_getObj_map hb,L.check w false hkey,h1,MapKept.run_setObj_map _ hb,Result.andThen] at hput;rw [←hl] at hput;exact ⟨by rw [←he.1.1];exact hl,he.2.symm.trans hput⟩
  ·have hj:es[j]?=some e0:=by simpa using h2
   simp [Instr.mapEntry,run_underlying K.ht,MapKept.run_getObj_map hb,L.check w false hkey,h1,hj,Result.andThen] at he;rw [h3,L.stays w hkey] at he;simp [MapKept.run_setObj_map _ hb] at he;simp [Instr.lookup,run_underlying K.ht,MapKept.run_getObj_map hb,L.check w es.isEmpty hkey,h1,Result.andThen] at hl;simp [Instr.mapUpdate,run_underlying K.ht,MapKept.run_getObj_map hb,L.check w false hkey,h1,hj,Result.andThen] at hput;rw [h3,L.stays w hkey] at hput;simp [MapKept.run_setObj_map _ hb] at hput;have hmod:es.modify j (fun e=>{ key:=K.encK a,val:=e.val,born:=e.born })=es.modify j (fun e=>{ key:=K.encK a,val:=K.encV ((f a).getD K.zero),born:=e.born }):=by
    apply Array.ext_getElem?;intro i;rw [Array.getElem?_modify,Array.getElem?_modify];by_cases hi:j=i
    ·subst hi;rw [if_pos rfl,if_pos rfl,hj];simp [hl]
    ·rw [if_neg hi,if_neg hi]
   rw [←hmod] at hput;exact ⟨by rw [←he.1.1];exact hl,he.2.symm.trans hput⟩
 obtain ⟨rfl,hw1⟩:=hv0;refine ⟨st,_,he,⟨hw1 ▸ p1,hw1 ▸ p2⟩,fun v hv=>?_⟩;obtain ⟨w',hrun,r1,r2⟩:=h.put hn ha hv;obtain ⟨es',clock',hs1,hs2⟩:=hst (Go.ChangeMaps.setBlock w b (.map es1 clock1)) (K.encV v) (by unfold Go.ChangeMaps.setBlock;simp [hlt]);rw [hs2] at hrun;have e:Go.ChangeMaps.setBlock w b (.map es' clock')=w':=by cases hrun;rfl
 have e2:Go.ChangeMaps.setBlock (Go.ChangeMaps.setBlock w b (.map es1 clock1)) b (.map es' clock')=Go.ChangeMaps.setBlock w b (.map es' clock'):=by unfold Go.ChangeMaps.setBlock;simp
 rw [e2,e] at hs1;exact ⟨w',hs1,r1,r2⟩
noncomputable def mkR (goodV:β→Prop) (encV:β→Value) (dV:β→DataW Unit):Value→Option (DataW Unit × List MemPlace):=fun v=>
 open Classical in if h:∃b,goodV b∧v=encV b then some (dV h.choose,[]) else none
theorem mkR_val {goodV:β→Prop} {encV:β→Value} {dV:β→DataW Unit} (hi:∀a b,encV a=encV b→a=b) (b:β) (hb:goodV b):mkR goodV encV dV (encV b)=some (dV b,[]):=by
 unfold mkR;have h:∃c,goodV c∧encV b=encV c:=⟨b,hb,rfl⟩;rw [dif_pos h];have e:h.choose=b:=(hi b h.choose h.choose_spec.2).symm;rw [e]
theorem mkR_inv {goodV:β→Prop} {encV:β→Value} {dV:β→DataW Unit} (hi:∀a b,encV a=encV b→a=b) {v:Value} {y:DataW Unit × List MemPlace} (h:mkR goodV encV dV v=some y):∃b,goodV b∧v=encV b∧y=(dV b,[]):=by
 by_cases hex:∃b,goodV b∧v=encV b
 ·obtain ⟨b,hb,rfl⟩:=hex;rw [mkR_val hi b hb] at h;exact ⟨b,hb,rfl,(Option.some.inj h).symm⟩
 ·unfold mkR at h;rw [dif_neg hex] at h;cases h
end Go.Proofs.YtcikldoaidmnhaaGreatDoor
namespace Go.Proofs.YtcikldoaidmnhaaGreatDoor
open Go Go.RowKit Pk
set_option maxRecDepth 100000
theorem laidOutM:laidOutB Tryz.prog=true:=by kernel_rfl
theorem lawPt:Go.WideMaps.KeyLaw Tryz.prog 43:=deep_law_laid laidOutM (m:=10) (by decide) (of_decide_eq_true (by kernel_rfl)) (by kernel_rfl) (by kernel_rfl)
theorem keyedPt:Maps.Keyed Tryz.prog 43:=Maps.Keyed.of_law lawPt
theorem keyedE:Maps.Keyed Tryz.prog 89:=Maps.Keyed.of_law (deep_law_laid laidOutM (m:=10) (by decide) (of_decide_eq_true (by kernel_rfl)) (by kernel_rfl) (by kernel_rfl))
theorem keyedM:Maps.Keyed Tryz.prog 258:=Maps.Keyed.of_law (deep_law_laid laidOutM (m:=10) (by decide) (of_decide_eq_true (by kernel_rfl)) (by kernel_rfl) (by kernel_rfl))
def ok64 (n:Int):Prop:=-9223372036854775808≤n∧n≤9223372036854775807
theorem wf64 {n:Int} (h:ok64 n):(Lit.int .i64 n).wf=true:=by
 obtain ⟨h1,h2⟩:=h;simp [Lit.wf,IntKind.min,IntKind.max,IntKind.signed,IntKind.bits];omega
def okP (p:Pt):Prop:=ok64 p.1∧ok64 p.2.1∧ok64 p.2.2
def okT (t:Tri):Prop:=okP t.1∧okP t.2.1∧okP t.2.2
def klPt (p:Pt):Lit:=.string (keyBytes [.int .i64 p.1,.int .i64 p.2.1,.int .i64 p.2.2])
theorem keyPt {p:Pt} (h:okP p):keyOf Tryz.prog 43 (ptV p)=some (klPt p):=by
 obtain ⟨x,y,z⟩:=p;obtain ⟨h1,h2,h3⟩:=h;have wx:=wf64 h1;have wy:=wf64 h2;have wz:=wf64 h3;have hkt:Tryz.prog.keyType 43=true:=by kernel_rfl
 obtain ⟨m,hm⟩:∃m,Tryz.prog.types.size=m+1:=⟨Tryz.prog.types.size-1,by kernel_rfl⟩;have hcl:Tryz.prog.cellsOf 43=3:=by kernel_rfl
 have hci:Tryz.prog.cellsOf 3=1:=by kernel_rfl
 unfold keyOf ptV klPt;simp only [Tryz.underlying43];rw [if_pos (by simp [hkt,Value.formed,Tryz.underlying43,hcl]),hm];unfold Program.keyLits;simp only [Tryz.underlying43,Value.cells];rw [if_pos ⟨by rw [hcl];rfl,by kernel_rfl⟩];simp [Program.keyLits,Tryz.underlying3,hci,wx,wy,wz]
abbrev Ed:=Pt × Pt
def okE (e:Ed):Prop:=okP e.1∧okP e.2
def edV (e:Ed):Value:=.agg #[.int .i64 e.1.1,.int .i64 e.1.2.1,.int .i64 e.1.2.2,.int .i64 e.2.1,.int .i64 e.2.2.1,.int .i64 e.2.2.2]
def klE (e:Ed):Lit:=.string (keyBytes [.int .i64 e.1.1,.int .i64 e.1.2.1,.int .i64 e.1.2.2,.int .i64 e.2.1,.int .i64 e.2.2.1,.int .i64 e.2.2.2])
theorem keyLitsPt {p:Pt} (h:okP p) (m:Nat):Tryz.prog.keyLits (m+2) 43 [.int .i64 p.1,.int .i64 p.2.1,.int .i64 p.2.2]=some [.int .i64 p.1,.int .i64 p.2.1,.int .i64 p.2.2]:=by
 obtain ⟨h1,h2,h3⟩:=h;have wx:=wf64 h1;have wy:=wf64 h2;have wz:=wf64 h3;have hcl:Tryz.prog.cellsOf 43=3:=by kernel_rfl
 have hci:Tryz.prog.cellsOf 3=1:=by kernel_rfl
 unfold Program.keyLits;simp only [Tryz.underlying43];rw [if_pos ⟨by rw [hcl];rfl,by kernel_rfl⟩];simp [Program.keyLits,Tryz.underlying3,hci,wx,wy,wz]
theorem keyE {e:Ed} (h:okE e):keyOf Tryz.prog 89 (edV e)=some (klE e):=by
 obtain ⟨p,q⟩:=e;obtain ⟨h1,h2⟩:=h;have hkt:Tryz.prog.keyType 89=true:=by kernel_rfl
 obtain ⟨m,hm⟩:∃m,Tryz.prog.types.size=m+2:=⟨Tryz.prog.types.size-2,by kernel_rfl⟩;have hcl:Tryz.prog.cellsOf 89=6:=by kernel_rfl
 have hci:Tryz.prog.cellsOf 43=3:=by kernel_rfl
 have kp:=keyLitsPt h1 m;have kq:=keyLitsPt h2 m;unfold keyOf edV klE;simp only [Tryz.underlying89];rw [if_pos (by simp [hkt,Value.formed,Tryz.underlying89,hcl]),hm];unfold Program.keyLits;simp only [Tryz.underlying89,Value.cells];rw [if_pos ⟨by rw [hcl];rfl,by kernel_rfl⟩];simp [hci,kp,kq]
theorem keyM {e:Ed} (h:okE e):keyOf Tryz.prog 258 (edV e)=some (klE e):=by
 obtain ⟨p,q⟩:=e;obtain ⟨h1,h2⟩:=h;have hkt:Tryz.prog.keyType 258=true:=by kernel_rfl
 obtain ⟨m,hm⟩:∃m,Tryz.prog.types.size=m+2:=⟨Tryz.prog.types.size-2,by kernel_rfl⟩;have hcl:Tryz.prog.cellsOf 258=6:=by kernel_rfl
 have hci:Tryz.prog.cellsOf 43=3:=by kernel_rfl
 have kp:=keyLitsPt h1 m;have kq:=keyLitsPt h2 m;unfold keyOf edV klE;simp only [Tryz.underlying258];rw [if_pos (by simp [hkt,Value.formed,Tryz.underlying258,hcl]),hm];unfold Program.keyLits;simp only [Tryz.underlying258,Value.cells];rw [if_pos ⟨by rw [hcl];rfl,by kernel_rfl⟩];simp [hci,kp,kq]
theorem ptV_inj (a b:Pt) (h:ptV a=ptV b):a=b:=by
 obtain ⟨a1,a2,a3⟩:=a;obtain ⟨b1,b2,b3⟩:=b;simpa [ptV] using h
theorem edV_inj (a b:Ed) (h:edV a=edV b):a=b:=by
 obtain ⟨⟨a1,a2,a3⟩,⟨a4,a5,a6⟩⟩:=a;obtain ⟨⟨b1,b2,b3⟩,⟨b4,b5,b6⟩⟩:=b;simp only [edV,Value.agg.injEq,Array.mk.injEq,List.cons.injEq,Value.int.injEq,true_and,and_true] at h;obtain ⟨rfl,rfl,rfl,rfl,rfl,rfl⟩:=h;rfl
def ptD (p:Pt):DataW Unit:=.agg [.lit (.int .i64 p.1),.lit (.int .i64 p.2.1),.lit (.int .i64 p.2.2)]
theorem ptD_inj (a b:Pt) (h:ptD a=ptD b):a=b:=by
 obtain ⟨a1,a2,a3⟩:=a;obtain ⟨b1,b2,b3⟩:=b;simpa [ptD] using h
theorem zero_int (w:World):(zeroValue 3).run Tryz.prog w=.ok (.int .i64 0) w:=by kernel_rfl
theorem zero_bool (w:World):(zeroValue 4).run Tryz.prog w=.ok (.bool false) w:=by kernel_rfl
theorem zero_pt (w:World):(zeroValue 43).run Tryz.prog w=.ok (ptV (0,0,0)) w:=by kernel_rfl
theorem klE_inj {a b:Ed} (ha:okE a) (hb:okE b) (h:klE a=klE b):a=b:=by
 have h1:=keyE ha;have h2:=keyE hb;rw [←h] at h2;exact edV_inj a b (keyedE.inj h1 h2)
theorem klPt_inj {a b:Pt} (ha:okP a) (hb:okP b) (h:klPt a=klPt b):a=b:=by
 have h1:=keyPt ha;have h2:=keyPt hb;rw [←h] at h2;exact ptV_inj a b (keyedPt.inj h1 h2)
noncomputable def kitSet:MapKit Tryz.prog Ed Bool:={ t:=236,k:=258,e:=4,encK:=edV,klK:=klE,goodK:=okE,encV:=.bool,dV:=fun b=>.lit (.bool b),goodV:=fun _=>True,zero:=false,R:=mkR (fun _=>True) Value.bool (fun b=>.lit (.bool b)),keyed:=keyedM,ht:=Tryz.underlying236,hkey:=fun _ h=>keyM h,inj:=fun _ _=>klE_inj,hval:=fun b hb=>mkR_val (fun _ _ e=>by cases e;rfl) b hb,hinv:=fun _ _ h=>mkR_inv (fun _ _ e=>by cases e;rfl) h,dinj:=fun _ _ _ _ e=>by cases e;rfl,hz:=zero_bool,gz:=trivial }
noncomputable def kitUsed:MapKit Tryz.prog Ed Bool:={ t:=100,k:=89,e:=4,encK:=edV,klK:=klE,goodK:=okE,encV:=.bool,dV:=fun b=>.lit (.bool b),goodV:=fun _=>True,zero:=false,R:=mkR (fun _=>True) Value.bool (fun b=>.lit (.bool b)),keyed:=keyedE,ht:=Tryz.underlying100,hkey:=fun _ h=>keyE h,inj:=fun _ _=>klE_inj,hval:=fun b hb=>mkR_val (fun _ _ e=>by cases e;rfl) b hb,hinv:=fun _ _ h=>mkR_inv (fun _ _ e=>by cases e;rfl) h,dinj:=fun _ _ _ _ e=>by cases e;rfl,hz:=zero_bool,gz:=trivial }
noncomputable def kitThird:MapKit Tryz.prog Ed Pt:={ t:=87,k:=89,e:=43,encK:=edV,klK:=klE,goodK:=okE,encV:=ptV,dV:=ptD,goodV:=fun _=>True,zero:=(0,0,0),R:=mkR (fun _=>True) ptV ptD,keyed:=keyedE,ht:=Tryz.underlying87,hkey:=fun _ h=>keyE h,inj:=fun _ _=>klE_inj,hval:=fun b hb=>mkR_val ptV_inj b hb,hinv:=fun _ _ h=>mkR_inv ptV_inj h,dinj:=fun _ _ _ _ e=>ptD_inj _ _ e,hz:=zero_pt,gz:=trivial }
noncomputable def kitNext:MapKit Tryz.prog Ed Pt:={ t:=263,k:=258,e:=43,encK:=edV,klK:=klE,goodK:=okE,encV:=ptV,dV:=ptD,goodV:=fun _=>True,zero:=(0,0,0),R:=mkR (fun _=>True) ptV ptD,keyed:=keyedM,ht:=Tryz.underlying263,hkey:=fun _ h=>keyM h,inj:=fun _ _=>klE_inj,hval:=fun b hb=>mkR_val ptV_inj b hb,hinv:=fun _ _ h=>mkR_inv ptV_inj h,dinj:=fun _ _ _ _ e=>ptD_inj _ _ e,hz:=zero_pt,gz:=trivial }
noncomputable def kitAt:MapKit Tryz.prog Pt Int:={ t:=99,k:=43,e:=3,encK:=ptV,klK:=klPt,goodK:=okP,encV:=.int .i64,dV:=fun n=>.lit (.int .i64 n),goodV:=fun _=>True,zero:=0,R:=mkR (fun _=>True) (Value.int .i64) (fun n=>.lit (.int .i64 n)),keyed:=keyedPt,ht:=Tryz.underlying99,hkey:=fun _ h=>keyPt h,inj:=fun _ _=>klPt_inj,hval:=fun b hb=>mkR_val (fun _ _ e=>by cases e;rfl) b hb,hinv:=fun _ _ h=>mkR_inv (fun _ _ e=>by cases e;rfl) h,dinj:=fun _ _ _ _ e=>by cases e;rfl,hz:=zero_int,gz:=trivial }
end Go.Proofs.YtcikldoaidmnhaaGreatDoor
namespace Go.Proofs.YtcikldoaidmnhaaGreatDoor
open Go Go.RowKit
namespace Pk
def modI (n m:Int):Int:=((n.tmod m)+m).tmod m
theorem modI_range {n m:Int} (h:0<m):0≤modI n m∧modI n m<m:=by
 unfold modI;have h1:=Int.lt_tmod_of_pos n h;have h2:=Int.tmod_lt_of_pos n h;exact ⟨Int.tmod_nonneg _ (by omega),Int.tmod_lt_of_pos _ h⟩
def quadT (a b c d:Pt):List Tri:=[(a,b,c),(a,c,d)]
def cubeP (p:Pt) (s:Int) (n:Nat):Pt:=(p.1+((n % 2:Nat):Int)*s,p.2.1+((n / 2 % 2:Nat):Int)*s,p.2.2+((n / 4:Nat):Int)*s)
def cubeT (p:Pt) (s:Int):List Tri:=quadT (cubeP p s 0) (cubeP p s 2) (cubeP p s 3) (cubeP p s 1)++quadT (cubeP p s 4) (cubeP p s 5) (cubeP p s 7) (cubeP p s 6)++quadT (cubeP p s 0) (cubeP p s 1) (cubeP p s 5) (cubeP p s 4)++quadT (cubeP p s 2) (cubeP p s 6) (cubeP p s 7) (cubeP p s 3)++quadT (cubeP p s 0) (cubeP p s 4) (cubeP p s 6) (cubeP p s 2)++quadT (cubeP p s 1) (cubeP p s 3) (cubeP p s 7) (cubeP p s 5)
def bitV (bits:Int) (n:Nat):Bool:=decide (bits / 2 ^ n % 2=1)
def stepsV (f:Nat):Int × Int × Int:=([(0,0,-1),(0,0,1),(0,-1,0),(0,1,0),(-1,0,0),(1,0,0)]:List (Int × Int × Int)).getD f (0,0,0)
def nearV (bits:Int) (n f:Nat):Bool:=
 let u:=((n % 3:Nat):Int)+(stepsV f).1
 let v:=((n / 3 % 3:Nat):Int)+(stepsV f).2.1
 let w:=((n / 9:Nat):Int)+(stepsV f).2.2
 decide (0≤u∧u<3∧0≤v∧v<3∧0≤w∧w<3)&&bitV bits ((w*3+v)*3+u).toNat
def pointV (step:Int) (at_:Pt) (n:Nat):Pt:=(at_.1+((n % 3:Nat):Int)*step,at_.2.1+((n / 3 % 3:Nat):Int)*step,at_.2.2+((n / 9:Nat):Int)*step)
def sideV (bits step:Int) (at_:Pt) (n f:Nat):List Tri:=if nearV bits n f then [] else [(cubeT (pointV step at_ n) step).getD (2*f) ((0,0,0),(0,0,0),(0,0,0)),(cubeT (pointV step at_ n) step).getD (2*f+1) ((0,0,0),(0,0,0),(0,0,0))]
def cubeV (bits step:Int) (at_:Pt) (n:Nat):List Tri:=if bitV bits n then (List.range 6).flatMap (sideV bits step at_ n) else []
def voxelsT (bits step:Int) (at_:Pt):List Tri:=(List.range 27).flatMap (cubeV bits step at_)
def hillP (x y:Nat) (step:Int) (hs:List Int):Pt:=((x:Int)*step,(y:Int)*step,100+(if hs=[] then 0 else modI (hs.getD ((y*7+x) % hs.length) 0) 64))
def hillsN (n:Int):Nat:=(1+modI n 6).toNat
def hillsT (n step:Int) (hs:List Int):List Tri:=(List.range (hillsN n)).flatMap fun y=>(List.range (hillsN n)).flatMap fun x=>quadT (hillP x y step hs) (hillP (x+1) y step hs) (hillP (x+1) (y+1) step hs) (hillP x (y+1) step hs)
def swapP (p r:Pt) (t:Tri):Tri:=(if t.1=p then r else t.1,if t.2.1=p then r else t.2.1,if t.2.2=p then r else t.2.2)
def z3:Tri:=((0,0,0),(0,0,0),(0,0,0))
def spoilT (l:List Tri) (q0 q1 q2:Int):List Tri:=
 if l=[] then [] else
 let k:=(modI q1 l.length).toNat
 let j:=(modI q2 l.length).toNat
 let t:=l.getD k z3
 let u:=l.getD j z3
 match (modI q0 12).toNat with
 | 0=>l.take k++l.drop (k+1)
 | 1=>l.set k (t.1,t.2.2,t.2.1)
 | 2=>l++[u]
 | 3=>l.set k (u.2.1,t.2.1,t.2.2)
 | 4=>l.set k (t.1,t.1,t.2.2)
 | 5=>l++[(t.1,t.2.2,t.2.1)]
 | 6=>l.map (swapP u.2.2 t.1)
 | 7=>l.take (1+k)
 | 8=>l.set k (t.2.2,t.1,t.2.1)
 | _=>l
theorem spoilT_len (l:List Tri) (q0 q1 q2:Int):(spoilT l q0 q1 q2).length≤l.length+1:=by
 unfold spoilT;split
 ·simp
 ·simp only;split<;>simp<;>omega
end Pk
end Go.Proofs.YtcikldoaidmnhaaGreatDoor
namespace Go.Proofs.YtcikldoaidmnhaaGreatDoor
open Go Go.RowKit Pk
set_option maxRecDepth 100000
noncomputable def kInt:Kd Tryz.prog Int:={ T:=3,S:=23,k:=1,bytes:=8,enc:=fun n=>[.int .i64 n],len:=fun _=>rfl,one:=fun n v hv=>by rw [List.mem_singleton.1 hv];rfl,pos:=by decide,small:=by decide,und:=Tryz.underlying23,info:=kinfo_of (by kernel_rfl) }
theorem cell_lt {w:World} {b o:Nat} {v:Value} (h:w.cell? ⟨b,o,none⟩=some v):b<w.heap.size:=by
 unfold World.cell? at h;by_cases hb:b<w.heap.size
 ·exact hb
 ·rw [Array.getElem?_eq_none (by show w.heap.size≤b;omega)] at h;cases h
theorem hMod_any (c m:Int) (hm:0<m) (hb:m≤1000000000) (w:World):Calls Tryz.prog 70 #[.int .i64 c,.int .i64 m] w fun e w'=>e=.returned (.int .i64 (modI c m))∧w'=w:=by
 have k1:=Int.lt_tmod_of_pos c hm;have k2:=Int.tmod_lt_of_pos c hm;have e1:wrap64 (c.tmod m+m)=c.tmod m+m:=IntWalk.wrap64_in _ (by omega);have e3:(m == 0)=false:=by rw [beq_eq_false_iff_ne];omega
 have e4:¬m=-1:=by omega
 have h1:-9223372036854775808≤c.tmod m∧c.tmod m≤9223372036854775807:=by omega
 obtain ⟨R,hR⟩:∃R,R=modI c m:=⟨_,rfl⟩;have e2:(c.tmod m+m).tmod m=R:=by rw [hR];rfl
 have h2:-9223372036854775808≤R∧R≤9223372036854775807:=by have:=modI_range (n:=c) hm;omega
 rw [←hR];clear hR k1 k2;go_enter Tryz.func70,Tryz.ntmps70
 go_wp2_with fail
 go_ret
 exact ⟨rfl,rfl⟩
theorem if_wanted {c:Bool} {A B:Prop} (h:c=true) (ha:A):if c=true then A else B:=by rw [if_pos h];exact ha
theorem wp_val {P:Program} {o:Oper} {a:Act} {w:World} {K:Act→World→Prop} {Q:Exit→Act→World→Prop} (v:Value) (w':World) (hv:(execOp a.eval o).run P w=.ok (.value v) w') (h:K (a.put o.dst v) w'):Oper.wp P o a w K Q:=by
 unfold Oper.wp;rw [hv];exact h
end Go.Proofs.YtcikldoaidmnhaaGreatDoor
namespace Go.Proofs.YtcikldoaidmnhaaGreatDoor
open Go Go.RowKit Pk
structure SV where
 op:Bool
 bits:Nat
 side:Nat
 heights:List Int
 frm:Nat
 many:Nat
 q0:Int
 q1:Int
 q2:Int
def SV.V (x:SV) (v:Value):Value:=.agg #[.bool x.op,.int .u32 x.bits,.int .u32 x.side,v,.int .u8 x.frm,.int .u8 x.many,.int .i64 x.q0,.int .i64 x.q1,.int .i64 x.q2]
def SV.base (x:SV):List Tri:=if x.op then hillsT ((x.bits % 6:Nat):Int) (1+((x.side % 1000:Nat):Int)) (x.heights.take 49) else voxelsT ((x.bits % 134217728:Nat):Int) (1+((x.side % 600000:Nat):Int)) (7,5,0)
def SV.part (x:SV):List Tri:=(x.base.drop (x.frm % x.base.length)).take (x.many % 141)
def SV.tris (x:SV):List Tri:=if x.base=[] then [] else spoilT x.part x.q0 x.q1 x.q2
structure SV.Ok (x:SV):Prop where
 bits:x.bits<4294967296
 side:x.side<4294967296
 heights:x.heights.length≤9223372036854775807
 frm:x.frm<256
 many:x.many<256
end Go.Proofs.YtcikldoaidmnhaaGreatDoor
namespace Go.Proofs.YtcikldoaidmnhaaGreatDoor
open Go Go.RowKit Go.ChangeShapes Go.WideShapes Go.ChangeAt
set_option maxRecDepth 100000
theorem field_cell {P:Program} {o:Nat} {t:TypeId} {cs:List Value} {c:Value} (hc:P.cellsOf t=1) (hg:cs[o]?=some c):(cs.drop o).take (P.cellsOf t)=[c]:=by
 rw [hc,List.take_one,List.head?_drop,hg];rfl
theorem listF_of_reading {P:Program} {t e:TypeId} {α:Type} {size:Nat} (hs:0<size) (R:List Value→α→Prop) (ht:P.underlying t=some (.slice e)) (hce:P.cellsOf e=size)
  {H:Type} {enc:TypeId × Value→H} {W:World} {n:Nat} {cs0:List Value} {x0:DataW H × List MemPlace} (hR:∀n cs x,DataW.trod enc P W 0 (fun _=>true) true n e cs=some x→∃y,R cs y)
  (hf:DataW.trod enc P W 0 (fun _=>true) true n t cs0=some x0):∃v l,cs0=[v]∧ArgL size R W v l:=by
 rcases Deep.open_slice ht hf with ⟨hcs,_⟩ | ⟨x,len,cap,m,n,D,Pl,hcs,_,hl,hm,hmm,_,hx⟩
 ·exact ⟨_,[],hcs,none,0,rfl,fun h=>absurd h (by simp),Nat.le_refl _,Nat.zero_le _⟩
 ·simp only [if_true] at hmm;subst hmm;rw [hce] at hx;have each:∀i,i<m→∃y cs,cs.length=size∧R cs y∧∀j u,cs[j]?=some u→W.cell? ((x.add (i*size)).add j)=some u:=by
   intro i hi;obtain ⟨cs,h1,h2⟩:=hx i hi;obtain ⟨y,hy⟩:=hR _ _ _ h2;obtain ⟨_,h3,h4⟩:=World.cells?_some h1;exact ⟨y,cs,h3,hy,fun j u hj=>by
    have hj':=(List.getElem?_eq_some_iff.1 hj).1;have:=h4 j (by omega);rw [this,←hj]⟩
  by_cases hl0:len=0
  ·subst hl0;exact ⟨_,[],hcs,some x,m,rfl,fun h=>absurd h (by simp),Nat.zero_le _,hm⟩
  ·obtain ⟨y0,_⟩:=each 0 (by omega);haveI:Inhabited α:=⟨y0⟩
   obtain ⟨f,hfx⟩:=Deep.choose_lt each;have hsx:x=⟨x.block,x.off,none⟩:=by
    obtain ⟨cs,h1,_,h3⟩:=hfx 0 (by omega);have:=spot_none (h3 0 cs[0] (by rw [List.getElem?_eq_getElem]));simpa [Addr.add] using this
   refine ⟨_,(List.range len).map f,hcs,some x,m,by simp,fun _=>⟨x.block,x.off,by rw [←hsx],fun j hj=>?_⟩,by simpa using hl,hm⟩;obtain ⟨cs,h1,h2,h3⟩:=hfx j (by simp at hj;omega);refine ⟨cs,h1,by simpa using h2,fun i u hi=>?_⟩;have:=h3 i u hi;rw [hsx,add_plain,add_plain] at this;exact this
theorem kInt_of_argL {W:World} {v:Value} {l:List Int} (h:ArgL 1 (fun cs (c:Int)=>cs=[.int .i64 c]) W v l):kInt.Rd W v l∧l.length≤9223372036854775807:=by
 obtain ⟨A,cap,rfl,h1,h2,h3⟩:=h;refine ⟨⟨A,cap,rfl,h2,fun h0=>?_⟩,by unfold maxLen at h3;omega⟩;obtain ⟨b,off,e,h4⟩:=h1 h0;refine ⟨b,off,e,fun j hj=>?_⟩;obtain ⟨cs,_,rfl,h5⟩:=h4 j hj;exact h5
theorem ints_of_trod {H:Type} {enc:TypeId × Value→H} {W:World} {n:Nat} {cs:List Value} {x:DataW H × List MemPlace} (hf:DataW.trod enc Tryz.prog W 0 (fun _=>true) true n 23 cs=some x):∃v l,cs=[v]∧kInt.Rd W v l∧l.length≤9223372036854775807:=by
 obtain ⟨v,l,rfl,h⟩:=listF_of_reading (size:=1) (by decide) (fun cs (c:Int)=>cs=[.int .i64 c]) Tryz.underlying23 (by kernel_rfl) (fun n cs x hx=>by
  obtain ⟨z,e,_,w⟩:=DataW.trod_int Tryz.underlying3 hx;exact ⟨z,e⟩) hf
 exact ⟨v,l,rfl,kInt_of_argL h⟩
theorem i3_of_trod {H:Type} {enc:TypeId × Value→H} {W:World} {n:Nat} {cs:List Value} {x:DataW H × List MemPlace} (hf:DataW.trod enc Tryz.prog W 0 (fun _=>true) true n 24 cs=some x):∃a b c:Int,cs=[.int .i64 a,.int .i64 b,.int .i64 c]:=by
 obtain ⟨xs,m,_,_,hl,hlen,hel⟩:=DataW.trod_array Tryz.underlying24 hf;have hc1:Tryz.prog.cellsOf 3=1:=by kernel_rfl
 have hc6:Tryz.prog.cellsOf 24=3:=by kernel_rfl
 rw [hc6] at hl;have get:∀i,i<3→∃z:Int,cs[i]?=some (.int .i64 z):=fun i hi=>by
  have h:=hel i hi;rw [List.getElem?_eq_getElem (by omega:i<xs.length),hc1,Nat.mul_one] at h;obtain ⟨z,e,_,_⟩:=DataW.trod_int Tryz.underlying3 h;refine ⟨z,?_⟩;rw [List.take_one,List.head?_drop] at e;cases hg:cs[i]? with
  | none=>rw [hg] at e;cases e
  | some c=>rw [hg] at e;simp at e;rw [e]
 obtain ⟨z0,g0⟩:=get 0 (by decide);obtain ⟨z1,g1⟩:=get 1 (by decide);obtain ⟨z2,g2⟩:=get 2 (by decide);refine ⟨z0,z1,z2,List.ext_getElem? fun i=>?_⟩;rcases (by omega:i=0∨i=1∨i=2∨3≤i) with rfl | rfl | rfl | h
 ·exact g0
 ·exact g1
 ·exact g2
 ·rw [List.getElem?_eq_none (by omega),List.getElem?_eq_none (by show 3≤i;omega)]
theorem u32_wf {z:Int} (h:(Lit.int .u32 z).wf=true):∃c:Nat,z=c∧c<4294967296:=by
 simp [Lit.wf,IntKind.min,IntKind.max,IntKind.signed,IntKind.bits] at h;exact ⟨z.toNat,by omega,by omega⟩
theorem u8_wf2 {z:Int} (h:(Lit.int .u8 z).wf=true):∃c:Nat,z=c∧c<256:=by
 simp [Lit.wf,IntKind.min,IntKind.max,IntKind.signed,IntKind.bits] at h;exact ⟨z.toNat,by omega,by omega⟩
theorem shape_of_reading {H:Type} {enc:TypeId × Value→H} {W:World} {d:DataW H} {p:List MemPlace} {v:Value}
  (hval:Value.okWide Tryz.prog W .any 0 26 v) (h:DataW.Trod enc Tryz.prog W 0 (fun _=>true) true 26 v d p):∃(x:SV) (vh:Value),v=x.V vh∧kInt.Rd W vh x.heights∧x.Ok:=by
 obtain ⟨a,rfl,hsz⟩:=okWide_struct Tryz.underlying26 hval;have h8:Tryz.prog.cellsOf 26=9:=by kernel_rfl
 rw [h8] at hsz;obtain ⟨fuel,hf⟩:=h;obtain ⟨xs,n,_,_,_,hlen,hfl⟩:=DataW.trod_struct Tryz.underlying26 hf;obtain ⟨l⟩:=a;match l,hsz with
 | [c0,c1,c2,c3,c4,c5,c6,c7,c8],_=>
  match xs,hlen with
  | [x0,x1,x2,x3,x4,x5,x6],_=>
   have cu:Tryz.prog.cellsOf 22=1:=by kernel_rfl
   have cl:Tryz.prog.cellsOf 23=1:=by kernel_rfl
   have cs:Tryz.prog.cellsOf 5=1:=by kernel_rfl
   have cb:Tryz.prog.cellsOf 4=1:=by kernel_rfl
   have ct:Tryz.prog.cellsOf 24=3:=by kernel_rfl
   have g0:DataW.trod enc Tryz.prog W 0 (fun _=>true) true n 4 [c0]=some x0:=by
    have h:=hfl 0 _ rfl;have e:=field_cell (P:=Tryz.prog) (o:=0) (t:=4) (cs:=[c0,c1,c2,c3,c4,c5,c6,c7,c8]) (c:=c0) cb rfl;rw [←e];exact h
   have g1:DataW.trod enc Tryz.prog W 0 (fun _=>true) true n 22 [c1]=some x1:=by
    have h:=hfl 1 _ rfl;have e:=field_cell (P:=Tryz.prog) (o:=1) (t:=22) (cs:=[c0,c1,c2,c3,c4,c5,c6,c7,c8]) (c:=c1) cu rfl;rw [←e];exact h
   have g2:DataW.trod enc Tryz.prog W 0 (fun _=>true) true n 22 [c2]=some x2:=by
    have h:=hfl 2 _ rfl;have e:=field_cell (P:=Tryz.prog) (o:=2) (t:=22) (cs:=[c0,c1,c2,c3,c4,c5,c6,c7,c8]) (c:=c2) cu rfl;rw [←e];exact h
   have g3:DataW.trod enc Tryz.prog W 0 (fun _=>true) true n 23 [c3]=some x3:=by
    have h:=hfl 3 _ rfl;have e:=field_cell (P:=Tryz.prog) (o:=3) (t:=23) (cs:=[c0,c1,c2,c3,c4,c5,c6,c7,c8]) (c:=c3) cl rfl;rw [←e];exact h
   have g4:DataW.trod enc Tryz.prog W 0 (fun _=>true) true n 5 [c4]=some x4:=by
    have h:=hfl 4 _ rfl;have e:=field_cell (P:=Tryz.prog) (o:=4) (t:=5) (cs:=[c0,c1,c2,c3,c4,c5,c6,c7,c8]) (c:=c4) cs rfl;rw [←e];exact h
   have g5:DataW.trod enc Tryz.prog W 0 (fun _=>true) true n 5 [c5]=some x5:=by
    have h:=hfl 5 _ rfl;have e:=field_cell (P:=Tryz.prog) (o:=5) (t:=5) (cs:=[c0,c1,c2,c3,c4,c5,c6,c7,c8]) (c:=c5) cs rfl;rw [←e];exact h
   have g6:DataW.trod enc Tryz.prog W 0 (fun _=>true) true n 24 [c6,c7,c8]=some x6:=by
    have h:=hfl 6 _ rfl;have e:(([c0,c1,c2,c3,c4,c5,c6,c7,c8]:List Value).drop 6).take (Tryz.prog.cellsOf 24)=[c6,c7,c8]:=by rw [ct];rfl
    rw [←e];exact h
   obtain ⟨z0,e0,_⟩:=DataW.trod_bool Tryz.underlying4 g0;obtain ⟨z1,e1,_,w1⟩:=DataW.trod_int Tryz.underlying22 g1;obtain ⟨z2,e2,_,w2⟩:=DataW.trod_int Tryz.underlying22 g2;obtain ⟨v3,l3,e3,r3,b3⟩:=ints_of_trod g3;obtain ⟨z4,e4,_,w4⟩:=DataW.trod_int Tryz.underlying5 g4;obtain ⟨z5,e5,_,w5⟩:=DataW.trod_int Tryz.underlying5 g5;obtain ⟨q0,q1,q2,e6⟩:=i3_of_trod g6;obtain ⟨n1,rfl,k1⟩:=u32_wf w1;obtain ⟨n2,rfl,k2⟩:=u32_wf w2;obtain ⟨n4,rfl,k4⟩:=u8_wf2 w4;obtain ⟨n5,rfl,k5⟩:=u8_wf2 w5;simp only [List.cons.injEq,and_true] at e0 e1 e2 e3 e4 e5 e6;obtain ⟨e6,e7,e8⟩:=e6;subst e0;subst e1;subst e2;subst e3;subst e4;subst e5;subst e6;subst e7;subst e8;exact ⟨⟨z0,n1,n2,l3,n4,n5,q0,q1,q2⟩,c3,rfl,r3,⟨k1,k2,b3,k4,k5⟩⟩
end Go.Proofs.YtcikldoaidmnhaaGreatDoor
namespace Go.Proofs.YtcikldoaidmnhaaGreatDoor
open Go Go.RowKit
namespace Pk
abbrev Mv:=(Int × Int × Int) × (Int × Int × Int)
def moveR (s:Bytes):Option (Mv × Bytes):=match listR readNum 6 s with
 | some ([a,b,c,d,e,f],r)=>some ((((a:Int),(b:Int),(c:Int)),((d:Int),(e:Int),(f:Int))),r)
 | _=>none
def grpF (s:Bytes):Option (Grp × Nat):=
 match readNum s with
 | none=>none
 | some (lv,s1)=>match manyR partR s1 with
  | none=>none
  | some (ins,s2)=>match manyR (takeR 32) s2 with
   | none=>none
   | some (outs,s3)=>match manyR moveR s3 with
    | none=>none
    | some (moves,s4)=>match readNum s4 with
     | none=>none
     | some (er,s5)=>match readNum s5 with
      | none=>none
      | some (tot,s6)=>match readNum s6 with
       | none=>none
       | some (size,s7)=>some (⟨lv,ins,outs,moves,er,tot,decide (size % 2=1),s7⟩,size)
def withMag (g:Grp) (m:Bytes):Grp:={ g with mag:=m }
def goodG (g:Grp):Prop:=(∀p,p∈g.ins→goodPart p)∧(∀h,h∈g.outs→h.length=32)
def grpR (s:Bytes):Option Grp:=match s with
 | []=>none
 | b :: r=>if b≠2 then none else match grpF r with
  | none=>none
  | some (g,size)=>if g.mag.length<size / 2 then none else if rightG (withMag g (g.mag.take (size / 2)))=true∧groupB (withMag g (g.mag.take (size / 2)))=s then some (withMag g (g.mag.take (size / 2))) else none
theorem moveR_app {m:Mv} {r:Bytes} (h:(coordsM m).all insideC=true):moveR ((coordsM m).flatMap (fun n=>digB n.toNat)++r)=some (m,r):=by
 obtain ⟨⟨a,b,c⟩,⟨d,e,f⟩⟩:=m;simp only [coordsM,List.all_cons,List.all_nil,Bool.and_true,Bool.and_eq_true,insideC,decide_eq_true_eq] at h;obtain ⟨h1,h2,h3,h4,h5,h6⟩:=h;have e1:(coordsM ((a,b,c),(d,e,f))).flatMap (fun n=>digB n.toNat)=[a.toNat,b.toNat,c.toNat,d.toNat,e.toNat,f.toNat].flatMap digB:=rfl;have e2:=listR_app readNum digB (fun n=>n<9223372036854775808) (fun x r h=>readNum_dig h r) [a.toNat,b.toNat,c.toNat,d.toNat,e.toNat,f.toNat] r (fun x hx=>by
  simp only [List.mem_cons,List.not_mem_nil,or_false] at hx;rcases hx with rfl | rfl | rfl | rfl | rfl | rfl<;>omega)
 unfold moveR;rw [e1];have e3:[a.toNat,b.toNat,c.toNat,d.toNat,e.toNat,f.toNat].length=6:=rfl;rw [e3] at e2;rw [e2];simp only;congr 2
 simp only [Prod.mk.injEq];omega
theorem manyR_app {α:Type} (one:Bytes→Option (α × Bytes)) (enc:α→Bytes) (good:α→Prop) (h:∀x r,good x→one (enc x++r)=some (x,r)) (l:List α) (r:Bytes) (hl:l.length≤65536) (hg:∀x,x∈l→good x):manyR one (digB l.length++(l.flatMap enc++r))=some (l,r):=by
 unfold manyR;rw [readNum_dig (by omega)];simp only;rw [if_neg (by omega)];exact listR_app one enc good h l r hg
theorem flatten_flatMap (l:List Bytes):l.flatten=l.flatMap id:=by simp [List.flatMap]
theorem right_nums {g:Grp} (h:rightG g=true):0≤g.level∧0≤g.err∧0≤g.total∧g.ins.length≤65536∧g.outs.length≤65536∧g.moves.length≤65536:=by
 unfold rightG at h;simp only [Bool.and_eq_true,decide_eq_true_eq] at h;exact h.1.1
theorem right_moves {g:Grp} (h:rightG g=true):∀m,m∈g.moves→(coordsM m).all insideC=true:=by
 unfold rightG at h;simp only [Bool.and_eq_true] at h;exact List.all_eq_true.1 h.1.2
theorem grpF_back {g:Grp} (h:rightG g=true) (hg:goodG g) (hn:g.level≤9223372036854775807∧g.err≤9223372036854775807∧g.total≤9223372036854775807) (hm:g.mag.length<4611686018427387904) (r:Bytes) (hr:groupB g=2 :: r):grpF r=some (g,sizeG g):=by
 have e:r=digB g.level.toNat++(partsB g.ins++(digB g.outs.length++(g.outs.flatMap id++(digB g.moves.length++(g.moves.flatMap (fun m=>(coordsM m).flatMap (fun n=>digB n.toNat))++(digB g.err.toNat++(digB g.total.toNat++(digB (sizeG g)++g.mag)))))))):=by
  unfold groupB at hr;rw [List.cons.injEq] at hr;rw [←hr.2,flatten_flatMap];simp only [movesB,List.append_assoc]
 obtain ⟨h1,h2,h3,h4,h5,h6⟩:=right_nums h;obtain ⟨n1,n2,n3⟩:=hn;have hs:sizeG g<9223372036854775808:=by unfold sizeG;split<;>omega
 subst e;unfold grpF;rw [readNum_dig (by omega)];simp only;rw [manyR_parts _ _ h4 hg.1];simp only;rw [manyR_app (takeR 32) id (fun h=>h.length=32) (fun x r h=>takeR_app h) g.outs _ h5 hg.2];simp only;rw [manyR_app moveR (fun m=>(coordsM m).flatMap (fun n=>digB n.toNat)) (fun m=>(coordsM m).all insideC=true) (fun x r h=>moveR_app h) g.moves _ h6 (right_moves h)];simp only;rw [readNum_dig (by omega)];simp only;rw [readNum_dig (by omega)];simp only;rw [readNum_dig hs];simp only;have e1:decide (sizeG g % 2=1)=g.neg:=by
  unfold sizeG;cases g.neg with
  | true=>rw [if_pos rfl];exact decide_eq_true (by omega)
  | false=>rw [if_neg (by simp)];exact decide_eq_false (by omega)
 obtain ⟨lv,ins,outs,moves,er,tot,neg,mag⟩:=g;simp only at *;rw [e1,show (lv.toNat:Int)=lv by omega,show (er.toNat:Int)=er by omega,show (tot.toNat:Int)=tot by omega]
theorem sizeG_half (g:Grp):sizeG g / 2=g.mag.length:=by unfold sizeG;split<;>omega
theorem numR_bound:∀(k unit acc:Nat) (s:Bytes) (n:Nat) (r:Bytes),acc<unit→numR k unit acc s=some (n,r)→n<unit*128 ^ k
 | 0,_,_,_,_,_,_,h=>by cases h
 | _+1,_,_,[],_,_,_,h=>by cases h
 | k+1,unit,acc,b :: r',n,r,ha,h=>by
  rw [numR] at h;have hb:b.toNat % 128*unit≤127*unit:=Nat.mul_le_mul_right _ (by omega);split at h
  ·cases h;have:unit*128≤unit*128 ^ (k+1):=Nat.mul_le_mul_left _ (by rw [Nat.pow_succ];have:=Nat.one_le_two_pow (n:=k);have h2:1≤128 ^ k:=Nat.one_le_pow _ _ (by decide);omega);omega
  ·have:=numR_bound k (unit*128) _ r' n r (by omega) h;rw [Nat.mul_assoc,←Nat.pow_succ'] at this;exact this
theorem readNum_bound {s:Bytes} {n:Nat} {r:Bytes} (h:readNum s=some (n,r)):n<9223372036854775808:=by
 have:=numR_bound 9 1 0 s n r (by decide) h;exact Nat.lt_of_lt_of_le this (by decide)
theorem numR_len:∀(k unit acc:Nat) (s:Bytes) (n:Nat) (r:Bytes),numR k unit acc s=some (n,r)→r.length<s.length
 | 0,_,_,_,_,_,h=>by cases h
 | _+1,_,_,[],_,_,h=>by cases h
 | k+1,unit,acc,b :: r',n,r,h=>by
  rw [numR] at h;split at h
  ·cases h;simp
  ·have:=numR_len k _ _ r' n r h;simp;omega
theorem readNum_len {s:Bytes} {n:Nat} {r:Bytes} (h:readNum s=some (n,r)):r.length<s.length:=numR_len _ _ _ _ _ _ h
theorem takeR_len {k:Nat} {s a r:Bytes} (h:takeR k s=some (a,r)):a.length=k∧r.length+k=s.length:=by
 unfold takeR at h;split at h
 ·cases h
 ·cases h;simp;omega
theorem partR_good {s r:Bytes} {p:Part} (h:partR s=some (p,r)):goodPart p∧r.length<s.length:=by
 unfold partR at h;cases h1:takeR 32 s with
 | none=>rw [h1] at h;cases h
 | some x=>
  obtain ⟨a,r1⟩:=x;rw [h1] at h;simp only at h;cases h2:takeR 32 r1 with
  | none=>rw [h2] at h;cases h
  | some y=>
   obtain ⟨b,r2⟩:=y;rw [h2] at h;cases h;have k1:=takeR_len h1;have k2:=takeR_len h2;exact ⟨⟨k1.1,k2.1⟩,by omega⟩
theorem listR_all {α:Type} {one:Bytes→Option (α × Bytes)} {good:α→Prop} (h:∀s x r,one s=some (x,r)→good x):∀(k:Nat) (s:Bytes) (l:List α) (r:Bytes),listR one k s=some (l,r)→(∀x,x∈l→good x)∧l.length=k
 | 0,s,l,r,e=>by cases e;exact ⟨fun x hx=>(by cases hx),rfl⟩
 | k+1,s,l,r,e=>by
  rw [listR] at e;cases h1:one s with
  | none=>rw [h1] at e;cases e
  | some x=>
   obtain ⟨x,r1⟩:=x;rw [h1] at e;simp only at e;cases h2:listR one k r1 with
   | none=>rw [h2] at e;cases e
   | some y=>
    obtain ⟨l',r2⟩:=y;rw [h2] at e;cases e;obtain ⟨k1,k2⟩:=listR_all h k r1 l' r h2;refine ⟨fun z hz=>?_,by simp [k2]⟩;rcases List.mem_cons.1 hz with rfl | hz
    ·exact h _ _ _ h1
    ·exact k1 z hz
theorem manyR_all {α:Type} {one:Bytes→Option (α × Bytes)} {good:α→Prop} (h:∀s x r,one s=some (x,r)→good x) {s:Bytes} {l:List α} {r:Bytes} (e:manyR one s=some (l,r)):(∀x,x∈l→good x)∧l.length≤65536:=by
 unfold manyR at e;cases h1:readNum s with
 | none=>rw [h1] at e;cases e
 | some x=>
  obtain ⟨n,r1⟩:=x;rw [h1] at e;simp only at e;split at e
  ·cases e
  ·obtain ⟨k1,k2⟩:=listR_all h _ _ _ _ e;exact ⟨k1,by omega⟩
theorem grpF_good {s:Bytes} {g:Grp} {size:Nat} (h:grpF s=some (g,size)):goodG g∧(g.level≤9223372036854775807∧g.err≤9223372036854775807∧g.total≤9223372036854775807)∧size<9223372036854775808:=by
 unfold grpF at h;cases h1:readNum s with
 | none=>rw [h1] at h;cases h
 | some x1=>
  obtain ⟨lv,s1⟩:=x1;rw [h1] at h;simp only at h;cases h2:manyR partR s1 with
  | none=>rw [h2] at h;cases h
  | some x2=>
   obtain ⟨ins,s2⟩:=x2;rw [h2] at h;simp only at h;cases h3:manyR (takeR 32) s2 with
   | none=>rw [h3] at h;cases h
   | some x3=>
    obtain ⟨outs,s3⟩:=x3;rw [h3] at h;simp only at h;cases h4:manyR moveR s3 with
    | none=>rw [h4] at h;cases h
    | some x4=>
     obtain ⟨moves,s4⟩:=x4;rw [h4] at h;simp only at h;cases h5:readNum s4 with
     | none=>rw [h5] at h;cases h
     | some x5=>
      obtain ⟨er,s5⟩:=x5;rw [h5] at h;simp only at h;cases h6:readNum s5 with
      | none=>rw [h6] at h;cases h
      | some x6=>
       obtain ⟨tot,s6⟩:=x6;rw [h6] at h;simp only at h;cases h7:readNum s6 with
       | none=>rw [h7] at h;cases h
       | some x7=>
        obtain ⟨sz,s7⟩:=x7;rw [h7] at h;simp only at h;cases h;have b1:=readNum_bound h1;have b5:=readNum_bound h5;have b6:=readNum_bound h6;have b7:=readNum_bound h7;refine ⟨⟨(manyR_all (fun s x r e=>(partR_good e).1) h2).1,(manyR_all (fun s x r e=>(takeR_len e).1) h3).1⟩,⟨?_,?_,?_⟩,b7⟩
        ·show (lv:Int)≤_;omega
        ·show (er:Int)≤_;omega
        ·show (tot:Int)≤_;omega
theorem group_back {g:Grp} (h:rightG g=true) (hg:goodG g) (hn:g.level≤9223372036854775807∧g.err≤9223372036854775807∧g.total≤9223372036854775807) (hm:g.mag.length<4611686018427387904):grpR (groupB g)=some g:=by
 have hb:∃r,groupB g=2 :: r:=⟨_,rfl⟩;obtain ⟨r,hr⟩:=hb;have h1:=grpF_back h hg hn hm r hr;rw [hr];unfold grpR;simp only;rw [if_neg (by simp),h1];simp only;rw [sizeG_half,if_neg (by omega),List.take_length];have e:withMag g g.mag=g:=rfl;rw [e,if_pos ⟨h,hr⟩]
end Pk
end Go.Proofs.YtcikldoaidmnhaaGreatDoor
