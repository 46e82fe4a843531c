/- Parts: A shape among the arguments, as plain data. No condition. Rings at a corner: what program and reference look for is the same. No condition. Rows of the call's own from some place of their block on: what is left of a row behind 'l = l[1:]', and appends to it. No condition. The reference's meshes as plain functions: its sorting, its corners, its border. No condition. What a reading of an argument te -/
import Derived.Test.YtcikldoaidmnhaaGreatDoorQOpen1
import Derived.Test.YtcikldoaidmnhaaGreatDoorQOpen2
import Derived.Test.YtcikldoaidmnhaaGreatDoorQOpen5
import Derived.ArgAppend
import Derived.Deep.Upon
namespace Go.Proofs.YtcikldoaidmnhaaGreatDoor
open Go Go.RowKit Pk
structure SV where
 op:Bool
 bits:Nat
 side:Nat
 heights:List Int
 frm:Nat
 many:Nat
 q0:Int
 q1:Int
 q2:Int
def SV.V (x:SV) (v:Value):Value:=.agg #[.bool x.op,.int .u32 x.bits,.int .u32 x.side,v,.int .u8 x.frm,.int .u8 x.many,.int .i64 x.q0,.int .i64 x.q1,.int .i64 x.q2]
def SV.base (x:SV):List Tri:=if x.op then hillsT ((x.bits % 6:Nat):Int) (1+((x.side % 1000:Nat):Int)) (x.heights.take 49) else voxelsT ((x.bits % 134217728:Nat):Int) (1+((x.side % 600000:Nat):Int)) (7,5,0)
def SV.part (x:SV):List Tri:=(x.base.drop (x.frm % x.base.length)).take (x.many % 141)
def SV.tris (x:SV):List Tri:=if x.base=[] then [] else spoilT x.part x.q0 x.q1 x.q2
structure SV.Ok (x:SV):Prop where
 bits:x.bits<4294967296
 side:x.side<4294967296
 heights:x.heights.length≤9223372036854775807
 frm:x.frm<256
 many:x.many<256
end Go.Proofs.YtcikldoaidmnhaaGreatDoor
namespace Go.Proofs.YtcikldoaidmnhaaGreatDoor
open Go Go.RowKit Go.ChangeShapes Go.WideShapes Go.ChangeAt
set_option maxRecDepth 100000
theorem field_cell {P:Program} {o:Nat} {t:TypeId} {cs:List Value} {c:Value} (hc:P.cellsOf t=1) (hg:cs[o]?=some c):(cs.drop o).take (P.cellsOf t)=[c]:=by
 rw [hc,List.take_one,List.head?_drop,hg];rfl
theorem listF_of_reading {P:Program} {t e:TypeId} {α:Type} {size:Nat} (hs:0<size) (R:List Value→α→Prop) (ht:P.underlying t=some (.slice e)) (hce:P.cellsOf e=size)
  {H:Type} {enc:TypeId × Value→H} {W:World} {n:Nat} {cs0:List Value} {x0:DataW H × List MemPlace} (hR:∀n cs x,DataW.trod enc P W 0 (fun _=>true) true n e cs=some x→∃y,R cs y)
  (hf:DataW.trod enc P W 0 (fun _=>true) true n t cs0=some x0):∃v l,cs0=[v]∧ArgL size R W v l:=by
 rcases Deep.open_slice ht hf with ⟨hcs,_⟩ | ⟨x,len,cap,m,n,D,Pl,hcs,_,hl,hm,hmm,_,hx⟩
 ·exact ⟨_,[],hcs,none,0,rfl,fun h=>absurd h (by simp),Nat.le_refl _,Nat.zero_le _⟩
 ·simp only [if_true] at hmm;subst hmm;rw [hce] at hx;have each:∀i,i<m→∃y cs,cs.length=size∧R cs y∧∀j u,cs[j]?=some u→W.cell? ((x.add (i*size)).add j)=some u:=by
   intro i hi;obtain ⟨cs,h1,h2⟩:=hx i hi;obtain ⟨y,hy⟩:=hR _ _ _ h2;obtain ⟨_,h3,h4⟩:=World.cells?_some h1;exact ⟨y,cs,h3,hy,fun j u hj=>by
    have hj':=(List.getElem?_eq_some_iff.1 hj).1;have:=h4 j (by omega);rw [this,←hj]⟩
  by_cases hl0:len=0
  ·subst hl0;exact ⟨_,[],hcs,some x,m,rfl,fun h=>absurd h (by simp),Nat.zero_le _,hm⟩
  ·obtain ⟨y0,_⟩:=each 0 (by omega);haveI:Inhabited α:=⟨y0⟩
   obtain ⟨f,hfx⟩:=Deep.choose_lt each;have hsx:x=⟨x.block,x.off,none⟩:=by
    obtain ⟨cs,h1,_,h3⟩:=hfx 0 (by omega);have:=spot_none (h3 0 cs[0] (by rw [List.getElem?_eq_getElem]));simpa [Addr.add] using this
   refine ⟨_,(List.range len).map f,hcs,some x,m,by simp,fun _=>⟨x.block,x.off,by rw [←hsx],fun j hj=>?_⟩,by simpa using hl,hm⟩;obtain ⟨cs,h1,h2,h3⟩:=hfx j (by simp at hj;omega);refine ⟨cs,h1,by simpa using h2,fun i u hi=>?_⟩;have:=h3 i u hi;rw [hsx,add_plain,add_plain] at this;exact this
theorem kInt_of_argL {W:World} {v:Value} {l:List Int} (h:ArgL 1 (fun cs (c:Int)=>cs=[.int .i64 c]) W v l):kInt.Rd W v l∧l.length≤9223372036854775807:=by
 obtain ⟨A,cap,rfl,h1,h2,h3⟩:=h;refine ⟨⟨A,cap,rfl,h2,fun h0=>?_⟩,by unfold maxLen at h3;omega⟩;obtain ⟨b,off,e,h4⟩:=h1 h0;refine ⟨b,off,e,fun j hj=>?_⟩;obtain ⟨cs,_,rfl,h5⟩:=h4 j hj;exact h5
theorem ints_of_trod {H:Type} {enc:TypeId × Value→H} {W:World} {n:Nat} {cs:List Value} {x:DataW H × List MemPlace} (hf:DataW.trod enc Tryz.prog W 0 (fun _=>true) true n 23 cs=some x):∃v l,cs=[v]∧kInt.Rd W v l∧l.length≤9223372036854775807:=by
 obtain ⟨v,l,rfl,h⟩:=listF_of_reading (size:=1) (by decide) (fun cs (c:Int)=>cs=[.int .i64 c]) Tryz.underlying23 (by kernel_rfl) (fun n cs x hx=>by
  obtain ⟨z,e,_,w⟩:=DataW.trod_int Tryz.underlying3 hx;exact ⟨z,e⟩) hf
 exact ⟨v,l,rfl,kInt_of_argL h⟩
theorem i3_of_trod {H:Type} {enc:TypeId × Value→H} {W:World} {n:Nat} {cs:List Value} {x:DataW H × List MemPlace} (hf:DataW.trod enc Tryz.prog W 0 (fun _=>true) true n 24 cs=some x):∃a b c:Int,cs=[.int .i64 a,.int .i64 b,.int .i64 c]:=by
 obtain ⟨xs,m,_,_,hl,hlen,hel⟩:=DataW.trod_array Tryz.underlying24 hf;have hc1:Tryz.prog.cellsOf 3=1:=by kernel_rfl
 have hc6:Tryz.prog.cellsOf 24=3:=by kernel_rfl
 rw [hc6] at hl;have get:∀i,i<3→∃z:Int,cs[i]?=some (.int .i64 z):=fun i hi=>by
  have h:=hel i hi;rw [List.getElem?_eq_getElem (by omega:i<xs.length),hc1,Nat.mul_one] at h;obtain ⟨z,e,_,_⟩:=DataW.trod_int Tryz.underlying3 h;refine ⟨z,?_⟩;rw [List.take_one,List.head?_drop] at e;cases hg:cs[i]? with
  | none=>rw [hg] at e;cases e
  | some c=>rw [hg] at e;simp at e;rw [e]
 obtain ⟨z0,g0⟩:=get 0 (by decide);obtain ⟨z1,g1⟩:=get 1 (by decide);obtain ⟨z2,g2⟩:=get 2 (by decide);refine ⟨z0,z1,z2,List.ext_getElem? fun i=>?_⟩;rcases (by omega:i=0∨i=1∨i=2∨3≤i) with rfl | rfl | rfl | h
 ·exact g0
 ·exact g1
 ·exact g2
 ·rw [List.getElem?_eq_none (by omega),List.getElem?_eq_none (by show 3≤i;omega)]
theorem c3_of_reading {H:Type} {enc:TypeId × Value→H} {W:World} {d:DataW H} {p:List MemPlace} {v:Value}
  (hval:Value.okWide Tryz.prog W .any 0 24 v) (h:DataW.Trod enc Tryz.prog W 0 (fun _=>true) true 24 v d p):∃a b c:Int,v=.agg #[.int .i64 a,.int .i64 b,.int .i64 c]:=by
 simp only [Value.okWide,Tryz.underlying24] at hval;obtain ⟨cs,rfl,hl,_⟩:=hval;obtain ⟨fuel,hf⟩:=h;obtain ⟨a,b,c,e⟩:=i3_of_trod hf;refine ⟨a,b,c,?_⟩;obtain ⟨l⟩:=cs;simp only [Value.cells] at e;rw [e]
theorem u32_wf {z:Int} (h:(Lit.int .u32 z).wf=true):∃c:Nat,z=c∧c<4294967296:=by
 simp [Lit.wf,IntKind.min,IntKind.max,IntKind.signed,IntKind.bits] at h;exact ⟨z.toNat,by omega,by omega⟩
theorem u8_wf2 {z:Int} (h:(Lit.int .u8 z).wf=true):∃c:Nat,z=c∧c<256:=by
 simp [Lit.wf,IntKind.min,IntKind.max,IntKind.signed,IntKind.bits] at h;exact ⟨z.toNat,by omega,by omega⟩
theorem shape_of_reading {H:Type} {enc:TypeId × Value→H} {W:World} {d:DataW H} {p:List MemPlace} {v:Value}
  (hval:Value.okWide Tryz.prog W .any 0 26 v) (h:DataW.Trod enc Tryz.prog W 0 (fun _=>true) true 26 v d p):∃(x:SV) (vh:Value),v=x.V vh∧kInt.Rd W vh x.heights∧x.Ok:=by
 obtain ⟨a,rfl,hsz⟩:=okWide_struct Tryz.underlying26 hval;have h8:Tryz.prog.cellsOf 26=9:=by kernel_rfl
 rw [h8] at hsz;obtain ⟨fuel,hf⟩:=h;obtain ⟨xs,n,_,_,_,hlen,hfl⟩:=DataW.trod_struct Tryz.underlying26 hf;obtain ⟨l⟩:=a;match l,hsz with
 | [c0,c1,c2,c3,c4,c5,c6,c7,c8],_=>
  match xs,hlen with
  | [x0,x1,x2,x3,x4,x5,x6],_=>
   have cu:Tryz.prog.cellsOf 22=1:=by kernel_rfl
   have cl:Tryz.prog.cellsOf 23=1:=by kernel_rfl
   have cs:Tryz.prog.cellsOf 5=1:=by kernel_rfl
   have cb:Tryz.prog.cellsOf 4=1:=by kernel_rfl
   have ct:Tryz.prog.cellsOf 24=3:=by kernel_rfl
   have g0:DataW.trod enc Tryz.prog W 0 (fun _=>true) true n 4 [c0]=some x0:=by
    have h:=hfl 0 _ rfl;have e:=field_cell (P:=Tryz.prog) (o:=0) (t:=4) (cs:=[c0,c1,c2,c3,c4,c5,c6,c7,c8]) (c:=c0) cb rfl;rw [←e];exact h
   have g1:DataW.trod enc Tryz.prog W 0 (fun _=>true) true n 22 [c1]=some x1:=by
    have h:=hfl 1 _ rfl;have e:=field_cell (P:=Tryz.prog) (o:=1) (t:=22) (cs:=[c0,c1,c2,c3,c4,c5,c6,c7,c8]) (c:=c1) cu rfl;rw [←e];exact h
   have g2:DataW.trod enc Tryz.prog W 0 (fun _=>true) true n 22 [c2]=some x2:=by
    have h:=hfl 2 _ rfl;have e:=field_cell (P:=Tryz.prog) (o:=2) (t:=22) (cs:=[c0,c1,c2,c3,c4,c5,c6,c7,c8]) (c:=c2) cu rfl;rw [←e];exact h
   have g3:DataW.trod enc Tryz.prog W 0 (fun _=>true) true n 23 [c3]=some x3:=by
    have h:=hfl 3 _ rfl;have e:=field_cell (P:=Tryz.prog) (o:=3) (t:=23) (cs:=[c0,c1,c2,c3,c4,c5,c6,c7,c8]) (c:=c3) cl rfl;rw [←e];exact h
   have g4:DataW.trod enc Tryz.prog W 0 (fun _=>true) true n 5 [c4]=some x4:=by
    have h:=hfl 4 _ rfl;have e:=field_cell (P:=Tryz.prog) (o:=4) (t:=5) (cs:=[c0,c1,c2,c3,c4,c5,c6,c7,c8]) (c:=c4) cs rfl;rw [←e];exact h
   have g5:DataW.trod enc Tryz.prog W 0 (fun _=>true) true n 5 [c5]=some x5:=by
    have h:=hfl 5 _ rfl;have e:=field_cell (P:=Tryz.prog) (o:=5) (t:=5) (cs:=[c0,c1,c2,c3,c4,c5,c6,c7,c8]) (c:=c5) cs rfl;rw [←e];exact h
   have g6:DataW.trod enc Tryz.prog W 0 (fun _=>true) true n 24 [c6,c7,c8]=some x6:=by
    have h:=hfl 6 _ rfl;have e:(([c0,c1,c2,c3,c4,c5,c6,c7,c8]:List Value).drop 6).take (Tryz.prog.cellsOf 24)=[c6,c7,c8]:=by rw [ct];rfl
    rw [←e];exact h
   obtain ⟨z0,e0,_⟩:=DataW.trod_bool Tryz.underlying4 g0;obtain ⟨z1,e1,_,w1⟩:=DataW.trod_int Tryz.underlying22 g1;obtain ⟨z2,e2,_,w2⟩:=DataW.trod_int Tryz.underlying22 g2;obtain ⟨v3,l3,e3,r3,b3⟩:=ints_of_trod g3;obtain ⟨z4,e4,_,w4⟩:=DataW.trod_int Tryz.underlying5 g4;obtain ⟨z5,e5,_,w5⟩:=DataW.trod_int Tryz.underlying5 g5;obtain ⟨q0,q1,q2,e6⟩:=i3_of_trod g6;obtain ⟨n1,rfl,k1⟩:=u32_wf w1;obtain ⟨n2,rfl,k2⟩:=u32_wf w2;obtain ⟨n4,rfl,k4⟩:=u8_wf2 w4;obtain ⟨n5,rfl,k5⟩:=u8_wf2 w5;simp only [List.cons.injEq,and_true] at e0 e1 e2 e3 e4 e5 e6;obtain ⟨e6,e7,e8⟩:=e6;subst e0;subst e1;subst e2;subst e3;subst e4;subst e5;subst e6;subst e7;subst e8;exact ⟨⟨z0,n1,n2,l3,n4,n5,q0,q1,q2⟩,c3,rfl,r3,⟨k1,k2,b3,k4,k5⟩⟩
end Go.Proofs.YtcikldoaidmnhaaGreatDoor
namespace Go.Proofs.YtcikldoaidmnhaaGreatDoor
open Go Go.RowKit
namespace Pk
def ringLoop (l:List Tri) (p tq:Pt) (M:Nat):Nat→Nat→Pt→Bool
 | 0,size,at_=>decide (at_=tq∧size<M)
 | f+1,size,at_=>if at_≠tq∧size≤M then match third l p at_ with
   | none=>decide (at_=tq∧size<M)
   | some b=>ringLoop l p tq M f (size+1) b
  else decide (at_=tq∧size<M)
theorem ringLoop_iff (l:List Tri) (p tq:Pt) (M:Nat):∀(f size:Nat) (at_:Pt),M+1≤size+f→(ringLoop l p tq M f size at_=true↔∃k,size+k<M∧ringN l p k at_=some tq)
 | 0,size,at_,h=>by
  rw [ringLoop,decide_eq_true_eq];exact ⟨fun k=>absurd k.2 (by omega),fun ⟨k,h1,_⟩=>absurd h1 (by omega)⟩
 | f+1,size,at_,h=>by
  rw [ringLoop];by_cases h1:at_≠tq∧size≤M
  ·rw [if_pos h1];cases h2:third l p at_ with
   | none=>
    simp only;rw [decide_eq_true_eq];refine ⟨fun k=>absurd k.1 h1.1,fun ⟨k,h3,h4⟩=>?_⟩;cases k with
    | zero=>rw [ringN] at h4;cases h4;exact absurd rfl h1.1
    | succ k=>rw [ringN,h2] at h4;cases h4
   | some b=>
    simp only;rw [ringLoop_iff l p tq M f (size+1) b (by omega)];constructor
    ·rintro ⟨k,h3,h4⟩;exact ⟨k+1,by omega,by rw [ringN,h2];exact h4⟩
    ·rintro ⟨k,h3,h4⟩;cases k with
     | zero=>rw [ringN] at h4;cases h4;exact absurd rfl h1.1
     | succ k=>rw [ringN,h2] at h4;exact ⟨k,by omega,h4⟩
  ·rw [if_neg h1,decide_eq_true_eq];constructor
   ·rintro ⟨rfl,h3⟩;exact ⟨0,h3,rfl⟩
   ·rintro ⟨k,h3,h4⟩;refine ⟨?_,by omega⟩;by_cases e:at_=tq
    ·exact e
    ·exact absurd ⟨e,by omega⟩ h1
def hitE (l:List Tri) (e:Pt × Pt):Bool:=(List.range (manyC l e.1)).any (fun n=>decide (1≤n)&&(ringN l e.1 n e.2 == some e.2))
theorem hitE_iff (l:List Tri) (e:Pt × Pt):hitE l e=true↔∃n,1≤n∧n<manyC l e.1∧ringN l e.1 n e.2=some e.2:=by
 unfold hitE;rw [List.any_eq_true];constructor
 ·rintro ⟨n,h1,h2⟩;simp only [Bool.and_eq_true,decide_eq_true_eq,beq_iff_eq] at h2;exact ⟨n,h2.1,List.mem_range.1 h1,h2.2⟩
 ·rintro ⟨n,h1,h2,h3⟩;exact ⟨n,List.mem_range.2 h2,by simp [h1,h3]⟩
theorem pinched_any (l:List Tri):pinched l=(edgesL l).any (hitE l):=rfl
theorem ring_prog (l:List Tri) (e:Pt × Pt) {at0:Pt} (h:third l e.1 e.2=some at0):ringLoop l e.1 e.2 (manyC l e.1) (manyC l e.1) 1 at0=hitE l e:=by
 rw [Bool.eq_iff_iff,ringLoop_iff l e.1 e.2 _ _ _ _ (by omega),hitE_iff];constructor
 ·rintro ⟨k,h1,h2⟩;exact ⟨k+1,by omega,by omega,by rw [ringN,h];exact h2⟩
 ·rintro ⟨n,h1,h2,h3⟩;obtain ⟨k,rfl⟩:∃k,n=k+1:=⟨n-1,by omega⟩;rw [ringN,h] at h3;exact ⟨k,by omega,h3⟩
def mineL (l:List Tri) (p:Pt):List Tri:=l.flatMap (fun t=>((edgesT t).filter (fun e=>decide (e.1=p))).map (fun _=>t))
def startsL (l:List Tri) (p:Pt):List Pt:=l.flatMap (fun t=>((edgesT t).filter (fun e=>decide (e.1=p))).map (·.2))
theorem third_or (a b:List Tri) (p q:Pt):third (a++b) p q=(third a p q).or (third b p q):=by
 induction a with
 | nil=>rfl
 | cons t a ih=>
  rw [List.cons_append,third,third];split
  ·rfl
  ·split
   ·rfl
   ·split
    ·rfl
    ·exact ih
theorem third_all {t:Tri} {p q:Pt}:∀{xs:List Tri},(∀x,x∈xs→x=t)→xs≠[]→third xs p q=third [t] p q
 | [],_,h=>absurd rfl h
 | [x],h,_=>by rw [h x (by simp)]
 | x :: y :: xs,h,_=>by
  have ih:=third_all (p:=p) (q:=q) (xs:=y :: xs) (fun z hz=>h z (by simp [hz])) (by simp);have:x :: y :: xs=[x]++(y :: xs):=rfl;rw [this,third_or,ih,h x (by simp)];cases third [t] p q<;>rfl
theorem third_mine (p q:Pt):∀l:List Tri,third (mineL l p) p q=third l p q
 | []=>rfl
 | t :: l=>by
  have e:mineL (t :: l) p=((edgesT t).filter (fun e=>decide (e.1=p))).map (fun _=>t)++mineL l p:=rfl;rw [e,third_or,third_mine p q l,show t :: l=[t]++l from rfl,third_or];by_cases hx:((edgesT t).filter (fun e=>decide (e.1=p))).map (fun _=>t)=[]
  ·rw [hx];have hn:∀e,e∈edgesT t→e.1≠p:=fun e he h=>by
    have:e∈(edgesT t).filter (fun e=>decide (e.1=p)):=List.mem_filter.2 ⟨he,by simp [h]⟩;rw [List.map_eq_nil_iff] at hx;rw [hx] at this;cases this
   have h1:=hn (t.1,t.2.1) (by simp [edgesT]);have h2:=hn (t.2.1,t.2.2) (by simp [edgesT]);have h3:=hn (t.2.2,t.1) (by simp [edgesT]);have:third [t] p q=none:=by
    rw [third,if_neg (fun h=>h1 h.1),if_neg (fun h=>h2 h.1),if_neg (fun h=>h3 h.1)];rfl
   rw [this];rfl
  ·rw [third_all (t:=t) (fun x hx=>by obtain ⟨_,_,rfl⟩:=List.mem_map.1 hx;rfl) hx]
theorem mine_length (l:List Tri) (p:Pt):(mineL l p).length=manyC l p:=by
 induction l with
 | nil=>rfl
 | cons t l ih=>
  have e1:mineL (t :: l) p=((edgesT t).filter (fun e=>decide (e.1=p))).map (fun _=>t)++mineL l p:=rfl;have e2:manyC (t :: l) p=[t.1,t.2.1,t.2.2].count p+manyC l p:=by unfold manyC;rw [List.flatMap_cons,List.count_append]
  rw [e1,e2,List.length_append,List.length_map,ih];congr 1
  simp only [edgesT,List.filter_cons,List.filter_nil,List.count_cons,List.count_nil,beq_iff_eq,decide_eq_true_eq];split<;>split<;>split<;>simp
theorem starts_length (l:List Tri) (p:Pt):(startsL l p).length=(mineL l p).length:=by
 induction l with
 | nil=>rfl
 | cons t l ih=>
  have e1:mineL (t :: l) p=((edgesT t).filter (fun e=>decide (e.1=p))).map (fun _=>t)++mineL l p:=rfl;have e2:startsL (t :: l) p=((edgesT t).filter (fun e=>decide (e.1=p))).map (·.2)++startsL l p:=rfl;rw [e1,e2,List.length_append,List.length_append,List.length_map,List.length_map,ih]
theorem mem_starts {l:List Tri} {p q:Pt}:q∈startsL l p↔(p,q)∈edgesL l:=by
 unfold startsL;rw [List.mem_flatMap,mem_edgesL];constructor
 ·rintro ⟨t,h1,h2⟩;obtain ⟨e,h3,rfl⟩:=List.mem_map.1 h2;obtain ⟨h4,h5⟩:=List.mem_filter.1 h3;refine ⟨t,h1,?_⟩;have:e.1=p:=by simpa using h5
  rw [←this];exact h4
 ·rintro ⟨t,h1,h2⟩;exact ⟨t,h1,List.mem_map.2 ⟨(p,q),List.mem_filter.2 ⟨h2,by simp⟩,rfl⟩⟩
def stepLoop (m:List Tri) (p start:Pt):Nat→Pt→Bool
 | 0,_=>false
 | n+1,at_=>match third m p at_ with
  | none=>false
  | some b=>if b=start then true else stepLoop m p start n b
theorem stepLoop_iff (m:List Tri) (p start:Pt):∀(n:Nat) (at_:Pt),stepLoop m p start n at_=true↔∃k,1≤k∧k≤n∧ringN m p k at_=some start
 | 0,at_=>by
  rw [stepLoop];exact ⟨fun h=>(by cases h),fun ⟨k,h1,h2,_⟩=>(by omega)⟩
 | n+1,at_=>by
  rw [stepLoop];cases h:third m p at_ with
  | none=>
   simp only;refine ⟨fun h=>(by cases h),fun ⟨k,h1,_,h3⟩=>?_⟩;obtain ⟨j,rfl⟩:∃j,k=j+1:=⟨k-1,by omega⟩;rw [ringN,h] at h3;cases h3
  | some b=>
   simp only;by_cases hb:b=start
   ·rw [if_pos hb];refine ⟨fun _=>⟨1,by omega,by omega,?_⟩,fun _=>rfl⟩;rw [ringN,h,hb];rfl
   ·rw [if_neg hb,stepLoop_iff m p start n b];constructor
    ·rintro ⟨k,h1,h2,h3⟩;exact ⟨k+1,by omega,by omega,by rw [ringN,h];exact h3⟩
    ·rintro ⟨k,h1,h2,h3⟩;obtain ⟨j,rfl⟩:∃j,k=j+1:=⟨k-1,by omega⟩;rw [ringN,h] at h3;simp only at h3;cases j with
     | zero=>rw [ringN] at h3;cases h3;exact absurd rfl hb
     | succ j=>exact ⟨j+1,by omega,by omega,h3⟩
def pinchedAt (l:List Tri) (p:Pt):Bool:=(startsL l p).any (fun q=>stepLoop (mineL l p) p q ((mineL l p).length-1) q)
theorem ringN_mine (l:List Tri) (p:Pt):∀(n:Nat) (q:Pt),ringN (mineL l p) p n q=ringN l p n q
 | 0,_=>rfl
 | n+1,q=>by
  rw [ringN,ringN,third_mine];cases third l p q with
  | none=>rfl
  | some r=>exact ringN_mine l p n r
theorem pinchedAt_iff (l:List Tri) (p:Pt):pinchedAt l p=true↔∃q,(p,q)∈edgesL l∧hitE l (p,q)=true:=by
 unfold pinchedAt;rw [List.any_eq_true];constructor
 ·rintro ⟨q,h1,h2⟩;refine ⟨q,mem_starts.1 h1,?_⟩;rw [stepLoop_iff] at h2;obtain ⟨k,k1,k2,k3⟩:=h2;rw [hitE_iff];rw [mine_length] at k2;exact ⟨k,k1,by show k<manyC l p;omega,by rw [←ringN_mine];exact k3⟩
 ·rintro ⟨q,h1,h2⟩;refine ⟨q,mem_starts.2 h1,?_⟩;rw [hitE_iff] at h2;obtain ⟨k,k1,k2,k3⟩:=h2;rw [stepLoop_iff,mine_length];have k2':k<manyC l p:=k2;exact ⟨k,k1,by omega,by rw [ringN_mine];exact k3⟩
theorem pinched_ref (l:List Tri) (cs:List Pt) (h:∀p,p∈cs↔∃t,t∈l∧p∈cornT t):cs.any (pinchedAt l)=pinched l:=by
 rw [pinched_any,Bool.eq_iff_iff,List.any_eq_true,List.any_eq_true];constructor
 ·rintro ⟨p,_,h2⟩;obtain ⟨q,h3,h4⟩:=(pinchedAt_iff l p).1 h2;exact ⟨(p,q),h3,h4⟩
 ·rintro ⟨⟨p,q⟩,h1,h2⟩;obtain ⟨t,k1,k2⟩:=mem_edgesL.1 h1;refine ⟨p,(h p).2 ⟨t,k1,?_⟩,(pinchedAt_iff l p).2 ⟨q,h1,h2⟩⟩;simp only [edgesT,List.mem_cons,Prod.mk.injEq,List.not_mem_nil,or_false] at k2;rcases k2 with ⟨rfl,_⟩ | ⟨rfl,_⟩ | ⟨rfl,_⟩<;>simp [cornT]
end Pk
end Go.Proofs.YtcikldoaidmnhaaGreatDoor
namespace Go.Proofs.YtcikldoaidmnhaaGreatDoor
open Go Go.RowKit
namespace Pk
theorem rot_ref (t:Tri):(if ptLt t.2.2 t.1&&(ptLt t.2.2 t.2.1||!ptLt t.2.1 t.1) then (t.2.2,t.1,t.2.1) else if ptLt t.2.1 t.1 then (t.2.1,t.2.2,t.1) else t)=rot t:=by
 unfold rot;cases h1:ptLt t.2.1 t.1<;>cases h2:ptLt t.2.2 t.2.1<;>cases h3:ptLt t.2.2 t.1<;>simp
 have:=ptLt_trans h2 h1;rw [h3] at this;cases this
def mergeT:List Tri→List Tri→List Tri
 | [],b=>b
 | a :: r,b=>b.takeWhile (fun t=>triLt t a)++a :: mergeT r (b.dropWhile (fun t=>triLt t a))
theorem mergeT_perm:∀a b:List Tri,(mergeT a b).Perm (a++b)
 | [],b=>List.Perm.refl _
 | a :: r,b=>by
  rw [mergeT];have h1:=mergeT_perm r (b.dropWhile (fun t=>triLt t a));have h2:b=b.takeWhile (fun t=>triLt t a)++b.dropWhile (fun t=>triLt t a):=List.takeWhile_append_dropWhile.symm;refine (List.perm_middle).trans ?_;rw [List.cons_append];refine List.Perm.cons a ?_;refine (List.Perm.append_left _ h1).trans ?_;refine List.Perm.trans ?_ (List.Perm.of_eq (congrArg (r++·) h2.symm));show (_++(r++_)).Perm (r++(_++_));rw [←List.append_assoc,←List.append_assoc];exact List.Perm.append_right _ List.perm_append_comm
theorem le_of_ge {s t:Tri} (h:triLt s t=false):triLe t s=true:=by unfold triLe;rw [h];rfl
theorem le_of_lt {s t:Tri} (h:triLt s t=true):triLe s t=true:=by unfold triLe;rw [triLt_asymm h];rfl
def Sorted (l:List Tri):Prop:=l.Pairwise (fun a b=>triLe a b=true)
theorem sorted_drop {a:Tri}:∀{b:List Tri},Sorted b→(∀x,x∈b.dropWhile (fun t=>triLt t a)→triLe a x=true)∧Sorted (b.dropWhile (fun t=>triLt t a))
 | [],_=>⟨fun x h=>(by cases h),List.Pairwise.nil⟩
 | y :: b,h=>by
  obtain ⟨p1,p2⟩:=List.pairwise_cons.1 h;rw [List.dropWhile_cons];cases hy:triLt y a
  ·simp only [Bool.false_eq_true,if_false];refine ⟨fun x hx=>?_,h⟩;rcases List.mem_cons.1 hx with rfl | hx
   ·exact le_of_ge hy
   ·exact triLe_trans _ _ _ (le_of_ge hy) (p1 x hx)
  ·simp only [if_true];exact sorted_drop p2
theorem mergeT_sorted:∀{a b:List Tri},Sorted a→Sorted b→Sorted (mergeT a b)
 | [],b,_,h=>h
 | a :: r,b,h1,h2=>by
  obtain ⟨p1,p2⟩:=List.pairwise_cons.1 h1;obtain ⟨q1,q2⟩:=sorted_drop (a:=a) h2;have ih:=mergeT_sorted p2 q2;rw [mergeT];have ht:∀x,x∈b.takeWhile (fun t=>triLt t a)→triLt x a=true:=fun x hx=>by
   exact List.all_eq_true.1 (List.all_takeWhile (p:=fun t=>triLt t a) (l:=b)) x hx
  have hr:∀x,x∈a :: mergeT r (b.dropWhile (fun t=>triLt t a))→triLe a x=true:=fun x hx=>by
   rcases List.mem_cons.1 hx with rfl | hx
   ·exact le_of_ge (triLt_irrefl x)
   ·rcases List.mem_append.1 ((mergeT_perm _ _).mem_iff.1 hx) with hx | hx
    ·exact p1 x hx
    ·exact q1 x hx
  refine List.pairwise_append.2 ⟨?_,List.pairwise_cons.2 ⟨fun x hx=>hr x (List.mem_cons_of_mem _ hx),ih⟩,fun x hx y hy=>triLe_trans _ _ _ (le_of_lt (ht x hx)) (hr y hy)⟩;exact List.Pairwise.sublist (List.takeWhile_sublist _) h2
theorem mergeT_sort (a b:List Tri):mergeT (a.mergeSort triLe) (b.mergeSort triLe)=(a++b).mergeSort triLe:=by
 have hs:∀l:List Tri,Sorted (l.mergeSort triLe):=fun l=>List.pairwise_mergeSort triLe_trans triLe_total l;refine sorted_unique ?_ (mergeT_sorted (hs a) (hs b)) (hs _);refine (mergeT_perm _ _).trans (List.Perm.trans ?_ (List.mergeSort_perm _ _).symm);exact List.Perm.append (List.mergeSort_perm _ _) (List.mergeSort_perm _ _)
theorem sort_half (l:List Tri):mergeT ((l.take (l.length / 2)).mergeSort triLe) ((l.drop (l.length / 2)).mergeSort triLe)=l.mergeSort triLe:=by
 rw [mergeT_sort,List.take_append_drop]
theorem sort_few (l:List Tri) (h:l.length<2):l.mergeSort triLe=l:=by
 match l,h with
 | [],_=>simp
 | [a],_=>simp
def withP (l:List Pt) (p:Pt):List Pt:=if (l.dropWhile (fun q=>ptLt q p)).head?=some p then l else l.takeWhile (fun q=>ptLt q p)++p :: l.dropWhile (fun q=>ptLt q p)
theorem withP_mem (l:List Pt) (p q:Pt):q∈withP l p↔q=p∨q∈l:=by
 have h2:l=l.takeWhile (fun q=>ptLt q p)++l.dropWhile (fun q=>ptLt q p):=List.takeWhile_append_dropWhile.symm;unfold withP;split
 ·rename_i h
  have:p∈l:=by
   rw [h2];exact List.mem_append_right _ (List.mem_of_mem_head? h)
  constructor
  ·exact fun h=>.inr h
  ·rintro (rfl | h)
   ·exact this
   ·exact h
 ·constructor
  ·intro h;rcases List.mem_append.1 h with h | h
   ·exact .inr (by rw [h2];exact List.mem_append_left _ h)
   ·rcases List.mem_cons.1 h with h | h
    ·exact .inl h
    ·exact .inr (by rw [h2];exact List.mem_append_right _ h)
  ·rintro (rfl | h)
   ·exact List.mem_append_right _ (by simp)
   ·rw [h2] at h;rcases List.mem_append.1 h with h | h
    ·exact List.mem_append_left _ h
    ·exact List.mem_append_right _ (List.mem_cons_of_mem _ h)
theorem withP_len (l:List Pt) (p:Pt):(withP l p).length≤l.length+1:=by
 unfold withP;split
 ·omega
 ·have h2:=congrArg List.length (List.takeWhile_append_dropWhile (p:=fun q=>ptLt q p) (l:=l));rw [List.length_append] at h2;rw [List.length_append,List.length_cons];omega
def cornersL (l:List Tri):List Pt:=(l.flatMap cornT).foldl withP []
theorem foldl_with (ps:List Pt):∀(l:List Pt) (q:Pt),q∈ps.foldl withP l↔q∈l∨q∈ps:=by
 induction ps with
 | nil=>intro l q;simp
 | cons p ps ih=>intro l q;rw [List.foldl_cons,ih,withP_mem,List.mem_cons];exact ⟨fun h=>h.elim (fun h=>h.elim (fun h=>.inr (.inl h)) .inl) (fun h=>.inr (.inr h)),fun h=>h.elim (fun h=>.inl (.inr h)) (fun h=>h.elim (fun h=>.inl (.inl h)) .inr)⟩
theorem cornersL_mem (l:List Tri) (p:Pt):p∈cornersL l↔∃t,t∈l∧p∈cornT t:=by
 unfold cornersL;rw [foldl_with];simp [List.mem_flatMap]
theorem foldl_with_len (ps:List Pt):∀l:List Pt,(ps.foldl withP l).length≤l.length+ps.length:=by
 induction ps with
 | nil=>intro l;simp
 | cons p ps ih=>intro l;rw [List.foldl_cons];have:=ih (withP l p);have:=withP_len l p;rw [List.length_cons];omega
theorem check_ref (l:List Tri):(if l.any flatT then 20 else if (edgesL l).any (fun e=>decide (1<(edgesL l).count e)) then 21 else if (cornersL l).any (pinchedAt l) then 23 else 0)=checkO l:=by
 unfold checkO;rw [pinched_ref l (cornersL l) (cornersL_mem l)];have:((edgesL l).any (fun e=>decide (1<(edgesL l).count e))=true)↔¬(edgesL l).Nodup:=by
  rw [List.any_eq_true,List.nodup_iff_count];constructor
  ·rintro ⟨e,he,hc⟩ h;have:=h e;simp at hc;omega
  ·intro h;obtain ⟨e,he⟩:=Classical.not_forall.1 h;exact ⟨e,List.count_pos_iff.1 (by omega),by simp;omega⟩
 by_cases hn:(edgesL l).Nodup
 ·have h2:¬((edgesL l).any (fun e=>decide (1<(edgesL l).count e))=true):=fun h=>this.1 h hn;rw [if_neg h2];simp [hn]
 ·rw [if_pos (this.2 hn)];simp [hn]
end Pk
end Go.Proofs.YtcikldoaidmnhaaGreatDoor
namespace Go.Proofs.YtcikldoaidmnhaaGreatDoor
open Go Go.RowKit
variable {P:Program} {α:Type}
theorem setCells_blk {g:Nat} {T:TypeId}:∀(vs:List Value) (o:Nat) (w:World) (cur:Array Value),w.heap[g]?=some (.cells cur T (0,0))→∃cur',(w.setCells g o vs).heap[g]?=some (.cells cur' T (0,0))∧cur'.size=cur.size
 | [],_,_,cur,h=>⟨cur,h,rfl⟩
 | v :: r,o,w,cur,h=>by
  obtain ⟨c',h1,h2⟩:=setCells_blk r (o+1) (w.setCell ⟨g,o,none⟩ v) _ (heap_setCell_eq (i:=o) v h);exact ⟨c',h1,by rw [h2];simp⟩
theorem setCells_upd {g:Nat}:∀(vs:List Value) (o:Nat) (w:World),Upd (fun k=>k=g) w (w.setCells g o vs)
 | [],_,w=>Upd.refl _ w
 | v :: r,o,w=>((Upd.refl (fun k=>k=g) w).setCell (p:=⟨g,o,none⟩) (fun _=>rfl) v).trans (setCells_upd r (o+1) _)
def Kd.Que (K:Kd P α) (base:Nat) (w:World) (v:Value) (l:List α):Prop:=
 (v=.slice none 0 0∧l=[])∨∃g off cap cur,v=.slice (some ⟨g,off,none⟩) l.length cap∧base≤g∧w.heap[g]?=some (.cells cur K.T (0,0))∧l.length≤cap∧cap≤maxLen∧off+cap*K.k≤cur.size∧w.rangeAt g off (l.flatMap K.enc)
theorem Kd.Que.nil (K:Kd P α) (base:Nat) (w:World):K.Que base w (.slice none 0 0) []:=.inl ⟨rfl,rfl⟩
theorem Kd.Que.form {K:Kd P α} {base:Nat} {w:World} {v:Value} {l:List α} (h:K.Que base w v l):∃A cap,v=.slice A l.length cap∧l.length≤cap:=by
 rcases h with ⟨rfl,rfl⟩ | ⟨g,off,cap,cur,rfl,_,_,h1,_⟩
 ·exact ⟨none,0,rfl,Nat.le_refl _⟩
 ·exact ⟨_,_,rfl,h1⟩
theorem Kd.Que.blk {K:Kd P α} {base:Nat} {w:World} {v:Value} {l:List α} (h:K.Que base w v l) {g:Nat} (hg:v.ownBlock=some g):base≤g∧∃cur,w.heap[g]?=some (.cells cur K.T (0,0)):=by
 rcases h with ⟨rfl,_⟩ | ⟨g',off,cap,cur,rfl,h1,h2,_⟩
 ·cases hg
 ·cases hg;exact ⟨h1,cur,h2⟩
theorem Kd.Que.keepB {K:Kd P α} {base:Nat} {w w':World} {v:Value} {l:List α} (h:K.Que base w v l) (hk:∀g,v.ownBlock=some g→w'.heap[g]?=w.heap[g]?):K.Que base w' v l:=by
 rcases h with h | ⟨g,off,cap,cur,rfl,h1,h2,h3,h4,h5,h6⟩
 ·exact .inl h
 ·have hb:=hk g rfl;exact .inr ⟨g,off,cap,cur,rfl,h1,hb.trans h2,h3,h4,h5,fun j u hu=>(World.cell?_of_block hb).trans (h6 j u hu)⟩
theorem Kd.Que.other {K:Kd P α} {F:Nat→Prop} {base:Nat} {w w':World} {v:Value} {l:List α} (h:K.Que base w v l) (hu:Upd F w w') (hF:∀g,v.ownBlock=some g→¬F g):K.Que base w' v l:=
 h.keepB (fun g hg=>by obtain ⟨_,cur,hc⟩:=h.blk hg;exact hu.block g (lt_of_heap hc) (hF g hg))
theorem Kd.Que.keep {K:Kd P α} {base:Nat} {w w':World} {v:Value} {l:List α} (h:K.Que base w v l) (hu:Upd noBlk w w'):K.Que base w' v l:=h.other hu (fun _ _=>id)
theorem Kd.Own.que {K:Kd P α} {base:Nat} {w:World} {v:Value} {l:List α} (h:K.Own base w v l):K.Que base w v l:=by
 have h0:w.ownsRow base K.T K.k v l.length (l.flatMap K.enc):=h;rcases h.2 with ⟨rfl,h1⟩ | ⟨g,cap,cur,rfl,h1,h2,h3,h4,h5,h6⟩
 ·exact .inl ⟨rfl,List.eq_nil_of_length_eq_zero h1⟩
 ·refine .inr ⟨g,0,cap,cur,rfl,h1,h2,h3,h4,by omega,fun j u hu=>?_⟩;have hj:j<l.length*K.k:=by have:=(List.getElem?_eq_some_iff.1 hu).1;rw [K.flat_len] at this;exact this
  rw [Nat.zero_add,World.ownsRow.cellAt h0 j hj];exact hu
theorem Kd.Que.rd {K:Kd P α} {base:Nat} {w:World} {v:Value} {l:List α} (h:K.Que base w v l):K.Rd w v l:=by
 rcases h with ⟨rfl,rfl⟩ | ⟨g,off,cap,cur,rfl,h1,h2,h3,h4,h5,h6⟩
 ·exact Kd.Rd.nil K w
 ·refine ⟨_,cap,rfl,h3,fun _=>⟨g,off,rfl,fun j hj i v hv=>?_⟩⟩;have hi:i<K.k:=by
   have:=(List.getElem?_eq_some_iff.1 hv).1;rw [K.len] at this;exact this
  rw [Nat.add_assoc];exact h6 _ _ (by rw [K.flat_get l j hj i hi];exact hv)
theorem Kd.Que.pop {K:Kd P α} {base:Nat} {w:World} {A:Option Addr} {cap:Nat} {x:α} {l:List α} (h:K.Que base w (.slice A (x :: l).length cap) (x :: l)):K.Que base w (sliced A 1 (x :: l).length cap K.k) l:=by
 rcases h with ⟨e,h0⟩ | ⟨g,off,cap',cur,e,h1,h2,h3,h4,h5,h6⟩
 ·cases h0
 ·cases e;rw [List.length_cons] at h3;have hl:(x :: l).length-1=l.length:=by simp
  right;by_cases hc:cap=1
  ·refine ⟨g,off,cap-1,cur,by simp [sliced,hc],h1,h2,by omega,by omega,?_,?_⟩
   ·subst hc;omega
   ·have:l=[]:=List.eq_nil_of_length_eq_zero (by omega);subst this;intro j u hu;simp at hu
  ·have hadd:(⟨g,off,none⟩:Addr).add (1*K.k)=⟨g,off+1*K.k,none⟩:=by unfold Addr.add;split<;>simp_all
   refine ⟨g,off+1*K.k,cap-1,cur,by unfold sliced;rw [if_neg hc,Option.map_some,hadd,hl],h1,h2,by omega,by omega,?_,fun j u hu=>?_⟩
   ·have:cap*K.k=1*K.k+(cap-1)*K.k:=by rw [←Nat.add_mul];congr 1;omega
    omega
   ·rw [Nat.add_assoc];refine h6 _ _ ?_;rw [List.flatMap_cons,List.getElem?_append_right (by rw [K.len];omega),K.len];rw [show 1*K.k+j-K.k=j by omega];exact hu
theorem free_blk {w:World} {g:Nat} {cur:Array Value} {T:TypeId} (h:w.heap[g]?=some (.cells cur T (0,0))) (j:Nat):w.frozen? ⟨g,j,none⟩=false:=by simp [World.frozen?,h]
theorem some_blk {w:World} {g:Nat} {cur:Array Value} {T:TypeId} (h:w.heap[g]?=some (.cells cur T (0,0))) {j:Nat} (hj:j<cur.size):(w.cell? ⟨g,j,none⟩).isSome=true:=by simp [World.cell?,h,hj]
theorem Kd.Que.app1 {K:Kd P α} {base:Nat} {w:World} {v:Value} {l:List α} (h:K.Que base w v l) (hb:base≤w.heap.size) (x:α) (hl:l.length<4294967296) :
  ∃g off cap w',(Builtin.append_ #[K.S,K.S] K.S #[v,.slice (some ⟨w.heap.size,0,none⟩) 1 1]).run P (w.alloc (.cells (K.enc x).toArray K.T))=.ok (.slice (some ⟨g,off,none⟩) (l.length+1) cap) w' ∧
   K.Que base w' (.slice (some ⟨g,off,none⟩) (l.length+1) cap) (l++[x])∧Upd (fun k=>v.ownBlock=some k) w w'∧(v.ownBlock=some g∨w.heap.size<g):=by
 rcases h with ⟨rfl,rfl⟩ | ⟨g,off,cap,cur,rfl,h1,h2,h3,h4,h5,h6⟩
 ·obtain ⟨g,cap,w',r,o,u,ha⟩:=(Kd.Own.nil K base w).app1 hb x (by simp);exact ⟨g,0,cap,w',r,o.que,u,ha⟩
 ·obtain ⟨i,z,hi,hz,k1,k2,k3⟩:=K.info;have hs:=K.small;have hsz:=K.pos;have hgl:=lt_of_heap h2;have hu1:Upd noBlk w (w.alloc (.cells (K.enc x).toArray K.T)):=(Upd.refl _ w).alloc _;have h2':=hu1.heap h2 id;have hnews:∀j u,(K.enc x)[j]?=some u→(w.alloc (.cells (K.enc x).toArray K.T)).cell? ((⟨w.heap.size,0,none⟩:Addr).add j)=some u:=by
   have hh:=World.news_of_block (cs:=(K.enc x).toArray) (t:=K.T) (fr:=(0,0)) (heap_alloc_new w (.cells (K.enc x).toArray K.T));simpa using hh
  by_cases hroom:l.length+1≤cap
  ·have hfit:off+l.length*K.k+K.k≤cur.size:=by
    have:(l.length+1)*K.k≤cap*K.k:=Nat.mul_le_mul_right _ hroom;rw [Nat.add_mul] at this;omega
   have hr:=run_append_room_cells (P:=P) (w.alloc (.cells (K.enc x).toArray K.T)) K.S K.S K.T i K.und hi g off l.length cap ⟨w.heap.size,0,none⟩ 1 1 (K.enc x) (by rw [K.len,k1];omega) hnews (K.one x) hroom
    (fun j hj=>by rw [K.len] at hj;rw [k1];exact some_blk h2' (by omega)) (fun j _=>free_blk h2' _)
   rw [k1] at hr;obtain ⟨cur',c1,c2⟩:=setCells_blk (K.enc x) (off+l.length*K.k) _ cur h2';have hu2:=setCells_upd (g:=g) (K.enc x) (off+l.length*K.k) (w.alloc (.cells (K.enc x).toArray K.T));have hfl:(l++[x]).flatMap K.enc=l.flatMap K.enc++K.enc x:=by rw [List.flatMap_append];simp
   refine ⟨g,off,cap,_,hr,.inr ⟨g,off,cap,cur',by simp,h1,c1,by simpa using hroom,h4,by omega,?_⟩,(hu1.mono (fun _ _ h=>h.elim)).trans (hu2.mono (fun k _ e=>by have e':k=g:=e;rw [e'];rfl)),.inl rfl⟩;rw [hfl];have hth:(w.alloc (.cells (K.enc x).toArray K.T)).there g (off+l.length*K.k) (K.enc x).length:=fun j hj=>by
    rw [K.len] at hj;exact ⟨some_blk h2' (by omega),free_blk h2' _⟩
   have hnew:=World.rangeAt_setCells_same _ g (off+l.length*K.k) (K.enc x) hth;have hold:=World.rangeAt_setCells_apart (w:=w.alloc (.cells (K.enc x).toArray K.T)) (World.rangeAt_alloc h6 _) g (off+l.length*K.k) (K.enc x) (.inr (.inl (by rw [K.flat_len];omega)));intro j u hu;by_cases hj:j<l.length*K.k
   ·rw [List.getElem?_append_left (by rw [K.flat_len];exact hj)] at hu;exact hold j u hu
   ·rw [List.getElem?_append_right (by rw [K.flat_len];omega),K.flat_len] at hu;have:=hnew _ _ hu;rwa [show off+l.length*K.k+(j-l.length*K.k)=off+j by omega] at this
  ·obtain ⟨v',w',hr,ho,hg⟩:=run_append_arg_grows (P:=P) (w.alloc (.cells (K.enc x).toArray K.T)) K.S K.S K.T i z K.k K.bytes K.und hi hz k1 k2 k3 K.pos ⟨g,off,none⟩ l.length cap (l.flatMap K.enc) (K.flat_len l)
    (fun j u hu=>by rw [Addr.add_mid];exact World.rangeAt_alloc h6 _ j u hu) ⟨w.heap.size,0,none⟩ 1 1 (K.enc x) (by rw [K.len];omega) hnews (by omega) (by unfold maxLen;omega)
    (Nat.le_trans (Nat.mul_le_mul (Nat.succ_le_of_lt hl) hs) (by decide))
   obtain ⟨g',cap',rfl,hb',_⟩:=ho.form (by omega);rw [World.size_alloc] at hb';have hown:K.Own base w' (.slice (some ⟨g',0,none⟩) (l.length+1) cap') (l++[x]):=by
    have:K.Own (w.heap.size+1) w' (.slice (some ⟨g',0,none⟩) (l.length+1) cap') (l++[x]):=by
     unfold Kd.Own;rw [List.flatMap_append,List.length_append];simp only [List.flatMap_cons,List.flatMap_nil,List.append_nil];rw [World.size_alloc] at ho;exact ho
    exact this.mono (by omega)
   exact ⟨g',0,cap',w',hr,hown.que,(hu1.trans (upd_of_grown hg (fun j hj _=>by cases hj))).mono (fun _ _ h=>h.elim),.inr (by omega)⟩
end Go.Proofs.YtcikldoaidmnhaaGreatDoor
