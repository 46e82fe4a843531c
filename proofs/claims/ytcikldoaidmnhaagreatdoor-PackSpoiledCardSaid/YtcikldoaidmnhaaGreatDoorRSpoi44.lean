/- Parts: A shape among the arguments, as plain data. No condition. The packet of the group that fields determine: how long it is, and that it reads back. No condition. Walks of the packets' program: OpenCluster. No condition. Walks of the reference of packets: equal groups compared. No condition. What a reading of an argument tells (packets): a shape, three numbers. No condition. What a reading of an argum -/
import Derived.Test.YtcikldoaidmnhaaGreatDoorRSpoi1
import Derived.Test.YtcikldoaidmnhaaGreatDoorRSpoi2
import Derived.Test.YtcikldoaidmnhaaGreatDoorRSpoi3
import Derived.Test.YtcikldoaidmnhaaGreatDoorRSpoi4
import Derived.Test.YtcikldoaidmnhaaGreatDoorRSpoi5
import Derived.Test.YtcikldoaidmnhaaGreatDoorRSpoi6
import Derived.Test.YtcikldoaidmnhaaGreatDoorRSpoi7
import Derived.Test.YtcikldoaidmnhaaGreatDoorRSpoi9
import Derived.Test.YtcikldoaidmnhaaGreatDoorRSpoi11
import Derived.Test.YtcikldoaidmnhaaGreatDoorRSpoi12
import Derived.Test.YtcikldoaidmnhaaGreatDoorRSpoi18
import Derived.Test.YtcikldoaidmnhaaGreatDoorRSpoi19
import Derived.Test.YtcikldoaidmnhaaGreatDoorRSpoi20
import Derived.Test.YtcikldoaidmnhaaGreatDoorRSpoi22
import Derived.Test.YtcikldoaidmnhaaGreatDoorRSpoi26
import Derived.Test.YtcikldoaidmnhaaGreatDoorRSpoi29
import Derived.Test.YtcikldoaidmnhaaGreatDoorRSpoi32
import Derived.Test.YtcikldoaidmnhaaGreatDoorRSpoi34
import Derived.Test.YtcikldoaidmnhaaGreatDoorRSpoi35
import Derived.Test.YtcikldoaidmnhaaGreatDoorRSpoi38
import Derived.Test.YtcikldoaidmnhaaGreatDoorRSpoi40
import Derived.Test.YtcikldoaidmnhaaGreatDoorRSpoi43
import Derived.WalkKit
import Derived.WalkSpells
import Derived.WalkLawsBesides
import Derived.Lib.Hide
import Derived.BigQuiet
import Derived.Deep.DeepFit
import Derived.Deep.DeepCutAuto
import Derived.Deep.AppendLies
import Derived.Deep.QuietTactic
import Derived.ProofKit
import Derived.OpenShut
import Derived.ChangeOld
import Derived.Deep.SlicePairs
import Derived.Deep.Grids
import Derived.WideKeyPair
import Derived.Test.YtcikldoaidmnhaaGreatDoorCards
import Derived.Test.YtcikldoaidmnhaaGreatDoorTie
import Derived.ShutString
import Derived.Below
import Derived.Carry
import Derived.Laws.IdiomArrays
import Derived.Deep.DeepHandedRow
import Derived.Deep.DeepWitnessRowRef
import Derived.Lib.LaidTab
import Derived.Lib.Bits
import Derived.Maps.OwnOps
import Derived.Maps.OwnSet
import Derived.Maps.RangeWalk
import Derived.WideKeyEntry
import Derived.Deep.MidRow
import Derived.Test.YtcikldoaidmnhaaGreatDoorRows
import Derived.Deep.RegionHeld3
import Derived.StillTail
import Derived.Laws.EntriesVeiled
import Derived.Handy
import Derived.DeepKeys4
import Derived.ArgAppend
import Derived.Deep.Upon
import Derived.Deep.CutBlock
import Derived.Test.YtcikldoaidmnhaaGreatDoorShelf2
import Derived.Laws.BitsAllLaws
import Derived.Laws.BytesArg
import Derived.Deep.WholeRow
import Derived.Test.YtcikldoaidmnhaaGreatDoorShelf
import Derived.Lib.Zigzag
import Derived.Recover
import Derived.Laws.IdiomStrings
import Derived.Deep.LoopGhost
namespace Go.Proofs.YtcikldoaidmnhaaGreatDoor
open Go Go.RowKit Go.ChangeShapes Go.WideShapes Go.ChangeAt
set_option maxRecDepth 100000
theorem own:ownKnob Tryz.prog.godebug=none:=by kernel_rfl
theorem laidOut:laidOutB Tryz.prog=true:=by kernel_rfl
theorem string_of_reading {H:Type} {enc:TypeId × Value→H} {W:World} {d:DataW H} {p:List MemPlace} {v:Value}
  (hval:Value.okWide Tryz.prog W .any 0 9 v) (h:DataW.Trod enc Tryz.prog W 0 (fun _=>true) true 9 v d p):∃s:ByteArray,v=.string s∧s.size≤maxLen∧d=.lit (.string s.data.toList):=by
 obtain ⟨s,rfl,hd,_,hs⟩:=ChangeMaps.open_string Tryz.underlying9 hval h;exact ⟨s,rfl,hs,hd⟩
def tabCells:DataW Unit→Array Value
 | .agg ds=>(ds.map fun | .lit (.int k n)=>Value.int k n | _=>.nilIface).toArray
 | _=>#[]
def tabPairs:DataW Unit→Array Value
 | .agg ds=>(ds.flatMap fun | .agg es=>es.map (fun | .lit (.int k n)=>Value.int k n | _=>.nilIface) | _=>[]).toArray
 | _=>#[]
def putAt (h:Array Obj) (g:Nat) (cs:Array Value):Array Obj:=h.modify g fun
 | .cells _ t frozen=>.cells cs t frozen
 | o=>o
noncomputable def laidWorld (os:Os):World:=
 { World.holding Tryz.prog os ⟨#[],#[],[]⟩ with
  heap:=putAt (putAt (World.holding Tryz.prog os ⟨#[],#[],[]⟩).heap
   0 (tabCells Go.Pinned.utf8First)) 1 (tabPairs (Rows.laid_unicode_utf8_acceptRanges (H:=Unit))) }
end Go.Proofs.YtcikldoaidmnhaaGreatDoor
namespace Go.Proofs.YtcikldoaidmnhaaGreatDoor
open Go Go.RowKit Pk
structure SV where
 op:Bool
 bits:Nat
 side:Nat
 heights:List Int
 frm:Nat
 many:Nat
 q0:Int
 q1:Int
 q2:Int
def SV.V (x:SV) (v:Value):Value:=.agg #[.bool x.op,.int .u32 x.bits,.int .u32 x.side,v,.int .u8 x.frm,.int .u8 x.many,.int .i64 x.q0,.int .i64 x.q1,.int .i64 x.q2]
def SV.base (x:SV):List Tri:=if x.op then hillsT ((x.bits % 6:Nat):Int) (1+((x.side % 1000:Nat):Int)) (x.heights.take 49) else voxelsT ((x.bits % 134217728:Nat):Int) (1+((x.side % 600000:Nat):Int)) (7,5,0)
def SV.part (x:SV):List Tri:=(x.base.drop (x.frm % x.base.length)).take (x.many % 141)
def SV.tris (x:SV):List Tri:=if x.base=[] then [] else spoilT x.part x.q0 x.q1 x.q2
structure SV.Ok (x:SV):Prop where
 bits:x.bits<4294967296
 side:x.side<4294967296
 heights:x.heights.length≤9223372036854775807
 frm:x.frm<256
 many:x.many<256
end Go.Proofs.YtcikldoaidmnhaaGreatDoor
namespace Go.Proofs.YtcikldoaidmnhaaGreatDoor
open Go Go.RowKit Go.ChangeShapes Go.WideShapes Go.ChangeAt
set_option maxRecDepth 100000
theorem field_cell {P:Program} {o:Nat} {t:TypeId} {cs:List Value} {c:Value} (hc:P.cellsOf t=1) (hg:cs[o]?=some c):(cs.drop o).take (P.cellsOf t)=[c]:=by
 rw [hc,List.take_one,List.head?_drop,hg];rfl
theorem listF_of_reading {P:Program} {t e:TypeId} {α:Type} {size:Nat} (hs:0<size) (R:List Value→α→Prop) (ht:P.underlying t=some (.slice e)) (hce:P.cellsOf e=size)
  {H:Type} {enc:TypeId × Value→H} {W:World} {n:Nat} {cs0:List Value} {x0:DataW H × List MemPlace} (hR:∀n cs x,DataW.trod enc P W 0 (fun _=>true) true n e cs=some x→∃y,R cs y)
  (hf:DataW.trod enc P W 0 (fun _=>true) true n t cs0=some x0):∃v l,cs0=[v]∧ArgL size R W v l:=by
 rcases Deep.open_slice ht hf with ⟨hcs,_⟩ | ⟨x,len,cap,m,n,D,Pl,hcs,_,hl,hm,hmm,_,hx⟩
 ·exact ⟨_,[],hcs,none,0,rfl,fun h=>absurd h (by simp),Nat.le_refl _,Nat.zero_le _⟩
 ·simp only [if_true] at hmm;subst hmm;rw [hce] at hx;have each:∀i,i<m→∃y cs,cs.length=size∧R cs y∧∀j u,cs[j]?=some u→W.cell? ((x.add (i*size)).add j)=some u:=by
   intro i hi;obtain ⟨cs,h1,h2⟩:=hx i hi;obtain ⟨y,hy⟩:=hR _ _ _ h2;obtain ⟨_,h3,h4⟩:=World.cells?_some h1;exact ⟨y,cs,h3,hy,fun j u hj=>by
    have hj':=(List.getElem?_eq_some_iff.1 hj).1;have:=h4 j (by omega);rw [this,←hj]⟩
  by_cases hl0:len=0
  ·subst hl0;exact ⟨_,[],hcs,some x,m,rfl,fun h=>absurd h (by simp),Nat.zero_le _,hm⟩
  ·obtain ⟨y0,_⟩:=each 0 (by omega);haveI:Inhabited α:=⟨y0⟩
   obtain ⟨f,hfx⟩:=Deep.choose_lt each;have hsx:x=⟨x.block,x.off,none⟩:=by
    obtain ⟨cs,h1,_,h3⟩:=hfx 0 (by omega);have:=spot_none (h3 0 cs[0] (by rw [List.getElem?_eq_getElem]));simpa [Addr.add] using this
   refine ⟨_,(List.range len).map f,hcs,some x,m,by simp,fun _=>⟨x.block,x.off,by rw [←hsx],fun j hj=>?_⟩,by simpa using hl,hm⟩;obtain ⟨cs,h1,h2,h3⟩:=hfx j (by simp at hj;omega);refine ⟨cs,h1,by simpa using h2,fun i u hi=>?_⟩;have:=h3 i u hi;rw [hsx,add_plain,add_plain] at this;exact this
theorem kInt_of_argL {W:World} {v:Value} {l:List Int} (h:ArgL 1 (fun cs (c:Int)=>cs=[.int .i64 c]) W v l):kInt.Rd W v l∧l.length≤9223372036854775807:=by
 obtain ⟨A,cap,rfl,h1,h2,h3⟩:=h;refine ⟨⟨A,cap,rfl,h2,fun h0=>?_⟩,by unfold maxLen at h3;omega⟩;obtain ⟨b,off,e,h4⟩:=h1 h0;refine ⟨b,off,e,fun j hj=>?_⟩;obtain ⟨cs,_,rfl,h5⟩:=h4 j hj;exact h5
theorem ints_of_trod {H:Type} {enc:TypeId × Value→H} {W:World} {n:Nat} {cs:List Value} {x:DataW H × List MemPlace} (hf:DataW.trod enc Tryz.prog W 0 (fun _=>true) true n 23 cs=some x):∃v l,cs=[v]∧kInt.Rd W v l∧l.length≤9223372036854775807:=by
 obtain ⟨v,l,rfl,h⟩:=listF_of_reading (size:=1) (by decide) (fun cs (c:Int)=>cs=[.int .i64 c]) Tryz.underlying23 (by kernel_rfl) (fun n cs x hx=>by
  obtain ⟨z,e,_,w⟩:=DataW.trod_int Tryz.underlying3 hx;exact ⟨z,e⟩) hf
 exact ⟨v,l,rfl,kInt_of_argL h⟩
theorem i3_of_trod {H:Type} {enc:TypeId × Value→H} {W:World} {n:Nat} {cs:List Value} {x:DataW H × List MemPlace} (hf:DataW.trod enc Tryz.prog W 0 (fun _=>true) true n 24 cs=some x):∃a b c:Int,cs=[.int .i64 a,.int .i64 b,.int .i64 c]:=by
 obtain ⟨xs,m,_,_,hl,hlen,hel⟩:=DataW.trod_array Tryz.underlying24 hf;have hc1:Tryz.prog.cellsOf 3=1:=by kernel_rfl
 have hc6:Tryz.prog.cellsOf 24=3:=by kernel_rfl
 rw [hc6] at hl;have get:∀i,i<3→∃z:Int,cs[i]?=some (.int .i64 z):=fun i hi=>by
  have h:=hel i hi;rw [List.getElem?_eq_getElem (by omega:i<xs.length),hc1,Nat.mul_one] at h;obtain ⟨z,e,_,_⟩:=DataW.trod_int Tryz.underlying3 h;refine ⟨z,?_⟩;rw [List.take_one,List.head?_drop] at e;cases hg:cs[i]? with
  | none=>rw [hg] at e;cases e
  | some c=>rw [hg] at e;simp at e;rw [e]
 obtain ⟨z0,g0⟩:=get 0 (by decide);obtain ⟨z1,g1⟩:=get 1 (by decide);obtain ⟨z2,g2⟩:=get 2 (by decide);refine ⟨z0,z1,z2,List.ext_getElem? fun i=>?_⟩;rcases (by omega:i=0∨i=1∨i=2∨3≤i) with rfl | rfl | rfl | h
 ·exact g0
 ·exact g1
 ·exact g2
 ·rw [List.getElem?_eq_none (by omega),List.getElem?_eq_none (by show 3≤i;omega)]
theorem c3_of_reading {H:Type} {enc:TypeId × Value→H} {W:World} {d:DataW H} {p:List MemPlace} {v:Value}
  (hval:Value.okWide Tryz.prog W .any 0 24 v) (h:DataW.Trod enc Tryz.prog W 0 (fun _=>true) true 24 v d p):∃a b c:Int,v=.agg #[.int .i64 a,.int .i64 b,.int .i64 c]:=by
 simp only [Value.okWide,Tryz.underlying24] at hval;obtain ⟨cs,rfl,hl,_⟩:=hval;obtain ⟨fuel,hf⟩:=h;obtain ⟨a,b,c,e⟩:=i3_of_trod hf;refine ⟨a,b,c,?_⟩;obtain ⟨l⟩:=cs;simp only [Value.cells] at e;rw [e]
end Go.Proofs.YtcikldoaidmnhaaGreatDoor
namespace Go.Proofs.YtcikldoaidmnhaaGreatDoor
open Go Go.RowKit Go.ChangeShapes Go.WideShapes Go.ChangeAt
set_option maxRecDepth 100000
theorem kSix_of_argL {W:World} {v:Value} {l:List Pk.Mv} (h:ArgL 6 (fun cs (c:Pk.Mv)=>cs=mvC c) W v l):kSix.Rd W v l∧l.length≤9223372036854775807:=by
 obtain ⟨A,cap,rfl,h1,h2,h3⟩:=h;refine ⟨⟨A,cap,rfl,h2,fun h0=>?_⟩,by unfold maxLen at h3;omega⟩;obtain ⟨b,off,e,h4⟩:=h1 h0;refine ⟨b,off,e,fun j hj=>?_⟩;obtain ⟨cs,_,rfl,h5⟩:=h4 j hj;exact h5
theorem c6_of_trod {H:Type} {enc:TypeId × Value→H} {W:World} {n:Nat} {cs:List Value} {x:DataW H × List MemPlace} (hf:DataW.trod enc Tryz.prog W 0 (fun _=>true) true n 142 cs=some x):∃m:Pk.Mv,cs=mvC m:=by
 obtain ⟨xs,m,_,_,hl,hlen,hel⟩:=DataW.trod_array Tryz.underlying142 hf;have hc1:Tryz.prog.cellsOf 3=1:=by kernel_rfl
 have hc6:Tryz.prog.cellsOf 142=6:=by kernel_rfl
 rw [hc6] at hl;have get:∀i,i<6→∃z:Int,cs[i]?=some (.int .i64 z):=fun i hi=>by
  have h:=hel i hi;rw [List.getElem?_eq_getElem (by omega:i<xs.length),hc1,Nat.mul_one] at h;obtain ⟨z,e,_,_⟩:=DataW.trod_int Tryz.underlying3 h;refine ⟨z,?_⟩;rw [List.take_one,List.head?_drop] at e;cases hg:cs[i]? with
  | none=>rw [hg] at e;cases e
  | some c=>rw [hg] at e;simp at e;rw [e]
 obtain ⟨z0,g0⟩:=get 0 (by decide);obtain ⟨z1,g1⟩:=get 1 (by decide);obtain ⟨z2,g2⟩:=get 2 (by decide);obtain ⟨z3,g3⟩:=get 3 (by decide);obtain ⟨z4,g4⟩:=get 4 (by decide);obtain ⟨z5,g5⟩:=get 5 (by decide);refine ⟨((z0,z1,z2),(z3,z4,z5)),List.ext_getElem? fun i=>?_⟩;rcases (by omega:i=0∨i=1∨i=2∨i=3∨i=4∨i=5∨6≤i) with rfl | rfl | rfl | rfl | rfl | rfl | h
 ·exact g0
 ·exact g1
 ·exact g2
 ·exact g3
 ·exact g4
 ·exact g5
 ·rw [List.getElem?_eq_none (by omega),List.getElem?_eq_none (by show 6≤i;omega)]
theorem sixes_of_trod {H:Type} {enc:TypeId × Value→H} {W:World} {n:Nat} {cs:List Value} {x:DataW H × List MemPlace} (hf:DataW.trod enc Tryz.prog W 0 (fun _=>true) true n 60 cs=some x):∃v l,cs=[v]∧kSix.Rd W v l∧l.length≤9223372036854775807:=by
 obtain ⟨v,l,rfl,h⟩:=listF_of_reading (size:=6) (by decide) (fun cs (c:Pk.Mv)=>cs=mvC c) Tryz.underlying60 (by kernel_rfl) (fun n cs x hx=>c6_of_trod hx) hf;exact ⟨v,l,rfl,kSix_of_argL h⟩
theorem i64_wf {z:Int} (h:(Lit.int .i64 z).wf=true):-9223372036854775808≤z∧z≤9223372036854775807:=by
 simp [Lit.wf,IntKind.min,IntKind.max,IntKind.signed,IntKind.bits] at h;omega
structure FV.Ok (x:FV):Prop where
 ins:x.ins.length≤9223372036854775807
 outs:x.outs.length≤9223372036854775807
 moves:x.moves.length≤9223372036854775807
 mag:x.mag.length≤9223372036854775807
 level:x.level≤9223372036854775807
 err:x.err≤9223372036854775807
 total:x.total≤9223372036854775807
structure FV.Rd (x:FV) (w:World) (vi vo vm:Value):Prop where
 ins:kInt.Rd w vi x.ins
 outs:kInt.Rd w vo x.outs
 moves:kSix.Rd w vm x.moves
theorem fields_of_reading {H:Type} {enc:TypeId × Value→H} {W:World} {d:DataW H} {p:List MemPlace} {v:Value}
  (hval:Value.okWide Tryz.prog W .any 0 62 v) (h:DataW.Trod enc Tryz.prog W 0 (fun _=>true) true 62 v d p):∃(x:FV) (vi vo vm:Value),v=x.V vi vo vm∧x.Rd W vi vo vm∧x.Ok:=by
 obtain ⟨a,rfl,hsz⟩:=okWide_struct Tryz.underlying62 hval;have h8:Tryz.prog.cellsOf 62=8:=by kernel_rfl
 rw [h8] at hsz;obtain ⟨fuel,hf⟩:=h;obtain ⟨xs,n,_,_,_,hlen,hfl⟩:=DataW.trod_struct Tryz.underlying62 hf;obtain ⟨l⟩:=a;match l,hsz with
 | [c0,c1,c2,c3,c4,c5,c6,c7],_=>
  match xs,hlen with
  | [x0,x1,x2,x3,x4,x5,x6,x7],_=>
   have ci:Tryz.prog.cellsOf 3=1:=by kernel_rfl
   have cl:Tryz.prog.cellsOf 23=1:=by kernel_rfl
   have cs:Tryz.prog.cellsOf 60=1:=by kernel_rfl
   have cb:Tryz.prog.cellsOf 4=1:=by kernel_rfl
   have ct:Tryz.prog.cellsOf 9=1:=by kernel_rfl
   have g0:DataW.trod enc Tryz.prog W 0 (fun _=>true) true n 3 [c0]=some x0:=by
    have h:=hfl 0 _ rfl;have e:=field_cell (P:=Tryz.prog) (o:=0) (t:=3) (cs:=[c0,c1,c2,c3,c4,c5,c6,c7]) (c:=c0) ci rfl;rw [←e];exact h
   have g1:DataW.trod enc Tryz.prog W 0 (fun _=>true) true n 3 [c1]=some x1:=by
    have h:=hfl 1 _ rfl;have e:=field_cell (P:=Tryz.prog) (o:=1) (t:=3) (cs:=[c0,c1,c2,c3,c4,c5,c6,c7]) (c:=c1) ci rfl;rw [←e];exact h
   have g2:DataW.trod enc Tryz.prog W 0 (fun _=>true) true n 3 [c2]=some x2:=by
    have h:=hfl 2 _ rfl;have e:=field_cell (P:=Tryz.prog) (o:=2) (t:=3) (cs:=[c0,c1,c2,c3,c4,c5,c6,c7]) (c:=c2) ci rfl;rw [←e];exact h
   have g3:DataW.trod enc Tryz.prog W 0 (fun _=>true) true n 23 [c3]=some x3:=by
    have h:=hfl 3 _ rfl;have e:=field_cell (P:=Tryz.prog) (o:=3) (t:=23) (cs:=[c0,c1,c2,c3,c4,c5,c6,c7]) (c:=c3) cl rfl;rw [←e];exact h
   have g4:DataW.trod enc Tryz.prog W 0 (fun _=>true) true n 23 [c4]=some x4:=by
    have h:=hfl 4 _ rfl;have e:=field_cell (P:=Tryz.prog) (o:=4) (t:=23) (cs:=[c0,c1,c2,c3,c4,c5,c6,c7]) (c:=c4) cl rfl;rw [←e];exact h
   have g5:DataW.trod enc Tryz.prog W 0 (fun _=>true) true n 60 [c5]=some x5:=by
    have h:=hfl 5 _ rfl;have e:=field_cell (P:=Tryz.prog) (o:=5) (t:=60) (cs:=[c0,c1,c2,c3,c4,c5,c6,c7]) (c:=c5) cs rfl;rw [←e];exact h
   have g6:DataW.trod enc Tryz.prog W 0 (fun _=>true) true n 4 [c6]=some x6:=by
    have h:=hfl 6 _ rfl;have e:=field_cell (P:=Tryz.prog) (o:=6) (t:=4) (cs:=[c0,c1,c2,c3,c4,c5,c6,c7]) (c:=c6) cb rfl;rw [←e];exact h
   have g7:DataW.trod enc Tryz.prog W 0 (fun _=>true) true n 9 [c7]=some x7:=by
    have h:=hfl 7 _ rfl;have e:=field_cell (P:=Tryz.prog) (o:=7) (t:=9) (cs:=[c0,c1,c2,c3,c4,c5,c6,c7]) (c:=c7) ct rfl;rw [←e];exact h
   obtain ⟨z0,e0,_,w0⟩:=DataW.trod_int Tryz.underlying3 g0;obtain ⟨z1,e1,_,w1⟩:=DataW.trod_int Tryz.underlying3 g1;obtain ⟨z2,e2,_,w2⟩:=DataW.trod_int Tryz.underlying3 g2;obtain ⟨v3,l3,e3,r3,b3⟩:=ints_of_trod g3;obtain ⟨v4,l4,e4,r4,b4⟩:=ints_of_trod g4;obtain ⟨v5,l5,e5,r5,b5⟩:=sixes_of_trod g5;obtain ⟨z6,e6,_⟩:=DataW.trod_bool Tryz.underlying4 g6;obtain ⟨z7,e7,_,w7⟩:=DataW.trod_string Tryz.underlying9 g7;simp only [List.cons.injEq,and_true] at e0 e1 e2 e3 e4 e5 e6 e7;subst e0;subst e1;subst e2;subst e3;subst e4;subst e5;subst e6;subst e7;refine ⟨⟨z0,z1,z2,l3,l4,l5,z6,z7.data.toList⟩,c3,c4,c5,rfl,⟨r3,r4,r5⟩,⟨b3,b4,b5,?_,(i64_wf w0).2,(i64_wf w1).2,(i64_wf w2).2⟩⟩;have:z7.data.toList.length=z7.size:=Array.length_toList;show z7.data.toList.length≤_;unfold maxLen at w7;omega
end Go.Proofs.YtcikldoaidmnhaaGreatDoor
namespace Go.Proofs.YtcikldoaidmnhaaGreatDoor
open Go Go.RowKit Pk Pc
set_option maxRecDepth 100000
theorem openCluster_any (l:List Nat) (hl:∀d,d∈l→d<256) (w:World) :
  Calls Tryz.prog 67 #[.string (str l)] w fun en w'=>openQ (openM false l) w en w':=by
 by_cases h:∃code,l=1 :: code
 ·obtain ⟨code,rfl⟩:=h;exact openCluster_one code (fun d hd=>hl d (List.mem_cons_of_mem _ hd)) w
 ·have hn:openM false l=none:=by
   unfold openM;split
   ·rename_i code;exact absurd ⟨code,rfl⟩ h
   ·rfl
  rw [hn];refine (openCluster_bad l hl (fun code e=>h ⟨code,e⟩) w).mono ?_;rintro e w' ⟨v,rfl,hu⟩;exact ⟨hu,v,rfl⟩
theorem clusterN_lt (c:List Tri):∀d,d∈clusterN c→d<256:=fun d hd=>by
 unfold clusterN at hd;split at hd
 ·unfold packC at hd;rcases List.mem_cons.1 hd with rfl | hd
  ·decide
  ·exact encode_lt _ d hd
 ·cases hd
def openP (o:Option (List Tri)) (w:World) (en:Ending) (w':World):Prop:=Upd noBlk w w'∧∃v,match o with
 | some l=>en=.returned (.tuple #[v,.int .i64 0])∧kTri.Rd w' v l
 | none=>en=.returned (.tuple #[v,.int .i64 13])∧kTri.Rd w' v []
set_option maxHeartbeats 2000000 in
theorem OpenCluster_any (l:List Nat) (hl:∀d,d∈l→d<256) (w:World) :
  Calls Tryz.prog 19 #[.string (str l)] w fun en w'=>openP (openN l) w en w':=by
 have HOP:=Lib.hid (openCluster_any l hl w);obtain ⟨tgt,htgt⟩:∃t,t=openN l:=⟨_,rfl⟩;rw [←htgt];have HT:=Lib.hid htgt;clear htgt;go_enter Tryz.func19,Tryz.ntmps19
 go_wp2_with fail
 refine HOP.out.mono ?_;rintro e w2 ⟨hu,v,hv⟩;have HU:=Lib.hid hu;rcases hm:openM false l with _ | T
 ·rw [hm] at hv;simp only at hv;subst hv;have HTN:Hid (tgt=none):=by show _=_;rw [HT.out];unfold openN;rw [hm]
  clear hu HOP hm;go_wp2_with fail
  go_ret2
  rw [HTN.out];exact ⟨HU.out,_,rfl,Kd.Rd.nil kTri w2⟩
 ·rw [hm] at hv;obtain ⟨rfl,hrd⟩:=hv;have HTS:Hid (tgt=if clusterN (canon T)=l then some (canon T) else none):=by show _=_;rw [HT.out];unfold openN;rw [hm]
  obtain ⟨ht2,ht1⟩:=openM_in hm;have HCL:=Lib.hid (Cluster_any v (canon T) (by rw [canon_length];omega) (fun t ht=>okT_of (canon_in ht2 t ht)) w2 hrd);have HRD:=Lib.hid hrd;clear hu HOP hm hrd ht1 ht2;go_wp2_with fail
  refine HCL.out.mono ?_;rintro e w3 ⟨rfl,u3⟩;have HU3:=Lib.hid u3;have hlt:=clusterN_lt (canon T);clear u3 HCL;by_cases hc:clusterN (canon T)=l
  ·have HTN:Hid (tgt=some (canon T)):=by show _=_;rw [HTS.out];exact if_pos hc
   rw [hc];clear hlt hc;go_wp2_with fail
   go_ret2
   rw [HTN.out];exact ⟨HU.out.trans HU3.out,_,rfl,HRD.out.keep HU3.out⟩
  ·have HTN:Hid (tgt=none):=by show _=_;rw [HTS.out];exact if_neg hc
   have hne:((str (clusterN (canon T))).toList == (str l).toList)=false:=by
    rw [beq_eq_false_iff_ne];intro e;exact hc (map_ofNat_inj hlt hl (by rw [←str_toList,←str_toList,e]))
   clear hlt hc;generalize str (clusterN (canon T))=z at *;go_wp2_with fail
   go_ret2
   rw [HTN.out];exact ⟨HU.out.trans HU3.out,_,rfl,Kd.Rd.nil kTri w3⟩
end Go.Proofs.YtcikldoaidmnhaaGreatDoor
namespace Go.Proofs.YtcikldoaidmnhaaGreatDoor
open Go Go.RowKit Pk
set_option maxRecDepth 100000
theorem GV.good (y:GV):goodG y.g:=⟨fun p hp=>good_plain y.ins p hp,fun h hh=>by
 obtain ⟨p,_,rfl⟩:=List.mem_map.1 hh;exact p.2⟩
theorem FV.gv_ok {x:FV} (h:x.Ok):x.gv.Ok∧x.gv.ins.length≤10∧x.gv.outs.length≤10∧x.gv.moves.length≤10∧x.gv.mag.length≤40:=by
 have hm:x.gv.mag.length≤40:=by show (x.mag.take 40).length≤40;rw [List.length_take];omega
 refine ⟨⟨?_,?_,?_,by omega⟩,?_,?_,?_,hm⟩
 ·show x.level<_;have:=h.level;omega
 ·show x.err<_;have:=h.err;omega
 ·show x.total<_;have:=h.total;omega
 ·show ((x.ins.take 10).map partOf).length≤10;rw [List.length_map,List.length_take];omega
 ·show (((x.outs.take 10).map partOf).map (·.1)).length≤10;rw [List.length_map,List.length_map,List.length_take];omega
 ·show ((x.moves.take 10).map moveOf).length≤10;rw [List.length_map,List.length_take];omega
theorem GV.back {y:GV} (hy:y.Ok) (hm:y.mag.length≤40) (hr:rightG y.g=true):grpR (groupB y.g)=some y.g:=
 group_back hr y.good ⟨by have h:y.level<9223372036854775808:=hy.level;show y.level≤_;omega,by have h:y.err<9223372036854775808:=hy.err;show y.err≤_;omega,by have h:y.total<9223372036854775808:=hy.total;show y.total≤_;omega⟩ (by show y.mag.length<_;omega)
theorem flat_le {α:Type} (f:α→Bytes) (b:Nat):∀l:List α,(∀x,x∈l→(f x).length≤b)→(l.flatMap f).length≤l.length*b
 | [],_=>by simp
 | x :: l,h=>by
  have h1:=h x (by simp);have h2:=flat_le f b l (fun y hy=>h y (List.mem_cons_of_mem _ hy));rw [List.flatMap_cons,List.length_append,List.length_cons,Nat.add_mul];omega
theorem groupB_len {y:GV} (hy:y.Ok) (hr:rightG y.g=true) (hl:y.ins.length≤10∧y.outs.length≤10∧y.moves.length≤10∧y.mag.length≤40):(groupB y.g).length≤10000:=by
 obtain ⟨l1,l2,l3,l4⟩:=hl;obtain ⟨_,_,hm⟩:=right_parts hr;have e1:(digB y.level.toNat).length≤10:=digB_ten (by have h:y.level<9223372036854775808:=hy.level;omega);have e2:(digB y.err.toNat).length≤10:=digB_ten (by have h:y.err<9223372036854775808:=hy.err;omega);have e3:(digB y.total.toNat).length≤10:=digB_ten (by have h:y.total<9223372036854775808:=hy.total;omega);have e4:(digB y.outs.length).length≤10:=digB_ten (by omega);have e5:(digB y.moves.length).length≤10:=digB_ten (by omega);have e6:(digB (sizeG y.g)).length≤10:=digB_ten (by unfold sizeG;show 2*y.mag.length+_<_;split<;>omega)
 have e7:=partsB_len y.ins (by omega);have e8:((y.outs.map (·.1)).flatten).length≤320:=by
  rw [flatten_flatMap];have:=flat_le id 32 (y.outs.map (·.1)) (fun h hh=>by obtain ⟨p,_,rfl⟩:=List.mem_map.1 hh;exact Nat.le_of_eq p.2);rw [List.length_map] at this;omega
 have e9:(y.moves.flatMap (fun m=>(coordsM m).flatMap (fun n=>digB n.toNat))).length≤600:=by
  have h2:=flat_le (fun m:Mv=>(coordsM m).flatMap (fun n=>digB n.toNat)) 60 y.moves (fun m hm2=>by
   have h3:=flat_le (fun n:Int=>digB n.toNat) 10 (coordsM m) (fun n hn=>digB_ten (by
    have h4:=List.all_eq_true.1 (List.all_eq_true.1 hm m hm2) n hn;unfold insideC at h4;have h5:=of_decide_eq_true h4;omega))
   have h6:(coordsM m).length=6:=rfl;rw [h6] at h3;exact h3)
  exact Nat.le_trans h2 (Nat.le_trans (Nat.mul_le_mul_right _ l3) (by decide))
 have hg:groupB y.g=2 :: (digB y.level.toNat++partsB (y.ins.map plainP)++(digB (y.outs.map (·.1)).length++(y.outs.map (·.1)).flatten)++(digB y.moves.length++y.moves.flatMap (fun m=>(coordsM m).flatMap (fun n=>digB n.toNat)))++digB y.err.toNat++digB y.total.toNat++digB (sizeG y.g)++y.mag):=rfl;rw [hg,List.length_map];simp only [List.length_cons,List.length_append];omega
end Go.Proofs.YtcikldoaidmnhaaGreatDoor
namespace Go.Proofs.YtcikldoaidmnhaaGreatDoor
open Go Go.RowKit Pk
set_option maxRecDepth 100000
set_option maxHeartbeats 4000000 in
theorem jSameGroup_same (x:GV) (vi vo vm vj vp vn:Value) (w:World) (hl1:x.ins.length≤9223372036854775807) (hl2:x.outs.length≤9223372036854775807) (hl3:x.moves.length≤9223372036854775807) (hi:kPart.Rd w vi x.ins) (ho:kHash.Rd w vo x.outs) (hm:kMove.Rd w vm x.moves) (hj:kPart.Rd w vj x.ins) (hp:kHash.Rd w vp x.outs) (hn:kMove.Rd w vn x.moves) :
  Calls Tryz.prog 36 #[x.V vi vo vm,x.V vj vp vn] w fun en w'=>en=.returned (.bool true)∧Upd noBlk w w':=by
 obtain ⟨lv,ins,outs,moves,er,tot,neg,mag⟩:=x;simp only at hi ho hm hj hp hn hl1 hl2 hl3;have HSP:Hid (∀W,Upd noBlk w W→Calls Tryz.prog 28 #[vi,vj] W fun en w'=>en=.returned (.bool (decide (ins=ins)))∧Upd noBlk W w'):=fun W hW=>jSameParts_any vi vj ins ins hl1 W (hi.keep hW) (hj.keep hW);rw [decide_eq_true rfl] at HSP;obtain ⟨Ai,capi,rfl,_,_⟩:=hi;obtain ⟨Aj,capj,rfl,_,_⟩:=hj;obtain ⟨Ao,capo,rfl,_,hxo⟩:=ho;obtain ⟨Ap,capp,rfl,_,hxp⟩:=hp;obtain ⟨Am,capm,rfl,_,hxm⟩:=hm;obtain ⟨An,capn,rfl,_,hxn⟩:=hn;have HXO:=Lib.hid hxo;have HXP:=Lib.hid hxp;have HXM:=Lib.hid hxm;have HXN:=Lib.hid hxn;have hol:(outs.length:Int)≤9223372036854775807:=by omega
 have hml:(moves.length:Int)≤9223372036854775807:=by omega
 clear hxo hxp hxm hxn hl1 hl2 hl3;unfold GV.V;simp only;obtain ⟨w1,hw1⟩:∃w1,w1=(w.alloc (.cells #[.int .i64 lv,.slice Ai ins.length capi,.slice Ao outs.length capo,.slice Am moves.length capm,.int .i64 er,.int .i64 tot,.bool neg,.string (bs mag)] 68)).alloc (.cells #[.int .i64 lv,.slice Aj ins.length capj,.slice Ap outs.length capp,.slice An moves.length capn,.int .i64 er,.int .i64 tot,.bool neg,.string (bs mag)] 68):=⟨_,rfl⟩;have HU:Hid (Upd noBlk w w1):=by show Upd _ _ _;rw [hw1];exact ((Upd.refl _ w).alloc _).alloc _
 have HA:Hid (w1.heap[w.heap.size]?=some (.cells #[.int .i64 lv,.slice Ai ins.length capi,.slice Ao outs.length capo,.slice Am moves.length capm,.int .i64 er,.int .i64 tot,.bool neg,.string (bs mag)] 68 (0,0))):=by show _=_;rw [hw1];exact ((Upd.refl noBlk _).alloc _).heap (heap_alloc_new w _) id
 have HB:Hid (w1.heap[w.heap.size+1]?=some (.cells #[.int .i64 lv,.slice Aj ins.length capj,.slice Ap outs.length capp,.slice An moves.length capn,.int .i64 er,.int .i64 tot,.bool neg,.string (bs mag)] 68 (0,0))):=by
  show _=_;rw [hw1];have:=heap_alloc_new (w.alloc (.cells #[.int .i64 lv,.slice Ai ins.length capi,.slice Ao outs.length capo,.slice Am moves.length capm,.int .i64 er,.int .i64 tot,.bool neg,.string (bs mag)] 68)) (.cells #[.int .i64 lv,.slice Aj ins.length capj,.slice Ap outs.length capp,.slice An moves.length capn,.int .i64 er,.int .i64 tot,.bool neg,.string (bs mag)] 68);rwa [World.size_alloc] at this
 go_enter Tryz.func36,Tryz.ntmps36
 go_upto_region 1 with fail
 rw [←hw1];clear hw1;generalize w.heap.size=ba at *;obtain ⟨bb,hbb⟩:∃bb,bb=ba+1:=⟨_,rfl⟩;rw [←hbb] at HB ⊢;clear hbb;have HC:=HSP.out _ HU.out;obtain ⟨a0,a1,a2,a3,a4,a5,a6,a7⟩:=cells8 HA.out;obtain ⟨b0,b1,b2,b3,b4,b5,b6,b7⟩:=cells8 HB.out;go_wp2_with fail
 refine HC.mono ?_;rintro e w2 ⟨rfl,u2⟩;have HU2:=Lib.hid (HU.out.trans u2);have HA2:=Lib.hid (u2.heap HA.out id);have HB2:=Lib.hid (u2.heap HB.out id);clear HC HSP u2 HU HA HB a0 a1 a2 a3 a4 a5 a6 a7 b0 b1 b2 b3 b4 b5 b6 b7;obtain ⟨a0,a1,a2,a3,a4,a5,a6,a7⟩:=cells8 HA2.out;obtain ⟨b0,b1,b2,b3,b4,b5,b6,b7⟩:=cells8 HB2.out;go_wp2_with fail
 clear a0 a1 a2 a3 a4 a5 a6 a7 b0 b1 b2 b3 b4 b5 b6 b7;go_loopw [6] (fun i wr=>∃k:Nat,i=.int .i64 k∧k≤outs.length∧Upd noBlk w2 wr) (fun i _=>outs.length-(intOf i).toNat)
 case atStart=>exact ⟨0,rfl,Nat.zero_le _,Upd.refl _ _⟩
 case round=>
  obtain ⟨k,rfl,hk,hu⟩:=hrel;have HU3:=Lib.hid hu;clear hu;by_cases hlt:k<outs.length
  ·have hlt':(k:Int)<(outs.length:Int):=by omega
   obtain ⟨ca,oa,rfl,f1⟩:=HXO.out (by omega);obtain ⟨cb,ob,rfl,f2⟩:=HXP.out (by omega);have hk32:kHash.k=32:=rfl;have hf1:=(f1 k hlt).keep (HU2.out.trans HU3.out);have hf2:=(f2 k hlt).keep (HU2.out.trans HU3.out);rw [hk32] at hf1 hf2;have HF1:=Lib.hid hf1;have HF2:=Lib.hid hf2;clear f1 f2 hf1 hf2 hk32;generalize outs[k]=p at *;have he:=eq_hash 9998 p p wr.drew;rw [decide_eq_true rfl] at he;simp only [Nat.reduceAdd] at he;obtain ⟨a0,a1,a2,a3,a4,a5,a6,a7⟩:=cells8 (HU3.out.heap HA2.out id);obtain ⟨b0,b1,b2,b3,b4,b5,b6,b7⟩:=cells8 (HU3.out.heap HB2.out id);go_wp2_with fail
   clear a0 a1 a2 a3 a4 a5 a6 a7 b0 b1 b2 b3 b4 b5 b6 b7;refine wp_region_tree 10 (OT.sures [0,2,5,7,1,6,3,8,4,9] .nil) (fun w'=>Upd noBlk wr w') (by kernel_rfl) (by kernel_rfl) (fun c a d v w h=>by cases d<;>exact h) ((Upd.refl noBlk wr).drew) ?_
   simp only [OT.sures]
   iterate 8 (apply wpT_sure rfl rfl;focus (intro w' hw';obtain ⟨a0,a1,a2,a3,a4,a5,a6,a7⟩:=cells8 ((HU3.out.trans hw').heap HA2.out id);obtain ⟨b0,b1,b2,b3,b4,b5,b6,b7⟩:=cells8 ((HU3.out.trans hw').heap HB2.out id);go_simp;rfl))
   apply wpT_sure rfl rfl
   focus (intro w' hw';exact exec_load_mid 81 (.tmp 71) rfl ca (oa+k*32) (by go_simp) (byV p.1) _ (HF1.out.keep hw') Tryz.underlying81 rfl (size_hash p))
   apply wpT_sure rfl rfl
   focus (intro w' hw';exact exec_load_mid 81 (.tmp 76) rfl cb (ob+k*32) (by go_simp) (byV p.1) _ (HF2.out.keep hw') Tryz.underlying81 rfl (size_hash p))
   refine wpT_nil ?_;go_wp2_with fail
   exact ⟨⟨k+1,by push_cast;rfl,hlt,HU3.out.drew⟩,by simp only [intOf];omega⟩
  ·obtain rfl:k=outs.length:=by omega
   obtain ⟨a0,a1,a2,a3,a4,a5,a6,a7⟩:=cells8 (HU3.out.heap HA2.out id);obtain ⟨b0,b1,b2,b3,b4,b5,b6,b7⟩:=cells8 (HU3.out.heap HB2.out id);go_wp2_with fail
   clear a0 a1 a2 a3 a4 a5 a6 a7 b0 b1 b2 b3 b4 b5 b6 b7;go_loopw [7] (fun i wr=>∃k:Nat,i=.int .i64 k∧k≤moves.length∧Upd noBlk w2 wr) (fun i _=>moves.length-(intOf i).toNat)
   case atStart=>exact ⟨0,rfl,Nat.zero_le _,HU3.out⟩
   case round=>
    obtain ⟨k,rfl,hk,hu⟩:=hrel;have HU4:=Lib.hid hu;clear hu;by_cases hlt:k<moves.length
    ·have hlt':(k:Int)<(moves.length:Int):=by omega
     obtain ⟨ca,oa,rfl,f1⟩:=HXM.out (by omega);obtain ⟨cb,ob,rfl,f2⟩:=HXN.out (by omega);have hk6:kMove.k=6:=rfl;have hf1:=(f1 k hlt).keep (HU2.out.trans HU4.out);have hf2:=(f2 k hlt).keep (HU2.out.trans HU4.out);rw [hk6] at hf1 hf2;have HF1:=Lib.hid hf1;have HF2:=Lib.hid hf2;clear f1 f2 hf1 hf2 hk6;generalize moves[k]=pm at *;obtain ⟨⟨m0,m1,m2⟩,⟨m3,m4,m5⟩⟩:=pm;obtain ⟨a0,a1,a2,a3,a4,a5,a6,a7⟩:=cells8 (HU4.out.heap HA2.out id);obtain ⟨b0,b1,b2,b3,b4,b5,b6,b7⟩:=cells8 (HU4.out.heap HB2.out id);go_wp2_with fail
     clear a0 a1 a2 a3 a4 a5 a6 a7 b0 b1 b2 b3 b4 b5 b6 b7;refine wp_region_tree 10 (OT.sures [0,2,5,7,1,6,3,8,4,9] .nil) (fun w'=>Upd noBlk wr w') (by kernel_rfl) (by kernel_rfl) (fun c a d v w h=>by cases d<;>exact h) ((Upd.refl noBlk wr).drew) ?_
     simp only [OT.sures]
     iterate 10 (apply wpT_sure rfl rfl;focus (intro w' hw';obtain ⟨a0,a1,a2,a3,a4,a5,a6,a7⟩:=cells8 ((HU4.out.trans hw').heap HA2.out id);obtain ⟨b0,b1,b2,b3,b4,b5,b6,b7⟩:=cells8 ((HU4.out.trans hw').heap HB2.out id);obtain ⟨g0,g1,g2,g3,g4,g5⟩:=mvAt6 (HF1.out.keep hw');obtain ⟨k0,k1,k2,k3,k4,k5⟩:=mvAt6 (HF2.out.keep hw');go_simp;rfl))
     refine wpT_nil ?_;go_wp2_with fail
     exact ⟨⟨k+1,by push_cast;rfl,hlt,HU4.out.drew⟩,by simp only [intOf];omega⟩
    ·obtain rfl:k=moves.length:=by omega
     obtain ⟨a0,a1,a2,a3,a4,a5,a6,a7⟩:=cells8 (HU4.out.heap HA2.out id);obtain ⟨b0,b1,b2,b3,b4,b5,b6,b7⟩:=cells8 (HU4.out.heap HB2.out id);go_wp2_with fail
     go_ret
     exact ⟨rfl,HU2.out.trans HU4.out⟩
end Go.Proofs.YtcikldoaidmnhaaGreatDoor
