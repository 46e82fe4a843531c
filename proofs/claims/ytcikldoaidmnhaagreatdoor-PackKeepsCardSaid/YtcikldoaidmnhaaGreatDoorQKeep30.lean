/- Parts: 'append' to a full row: a new one. No condition. Rows of triangles whose corners are stored. No condition. Walks of the reference's makers: sets of cubes. No condition. -/
import Derived.Test.YtcikldoaidmnhaaGreatDoorQKeep17
import Derived.Test.YtcikldoaidmnhaaGreatDoorQKeep25
import Derived.Test.YtcikldoaidmnhaaGreatDoorQKeep29
namespace Go.Proofs.YtcikldoaidmnhaaGreatDoor
open Go Go.RowKit Pk
set_option maxRecDepth 100000
theorem Kd.at_lit {P:Program} {α:Type} (K:Kd P α) {w:World} {N:Nat} {ts:List α} {cs:Array Value} {T:TypeId} {fr:Nat × Nat} (h:w.heap[N]?=some (.cells cs T fr)) (hc:cs.toList=ts.flatMap K.enc):∀j (hj:j<ts.length),K.At w N (0+j*K.k) ts[j]:=by
 intro j hj i v hv;have hi:i<K.k:=by
  have:=(List.getElem?_eq_some_iff.1 hv).1;rw [K.len] at this;exact this
 rw [Nat.zero_add,cell_of_row _ _ _ cs T fr h,←Array.getElem?_toList,hc,K.flat_get ts j hj i hi];exact hv
theorem Kd.At.keepF {P:Program} {α:Type} {K:Kd P α} {F:Nat→Prop} {w w':World} {b o:Nat} {x:α} (h:K.At w b o x) (hu:Upd F w w') (hb:¬F b):K.At w' b o x:=fun j v hv=>hu.cell (h j v hv) hb
theorem Kd.Own.form2 {P:Program} {α:Type} {K:Kd P α} {base:Nat} {w:World} {v:Value} {l:List α} (h:K.Own base w v l) (h0:0<l.length):∃g cap,v=.slice (some ⟨g,0,none⟩) l.length cap∧base≤g∧g<w.heap.size∧∀j (hj:j<l.length),K.At w g (0+j*K.k) l[j]:=by
 rcases h.2 with ⟨_,h1⟩ | ⟨g,cap,cur,rfl,hg,hh,_⟩
 ·omega
 ·exact ⟨g,cap,rfl,hg,lt_of_heap hh,h.ats h0⟩
theorem and1_bit {b:Int} (n:Nat) (hb:0≤b):(bits .and .i64 (b / 2 ^ n) 1 == 0)=!bitV b n:=by
 obtain ⟨B,rfl⟩:∃B:Nat,b=B:=⟨b.toNat,by omega⟩;have e:(B:Int) / 2 ^ n=((B / 2 ^ n:Nat):Int):=by push_cast;rfl
 rw [e,i64_and1];unfold bitV;rw [e];rcases Nat.mod_two_eq_zero_or_one (B / 2 ^ n) with h | h
 ·rw [h,decide_eq_false (by omega)];rfl
 ·rw [h,decide_eq_true (by omega)];rfl
def stepCells:Array Value:=#[.int .i64 0,.int .i64 0,.int .i64 (-1),.int .i64 0,.int .i64 0,.int .i64 1,.int .i64 0,.int .i64 (-1),.int .i64 0,.int .i64 0,.int .i64 1,.int .i64 0,.int .i64 (-1),.int .i64 0,.int .i64 0,.int .i64 1,.int .i64 0,.int .i64 0]
theorem step_cells {w:World} {b f:Nat} {t:TypeId} (h:w.heap[b]?=some (.cells stepCells t (0,0))) (hf:f<6):w.cell? ⟨b,f*3,none⟩=some (.int .i64 (stepsV f).1)∧w.cell? ⟨b,f*3+1,none⟩=some (.int .i64 (stepsV f).2.1)∧w.cell? ⟨b,f*3+2,none⟩=some (.int .i64 (stepsV f).2.2):=by
 rw [cell_of_row _ _ _ _ t (0,0) h,cell_of_row _ _ _ _ t (0,0) h,cell_of_row _ _ _ _ t (0,0) h];rcases (by omega:f=0∨f=1∨f=2∨f=3∨f=4∨f=5) with rfl | rfl | rfl | rfl | rfl | rfl<;>exact ⟨rfl,rfl,rfl⟩
theorem steps_small (f:Nat) (hf:f<6):(-1≤(stepsV f).1∧(stepsV f).1≤1)∧(-1≤(stepsV f).2.1∧(stepsV f).2.1≤1)∧(-1≤(stepsV f).2.2∧(stepsV f).2.2≤1):=by
 rcases (by omega:f=0∨f=1∨f=2∨f=3∨f=4∨f=5) with rfl | rfl | rfl | rfl | rfl | rfl<;>decide
set_option maxHeartbeats 8000000 in
theorem Voxels_any (bits step:Int) (p:Pt) (w:World) (hb:0≤bits∧bits<134217728) (hs:0≤step∧step≤1000000) (hp0:0≤p.1∧p.1≤100) (hp1:0≤p.2.1∧p.2.1≤100) (hp2:0≤p.2.2∧p.2.2≤100) :
  Calls Tryz.prog 29 #[.int .i64 bits,.int .i64 step,ptV p] w fun en w'=>∃v,en=.returned v∧kTri.Own w.heap.size w' v (voxelsT bits step p)∧(voxelsT bits step p).length≤324∧Upd noBlk w w':=by
 obtain ⟨T,hT⟩:∃T,T=voxelsT bits step p:=⟨_,rfl⟩;have HT:Hid (T=(List.range 27).flatMap (cubeV bits step p)):=hT;rw [←hT];clear hT;obtain ⟨p0,p1,p2⟩:=p;simp only at hp0 hp1 hp2;obtain ⟨hp0a,hp0b⟩:=hp0;obtain ⟨hp1a,hp1b⟩:=hp1;obtain ⟨hp2a,hp2b⟩:=hp2;obtain ⟨hsa,hsb⟩:=hs;obtain ⟨hba,hbb⟩:=hb;unfold ptV;simp only;have HA:Hid ((w.alloc (.cells #[.int .i64 p0,.int .i64 p1,.int .i64 p2] 43)).heap[w.heap.size]?=some (.cells #[.int .i64 p0,.int .i64 p1,.int .i64 p2] 43 (0,0))):=heap_alloc_new w _;have HU0:Hid (Upd noBlk w (w.alloc (.cells #[.int .i64 p0,.int .i64 p1,.int .i64 p2] 43))):=(Upd.refl _ w).alloc _;go_enter Tryz.func29,Tryz.ntmps29
 go_upto_region 1 with fail
 obtain ⟨pb,hpb⟩:∃pb,pb=w.heap.size:=⟨_,rfl⟩;rw [←hpb] at HA ⊢;clear hpb;generalize w.alloc (.cells #[.int .i64 p0,.int .i64 p1,.int .i64 p2] 43)=w1 at *;go_wp2_with fail
 go_loopw [7,8] (fun o i wr=>∃n:Nat,i=.int .i64 n∧n≤27∧(∃acc,acc=(List.range n).flatMap (cubeV bits step (p0,p1,p2))∧acc.length≤12*n∧kTri.Own w1.heap.size wr o acc)∧Upd noBlk w1 wr) (fun _ i _=>27-(intOf i).toNat)
 case atStart=>exact ⟨0,rfl,by omega,⟨[],rfl,by simp,Kd.Own.nil _ _ _⟩,Upd.refl _ _⟩
 case round=>
  obtain ⟨n,rfl,hn,⟨acc,hacc,hal,ho⟩,hu⟩:=hrel;have HACC:=Lib.hid hacc;have HAL:=Lib.hid hal;have HO:=Lib.hid ho;have HU:=Lib.hid hu;clear hacc hal ho hu;by_cases hlt:n<27
  ·have hlt':(n:Int)<27:=by omega
   have HN:Hid (n<27):=hlt;obtain ⟨x,hx⟩:∃x,x=n % 3:=⟨_,rfl⟩;obtain ⟨y,hy⟩:∃y,y=n / 3 % 3:=⟨_,rfl⟩;obtain ⟨z,hz⟩:∃z,z=n / 9:=⟨_,rfl⟩;have hx3:x<3:=by omega
   have hy3:y<3:=by omega
   have hz3:z<3:=by omega
   have hxe:(n:Int) % 3=(x:Int):=by omega
   have hye:(n:Int) / 3 % 3=(y:Int):=by omega
   have hze:(n:Int) / 9=(z:Int):=by omega
   have hxs:0≤(x:Int)*step∧(x:Int)*step≤3000000:=⟨Int.mul_nonneg (by omega) hsa,Int.le_trans (Int.mul_le_mul (by omega:(x:Int)≤3) hsb hsa (by decide)) (by decide)⟩;have hys:0≤(y:Int)*step∧(y:Int)*step≤3000000:=⟨Int.mul_nonneg (by omega) hsa,Int.le_trans (Int.mul_le_mul (by omega:(y:Int)≤3) hsb hsa (by decide)) (by decide)⟩;have hzs:0≤(z:Int)*step∧(z:Int)*step≤3000000:=⟨Int.mul_nonneg (by omega) hsa,Int.le_trans (Int.mul_le_mul (by omega:(z:Int)≤3) hsb hsa (by decide)) (by decide)⟩;obtain ⟨X,hX⟩:∃X,X=(x:Int)*step:=⟨_,rfl⟩;obtain ⟨Y,hY⟩:∃Y,Y=(y:Int)*step:=⟨_,rfl⟩;obtain ⟨Z,hZ⟩:∃Z,Z=(z:Int)*step:=⟨_,rfl⟩;rw [←hX] at hxs;rw [←hY] at hys;rw [←hZ] at hzs;obtain ⟨hx0,hx1⟩:=hxs;obtain ⟨hy0,hy1⟩:=hys;obtain ⟨hz0,hz1⟩:=hzs;have HPT:Hid (pointV step (p0,p1,p2) n=(p0+X,p1+Y,p2+Z)):=by show _=_;rw [hX,hY,hZ,hx,hy,hz];rfl
   have HNE:Hid (∀f,nearV bits n f=(decide (0≤(x:Int)+(stepsV f).1∧(x:Int)+(stepsV f).1<3∧0≤(y:Int)+(stepsV f).2.1∧(y:Int)+(stepsV f).2.1<3∧0≤(z:Int)+(stepsV f).2.2∧(z:Int)+(stepsV f).2.2<3)&&bitV bits ((((z:Int)+(stepsV f).2.2)*3+((y:Int)+(stepsV f).2.1))*3+((x:Int)+(stepsV f).1)).toNat)):=fun f=>by rw [hx,hy,hz];rfl
   have HCV:Hid (cubeV bits step (p0,p1,p2) n=if bitV bits n then (List.range 6).flatMap (sideV bits step (p0,p1,p2) n) else []):=rfl;have HBI:=Lib.hid (fun k=>and1_bit (b:=bits) k hba);have hXe:=hX.symm;have hYe:=hY.symm;have hZe:=hZ.symm;have hb0:=HBI.out n;have HBA:Hid (0≤bits∧bits<134217728):=⟨hba,hbb⟩;clear hX hY hZ hx hy hz;rcases hbn:bitV bits n with _ | _
   ·rw [hbn] at hb0;have HE:Hid (acc=(List.range (n+1)).flatMap (cubeV bits step (p0,p1,p2))):=by show _=_;rw [range_flat (cubeV bits step (p0,p1,p2)) n,HCV.out,hbn,HACC.out];simp
    clear hbn HCV HNE HPT HBI;go_wp2_with fail
    exact ⟨⟨n+1,by push_cast;rfl,HN.out,⟨acc,HE.out,by have:=HAL.out;omega,HO.out⟩,HU.out⟩,by simp only [intOf];have:=HN.out;omega⟩
   ·rw [hbn] at hb0;have HE:Hid (acc++(List.range 6).flatMap (sideV bits step (p0,p1,p2) n)=(List.range (n+1)).flatMap (cubeV bits step (p0,p1,p2))):=by show _=_;rw [range_flat (cubeV bits step (p0,p1,p2)) n,HCV.out,hbn,HACC.out];simp
    clear hbn HCV;obtain ⟨CT,hCT⟩:∃CT,CT=cubeT (pointV step (p0,p1,p2) n) step:=⟨_,rfl⟩;have HCL:Hid (CT.length=12):=by show _=_;rw [hCT];rfl
    have HSI:Hid (∀f,sideV bits step (p0,p1,p2) n f=if nearV bits n f then [] else [CT.getD (2*f) ((0,0,0),(0,0,0),(0,0,0)),CT.getD (2*f+1) ((0,0,0),(0,0,0),(0,0,0))]):=fun f=>by rw [hCT];rfl
    have HCU:=fun W=>Lib.hid (cube_any (p0+X,p1+Y,p2+Z) step W (by show -100000000≤p0+X∧p0+X≤100000000;omega) (by show -100000000≤p1+Y∧p1+Y≤100000000;omega) (by show -100000000≤p2+Z∧p2+Z≤100000000;omega) ⟨hsa,by omega⟩);rw [HPT.out] at hCT;rw [←hCT] at HCU;clear hCT HPT;unfold ptV at HCU;simp only at HCU;obtain ⟨g0,g1,g2⟩:=cells3 (HU.out.heap HA.out id);go_upto_region 10 with fail
    have HQ1:Hid ((wr.alloc (.cells #[.int .i64 (p0+X),.int .i64 (p1+Y),.int .i64 (p2+Z)] 43)).heap[wr.heap.size]?=some (.cells #[.int .i64 (p0+X),.int .i64 (p1+Y),.int .i64 (p2+Z)] 43 (0,0))):=heap_alloc_new wr _;have hal:=(Upd.refl noBlk wr).alloc (.cells #[.int .i64 (p0+X),.int .i64 (p1+Y),.int .i64 (p2+Z)] 43);have HU1:=Lib.hid (HU.out.trans hal);have HO1:=Lib.hid (HO.out.upd hal);obtain ⟨O0,hO0⟩:∃O0,O0=u7.ownBlock:=⟨_,rfl⟩;have HGQ:Hid (∀g,O0=some g→w1.heap.size≤g∧g<wr.heap.size):=fun g hg=>⟨(HO.out.blk (hO0 ▸ hg)).1,(HO.out.lt g (hO0 ▸ hg)).2⟩;have HQB:Hid (wr.heap.size<(wr.alloc (.cells #[.int .i64 (p0+X),.int .i64 (p1+Y),.int .i64 (p2+Z)] 43)).heap.size):=by show _<_;rw [World.size_alloc];omega
    have HO0:=Lib.hid hO0;clear hal HU HO g0 g1 g2 hO0;generalize wr.alloc (.cells #[.int .i64 (p0+X),.int .i64 (p1+Y),.int .i64 (p2+Z)] 43)=w2 at *;generalize wr.heap.size=qb at *;have HC2:=HCU w2;obtain ⟨g0,g1,g2⟩:=cells3 HQ1.out;go_wp2_with fail
    refine HC2.out.mono ?_;rintro e w3 ⟨vc,rfl,oc,u3⟩;obtain ⟨cb,cc,hvc,hcb,hcl,hct⟩:=oc.form2 (by rw [HCL.out];decide);have HCW:Hid (cb<w3.heap.size):=hcl;subst hvc;have HCB:Hid (w2.heap.size≤cb):=hcb;have HSB:Hid (w2.heap.size≤w3.heap.size):=u3.size;rw [HCL.out];clear hcb hcl;have HCT:=Lib.hid hct;have HU3:=Lib.hid (HU1.out.trans u3);have HO3:=Lib.hid (HO1.out.upd u3);clear oc u3 hct HCU HC2 HU1 HO1 HQ1 g0 g1 g2;have HST:Hid ((w3.alloc (.cells stepCells 138)).heap[w3.heap.size]?=some (.cells stepCells 138 (0,0))):=heap_alloc_new w3 _;have hal:=(Upd.refl noBlk w3).alloc (.cells stepCells 138);have HU4:=Lib.hid (HU3.out.trans hal);have HO4:=Lib.hid (HO3.out.upd hal);have HCT4:Hid (∀j (hj:j<CT.length),kTri.At (w3.alloc (.cells stepCells 138)) cb (0+j*kTri.k) CT[j]):=fun j hj=>(HCT.out j hj).keep hal;have HW34:Hid (w3.heap.size≤(w3.alloc (.cells stepCells 138)).heap.size):=hal.size;clear hal HU3 HO3 HCT;unfold stepCells at *;go_upto_region 12 with fail
    generalize w3.alloc (.cells #[.int .i64 0,.int .i64 0,.int .i64 (-1),.int .i64 0,.int .i64 0,.int .i64 1,.int .i64 0,.int .i64 (-1),.int .i64 0,.int .i64 0,.int .i64 1,.int .i64 0,.int .i64 (-1),.int .i64 0,.int .i64 0,.int .i64 1,.int .i64 0,.int .i64 0] 138)=w4 at *;generalize w3.heap.size=sb at *;clear hXe hYe hZe hxe hye hze;go_wp2_with fail
    go_loopw [7,15] (fun o i wr=>∃f:Nat,i=.int .i64 f∧f≤6∧(∃acc2,acc2=acc++(List.range f).flatMap (sideV bits step (p0,p1,p2) n)∧acc2.length≤12*n+2*f∧kTri.Own w1.heap.size wr o acc2)∧(∀g,o.ownBlock=some g→O0=some g∨w4.heap.size≤g)∧Upd (fun k=>O0=some k) w4 wr) (fun _ i _=>6-(intOf i).toNat)
    case atStart=>exact ⟨0,rfl,by omega,⟨acc,by simp,by have:=HAL.out;omega,HO4.out⟩,fun g hg=>.inl (HO0.out ▸ hg),Upd.refl _ _⟩
    case round=>
     obtain ⟨f,rfl,hf,⟨acc2,hacc2,hal2,ho2⟩,hg2,hu2⟩:=hrel;have HG2:=Lib.hid hg2;have HACC2:=Lib.hid hacc2;have HAL2:=Lib.hid hal2;have HO2:=Lib.hid ho2;have HU2:=Lib.hid hu2;clear hacc2 hal2 ho2 hu2 hg2;by_cases hlf:f<6
     ·have hlf':(f:Int)<6:=by omega
      have HF:Hid (f<6):=hlf;obtain ⟨t0,t1,t2⟩:=step_cells (HU2.out.heap HST.out (fun e=>by have:=(HGQ.out _ e).2;have:=HQB.out;have:=HSB.out;omega)) hlf;obtain ⟨⟨l0,l1⟩,⟨l2,l3⟩,⟨l4,l5⟩⟩:=steps_small f hlf;have HNF:=Lib.hid (HNE.out f);obtain ⟨U,hU⟩:∃U,U=(x:Int)+(stepsV f).1:=⟨_,rfl⟩;obtain ⟨V,hV⟩:∃V,V=(y:Int)+(stepsV f).2.1:=⟨_,rfl⟩;obtain ⟨W,hW⟩:∃W,W=(z:Int)+(stepsV f).2.2:=⟨_,rfl⟩;rw [←hU,←hV,←hW] at HNF;generalize (stepsV f).1=d0 at *;generalize (stepsV f).2.1=d1 at *;generalize (stepsV f).2.2=d2 at *;have hU0:-1≤U:=by omega
      have hU1:U≤3:=by omega
      have hV0:-1≤V:=by omega
      have hV1:V≤3:=by omega
      have hW0:-1≤W:=by omega
      have hW1:W≤3:=by omega
      have hUe:=hU.symm;have hVe:=hV.symm;have hWe:=hW.symm;clear hU hV hW;clear HNE;go_upto_region 18 with fail
      clear hUe hVe hWe t0 t1 t2 l0 l1 l2 l3 l4 l5;go_cut [19] (fun c wc=>wc=wr∧c=.bool (decide (0≤U∧U<3∧0≤V∧V<3∧0≤W∧W<3)))
      case first=>
       by_cases h0:0≤U
       case neg=>(go_wp2_with fail;go_meet;exact ⟨rfl,congrArg Value.bool (decide_eq_false (fun h=>by omega)).symm⟩)
       by_cases h1:U<3
       case neg=>(go_wp2_with fail;go_meet;exact ⟨rfl,congrArg Value.bool (decide_eq_false (fun h=>by omega)).symm⟩)
       by_cases h2:0≤V
       case neg=>(go_wp2_with fail;go_meet;exact ⟨rfl,congrArg Value.bool (decide_eq_false (fun h=>by omega)).symm⟩)
       by_cases h3:V<3
       case neg=>(go_wp2_with fail;go_meet;exact ⟨rfl,congrArg Value.bool (decide_eq_false (fun h=>by omega)).symm⟩)
       by_cases h4:0≤W
       case neg=>(go_wp2_with fail;go_meet;exact ⟨rfl,congrArg Value.bool (decide_eq_false (fun h=>by omega)).symm⟩)
       by_cases h5:W<3
       case neg=>(go_wp2_with fail;go_meet;exact ⟨rfl,congrArg Value.bool (decide_eq_false (fun h=>by omega)).symm⟩)
       go_wp2_with fail
       go_meet
       exact ⟨rfl,congrArg Value.bool (decide_eq_true ⟨h0,h1,h2,h3,h4,h5⟩).symm⟩
      case rest=>
       obtain ⟨rfl,rfl⟩:=hcut;go_upto_region 19 with fail
       go_cut [19,125] (fun _ c wc'=>wc'=wc∧c=.bool (!nearV bits n f))
       case first=>
        by_cases hin:0≤U∧U<3∧0≤V∧V<3∧0≤W∧W<3
        ·obtain ⟨q,hq⟩:∃q:Nat,(W*3+V)*3+U=(q:Int):=⟨((W*3+V)*3+U).toNat,by omega⟩;have hq27:q<27:=by omega
         have hqq:=HNF.out;rw [decide_eq_true hin,hq,Int.toNat_natCast,Bool.true_and] at hqq;have hb1:=HBI.out q;rw [←hqq] at hb1;rw [decide_eq_true hin];have HQQ:=Lib.hid hb1;obtain ⟨i0,i1,i2,i3,i4,i5⟩:=hin;have r1:0≤W*3:=by omega
         clear hqq hb0 hb1;rcases hnv:nearV bits n f with _ | _
         ·have hb2:=HQQ.out;rw [hnv] at hb2;have HNV:=Lib.hid hnv;clear hnv;go_wp2_with fail
          go_meet
          exact ⟨rfl,by rw [HNV.out];rfl⟩
         ·have hb2:=HQQ.out;rw [hnv] at hb2;have HNV:=Lib.hid hnv;clear hnv;go_wp2_with fail
          go_meet
          exact ⟨rfl,by rw [HNV.out];rfl⟩
        ·have hqq:=HNF.out;rw [decide_eq_false hin,Bool.false_and] at hqq;rw [decide_eq_false hin];have HQQ:=Lib.hid hqq;clear hqq hb0;go_wp2_with fail
         go_meet
         exact ⟨rfl,by rw [HQQ.out];rfl⟩
       case rest=>
        obtain ⟨rfl,rfl⟩:=hcut;have HAS:Hid (acc++(List.range (f+1)).flatMap (sideV bits step (p0,p1,p2) n)=acc2++sideV bits step (p0,p1,p2) n f):=by show _=_;rw [range_flat,HACC2.out,List.append_assoc]
        have HSF:=Lib.hid (HSI.out f);rcases hnv:nearV bits n f with _ | _
        ·rw [hnv,if_neg (by decide)] at HSF;have hj1:2*f<CT.length:=by rw [HCL.out];have:=HF.out;omega
         have hj2:2*f+1<CT.length:=by rw [HCL.out];have:=HF.out;omega
         rw [List.getD_eq_getElem?_getD,List.getD_eq_getElem?_getD,List.getElem?_eq_getElem hj1,List.getElem?_eq_getElem hj2] at HSF;simp only [Option.getD_some] at HSF;have HT1:=Lib.hid ((HCT4.out (2*f) hj1).keepF HU2.out (fun e=>by have:=(HGQ.out _ e).2;have:=HQB.out;have:=HCB.out;omega));have HT2:=Lib.hid ((HCT4.out (2*f+1) hj2).keepF HU2.out (fun e=>by have:=(HGQ.out _ e).2;have:=HQB.out;have:=HCB.out;omega));generalize CT[2*f]=ta at *;generalize CT[2*f+1]=tb at *;have hk9:kTri.k=9:=rfl;rw [hk9,Nat.zero_add] at HT1 HT2;obtain ⟨m1,hm1⟩:∃m1,m1=2*f:=⟨_,rfl⟩;obtain ⟨m2,hm2⟩:∃m2,m2=2*f+1:=⟨_,rfl⟩;rw [←hm1] at HT1;rw [←hm2] at HT2;have e1:2*(f:Int)=(m1:Int):=by omega
         have e2:(m1:Int)+1=(m2:Int):=by omega
         have e3:(m1:Int)<12:=by have:=HF.out;omega
         have e4:(m2:Int)<12:=by have:=HF.out;omega
         obtain ⟨⟨a0,a1,a2⟩,⟨a3,a4,a5⟩,⟨a6,a7,a8⟩⟩:=ta;obtain ⟨⟨b0,b1,b2⟩,⟨b3,b4,b5⟩,⟨b6,b7,b8⟩⟩:=tb;have hnew:((wc.alloc (.cells #[.int .i64 a0,.int .i64 a1,.int .i64 a2,.int .i64 a3,.int .i64 a4,.int .i64 a5,.int .i64 a6,.int .i64 a7,.int .i64 a8,.int .i64 b0,.int .i64 b1,.int .i64 b2,.int .i64 b3,.int .i64 b4,.int .i64 b5,.int .i64 b6,.int .i64 b7,.int .i64 b8] 45)).drew).heap[wc.heap.size]?=some (.cells #[.int .i64 a0,.int .i64 a1,.int .i64 a2,.int .i64 a3,.int .i64 a4,.int .i64 a5,.int .i64 a6,.int .i64 a7,.int .i64 a8,.int .i64 b0,.int .i64 b1,.int .i64 b2,.int .i64 b3,.int .i64 b4,.int .i64 b5,.int .i64 b6,.int .i64 b7,.int .i64 b8] 45 (0,0)):=heap_alloc_new wc _;have u5:Upd noBlk wc ((wc.alloc (.cells #[.int .i64 a0,.int .i64 a1,.int .i64 a2,.int .i64 a3,.int .i64 a4,.int .i64 a5,.int .i64 a6,.int .i64 a7,.int .i64 a8,.int .i64 b0,.int .i64 b1,.int .i64 b2,.int .i64 b3,.int .i64 b4,.int .i64 b5,.int .i64 b6,.int .i64 b7,.int .i64 b8] 45)).drew):=((Upd.refl noBlk wc).alloc _).drew;have HUV:=Lib.hid (HU2.out.then u5 (fun i hi e=>e.elim));have HSW:Hid (w1.heap.size≤((wc.alloc (.cells #[.int .i64 a0,.int .i64 a1,.int .i64 a2,.int .i64 a3,.int .i64 a4,.int .i64 a5,.int .i64 a6,.int .i64 a7,.int .i64 a8,.int .i64 b0,.int .i64 b1,.int .i64 b2,.int .i64 b3,.int .i64 b4,.int .i64 b5,.int .i64 b6,.int .i64 b7,.int .i64 b8] 45)).drew).heap.size):=Nat.le_trans HU4.out.size HUV.out.size;have HO5:=Lib.hid (HO2.out.upd u5);have HQL:Hid (([((a0,a1,a2),(a3,a4,a5),(a6,a7,a8)),((b0,b1,b2),(b3,b4,b5),(b6,b7,b8))]:List Tri).length=2):=rfl;obtain ⟨g6,cap6,z6,r6,o6,t6,h6⟩:=HO5.out.appN HSW.out (c:=2) [((a0,a1,a2),(a3,a4,a5),(a6,a7,a8)),((b0,b1,b2),(b3,b4,b5),(b6,b7,b8))] (kTri.at_lit hnew rfl) (by rw [HQL.out];have:=HAL2.out;have:=HN.out;have:=HF.out;omega) (by rw [HQL.out];decide);rw [HQL.out] at r6;rw [←HSF.out] at o6;rw [show (sideV bits step (p0,p1,p2) n f).length=2 by rw [HSF.out];rfl] at o6;have R6:=Lib.hid r6;have HO6:=Lib.hid o6;have HU6:=Lib.hid (HUV.out.then t6 (fun i hi e=>(HG2.out i e).resolve_right (by omega)));have HG6:Hid (∀c g,(Value.slice (some ⟨g6,0,none⟩) c cap6).ownBlock=some g→O0=some g∨w4.heap.size≤g):=fun c g e=>by
          cases e;rcases h6 with h6 | h6
          ·exact HG2.out _ h6
          ·exact .inr (Nat.le_trans HUV.out.size h6)
         have w1m:IntKind.i64.wrap (m1:Int)=(m1:Int):=wrapN (by omega) (by omega);have w2m:IntKind.i64.wrap (m2:Int)=(m2:Int):=wrapN (by omega) (by omega);have HNC:Hid (¬u7.ownBlock=some cb):=fun e=>by
          rcases HG2.out _ e with e | e
          ·have:=(HGQ.out _ e).2;have:=HQB.out;have:=HCB.out;omega
          ·have:=HCW.out;have:=HW34.out;omega
         have HT6:=Lib.hid (((Upd.refl (fun k=>u7.ownBlock=some k) wc).then u5 (fun i hi e=>e.elim)).then t6 (fun i hi e=>e));have HLS:Hid ((acc2++sideV bits step (p0,p1,p2) n f).length=acc2.length+2):=by show _=_;rw [List.length_append,HSF.out];rfl
         clear hm1 hm2 hnew r6 o6 t6 h6 HO5 HO2 hnv HNF HSI HSF hb0 hj1 hj2;go_wp2_with fail
         refine wp_region_tree 14 (OT.sures [0,1,2,6,7,3,8,4,9,5,10,11] (.run 12 (.run 13 .nil))) (fun w'=>Upd (fun k=>u7.ownBlock=some k) wc w') (by kernel_rfl) (by kernel_rfl) (fun c a d v w h=>by cases d<;>exact h) ((Upd.refl _ wc).drew) ?_
         simp only [OT.sures]
         iterate 12 (apply wpT_sure rfl rfl;focus (intro w' hw';obtain ⟨g0,g1,g2,g3,g4,g5,g6,g7,g8⟩:=triAt9 (HT1.out.keepF hw' HNC.out);obtain ⟨k0,k1,k2,k3,k4,k5,k6,k7,k8⟩:=triAt9 (HT2.out.keepF hw' HNC.out);go_simp;rfl))
         refine wpT_run (fun w'=>Upd (fun k=>u7.ownBlock=some k) wc w') (fun _ h=>h) rfl (fun K' hK=>?_);go_simp
         refine hK _ _ ⟨?_,?_⟩
         ·exact ((Upd.refl _ wc).alloc _).drew
         clear hK K';refine wpT_run (fun w'=>Upd (fun k=>u7.ownBlock=some k) wc w') (fun _ h=>h) rfl (fun K' hK=>?_);refine if_wanted (by go_simp) ?_;refine wp_append_run (.tmp 126) (.tmp 138) _ rfl (by go_simp) (by go_simp) R6.out ?_;refine hK _ _ ⟨HT6.out,?_⟩;clear hK K';refine wpT_nil ?_;go_wp2_with fail
         exact ⟨⟨f+1,by push_cast;rfl,HF.out,⟨acc2++sideV bits step (p0,p1,p2) n f,HAS.out.symm,by rw [HLS.out];have:=HAL2.out;omega,HO6.out⟩,HG6.out _,HU6.out⟩,by simp only [intOf];have:=HF.out;omega⟩
        ·rw [hnv,if_pos rfl] at HSF;have HAC:Hid (acc2=acc++(List.range (f+1)).flatMap (sideV bits step (p0,p1,p2) n)):=by show _=_;rw [HAS.out,HSF.out,List.append_nil]
         clear hnv HNF HSI;go_wp2_with fail
         exact ⟨⟨f+1,by push_cast;rfl,HF.out,⟨acc2,HAC.out,by have:=HAL2.out;omega,HO2.out⟩,HG2.out,HU2.out⟩,by simp only [intOf];have:=HF.out;omega⟩
     ·obtain rfl:f=6:=by omega
      have HAC:Hid (acc2=(List.range (n+1)).flatMap (cubeV bits step (p0,p1,p2))):=by show _=_;rw [←HE.out,HACC2.out]
      go_wp2_with fail
      exact ⟨⟨n+1,by push_cast;rfl,HN.out,⟨acc2,HAC.out,by have:=HAL2.out;omega,HO2.out⟩,HU4.out.then HU2.out (fun i hi e=>absurd hi (by have:=(HGQ.out i e).1;omega))⟩,by simp only [intOf];have:=HN.out;omega⟩
  ·obtain rfl:n=27:=by omega
   go_wp2_with fail
   go_ret
   have HTE:T=acc:=by rw [HT.out,HACC.out]
   rw [HTE];exact ⟨_,rfl,HO.out.mono HU0.out.size,by have:=HAL.out;omega,HU0.out.trans HU.out⟩
end Go.Proofs.YtcikldoaidmnhaaGreatDoor
namespace Go.Proofs.YtcikldoaidmnhaaGreatDoor
open Go Go.RowKit Pk
set_option maxRecDepth 100000
def putC (t:Tri) (i:Nat) (z:Int):Tri:=match i with
 | 0=>((z,t.1.2.1,t.1.2.2),t.2.1,t.2.2)
 | 1=>((t.1.1,z,t.1.2.2),t.2.1,t.2.2)
 | 2=>((t.1.1,t.1.2.1,z),t.2.1,t.2.2)
 | 3=>(t.1,(z,t.2.1.2.1,t.2.1.2.2),t.2.2)
 | 4=>(t.1,(t.2.1.1,z,t.2.1.2.2),t.2.2)
 | 5=>(t.1,(t.2.1.1,t.2.1.2.1,z),t.2.2)
 | 6=>(t.1,t.2.1,(z,t.2.2.2.1,t.2.2.2.2))
 | 7=>(t.1,t.2.1,(t.2.2.1,z,t.2.2.2.2))
 | _=>(t.1,t.2.1,(t.2.2.1,t.2.2.2.1,z))
theorem putC_same (t:Tri) (i:Nat) (z:Int) (hi:i<9):(triC (putC t i z))[i]?=some (.int .i64 z):=by
 rcases (by omega:i=0∨i=1∨i=2∨i=3∨i=4∨i=5∨i=6∨i=7∨i=8) with rfl | rfl | rfl | rfl | rfl | rfl | rfl | rfl | rfl<;>rfl
theorem putC_other (t:Tri) (i j:Nat) (z:Int) (hi:i<9) (hj:j≠i):(triC (putC t i z))[j]?=(triC t)[j]?:=by
 by_cases h9:j<9
 ·rcases (by omega:i=0∨i=1∨i=2∨i=3∨i=4∨i=5∨i=6∨i=7∨i=8) with rfl | rfl | rfl | rfl | rfl | rfl | rfl | rfl | rfl <;>
   rcases (by omega:j=0∨j=1∨j=2∨j=3∨j=4∨j=5∨j=6∨j=7∨j=8) with rfl | rfl | rfl | rfl | rfl | rfl | rfl | rfl | rfl<;>first | rfl | exact absurd rfl hj
 ·rw [List.getElem?_eq_none (by show 9≤j;omega),List.getElem?_eq_none (by show 9≤j;omega)]
def RowAt (w:World) (g:Nat) (l:List Tri):Prop:=∃cur,w.heap[g]?=some (.cells cur 45 (0,0))∧∀j (hj:j<l.length) i v,(triC l[j])[i]?=some v→cur[j*9+i]?=some v
theorem RowAt.keep {F:Nat→Prop} {w w':World} {g:Nat} {l:List Tri} (h:RowAt w g l) (hu:Upd F w w') (hf:¬F g):RowAt w' g l:=by
 obtain ⟨cur,hc,hx⟩:=h;exact ⟨cur,hu.heap hc hf,hx⟩
theorem RowAt.lt {w:World} {g:Nat} {l:List Tri} (h:RowAt w g l):g<w.heap.size:=by
 obtain ⟨cur,hc,_⟩:=h;exact lt_of_heap hc
theorem RowAt.put {w:World} {g:Nat} {l:List Tri} (h:RowAt w g l) {k i off:Nat} (z:Int) (hk:k<l.length) (hi:i<9) (ho:off=k*9+i):RowAt (w.setCell ⟨g,off,none⟩ (.int .i64 z)) g (l.set k (putC (l.getD k z3) i z)):=by
 obtain ⟨cur,hc,hx⟩:=h;refine ⟨_,heap_setCell_eq (i:=off) (.int .i64 z) hc,fun j hj i' v hv=>?_⟩;rw [List.length_set] at hj;have hgd:l.getD k z3=l[k]:=by rw [List.getD_eq_getElem?_getD,List.getElem?_eq_getElem hk];rfl
 have hsz:off<cur.size:=by
  have h0:=putC_same l[k] i 0 hi;have hl:(triC l[k]).length=9:=rfl;have:=hx k hk i _ (List.getElem?_eq_getElem (by omega));rw [←ho] at this;exact (Array.getElem?_eq_some_iff.1 this).1
 have hi':i'<9:=by
  have:=(List.getElem?_eq_some_iff.1 hv).1;exact this
 rw [Array.getElem?_setIfInBounds];by_cases hjk:k=j
 ·subst hjk;rw [List.getElem_set_self,hgd] at hv;by_cases e:i'=i
  ·subst e;rw [if_pos ho,if_pos hsz];rw [putC_same _ _ _ hi] at hv;exact hv
  ·rw [if_neg (by omega)];rw [putC_other _ _ _ _ hi e] at hv;exact hx k hk i' v hv
 ·rw [List.getElem_set_ne hjk] at hv;rw [if_neg (by omega)];exact hx j hj i' v hv
theorem RowAt.cells {w:World} {g:Nat} {l:List Tri} (h:RowAt w g l) {k:Nat} (hk:k<l.length):kTri.At w g (k*9) l[k]:=by
 obtain ⟨cur,hc,hx⟩:=h;intro i v hv;rw [cell_of_row _ _ _ cur 45 (0,0) hc];exact hx k hk i v hv
theorem RowAt.free {w:World} {g:Nat} {l:List Tri} (h:RowAt w g l) (j:Nat):w.frozen? ⟨g,j,none⟩=false:=by
 obtain ⟨cur,hc,_⟩:=h;simp [World.frozen?,hc]
theorem RowAt.rd {w:World} {g cap:Nat} {l:List Tri} (h:RowAt w g l) (hc:l.length≤cap):kTri.Rd w (.slice (some ⟨g,0,none⟩) l.length cap) l:=
 ⟨_,cap,rfl,hc,fun _=>⟨g,0,rfl,fun j hj=>by rw [Nat.zero_add];exact h.cells hj⟩⟩
theorem rowAt_of_own {base:Nat} {w:World} {v:Value} {l:List Tri} (h:kTri.Own base w v l) (h0:0<l.length):∃g cap,v=.slice (some ⟨g,0,none⟩) l.length cap∧base≤g∧l.length≤cap∧RowAt w g l:=by
 obtain ⟨g,cap,e,hb,hlt,hat⟩:=h.form2 h0;obtain ⟨A,cap',e2,hc⟩:=h.form;rw [e] at e2;cases e2;refine ⟨g,cap,e,hb,hc,?_⟩;subst e;obtain ⟨_,cur,hcur⟩:=h.blk (g:=g) rfl;refine ⟨cur,hcur,fun j hj i v hv=>?_⟩;have:=hat j hj i v hv;have hk9:kTri.k=9:=rfl;rw [Nat.zero_add,hk9,cell_of_row _ _ _ cur 45 (0,0) hcur] at this;exact this
theorem RowAt.put9 {w:World} {g k:Nat} {l:List Tri} (h:RowAt w g l) (hk:k<l.length) (a0 a1 a2 a3 a4 a5 a6 a7 a8:Int) :
  RowAt (((((((((w.setCell ⟨g,k*9,none⟩ (.int .i64 a0)).setCell ⟨g,k*9+1,none⟩ (.int .i64 a1)).setCell ⟨g,k*9+2,none⟩ (.int .i64 a2)).setCell ⟨g,k*9+3,none⟩ (.int .i64 a3)).setCell ⟨g,k*9+4,none⟩ (.int .i64 a4)).setCell ⟨g,k*9+5,none⟩ (.int .i64 a5)).setCell ⟨g,k*9+6,none⟩ (.int .i64 a6)).setCell ⟨g,k*9+7,none⟩ (.int .i64 a7)).setCell ⟨g,k*9+8,none⟩ (.int .i64 a8)) g (l.set k ((a0,a1,a2),(a3,a4,a5),(a6,a7,a8))):=by
 have h0:=h.put a0 (i:=0) hk (by decide) rfl;have h1:=h0.put a1 (k:=k) (i:=1) (by simpa using hk) (by decide) rfl;have h2:=h1.put a2 (k:=k) (i:=2) (by simpa using hk) (by decide) rfl;have h3:=h2.put a3 (k:=k) (i:=3) (by simpa using hk) (by decide) rfl;have h4:=h3.put a4 (k:=k) (i:=4) (by simpa using hk) (by decide) rfl;have h5:=h4.put a5 (k:=k) (i:=5) (by simpa using hk) (by decide) rfl;have h6:=h5.put a6 (k:=k) (i:=6) (by simpa using hk) (by decide) rfl;have h7:=h6.put a7 (k:=k) (i:=7) (by simpa using hk) (by decide) rfl;have h8:=h7.put a8 (k:=k) (i:=8) (by simpa using hk) (by decide) rfl;have e:∀x:Tri,(l.set k x).getD k z3=x:=fun x=>by rw [List.getD_eq_getElem?_getD,List.getElem?_set_self hk];rfl
 simp only [List.set_set,e,putC] at h8;exact h8
def putP (t:Tri) (c:Nat) (p:Pt):Tri:=match c with
 | 0=>(p,t.2.1,t.2.2)
 | 1=>(t.1,p,t.2.2)
 | _=>(t.1,t.2.1,p)
theorem RowAt.put3 {w:World} {g k c o:Nat} {l:List Tri} (h:RowAt w g l) (hk:k<l.length) (hc:c<3) (ho:o=k*9+c*3) (a0 a1 a2:Int) :
  RowAt (((w.setCell ⟨g,o,none⟩ (.int .i64 a0)).setCell ⟨g,o+1,none⟩ (.int .i64 a1)).setCell ⟨g,o+2,none⟩ (.int .i64 a2)) g (l.set k (putP (l.getD k z3) c (a0,a1,a2))):=by
 have h0:=h.put a0 (i:=c*3) hk (by omega) ho;have h1:=h0.put a1 (k:=k) (i:=c*3+1) (off:=o+1) (by simpa using hk) (by omega) (by omega);have h2:=h1.put a2 (k:=k) (i:=c*3+2) (off:=o+2) (by simpa using hk) (by omega) (by omega);have e:∀x:Tri,(l.set k x).getD k z3=x:=fun x=>by rw [List.getD_eq_getElem?_getD,List.getElem?_set_self hk];rfl
 simp only [List.set_set,e] at h2;rcases (by omega:c=0∨c=1∨c=2) with rfl | rfl | rfl<;>exact h2
theorem upd_put9 {w:World} {g k:Nat} (a0 a1 a2 a3 a4 a5 a6 a7 a8:Value):Upd (fun b=>b=g) w (((((((((w.setCell ⟨g,k*9,none⟩ a0).setCell ⟨g,k*9+1,none⟩ a1).setCell ⟨g,k*9+2,none⟩ a2).setCell ⟨g,k*9+3,none⟩ a3).setCell ⟨g,k*9+4,none⟩ a4).setCell ⟨g,k*9+5,none⟩ a5).setCell ⟨g,k*9+6,none⟩ a6).setCell ⟨g,k*9+7,none⟩ a7).setCell ⟨g,k*9+8,none⟩ a8):=
 (((((((((Upd.refl (fun b=>b=g) w).setCell (p:=⟨g,k*9,none⟩) (fun _=>rfl) a0).setCell (p:=⟨g,k*9+1,none⟩) (fun _=>rfl) a1).setCell (p:=⟨g,k*9+2,none⟩) (fun _=>rfl) a2).setCell (p:=⟨g,k*9+3,none⟩) (fun _=>rfl) a3).setCell (p:=⟨g,k*9+4,none⟩) (fun _=>rfl) a4).setCell (p:=⟨g,k*9+5,none⟩) (fun _=>rfl) a5).setCell (p:=⟨g,k*9+6,none⟩) (fun _=>rfl) a6).setCell (p:=⟨g,k*9+7,none⟩) (fun _=>rfl) a7).setCell (p:=⟨g,k*9+8,none⟩) (fun _=>rfl) a8
theorem upd_put3 {w:World} {g o:Nat} (a0 a1 a2:Value):Upd (fun b=>b=g) w (((w.setCell ⟨g,o,none⟩ a0).setCell ⟨g,o+1,none⟩ a1).setCell ⟨g,o+2,none⟩ a2):=
 (((Upd.refl (fun b=>b=g) w).setCell (p:=⟨g,o,none⟩) (fun _=>rfl) a0).setCell (p:=⟨g,o+1,none⟩) (fun _=>rfl) a1).setCell (p:=⟨g,o+2,none⟩) (fun _=>rfl) a2
end Go.Proofs.YtcikldoaidmnhaaGreatDoor
namespace Go.Proofs.YtcikldoaidmnhaaGreatDoor
open Go Go.RowKit Pk
set_option maxRecDepth 100000
theorem Kd.Rd.appFull {α:Type} {K:Kd Tryz.prog α} {w:World} {A:Option Addr} {l:List α} (h:K.Rd w (.slice A l.length l.length) l) {b off c:Nat} (m:List α) (hm:∀j (hj:j<m.length),K.At w b (off+j*K.k) m[j]) (hl:l.length+m.length<4294967296) (h0:0<m.length) :
  ∃cap w',(Builtin.append_ #[K.S,K.S] K.S #[.slice A l.length l.length,.slice (some ⟨b,off,none⟩) m.length c]).run Tryz.prog w=.ok (.slice (some ⟨w.heap.size,0,none⟩) (l.length+m.length) cap) w' ∧
   K.Own w.heap.size w' (.slice (some ⟨w.heap.size,0,none⟩) (l.length+m.length) cap) (l++m)∧Upd noBlk w w':=by
 obtain ⟨i,z,hi,hz,h1,h2,h3⟩:=K.info;have hs:=K.small;have hlm:(l.flatMap K.enc).length=l.length*i.size:=by rw [h1];exact K.flat_len l
 have hmm:(m.flatMap K.enc).length=m.length*i.size:=by rw [h1];exact K.flat_len m
 have hget:∀(x:List α) (W:World) (b' o':Nat),(∀j (hj:j<x.length),K.At W b' (o'+j*K.k) x[j])→∀j u,(x.flatMap K.enc)[j]?=some u→W.cell? ⟨b',o'+j,none⟩=some u:=fun x W b' o' hx j u hu=>by
  have hj:j<x.length*K.k:=by have:=(List.getElem?_eq_some_iff.1 hu).1;rw [K.flat_len] at this;exact this
  have hp:=K.pos;have hq:j / K.k<x.length:=Nat.div_lt_of_lt_mul (by rw [Nat.mul_comm];exact hj);have hr:j % K.k<K.k:=Nat.mod_lt _ hp;have e:j / K.k*K.k+j % K.k=j:=by rw [Nat.mul_comm];exact Nat.div_add_mod j K.k
  rw [←e,K.flat_get x _ hq _ hr] at hu;have:=hx _ hq _ _ hu;rw [←e,←Nat.add_assoc];exact this
 have hsrc:Src Tryz.prog i.size K.S (.slice (some ⟨b,off,none⟩) m.length c) m.length (m.flatMap K.enc) w:=
  Src.ofSlice w K.und ⟨b,off,none⟩ m.length c (m.flatMap K.enc) hmm (fun j u hu=>by rw [Addr.add_mid];exact hget m w b off hm j u hu) (fun u hu=>by obtain ⟨x,_,hx⟩:=List.mem_flatMap.1 hu;exact K.one x u hx)
 have hold:(Builtin.firstCells i.size l.length (.slice A l.length l.length)).run Tryz.prog w.drew=.ok (l.flatMap K.enc).toArray w.drew:=by
  obtain ⟨A',cap',e,_,hx⟩:=h;cases e;by_cases hl0:0<l.length
  ·obtain ⟨b',o',rfl,hx2⟩:=hx hl0;refine run_firstCells_some w.drew i.size l.length ⟨b',o',none⟩ l.length l.length (l.flatMap K.enc) hlm (fun j u hu=>?_);rw [Addr.add_lit];exact hget l w.drew b' o' (fun j hj=>hx2 j hj) j u hu
  ·have hn:l=[]:=List.eq_nil_of_length_eq_zero (by omega);subst hn;cases A with
   | none=>exact run_firstCells_none w.drew i.size 0 0 0
   | some a'=>exact run_firstCells_some w.drew i.size 0 a' 0 0 [] (by simp) (by intro _ _ h';simp at h')
 have hby:(l.length+m.length)*i.bytes≤140737488355328:=by
  rw [h2];exact Nat.le_trans (Nat.mul_le_mul (Nat.le_of_lt hl) hs) (by decide)
 have hrun:=run_append_grow_src (P:=Tryz.prog) w K.S K.S K.S K.T i z K.und hi hz A l.length l.length (l.flatMap K.enc) hold (.slice (some ⟨b,off,none⟩) m.length c) m.length (m.flatMap K.enc) hsrc (by omega) (by omega) (growslice_fits (by omega) hby);refine ⟨_,_,hrun,?_,(Upd.refl noBlk w).drew.alloc _⟩;have hge:=grownCap_ge w (l.length+m.length) l.length K.T;have hfl:((l++m).flatMap K.enc)=l.flatMap K.enc++m.flatMap K.enc:=List.flatMap_append;have hL:(l.flatMap K.enc++m.flatMap K.enc).length=(l.length+m.length)*K.k:=by rw [List.length_append,K.flat_len,K.flat_len,Nat.add_mul]
 unfold Kd.Own;rw [hfl];refine ⟨by rw [hL,List.length_append],.inr ⟨w.heap.size,_,_,by rw [List.length_append],Nat.le_refl _,heap_alloc_new w.drew _,by rw [List.length_append];omega,grownCap_le_maxLen w _ _ _ (by unfold maxLen;omega),?_,?_⟩⟩
 ·rw [Array.size_append,List.size_toArray,hL,size_zeroCells,h3,←Nat.add_mul];congr 1
  omega
 ·rw [Array.toList_append,List.length_append,←hL];exact List.take_left
end Go.Proofs.YtcikldoaidmnhaaGreatDoor
