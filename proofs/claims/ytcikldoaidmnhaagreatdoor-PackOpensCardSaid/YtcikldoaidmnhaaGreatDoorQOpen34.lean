/- Parts: Walks of the reference of packets: OpenCluster. No condition. Walks of the reference of packets: open. No condition. -/
import Derived.Test.YtcikldoaidmnhaaGreatDoorQOpen19
import Derived.Test.YtcikldoaidmnhaaGreatDoorQOpen31
import Derived.Test.YtcikldoaidmnhaaGreatDoorQOpen33
namespace Go.Proofs.YtcikldoaidmnhaaGreatDoor
open Go Go.RowKit Pk Pc
set_option maxRecDepth 100000
def openRd (m:Option (List Tri)) (w:World) (en:Ending) (w':World):Prop:=∃v ok,en=.returned (.tuple #[v,.bool ok])∧Upd noBlk w w'∧(ok=false→m=none∧v=.slice none 0 0)∧(ok=true→∃T,m=some T∧kTri.Rd w' v T∧(∀t,t∈T→inT t)∧T.length≤128)
set_option maxHeartbeats 8000000 in
theorem jopen_one (code:List Nat) (hl:∀d,d∈code→d<256) (w:World):Calls Tryz.prog 71 #[.string (str (1 :: code))] w fun en w'=>openRd (openM true (1 :: code)) w en w':=by
 obtain ⟨tgt,htgt⟩:∃t,t=openM true (1 :: code):=⟨_,rfl⟩;rw [←htgt];have HT:Hid (tgt=if ((D.ofCode code).number 64).ok=true∧((D.ofCode code).number 64).n<129 then runM true ((D.ofCode code).number 64).n (4*((D.ofCode code).number 64).n) ((D.ofCode code).number 64).d Wk.init else none):=htgt;have he:(str (1 :: code)).toList.isEmpty=false:=by rw [str_toList];rfl
 have hz:0<(str (1 :: code)).size:=by rw [str_size];simp
 have h0:=str_get (l:=1 :: code) (i:=0) (by simp) (fun d hd=>(List.mem_cons.1 hd).elim (fun e=>by rw [e];decide) (hl d)) hz;have hsl:(str (1 :: code)).extract 1 (str (1 :: code)).size=str code:=by rw [str_extract,str_size];simp
 have hz1:(1:Int)≤(((str (1 :: code)).size:Nat):Int):=by omega
 have hzn:¬(str (1 :: code)).size=0:=by omega
 have hzi:¬(((str (1 :: code)).size:Nat):Int)=0:=by omega
 have HNR:=Lib.hid (rNewReader_any code hl w);clear hl htgt;go_enter Tryz.func71,Tryz.ntmps71
 go_wp2_with fail
 refine HNR.out.mono ?_;rintro e w1 ⟨rfl,hr1,u1⟩;have HNU:=Lib.hid (rRNumber_any hr1 (by omega) 64);have U1:=Lib.hid u1;clear hr1 u1 HNR he hz h0 hsl hz1 hzn hzi;obtain ⟨br,hbr⟩:∃br,br=w.heap.size:=⟨_,rfl⟩;have HBR:Hid (w.heap.size≤br):=by show _≤_;omega
 rw [←hbr] at HNU;rw [←hbr];clear hbr;generalize (D.ofCode code).number 64=x at *;obtain ⟨many,ok,d0⟩:=x;unfold numV at HNU;simp only at HNU HT;go_wp2_with fail
 refine HNU.out.mono ?_;rintro e w2 ⟨rfl,n0,hn0,hr2,u2⟩;have U2:=Lib.hid (U1.out.then u2 (fun i hi e=>by have e':i=br:=e;have:=HBR.out;omega));have HR2:=Lib.hid hr2;have HN0:Hid (n0≤134):=by show _≤_;omega
 clear hr2 u2 hn0 HNU U1;cases ok with
 | false=>
  have HTN:Hid (tgt=none):=by show _=_;rw [HT.out];exact if_neg (fun h=>by cases h.1)
  have HUX:=U2;clear HT;go_wp2_with fail
  go_ret2
  exact ⟨_,_,rfl,HUX.out,(fun _=>⟨HTN.out,rfl⟩),(fun h=>by cases h)⟩
 | true=>
  by_cases hm:many<129
  case neg=>
   have HTN:Hid (tgt=none):=by show _=_;rw [HT.out];exact if_neg (fun h=>hm h.2)
   have HUX:=U2;have hm':(128:Int)<(many:Int):=by omega
   clear HT hm;go_wp2_with fail
   go_ret2
   exact ⟨_,_,rfl,HUX.out,(fun _=>⟨HTN.out,rfl⟩),(fun h=>by cases h)⟩
  have HTR:Hid (runM true many (4*many) d0 Wk.init=tgt):=by show _=_;rw [HT.out,if_pos ⟨rfl,hm⟩]
  have hm':¬(128:Int)<(many:Int):=by omega
  have hmw:IntKind.i64.wrap (many:Int)=(many:Int):=wrapN (by omega) (by omega);have HM:Hid (many≤128):=by show _≤_;omega
  have hjr:JR noBlk w (w2.alloc (.cells #[.slice none 0 0,.slice none 0 0,.slice none 0 0] 120)) w2.heap.size Wk.init br d0 n0:=by
   have hal:Upd noBlk w2 (w2.alloc (.cells #[.slice none 0 0,.slice none 0 0,.slice none 0 0] 120)):=(Upd.refl _ w2).alloc _;have hlt:=HR2.out.lt;refine ⟨⟨_,jinit w2,HR2.out.upd hal id,?_,fun k hk=>.inr ?_⟩,U2.out.trans hal⟩
   ·rintro (h | h | h | h)
    ·omega
    ·cases h
    ·cases h
    ·cases h
   ·rcases hk with (h | h | h | h) | h
    ·have:=U2.out.size;omega
    ·cases h
    ·cases h
    ·cases h
    ·rw [h];exact HBR.out
  have HJ0:=Lib.hid hjr;clear hjr HT hm HR2;go_upto_block 0 with fail
  obtain ⟨b,hb⟩:∃b,b=w2.heap.size:=⟨_,rfl⟩;obtain ⟨w3,hw3⟩:∃w3,w3=w2.alloc (.cells #[.slice none 0 0,.slice none 0 0,.slice none 0 0] 120):=⟨_,rfl⟩;rw [←hw3,←hb] at HJ0;rw [←hw3,←hb];clear hb hw3;go_wp2_with fail
  go_loopg [] (4*many) (fun f wz=>∃(S:Wk) (d1:D) (n1:Nat),JR noBlk w wz b S br d1 n1∧OInv S∧S.tris.length≤many∧runM true many f d1 S=tgt∧potM many S≤f∧n1+1201*f≤700000)
  case atStart=>exact ⟨Wk.init,d0,n0,HJ0.out,OInv.init,Nat.zero_le _,HTR.out,by show 4*(many-0)+0≤_;omega,by have:=HN0.out;have:=HM.out;omega⟩
  case round=>
   obtain ⟨⟨K,tr,gs⟩,d1,n1,hj,hi,htl,hrun,hpot,hn1⟩:=hrel;simp only at htl;have HJ:=Lib.hid hj;have HI:=Lib.hid hi;have HTM:Hid (tr.length≤many):=htl;have HRUN:=Lib.hid hrun;have HPOT:=Lib.hid hpot;obtain ⟨AK,cK,AT,cT,vG,hst,_,hrt⟩:=hj.state;simp only at hst hrt;have HST:=Lib.hid hst;have HRT:=Lib.hid hrt;clear hj hi hrun hpot hst hrt HJ0 HTR HN0;obtain ⟨⟨k0,k1,k2⟩,_⟩:=cellsF3 HST.out;by_cases hlt:tr.length<many
   ·have hlt':(tr.length:Int)<(many:Int):=by omega
    have HLT:Hid (tr.length<many):=hlt;obtain ⟨f,hf⟩:∃f,gk=f+1:=⟨gk-1,by have:=potM_pos (w:=⟨K,tr,gs⟩) hlt;have:=HPOT.out;omega⟩;subst hf;have HNB:Hid (n1+1201*(f+1)≤700000):=hn1;have HTL:Hid (tr.length≤128):=by have:=HLT.out;have:=HM.out;show _≤_;omega
    have HGL:Hid (gs.length≤384):=by have:=HI.out.glen;simp only at this;have:=HTL.out;show _≤_;omega
    have HKL:Hid (K.length≤384):=by have:=HI.out.klen;simp only at this;have:=HTL.out;show _≤_;omega
    have HNX:=Lib.hid (HJ.out.next (by have:=HTL.out;show tr.length≤_;omega) (by have:=HGL.out;show gs.length≤_;omega));simp only at HNX;clear hlt htl hn1 HRT;go_wp2_with fail
    refine HNX.out.mono ?_;rintro e w7 ⟨g,rfl,hg,hj7⟩;obtain ⟨Z2,d1',d2',d3',d4'⟩:=hj7.enterX;have HD1:=Lib.hid d1';have HD2:=Lib.hid d2';have HD3:=Lib.hid d3';have HD4:=Lib.hid d4';clear HNX k0 k1 k2 HST HJ hj7 d1' d2' d3' d4';have HGV:Hid (nextB tr gs=true→g=nextV tr gs):=hg;clear hg;obtain ⟨⟨a0,a1,a2⟩,⟨a3,a4,a5⟩,⟨a6,a7,a8⟩⟩:=g;unfold gateV triC;obtain ⟨w8,hw8⟩:∃w8,w8=(w7.alloc (.cells #[.int .i64 a0,.int .i64 a1,.int .i64 a2,.int .i64 a3,.int .i64 a4,.int .i64 a5,.int .i64 a6,.int .i64 a7,.int .i64 a8] 44)).alloc (.cells #[.int .i64 0,.int .i64 0,.int .i64 0,.int .i64 0,.int .i64 0,.int .i64 0,.int .i64 0,.int .i64 0,.int .i64 0] 45):=⟨_,rfl⟩;have hu8:Upd noBlk w7 w8:=by rw [hw8];exact ((Upd.refl _ w7).alloc _).alloc _
    have HG8:Hid (w8.heap[w7.heap.size]?=some (.cells #[.int .i64 a0,.int .i64 a1,.int .i64 a2,.int .i64 a3,.int .i64 a4,.int .i64 a5,.int .i64 a6,.int .i64 a7,.int .i64 a8] 44 (0,0))):=by show _=_;rw [hw8];exact ((Upd.refl noBlk _).alloc _).heap (heap_alloc_new w7 _) id
    have HT8:Hid (w8.heap[w7.heap.size+1]?=some (.cells #[.int .i64 0,.int .i64 0,.int .i64 0,.int .i64 0,.int .i64 0,.int .i64 0,.int .i64 0,.int .i64 0,.int .i64 0] 45 (0,0))):=by
     show _=_;rw [hw8];have:=heap_alloc_new (w7.alloc (.cells #[.int .i64 a0,.int .i64 a1,.int .i64 a2,.int .i64 a3,.int .i64 a4,.int .i64 a5,.int .i64 a6,.int .i64 a7,.int .i64 a8] 44)) (.cells #[.int .i64 0,.int .i64 0,.int .i64 0,.int .i64 0,.int .i64 0,.int .i64 0,.int .i64 0,.int .i64 0,.int .i64 0] 45);rwa [World.size_alloc] at this
    have HJ8:=Lib.hid (HD2.out w8 hu8);obtain ⟨gb,hgb⟩:∃gb,gb=w7.heap.size:=⟨_,rfl⟩;obtain ⟨tb,htb⟩:∃tb,tb=w7.heap.size+1:=⟨_,rfl⟩;have HZG:Hid (¬Z2 gb):=fun h=>by have:=HD1.out _ h;omega
    have HZT:Hid (¬Z2 tb):=fun h=>by have:=HD1.out _ h;omega
    have HOUT:Hid (∀w' S' d' n',JX Z2 tb w8 w' b S' br d' n'→JR noBlk w w' b S' br d' n'):=fun w' S' d' n' h=>HD3.out tb w8 w' S' d' n' hu8 (by omega) h;have HEX:Hid (∀w',Upd (fun k=>Z2 k∨k=tb) w8 w'→Upd noBlk w w'):=fun w' h=>HD4.out tb w8 w' hu8 (by omega) h;rw [←hgb] at HG8;rw [←htb] at HT8;have HGL8:=Lib.hid (lt_of_heap HG8.out);have HTL8:=Lib.hid (lt_of_heap HT8.out);go_upto_region 11 with fail
    rw [←hw8,←htb,←hgb];clear hw8 hu8 hgb htb HD1 HD2 HD3 HD4;rcases hog:openG tr gs with _ | ⟨gt,r⟩
    ·have hnv:nextB tr gs=false∧restG tr gs=[]:=by unfold nextB restG;rw [hog];exact ⟨rfl,rfl⟩
     obtain ⟨n2,n3⟩:=hnv;rw [n2];rw [n3] at HJ8;have HOG:=Lib.hid hog;clear n2 n3 hog HGV HG8 HZG HGL8;go_upto_if 58 with fail
     go_cut [11,15] (fun fv _ wc=>∃(t:Tri) (first:Nat) (k3:List Pt) (gs3:List Gate) (e3:D) (n3:Nat),fv=.int .i64 first∧(first=0∨first=1)∧JX Z2 tb w8 wc b ⟨k3,tr,gs3⟩ br e3 n3∧wc.heap[tb]?=some (.cells (triC t).toArray 45 (0,0))∧inT t∧(∀p,p∈k3→inP p)∧k3.length≤3*(tr.length+1)∧(∀g,g∈gs3→inP g.1∧inP g.2.1∧inP g.2.2)∧(gs3.length+(3-first)≤3*(tr.length+1)∧gs3.length+(3-first)<gs.length+4)∧(match visitM true ⟨k3,tr,gs3⟩ t first e3 with | none=>none | some (d',w')=>runM true many f d' w')=tgt∧n3+1201*f≤700000)
     case first=>
      go_wp2_with fail
      go_loopw [15] (fun i wz=>∃(j:Nat) (t:Tri) (k:List Pt) (e:D) (n2:Nat),i=.int .i64 j∧j≤3∧seedM d1 K j=some (t,k,e)∧JX Z2 tb w8 wz b ⟨k,tr,[]⟩ br e n2∧n2≤n1+400*j∧wz.heap[tb]?=some (.cells (triC t).toArray 45 (0,0))) (fun i _=>3-(intOf i).toNat)
      case atStart=>exact ⟨0,_,K,d1,n1,rfl,Nat.zero_le _,rfl,HJ8.out.x tb,Nat.le_refl _,HT8.out⟩
      case round=>
       obtain ⟨j,t,k,e,n2,rfl,hj,hsm,hjx,hn2,htb⟩:=hrel;have HSM:=Lib.hid hsm;have HJX:=Lib.hid hjx;have HTB:=Lib.hid htb;have HN2:Hid (n2≤n1+400*j):=hn2;obtain ⟨i1,i2,i3⟩:=seedM_inv HI.out.known hj hsm;have HKI:=Lib.hid i1;have HKL2:Hid (k.length≤K.length+j):=i2;have HCI:=Lib.hid i3;clear hsm hjx htb hn2 i1 i2 i3;by_cases hj3:j<3
       ·have hj3':(j:Int)<3:=by omega
        have hjw:IntKind.i64.wrap ((j:Int)+1)=(j:Int)+1:=wrapN (by omega) (by omega);have HJ:Hid (j<3):=hj3;obtain ⟨Z3,hz1,hz2,hz3,hz4⟩:=HJX.out.enter;have HZ2:=Lib.hid hz2;have HZ3:=Lib.hid hz3;have HZ4:=Lib.hid hz4;have HLA:=Lib.hid (hz1.last (by show k.length≤_;have:=HKL2.out;have:=HKL.out;omega));have HRE:=fun W (hW:Upd noBlk wr W)=>Lib.hid ((hz1.upd hW).read (lastK k) (near_of_in (lastK_in HKI.out)) 0 192 256 ⟨by omega,by omega⟩ (by show k.length≤_;have:=HKL2.out;have:=HKL.out;omega) (by have:=HN2.out;have:=HNB.out;omega));have HTN0:Hid (cornerM true e k (lastK k) 0 192 256=none→tgt=none):=fun h=>by
         have h1:seedM d1 K (j+1)=none:=by rw [seedM,HSM.out];simp only;rw [h]
         have h2:=seedM_none (m:=3) (by omega) h1;rw [←HRUN.out,runM_step (by show ¬many≤tr.length;have:=HLT.out;omega),stepM_seedS HOG.out,h2]
        have HSS:Hid (∀p k' e',cornerM true e k (lastK k) 0 192 256=some (p,k',e')→seedM d1 K (j+1)=some (setC t j p,k',e')):=fun p k' e' h=>by
         rw [seedM,HSM.out];simp only;rw [h]
        simp only at HLA HRE;clear hj hz1 hz2 hz3 hz4 HKI HSM;generalize cornerM true e k (lastK k) 0 192 256=CM at *;generalize lastK k=nk at *;obtain ⟨x0,x1,x2⟩:=nk;unfold ptV at HLA HRE;simp only at HLA HRE;go_wp2_with fail
        refine HLA.out.mono ?_;rintro e' z1 ⟨rfl,u1⟩;have HREW:=HRE z1 u1;have U1:=Lib.hid u1;clear HRE HLA u1;go_wp2_with fail
        refine HREW.out.mono ?_;rintro e' z2 ⟨p,ok,rfl,hno,hyes⟩;have HNO:=Lib.hid hno;have HYES:=Lib.hid hyes;clear HREW hno hyes;obtain ⟨p0,p1,p2⟩:=p;unfold ptV;cases ok with
        | false=>
         obtain ⟨hcm,hup⟩:=HNO.out rfl;have HTN:=Lib.hid (HTN0.out hcm);have HUX:=Lib.hid ((HEX.out _ (HZ3.out _ hup)).alloc (.cells #[.int .i64 p0,.int .i64 p1,.int .i64 p2] 43));clear hcm hup HNO HYES HTN0 HSS;go_wp2_with fail
         go_ret2
         exact ⟨_,_,rfl,HUX.out,(fun _=>⟨HTN.out,rfl⟩),(fun h=>by cases h)⟩
        | true=>
         obtain ⟨k',e1,hcm,hjr⟩:=HYES.out rfl;have HSN:=Lib.hid (HSS.out _ _ _ hcm);have HJN:=Lib.hid ((HZ2.out _ _ _ _ hjr).upd ((Upd.refl noBlk z2).alloc (.cells #[.int .i64 p0,.int .i64 p1,.int .i64 p2] 43)));have HTZ:=Lib.hid (((Upd.refl noBlk z2).alloc (.cells #[.int .i64 p0,.int .i64 p1,.int .i64 p2] 43)).heap (HZ4.out _ tb _ hjr.up HTL8.out HZT.out HTB.out) id);have HPZ:=Lib.hid (heap_alloc_new z2 (.cells #[.int .i64 p0,.int .i64 p1,.int .i64 p2] 43));clear hcm hjr HNO HYES HTN0 HSS HJX;go_upto_region 26 with fail
         generalize z2.alloc (.cells #[.int .i64 p0,.int .i64 p1,.int .i64 p2] 43)=z3 at *;generalize z2.heap.size=nb at *;obtain ⟨m0,m1,m2⟩:=cells3 HPZ.out;obtain ⟨⟨v0,y0⟩,⟨v1,y1⟩,⟨v2,y2⟩,f0,f1,f2⟩:=setC_free HTZ.out HJ.out;have HTS:=Lib.hid (setC_heap HTZ.out HJ.out p0 p1 p2);have HJS:=Lib.hid (HJN.out.store HTL8.out HZT.out ((((Upd.refl (fun k=>k=tb) z3).setCell (p:=⟨tb,j*3,none⟩) (fun _=>rfl) (.int .i64 p0)).setCell (p:=⟨tb,j*3+1,none⟩) (fun _=>rfl) (.int .i64 p1)).setCell (p:=⟨tb,j*3+2,none⟩) (fun _=>rfl) (.int .i64 p2)));go_wp2_with fail
         go_roundw
         case rel=>exact ⟨j+1,_,_,_,n2+400,by push_cast;rfl,HJ.out,HSN.out,HJS.out,by have:=HN2.out;omega,HTS.out⟩
         case measure=>simp only [intOf];have:=HJ.out;omega
       ·obtain rfl:j=3:=by omega
        have HRF:Hid ((match visitM true ⟨k,tr,[]⟩ t 0 e with | none=>none | some (d',w')=>runM true many f d' w')=tgt):=by
         show _=_;have h:=HRUN.out;rw [runM_step (by show ¬many≤tr.length;have:=HLT.out;omega),stepM_seedS HOG.out,HSM.out] at h;exact h
        have HIT:Hid (inT t):=⟨HCI.out 0 (by omega),HCI.out 1 (by omega),HCI.out 2 (by omega)⟩;clear HSM HCI;go_wp2_with fail
        go_meet
        exact ⟨t,0,k,[],e,n2,rfl,.inl rfl,HJX.out,HTB.out,HIT.out,HKI.out,by have:=HKL2.out;have:=HI.out.klen;simp only at this;omega,fun g hg=>(by cases hg),⟨by show 0+3≤_;omega,by show 0+3<_;omega⟩,HRF.out,by have:=HN2.out;have:=HNB.out;omega⟩
     case rest=>
      obtain ⟨t,first,k3,gs3,e3,n3,rfl,hfi,hjx,htb,hti,hkin,hklen,hgin,hglen,hrun,hn3⟩:=hcut;have HJX:=Lib.hid hjx;have HTB:=Lib.hid htb;have HTI:=Lib.hid hti;have HFI:Hid (first=0∨first=1):=hfi;have HKI:=Lib.hid hkin;have HKL3:Hid (k3.length≤3*(tr.length+1)):=hklen;have HGI:=Lib.hid hgin;have HGL3:Hid (gs3.length+(3-first)≤3*(tr.length+1)∧gs3.length+(3-first)<gs.length+4):=hglen;have HRUN:=Lib.hid hrun;have HN3:Hid (n3+1201*f≤700000):=hn3;clear hfi hjx htb hti hkin hklen hgin hglen hrun hn3;obtain ⟨AK,cK,AT,cT,vG,hst,_,hrt⟩:=HJX.out.state;simp only at hst hrt;have HST:=Lib.hid hst;have HTH:=fun p q W hW=>Lib.hid (jthird_any (.slice AT tr.length cT) tr p q (by have:=HTL.out;omega) W (hrt.keep (w':=W) hW));clear hst hrt;go_wp2_with fail
      go_loopw [18] (fun i wz=>∃j:Nat,i=.int .i64 j∧j≤3∧(∀a,a<j→third tr (cornAt t a) (cornAt t ((a+1) % 3))=none)∧Upd noBlk wc wz) (fun i _=>3-(intOf i).toNat)
      case atStart=>exact ⟨0,rfl,Nat.zero_le _,fun a h=>absurd h (Nat.not_lt_zero _),Upd.refl _ _⟩
      case round=>
       obtain ⟨j,rfl,hj,hfr,hu⟩:=hrel;have HFR:=Lib.hid hfr;have HV:=Lib.hid hu;clear hfr hu;by_cases hj3:j<3
       ·have hj3':(j:Int)<3:=by omega
        have hjw:IntKind.i64.wrap ((j:Int)+1)=(j:Int)+1:=wrapN (by omega) (by omega);obtain ⟨j1,hj1⟩:∃j1,j1=(j+1) % 3:=⟨_,rfl⟩;have ht1:((j:Int)+1).tmod 3=(j1:Int):=by rw [Int.tmod_eq_emod_of_nonneg (by omega)];omega
        have he1:((j:Int)+1) % 3=(j1:Int):=by omega
        have hjl1:(j1:Int)<3:=by omega
        have HJ:Hid (j<3):=hj3;have HCC:Hid (∀W,Upd noBlk wr W→(W.cell? ⟨tb,j*3,none⟩=some (.int .i64 (cornAt t j).1)∧W.cell? ⟨tb,j*3+1,none⟩=some (.int .i64 (cornAt t j).2.1)∧W.cell? ⟨tb,j*3+2,none⟩=some (.int .i64 (cornAt t j).2.2))∧(W.cell? ⟨tb,j1*3,none⟩=some (.int .i64 (cornAt t j1).1)∧W.cell? ⟨tb,j1*3+1,none⟩=some (.int .i64 (cornAt t j1).2.1)∧W.cell? ⟨tb,j1*3+2,none⟩=some (.int .i64 (cornAt t j1).2.2))):=fun W hW=>
         ⟨tri_corner0 (tri_box ((HV.out.trans hW).heap HTB.out id)) hj3,tri_corner0 (tri_box ((HV.out.trans hW).heap HTB.out id)) (by omega)⟩
        have HTH:=fun W hW=>HTH (cornAt t j) (cornAt t j1) W (HV.out.trans hW);have HBW:Hid (wr.heap[b]?=some (.cells #[.slice AK k3.length cK,.slice AT tr.length cT,vG] 120 (0,0))):=HV.out.heap HST.out id;have HUS:Hid ((third tr (cornAt t j) (cornAt t j1)).isSome=true→tgt=none):=fun h=>by
         rw [←HRUN.out];unfold visitM;rw [if_neg (fun hf=>by
          have h2:=(freeT_edges tr t).1 hf j hj3;rw [←hj1] at h2;rw [h2] at h;cases h)]
        have HFS:Hid ((third tr (cornAt t j) (cornAt t j1)).isSome=false→∀a,a<j+1→third tr (cornAt t a) (cornAt t ((a+1) % 3))=none):=fun h a ha=>by
         rcases (by omega:a<j∨a=j) with h' | rfl
         ·exact HFR.out a h'
         ·rw [←hj1];cases h3:third tr (cornAt t a) (cornAt t j1) with
          | none=>rfl
          | some x=>rw [h3] at h;cases h
        clear hj hj3 hj1 HFR;generalize cornAt t j=pj at *;generalize cornAt t j1=pk at *;obtain ⟨p0,p1,p2⟩:=pj;obtain ⟨q0,q1,q2⟩:=pk;obtain ⟨RP,hRP⟩:∃RP,RP=(third tr (p0,p1,p2) (q0,q1,q2)).getD (p0,p1,p2):=⟨_,rfl⟩;rw [←hRP] at HTH;clear hRP;generalize (third tr (p0,p1,p2) (q0,q1,q2)).isSome=RB at *;obtain ⟨r0,r1,r2⟩:=RP;unfold ptV at HTH;simp only at HTH HCC;go_upto_region 30 with fail
        refine wp_region_tree 18 (OT.sures [0,4,7,5,8,9,10,6,11,1,2,3] (.fork 12 (OT.sures [13,14,15] (.run 16 (.run 17 .nil))) 16 (.run 12 (OT.sures [13,14,15] (.run 17 .nil))))) (fun w'=>Upd noBlk wr w') (by kernel_rfl) (by kernel_rfl) (fun c a d v w h=>by cases d<;>exact h) ((Upd.refl noBlk wr).drew) ?_
        simp only [OT.sures]
        iterate 12 (apply wpT_sure rfl rfl;focus (intro w' hw';obtain ⟨⟨k0,k1,k2⟩,_⟩:=cellsF3 (hw'.heap HBW.out id);obtain ⟨⟨c0,c1,c2⟩,⟨d0,d1,d2⟩⟩:=HCC.out w' hw';go_simp;rfl))
        refine wpT_fork (fun w'=>Upd noBlk wr w') (fun w'=>Upd noBlk wr w') (fun _ h=>h) (fun _ h=>h) rfl rfl (fun K' hK=>?_) (fun K' hK=>?_)
        ·go_simp
         refine (HTH _ ((Upd.refl noBlk wr).drew)).out.mono ?_;rintro e z1 ⟨rfl,u1⟩;have V1:=Lib.hid ((Upd.refl noBlk wr).drew.trans u1);refine hK _ _ ⟨V1.out,?_⟩;clear hK K' u1
         iterate 3 (apply wpT_sure rfl rfl;focus (intro w' hw';go_simp;rfl))
         refine wpT_run (fun w'=>Upd noBlk wr w') (fun _ h=>h) rfl (fun K' hK=>?_);go_simp
         have V2:=Lib.hid (V1.out.alloc (.cells #[.int .i64 0,.int .i64 0,.int .i64 0] 43));have HN2:=Lib.hid (heap_alloc_new z1 (.cells #[.int .i64 0,.int .i64 0,.int .i64 0] 43));refine hK _ _ ⟨V2.out,?_⟩;clear hK K';have HNB:Hid (wr.heap.size≤z1.heap.size):=V1.out.size;generalize z1.alloc (.cells #[.int .i64 0,.int .i64 0,.int .i64 0] 43)=z2 at *;generalize z1.heap.size=N at *;refine wpT_run (fun w'=>Upd noBlk wr w') (fun _ h=>h) rfl (fun K' hK=>?_);obtain ⟨⟨n0,n1,n2⟩,⟨m0,m1,m2⟩⟩:=cellsF3 HN2.out;go_simp
         have V3:=Lib.hid (upd3 V2.out HNB.out (.int .i64 r0) (.int .i64 r1) (.int .i64 r2));refine hK _ _ ⟨V3.out,?_⟩;clear hK K' V2 HN2 n0 n1 n2 m0 m1 m2;generalize ((z2.setCell ⟨N,0,none⟩ (.int .i64 r0)).setCell ⟨N,1,none⟩ (.int .i64 r1)).setCell ⟨N,2,none⟩ (.int .i64 r2)=z3 at *;refine wpT_nil ?_;have HV2:=Lib.hid (HV.out.trans V3.out);clear HTH HBW HCC;cases RB with
         | false=>
          have HF:=Lib.hid (HFS.out rfl);clear HFS HUS HV;go_wp2_with fail
          go_roundw
          case rel=>exact ⟨j+1,by push_cast;rfl,HJ.out,HF.out,HV2.out⟩
          case measure=>simp only [intOf];have:=HJ.out;omega
         | true=>
          have HTN:=Lib.hid (HUS.out rfl);have HUX:=Lib.hid (HEX.out _ (HJX.out.upd HV2.out).up);clear HFS HUS HV;go_wp2_with fail
          go_ret2
          exact ⟨_,_,rfl,HUX.out,(fun _=>⟨HTN.out,rfl⟩),(fun h=>by cases h)⟩
        ·go_simp
         have V1:=Lib.hid ((Upd.refl noBlk wr).drew.alloc (.cells #[.int .i64 0,.int .i64 0,.int .i64 0] 43));have HN1:Hid ((wr.drew.alloc (.cells #[.int .i64 0,.int .i64 0,.int .i64 0] 43)).heap[wr.heap.size]?=some (.cells #[.int .i64 0,.int .i64 0,.int .i64 0] 43 (0,0))):=heap_alloc_new wr.drew (.cells #[.int .i64 0,.int .i64 0,.int .i64 0] 43);refine hK _ _ ⟨V1.out,?_⟩;clear hK K';obtain ⟨N,hN⟩:∃N,N=wr.heap.size:=⟨_,rfl⟩;have HNB:Hid (wr.heap.size≤N):=by show _≤_;omega
         rw [←hN] at HN1 ⊢;clear hN;refine wpT_run (fun w'=>Upd noBlk wr w') (fun _ h=>h) rfl (fun K' hK=>?_);go_simp
         refine (HTH _ V1.out).out.mono ?_;rintro e z2 ⟨rfl,u2⟩;have V2:=Lib.hid (V1.out.trans u2);have HN2:=Lib.hid (u2.heap HN1.out id);refine hK _ _ ⟨V2.out,?_⟩;clear hK K' u2 HN1 V1
         iterate 3 (apply wpT_sure rfl rfl;focus (intro w' hw';go_simp;rfl))
         refine wpT_run (fun w'=>Upd noBlk wr w') (fun _ h=>h) rfl (fun K' hK=>?_);obtain ⟨⟨n0,n1,n2⟩,⟨m0,m1,m2⟩⟩:=cellsF3 HN2.out;go_simp
         have V3:=Lib.hid (upd3 V2.out HNB.out (.int .i64 r0) (.int .i64 r1) (.int .i64 r2));refine hK _ _ ⟨V3.out,?_⟩;clear hK K' V2 HN2 n0 n1 n2 m0 m1 m2;generalize ((z2.setCell ⟨N,0,none⟩ (.int .i64 r0)).setCell ⟨N,1,none⟩ (.int .i64 r1)).setCell ⟨N,2,none⟩ (.int .i64 r2)=z3 at *;refine wpT_nil ?_;have HV2:=Lib.hid (HV.out.trans V3.out);clear HTH HBW HCC;cases RB with
         | false=>
          have HF:=Lib.hid (HFS.out rfl);clear HFS HUS HV;go_wp2_with fail
          go_roundw
          case rel=>exact ⟨j+1,by push_cast;rfl,HJ.out,HF.out,HV2.out⟩
          case measure=>simp only [intOf];have:=HJ.out;omega
         | true=>
          have HTN:=Lib.hid (HUS.out rfl);have HUX:=Lib.hid (HEX.out _ (HJX.out.upd HV2.out).up);clear HFS HUS HV;go_wp2_with fail
          go_ret2
          exact ⟨_,_,rfl,HUX.out,(fun _=>⟨HTN.out,rfl⟩),(fun h=>by cases h)⟩
       ·obtain rfl:j=3:=by omega
        have hfree:freeT true tr t:=(freeT_edges tr t).2 (fun a ha=>HFR.out a ha);have hvm:visitM true ⟨k3,tr,gs3⟩ t first e3=some (e3,(⟨k3,tr,gs3⟩:Wk).visit t first):=by unfold visitM;exact if_pos hfree
        have HRF:Hid (runM true many f e3 ((⟨k3,tr,gs3⟩:Wk).visit t first)=tgt):=by
         show _=_;have h:=HRUN.out;rw [hvm] at h;exact h
        have HOI:Hid (OInv ((⟨k3,tr,gs3⟩:Wk).visit t first)):=OInv.visit HTI.out HKI.out HGI.out HI.out.tris HKL3.out HGL3.out.1;have HPO:Hid (potM many ((⟨k3,tr,gs3⟩:Wk).visit t first)≤f):=by
         have h1:=potM_visit (many:=many) (w:=⟨k3,tr,gs3⟩) (t:=t) (first:=first) (n:=gs.length) HLT.out HGL3.out.2;have h2:=HPOT.out;unfold potM at h2;simp only at h1 h2;show _≤_;omega
        have HTL1:Hid (((⟨k3,tr,gs3⟩:Wk).visit t first).tris.length≤many):=by
         show (tr++[t]).length≤many;have:=HLT.out;rw [List.length_append];simp only [List.length_cons,List.length_nil];omega
        obtain ⟨Z3,hz1,hz2,_,_⟩:=(HJX.out.upd HV.out).enter;have HZ2:=Lib.hid hz2;have HVI:=Lib.hid (hz1.visit t first HFI.out (by have:=HTL.out;show tr.length≤_;omega) (by have:=HGL3.out.2;have:=HGL.out;show gs3.length≤_;omega));have HTW:=Lib.hid (HV.out.heap HTB.out id);clear hfree hvm HFR HTH HST HRUN HKI HGI HKL3 HGL3 HFI HTI hz1 hz2;obtain ⟨⟨a0,a1,a2⟩,⟨a3,a4,a5⟩,⟨a6,a7,a8⟩⟩:=t;unfold triC at HTW;unfold triV triC at HVI;obtain ⟨g0,g1,g2,g3,g4,g5,g6,g7,g8⟩:=cells9 HTW.out;go_wp2_with fail
        refine HVI.out.mono ?_;rintro e w9 ⟨rfl,c9⟩;have HJ9:=Lib.hid (HOUT.out _ _ _ _ (HZ2.out _ _ _ _ c9));clear c9 HVI g0 g1 g2 g3 g4 g5 g6 g7 g8 HTW;go_wp2_with fail
        go_roundg f
        case measure=>omega
        case rel=>exact ⟨_,_,_,HJ9.out,HOI.out,HTL1.out,HRF.out,HPO.out,HN3.out⟩
    ·obtain ⟨⟨b0,b1,b2⟩,⟨b3,b4,b5⟩,⟨b6,b7,b8⟩⟩:=gt;have hnv:nextV tr gs=((b0,b1,b2),(b3,b4,b5),(b6,b7,b8))∧nextB tr gs=true∧restG tr gs=r:=by unfold nextV nextB restG;rw [hog];exact ⟨rfl,rfl,rfl⟩
     obtain ⟨n1',n2,n3⟩:=hnv;have hg':=HGV.out n2;rw [n1'] at hg';cases hg';rw [n2];rw [n3] at HJ8;have HOG:Hid (openG tr gs=((a0,a1,a2),(a3,a4,a5),(a6,a7,a8)) :: r):=hog;have HRL:Hid (r.length+1≤gs.length):=by
      have h1:=openG_len tr gs;rw [hog] at h1;exact h1
     have HGIN:Hid (inG ((a0,a1,a2),(a3,a4,a5),(a6,a7,a8))):=HI.out.gates _ (openG_mem (tris:=tr) (by rw [hog];simp));have HGIR:Hid (∀g,g∈r→inP g.1∧inP g.2.1∧inP g.2.2):=fun g hg=>HI.out.gates _ (openG_mem (tris:=tr) (by rw [hog];exact List.mem_cons_of_mem _ hg));clear n1' n2 n3 hog HGV;go_upto_if 58 with fail
     go_cut [11,15] (fun fv _ wc=>∃(t:Tri) (first:Nat) (k3:List Pt) (gs3:List Gate) (e3:D) (n3:Nat),fv=.int .i64 first∧(first=0∨first=1)∧JX Z2 tb w8 wc b ⟨k3,tr,gs3⟩ br e3 n3∧wc.heap[tb]?=some (.cells (triC t).toArray 45 (0,0))∧inT t∧(∀p,p∈k3→inP p)∧k3.length≤3*(tr.length+1)∧(∀g,g∈gs3→inP g.1∧inP g.2.1∧inP g.2.2)∧(gs3.length+(3-first)≤3*(tr.length+1)∧gs3.length+(3-first)<gs.length+4)∧(match visitM true ⟨k3,tr,gs3⟩ t first e3 with | none=>none | some (d',w')=>runM true many f d' w')=tgt∧n3+1201*f≤700000)
     case first=>
      go_wp2_with fail
      have HBI:=Lib.hid (HJ8.out.bit (by have:=HNB.out;omega) 1);refine HBI.out.mono ?_;rintro e' z1 ⟨rfl,c1⟩;have C1:=Lib.hid c1;have HGZ1:=Lib.hid (c1.keepObj HG8.out HZG.out);have HTZ1:=Lib.hid (c1.keepObj HT8.out HZT.out);clear c1 HBI;have HST1:Hid (tgt=if d1.one 1=true then (match cornerM true (d1.bit 1) K (expG ((a0,a1,a2),(a3,a4,a5),(a6,a7,a8))) 2 128 448 with
        | none=>none
        | some (p,k,d')=>match visitM true ⟨k,tr,r⟩ ((a0,a1,a2),(a3,a4,a5),p) 1 d' with | none=>none | some (d'',w')=>runM true many f d'' w') else runM true many f (d1.bit 1) ⟨K,tr,r⟩):=by
       show _=_;rw [←HRUN.out,runM_step (by show ¬many≤tr.length;have:=HLT.out;omega),stepM_gateS HOG.out];cases d1.one 1 with
       | false=>rfl
       | true=>
        rw [if_pos rfl,if_pos rfl];simp only;cases cornerM true (d1.bit 1) K (expG ((a0,a1,a2),(a3,a4,a5),(a6,a7,a8))) 2 128 448 with
        | none=>rfl
        | some x=>rfl
      clear HRUN HOG;generalize d1.bit 1=d2 at *;generalize d1.one 1=ob at *;cases ob with
      | false=>
       have HRF:Hid (runM true many f d2 ⟨K,tr,r⟩=tgt):=HST1.out.symm;have HJ9:=Lib.hid (HOUT.out _ _ _ _ (C1.out.x tb));clear HST1;go_wp2_with fail
       go_roundg f
       case measure=>omega
       case rel=>
        refine ⟨_,_,_,HJ9.out,⟨HI.out.known,HGIR.out,HI.out.tris,HI.out.klen,?_⟩,Nat.le_of_lt HLT.out,HRF.out,?_,?_⟩
        ·have h1:=HI.out.glen;have h2:=HRL.out;simp only at h1 ⊢;omega
        ·have h1:=HPOT.out;have h2:=HRL.out;unfold potM at h1 ⊢;simp only at h1 ⊢;omega
        ·have:=HNB.out;omega
      | true=>
       have HRF:Hid (tgt=match cornerM true d2 K (expG ((a0,a1,a2),(a3,a4,a5),(a6,a7,a8))) 2 128 448 with
        | none=>none
        | some (p,k,d')=>match visitM true ⟨k,tr,r⟩ ((a0,a1,a2),(a3,a4,a5),p) 1 d' with | none=>none | some (d'',w')=>runM true many f d'' w'):=HST1.out
       have HEXP:=fun W=>Lib.hid (jexpected_any _ HGIN.out W);obtain ⟨Z3,hz1,hz2,hz3,hz4⟩:=(C1.out.x tb).enter;have HZ2:=Lib.hid hz2;have HZ3:=Lib.hid hz3;have HZ4:=Lib.hid hz4;have HRE:=fun W (hW:Upd noBlk z1 W)=>Lib.hid ((hz1.upd hW).read (expG ((a0,a1,a2),(a3,a4,a5),(a6,a7,a8))) (near_exp HGIN.out) 2 128 448 ⟨by omega,by omega⟩ (by show K.length≤_;have:=HKL.out;omega) (by have:=HNB.out;omega));have HCIN:Hid (∀p k' d',cornerM true d2 K (expG ((a0,a1,a2),(a3,a4,a5),(a6,a7,a8))) 2 128 448=some (p,k',d')→inP p∧(∀p,p∈k'→inP p)∧k'.length≤K.length+1):=fun p k' d' h=>cornerM_in h HI.out.known;simp only at HRE;clear HST1 hz1 hz2 hz3 hz4;generalize cornerM true d2 K (expG ((a0,a1,a2),(a3,a4,a5),(a6,a7,a8))) 2 128 448=CM at *;generalize expG ((a0,a1,a2),(a3,a4,a5),(a6,a7,a8))=ex at *;obtain ⟨x0,x1,x2⟩:=ex;unfold gateV triC ptV at HEXP;unfold ptV at HRE;simp only at HEXP HRE;obtain ⟨g0,g1,g2,g3,g4,g5,g6,g7,g8⟩:=cells9 HGZ1.out;go_wp2_with fail
       refine (HEXP _).out.mono ?_;rintro e' z2 ⟨rfl,u2⟩;have HREW:=HRE z2 u2;clear HRE HEXP u2 g0 g1 g2 g3 g4 g5 g6 g7 g8;go_wp2_with fail
       refine HREW.out.mono ?_;rintro e' z3 ⟨p,ok,rfl,hno,hyes⟩;have HNO:=Lib.hid hno;have HYES:=Lib.hid hyes;clear HREW hno hyes;obtain ⟨p0,p1,p2⟩:=p;unfold ptV;cases ok with
       | false=>
        obtain ⟨hcm,hup⟩:=HNO.out rfl;have HTN:Hid (tgt=none):=by show _=_;rw [HRF.out,hcm]
        have HUX:=Lib.hid ((HEX.out _ (HZ3.out _ hup)).alloc (.cells #[.int .i64 p0,.int .i64 p1,.int .i64 p2] 43));clear hcm hup HNO HYES HRF HCIN;go_wp2_with fail
        go_ret2
        exact ⟨_,_,rfl,HUX.out,(fun _=>⟨HTN.out,rfl⟩),(fun h=>by cases h)⟩
       | true=>
        obtain ⟨k',e1,hcm,hjr⟩:=HYES.out rfl;obtain ⟨c1,c2,c3⟩:=HCIN.out _ _ _ hcm;have HRG:Hid ((match visitM true ⟨k',tr,r⟩ ((a0,a1,a2),(a3,a4,a5),(p0,p1,p2)) 1 e1 with | none=>none | some (d'',w')=>runM true many f d'' w')=tgt):=by
         show _=_;rw [HRF.out,hcm]
        have hal:Upd noBlk z3 (z3.alloc (.cells #[.int .i64 p0,.int .i64 p1,.int .i64 p2] 43)):=(Upd.refl noBlk z3).alloc _;have HJN:=Lib.hid ((HZ2.out _ _ _ _ hjr).upd hal);have HTZ:=Lib.hid (hal.heap (HZ4.out _ tb _ hjr.up HTL8.out HZT.out HTZ1.out) id);have HGZ:=Lib.hid (hal.heap (HZ4.out _ gb _ hjr.up HGL8.out HZG.out HGZ1.out) id);have HPZ:=Lib.hid (heap_alloc_new z3 (.cells #[.int .i64 p0,.int .i64 p1,.int .i64 p2] 43));have HIT:Hid (inT ((a0,a1,a2),(a3,a4,a5),(p0,p1,p2))):=⟨HGIN.out.1,HGIN.out.2.1,c1⟩;have HKI:=Lib.hid c2;have HKL2:Hid (k'.length≤K.length+1):=c3;clear hcm hjr HNO HYES HRF HCIN c1 c2 c3 hal C1 HGZ1 HTZ1;go_upto_region 18 with fail
        generalize z3.alloc (.cells #[.int .i64 p0,.int .i64 p1,.int .i64 p2] 43)=z4 at *;generalize z3.heap.size=nb at *;obtain ⟨m0,m1,m2⟩:=cells3 HPZ.out;obtain ⟨g0,g1,g2,g3,g4,g5,g6,g7,g8⟩:=cells9 HGZ.out;obtain ⟨⟨t0,t1,t2,t3,t4,t5,t6,t7,t8⟩,⟨f0,f1,f2,f3,f4,f5,f6,f7,f8⟩⟩:=cellsF9 HTZ.out;have HTS:=Lib.hid (set9 HTZ.out (.int .i64 a0) (.int .i64 a1) (.int .i64 a2) (.int .i64 a3) (.int .i64 a4) (.int .i64 a5) (.int .i64 p0) (.int .i64 p1) (.int .i64 p2));have HJS:=Lib.hid (HJN.out.store HTL8.out HZT.out (upd9 (b:=tb) z4 (.int .i64 a0) (.int .i64 a1) (.int .i64 a2) (.int .i64 a3) (.int .i64 a4) (.int .i64 a5) (.int .i64 p0) (.int .i64 p1) (.int .i64 p2)));go_wp2_with fail
        go_meet
        exact ⟨((a0,a1,a2),(a3,a4,a5),(p0,p1,p2)),1,k',r,e1,n1+1+400,rfl,.inr rfl,HJS.out,HTS.out,HIT.out,HKI.out,by have:=HKL2.out;have:=HI.out.klen;simp only at this;omega,HGIR.out,⟨by have h1:=HI.out.glen;have h2:=HRL.out;simp only at h1;omega,by have h2:=HRL.out;omega⟩,HRG.out,by have:=HNB.out;omega⟩
     case rest=>
      obtain ⟨t,first,k3,gs3,e3,n3,rfl,hfi,hjx,htb,hti,hkin,hklen,hgin,hglen,hrun,hn3⟩:=hcut;have HJX:=Lib.hid hjx;have HTB:=Lib.hid htb;have HTI:=Lib.hid hti;have HFI:Hid (first=0∨first=1):=hfi;have HKI:=Lib.hid hkin;have HKL3:Hid (k3.length≤3*(tr.length+1)):=hklen;have HGI:=Lib.hid hgin;have HGL3:Hid (gs3.length+(3-first)≤3*(tr.length+1)∧gs3.length+(3-first)<gs.length+4):=hglen;have HRUN:=Lib.hid hrun;have HN3:Hid (n3+1201*f≤700000):=hn3;clear hfi hjx htb hti hkin hklen hgin hglen hrun hn3;obtain ⟨AK,cK,AT,cT,vG,hst,_,hrt⟩:=HJX.out.state;simp only at hst hrt;have HST:=Lib.hid hst;have HTH:=fun p q W hW=>Lib.hid (jthird_any (.slice AT tr.length cT) tr p q (by have:=HTL.out;omega) W (hrt.keep (w':=W) hW));clear hst hrt;go_wp2_with fail
      go_loopw [18] (fun i wz=>∃j:Nat,i=.int .i64 j∧j≤3∧(∀a,a<j→third tr (cornAt t a) (cornAt t ((a+1) % 3))=none)∧Upd noBlk wc wz) (fun i _=>3-(intOf i).toNat)
      case atStart=>exact ⟨0,rfl,Nat.zero_le _,fun a h=>absurd h (Nat.not_lt_zero _),Upd.refl _ _⟩
      case round=>
       obtain ⟨j,rfl,hj,hfr,hu⟩:=hrel;have HFR:=Lib.hid hfr;have HV:=Lib.hid hu;clear hfr hu;by_cases hj3:j<3
       ·have hj3':(j:Int)<3:=by omega
        have hjw:IntKind.i64.wrap ((j:Int)+1)=(j:Int)+1:=wrapN (by omega) (by omega);obtain ⟨j1,hj1⟩:∃j1,j1=(j+1) % 3:=⟨_,rfl⟩;have ht1:((j:Int)+1).tmod 3=(j1:Int):=by rw [Int.tmod_eq_emod_of_nonneg (by omega)];omega
        have he1:((j:Int)+1) % 3=(j1:Int):=by omega
        have hjl1:(j1:Int)<3:=by omega
        have HJ:Hid (j<3):=hj3;have HCC:Hid (∀W,Upd noBlk wr W→(W.cell? ⟨tb,j*3,none⟩=some (.int .i64 (cornAt t j).1)∧W.cell? ⟨tb,j*3+1,none⟩=some (.int .i64 (cornAt t j).2.1)∧W.cell? ⟨tb,j*3+2,none⟩=some (.int .i64 (cornAt t j).2.2))∧(W.cell? ⟨tb,j1*3,none⟩=some (.int .i64 (cornAt t j1).1)∧W.cell? ⟨tb,j1*3+1,none⟩=some (.int .i64 (cornAt t j1).2.1)∧W.cell? ⟨tb,j1*3+2,none⟩=some (.int .i64 (cornAt t j1).2.2))):=fun W hW=>
         ⟨tri_corner0 (tri_box ((HV.out.trans hW).heap HTB.out id)) hj3,tri_corner0 (tri_box ((HV.out.trans hW).heap HTB.out id)) (by omega)⟩
        have HTH:=fun W hW=>HTH (cornAt t j) (cornAt t j1) W (HV.out.trans hW);have HBW:Hid (wr.heap[b]?=some (.cells #[.slice AK k3.length cK,.slice AT tr.length cT,vG] 120 (0,0))):=HV.out.heap HST.out id;have HUS:Hid ((third tr (cornAt t j) (cornAt t j1)).isSome=true→tgt=none):=fun h=>by
         rw [←HRUN.out];unfold visitM;rw [if_neg (fun hf=>by
          have h2:=(freeT_edges tr t).1 hf j hj3;rw [←hj1] at h2;rw [h2] at h;cases h)]
        have HFS:Hid ((third tr (cornAt t j) (cornAt t j1)).isSome=false→∀a,a<j+1→third tr (cornAt t a) (cornAt t ((a+1) % 3))=none):=fun h a ha=>by
         rcases (by omega:a<j∨a=j) with h' | rfl
         ·exact HFR.out a h'
         ·rw [←hj1];cases h3:third tr (cornAt t a) (cornAt t j1) with
          | none=>rfl
          | some x=>rw [h3] at h;cases h
        clear hj hj3 hj1 HFR;generalize cornAt t j=pj at *;generalize cornAt t j1=pk at *;obtain ⟨p0,p1,p2⟩:=pj;obtain ⟨q0,q1,q2⟩:=pk;obtain ⟨RP,hRP⟩:∃RP,RP=(third tr (p0,p1,p2) (q0,q1,q2)).getD (p0,p1,p2):=⟨_,rfl⟩;rw [←hRP] at HTH;clear hRP;generalize (third tr (p0,p1,p2) (q0,q1,q2)).isSome=RB at *;obtain ⟨r0,r1,r2⟩:=RP;unfold ptV at HTH;simp only at HTH HCC;go_upto_region 30 with fail
        refine wp_region_tree 18 (OT.sures [0,4,7,5,8,9,10,6,11,1,2,3] (.fork 12 (OT.sures [13,14,15] (.run 16 (.run 17 .nil))) 16 (.run 12 (OT.sures [13,14,15] (.run 17 .nil))))) (fun w'=>Upd noBlk wr w') (by kernel_rfl) (by kernel_rfl) (fun c a d v w h=>by cases d<;>exact h) ((Upd.refl noBlk wr).drew) ?_
        simp only [OT.sures]
        iterate 12 (apply wpT_sure rfl rfl;focus (intro w' hw';obtain ⟨⟨k0,k1,k2⟩,_⟩:=cellsF3 (hw'.heap HBW.out id);obtain ⟨⟨c0,c1,c2⟩,⟨d0,d1,d2⟩⟩:=HCC.out w' hw';go_simp;rfl))
        refine wpT_fork (fun w'=>Upd noBlk wr w') (fun w'=>Upd noBlk wr w') (fun _ h=>h) (fun _ h=>h) rfl rfl (fun K' hK=>?_) (fun K' hK=>?_)
        ·go_simp
         refine (HTH _ ((Upd.refl noBlk wr).drew)).out.mono ?_;rintro e z1 ⟨rfl,u1⟩;have V1:=Lib.hid ((Upd.refl noBlk wr).drew.trans u1);refine hK _ _ ⟨V1.out,?_⟩;clear hK K' u1
         iterate 3 (apply wpT_sure rfl rfl;focus (intro w' hw';go_simp;rfl))
         refine wpT_run (fun w'=>Upd noBlk wr w') (fun _ h=>h) rfl (fun K' hK=>?_);go_simp
         have V2:=Lib.hid (V1.out.alloc (.cells #[.int .i64 0,.int .i64 0,.int .i64 0] 43));have HN2:=Lib.hid (heap_alloc_new z1 (.cells #[.int .i64 0,.int .i64 0,.int .i64 0] 43));refine hK _ _ ⟨V2.out,?_⟩;clear hK K';have HNB:Hid (wr.heap.size≤z1.heap.size):=V1.out.size;generalize z1.alloc (.cells #[.int .i64 0,.int .i64 0,.int .i64 0] 43)=z2 at *;generalize z1.heap.size=N at *;refine wpT_run (fun w'=>Upd noBlk wr w') (fun _ h=>h) rfl (fun K' hK=>?_);obtain ⟨⟨n0,n1,n2⟩,⟨m0,m1,m2⟩⟩:=cellsF3 HN2.out;go_simp
         have V3:=Lib.hid (upd3 V2.out HNB.out (.int .i64 r0) (.int .i64 r1) (.int .i64 r2));refine hK _ _ ⟨V3.out,?_⟩;clear hK K' V2 HN2 n0 n1 n2 m0 m1 m2;generalize ((z2.setCell ⟨N,0,none⟩ (.int .i64 r0)).setCell ⟨N,1,none⟩ (.int .i64 r1)).setCell ⟨N,2,none⟩ (.int .i64 r2)=z3 at *;refine wpT_nil ?_;have HV2:=Lib.hid (HV.out.trans V3.out);clear HTH HBW HCC;cases RB with
         | false=>
          have HF:=Lib.hid (HFS.out rfl);clear HFS HUS HV;go_wp2_with fail
          go_roundw
          case rel=>exact ⟨j+1,by push_cast;rfl,HJ.out,HF.out,HV2.out⟩
          case measure=>simp only [intOf];have:=HJ.out;omega
         | true=>
          have HTN:=Lib.hid (HUS.out rfl);have HUX:=Lib.hid (HEX.out _ (HJX.out.upd HV2.out).up);clear HFS HUS HV;go_wp2_with fail
          go_ret2
          exact ⟨_,_,rfl,HUX.out,(fun _=>⟨HTN.out,rfl⟩),(fun h=>by cases h)⟩
        ·go_simp
         have V1:=Lib.hid ((Upd.refl noBlk wr).drew.alloc (.cells #[.int .i64 0,.int .i64 0,.int .i64 0] 43));have HN1:Hid ((wr.drew.alloc (.cells #[.int .i64 0,.int .i64 0,.int .i64 0] 43)).heap[wr.heap.size]?=some (.cells #[.int .i64 0,.int .i64 0,.int .i64 0] 43 (0,0))):=heap_alloc_new wr.drew (.cells #[.int .i64 0,.int .i64 0,.int .i64 0] 43);refine hK _ _ ⟨V1.out,?_⟩;clear hK K';obtain ⟨N,hN⟩:∃N,N=wr.heap.size:=⟨_,rfl⟩;have HNB:Hid (wr.heap.size≤N):=by show _≤_;omega
         rw [←hN] at HN1 ⊢;clear hN;refine wpT_run (fun w'=>Upd noBlk wr w') (fun _ h=>h) rfl (fun K' hK=>?_);go_simp
         refine (HTH _ V1.out).out.mono ?_;rintro e z2 ⟨rfl,u2⟩;have V2:=Lib.hid (V1.out.trans u2);have HN2:=Lib.hid (u2.heap HN1.out id);refine hK _ _ ⟨V2.out,?_⟩;clear hK K' u2 HN1 V1
         iterate 3 (apply wpT_sure rfl rfl;focus (intro w' hw';go_simp;rfl))
         refine wpT_run (fun w'=>Upd noBlk wr w') (fun _ h=>h) rfl (fun K' hK=>?_);obtain ⟨⟨n0,n1,n2⟩,⟨m0,m1,m2⟩⟩:=cellsF3 HN2.out;go_simp
         have V3:=Lib.hid (upd3 V2.out HNB.out (.int .i64 r0) (.int .i64 r1) (.int .i64 r2));refine hK _ _ ⟨V3.out,?_⟩;clear hK K' V2 HN2 n0 n1 n2 m0 m1 m2;generalize ((z2.setCell ⟨N,0,none⟩ (.int .i64 r0)).setCell ⟨N,1,none⟩ (.int .i64 r1)).setCell ⟨N,2,none⟩ (.int .i64 r2)=z3 at *;refine wpT_nil ?_;have HV2:=Lib.hid (HV.out.trans V3.out);clear HTH HBW HCC;cases RB with
         | false=>
          have HF:=Lib.hid (HFS.out rfl);clear HFS HUS HV;go_wp2_with fail
          go_roundw
          case rel=>exact ⟨j+1,by push_cast;rfl,HJ.out,HF.out,HV2.out⟩
          case measure=>simp only [intOf];have:=HJ.out;omega
         | true=>
          have HTN:=Lib.hid (HUS.out rfl);have HUX:=Lib.hid (HEX.out _ (HJX.out.upd HV2.out).up);clear HFS HUS HV;go_wp2_with fail
          go_ret2
          exact ⟨_,_,rfl,HUX.out,(fun _=>⟨HTN.out,rfl⟩),(fun h=>by cases h)⟩
       ·obtain rfl:j=3:=by omega
        have hfree:freeT true tr t:=(freeT_edges tr t).2 (fun a ha=>HFR.out a ha);have hvm:visitM true ⟨k3,tr,gs3⟩ t first e3=some (e3,(⟨k3,tr,gs3⟩:Wk).visit t first):=by unfold visitM;exact if_pos hfree
        have HRF:Hid (runM true many f e3 ((⟨k3,tr,gs3⟩:Wk).visit t first)=tgt):=by
         show _=_;have h:=HRUN.out;rw [hvm] at h;exact h
        have HOI:Hid (OInv ((⟨k3,tr,gs3⟩:Wk).visit t first)):=OInv.visit HTI.out HKI.out HGI.out HI.out.tris HKL3.out HGL3.out.1;have HPO:Hid (potM many ((⟨k3,tr,gs3⟩:Wk).visit t first)≤f):=by
         have h1:=potM_visit (many:=many) (w:=⟨k3,tr,gs3⟩) (t:=t) (first:=first) (n:=gs.length) HLT.out HGL3.out.2;have h2:=HPOT.out;unfold potM at h2;simp only at h1 h2;show _≤_;omega
        have HTL1:Hid (((⟨k3,tr,gs3⟩:Wk).visit t first).tris.length≤many):=by
         show (tr++[t]).length≤many;have:=HLT.out;rw [List.length_append];simp only [List.length_cons,List.length_nil];omega
        obtain ⟨Z3,hz1,hz2,_,_⟩:=(HJX.out.upd HV.out).enter;have HZ2:=Lib.hid hz2;have HVI:=Lib.hid (hz1.visit t first HFI.out (by have:=HTL.out;show tr.length≤_;omega) (by have:=HGL3.out.2;have:=HGL.out;show gs3.length≤_;omega));have HTW:=Lib.hid (HV.out.heap HTB.out id);clear hfree hvm HFR HTH HST HRUN HKI HGI HKL3 HGL3 HFI HTI hz1 hz2;obtain ⟨⟨a0,a1,a2⟩,⟨a3,a4,a5⟩,⟨a6,a7,a8⟩⟩:=t;unfold triC at HTW;unfold triV triC at HVI;obtain ⟨g0,g1,g2,g3,g4,g5,g6,g7,g8⟩:=cells9 HTW.out;go_wp2_with fail
        refine HVI.out.mono ?_;rintro e w9 ⟨rfl,c9⟩;have HJ9:=Lib.hid (HOUT.out _ _ _ _ (HZ2.out _ _ _ _ c9));clear c9 HVI g0 g1 g2 g3 g4 g5 g6 g7 g8 HTW;go_wp2_with fail
        go_roundg f
        case measure=>omega
        case rel=>exact ⟨_,_,_,HJ9.out,HOI.out,HTL1.out,HRF.out,HPO.out,HN3.out⟩
   ·have hlt':¬(tr.length:Int)<(many:Int):=by omega
    have HTS:Hid (tgt=some tr):=by
     show _=_;rw [←HRUN.out];exact runM_done (by show many≤tr.length;omega)
    have HRX:Hid (kTri.Rd wr (.slice AT tr.length cT) tr):=HRT.out;have HUX:=Lib.hid HJ.out.up;have HLN:Hid (tr.length≤128):=by have:=HM.out;show _≤_;omega
    clear hlt htl hn1 HRUN;go_wp2_with fail
    go_ret2
    exact ⟨_,_,rfl,HUX.out,(fun h=>by cases h),fun _=>⟨tr,HTS.out,HRX.out,HI.out.tris,HLN.out⟩⟩
end Go.Proofs.YtcikldoaidmnhaaGreatDoor
namespace Go.Proofs.YtcikldoaidmnhaaGreatDoor
open Go Go.RowKit Pk Pc
set_option maxRecDepth 100000
theorem jopen_no (s:List Nat) (hs:∀x,x∈s→x<256) (h:openM true s=none) (h1:∀r,s≠1 :: r) (w:World):Calls Tryz.prog 71 #[.string (str s)] w fun en w'=>openRd none w en w':=by
 cases s with
 | nil=>
  have he:(str []).toList.isEmpty=true:=by rw [str_toList];rfl
  have hz:(str ([]:List Nat)).size=0:=by rw [str_size];rfl
  have HP:Hid (∀w':World,Upd noBlk w w'→openRd none w (.returned (.tuple #[.slice none 0 0,.bool false])) w'):=fun w' hu=>⟨_,_,rfl,hu,(fun _=>⟨rfl,rfl⟩),(fun h=>by cases h)⟩;clear h h1 hs;go_enter Tryz.func71,Tryz.ntmps71
  go_wp2_with fail
  go_ret2
  exact HP.out _ (Upd.refl _ _)
 | cons x r=>
  have he:(str (x :: r)).toList.isEmpty=false:=by rw [str_toList];rfl
  have hz:0<(str (x :: r)).size:=by rw [str_size];simp
  have h0:=str_get (l:=x :: r) (i:=0) (by simp) hs hz;have hx:¬(x:Int)=1:=fun e=>h1 r (by rw [show x=1 by omega]);have hx2:((x:Int) == 1)=false:=beq_eq_false_iff_ne.2 hx;have hx3:((x:Int) != 1)=true:=bne_iff_ne.2 hx;have hz4:((((str (x :: r)).size:Nat):Int) == 0)=false:=beq_eq_false_iff_ne.2 (by omega);have hzn:¬(str (x :: r)).size=0:=by omega
  have hzi:¬(((str (x :: r)).size:Nat):Int)=0:=by omega
  have HP:Hid (∀w':World,Upd noBlk w w'→openRd none w (.returned (.tuple #[.slice none 0 0,.bool false])) w'):=fun w' hu=>⟨_,_,rfl,hu,(fun _=>⟨rfl,rfl⟩),(fun h=>by cases h)⟩;clear h h1 hs;go_enter Tryz.func71,Tryz.ntmps71
  go_wp2_with fail
  go_ret2
  exact HP.out _ (Upd.refl _ _)
theorem openM_head {b:Bool} {s:List Nat} (h:∀r,s≠1 :: r):openM b s=none:=by
 unfold openM;split
 ·rename_i r
  exact absurd rfl (h r)
 ·rfl
theorem jopen_any (s:List Nat) (hs:∀x,x∈s→x<256) (w:World):Calls Tryz.prog 71 #[.string (str s)] w fun en w'=>openRd (openM true s) w en w':=by
 by_cases h:∃r,s=1 :: r
 ·obtain ⟨r,rfl⟩:=h;exact jopen_one r (fun d hd=>hs d (List.mem_cons_of_mem _ hd)) w
 ·have h2:∀r,s≠1 :: r:=fun r e=>h ⟨r,e⟩;rw [openM_head h2];exact jopen_no s hs (openM_head h2) h2 w
def openJ (m:Option (List Tri)) (w:World) (en:Ending) (w':World):Prop:=Upd noBlk w w'∧(match m with
 | some l=>∃v,en=.returned (.tuple #[v,.int .i64 0])∧kTri.Rd w' v l
 | none=>en=.returned (.tuple #[.slice none 0 0,.int .i64 13]))
theorem str_ne {a b:List Nat} (ha:∀x,x∈a→x<256) (hb:∀x,x∈b→x<256) (h:a≠b):((str a).toList == (str b).toList)=false:=by
 rw [beq_eq_false_iff_ne,str_toList,str_toList];intro e;refine h ?_;have:=congrArg (List.map UInt8.toNat) e;rw [List.map_map,List.map_map] at this;have hm:∀l:List Nat,(∀x,x∈l→x<256)→l.map (UInt8.toNat ∘ UInt8.ofNat)=l:=fun l hl=>by
  conv=>rhs;rw [←List.map_id l]
  refine List.map_congr_left (fun x hx=>?_);show (UInt8.ofNat x).toNat=x;rw [UInt8.toNat_ofNat'];exact Nat.mod_eq_of_lt (hl x hx)
 rw [hm a ha,hm b hb] at this;exact this
set_option maxHeartbeats 1000000 in
theorem jOpenCluster_any (s:List Nat) (hs:∀x,x∈s→x<256) (w:World):Calls Tryz.prog 23 #[.string (str s)] w fun en w'=>openJ (openN s) w en w':=by
 have HO:=Lib.hid (jopen_any s hs w);obtain ⟨tgt,htgt⟩:∃t,t=openN s:=⟨_,rfl⟩;rw [←htgt];rw [openN_strict] at htgt;have HT:=Lib.hid htgt;have HSS:Hid (∀T,T≠s→(∀x,x∈T→x<256)→((str T).toList == (str s).toList)=false):=fun T h hT=>str_ne hT hs h;clear htgt hs;generalize openM true s=m at *;go_enter Tryz.func23,Tryz.ntmps23
 go_wp2_with fail
 refine HO.out.mono ?_;rintro e w1 ⟨v,ok,rfl,u1,hno,hyes⟩;have U1:=Lib.hid u1;have HNO:=Lib.hid hno;have HYES:=Lib.hid hyes;clear u1 hno hyes HO;cases ok with
 | false=>
  have HTN:Hid (tgt=none):=by show _=_;rw [HT.out,(HNO.out rfl).1]
  clear HNO HYES HT;go_wp2_with fail
  go_ret2
  exact ⟨U1.out,by rw [HTN.out];rfl⟩
 | true=>
  obtain ⟨T,hm,hrd,hin,hlen⟩:=HYES.out rfl;have HCL:=Lib.hid (jCluster_any v T (by omega) w1 hrd);have HCN:=fun W (hW:Upd noBlk w1 W)=>Lib.hid (hCanon_any v T (by omega) W (hrd.keep hW));have HTS:Hid (tgt=if clusterN T=s then some (canon T) else none):=by show _=_;rw [HT.out,hm]
  have HLT:=Lib.hid (clusterN_lt T);obtain ⟨A,c,rfl,_⟩:=hrd.form2;clear hm hrd hin hlen HNO HYES HT;by_cases hc:clusterN T=s
  ·have HTY:Hid (tgt=some (canon T)):=by show _=_;rw [HTS.out,if_pos hc]
   rw [hc] at HCL;clear hc HTS HSS;have hss:((str s).toList == (str s).toList)=true:=by simp
   go_wp2_with fail
   refine HCL.out.mono ?_;rintro e w2 ⟨rfl,u2⟩;have U2:=Lib.hid u2;have HCW:=HCN w2 u2;clear u2 HCL HCN;go_wp2_with fail
   refine HCW.out.mono ?_;rintro e w3 ⟨v3,rfl,hr3,u3⟩;have U3:=Lib.hid ((U1.out.trans U2.out).trans u3);have HR3:=Lib.hid hr3;clear u3 hr3 HCW;go_wp2_with fail
   go_ret2
   refine ⟨U3.out,?_⟩;rw [HTY.out];exact ⟨_,rfl,HR3.out⟩
  ·have HTN:Hid (tgt=none):=by show _=_;rw [HTS.out,if_neg hc]
   have hne:=HSS.out _ hc HLT.out;clear hc HTS HSS HCN;generalize clusterN T=S at *;go_wp2_with fail
   refine HCL.out.mono ?_;rintro e w2 ⟨rfl,u2⟩;have U2:=Lib.hid (U1.out.trans u2);clear u2 HCL;go_wp2_with fail
   go_ret2
   exact ⟨U2.out,by rw [HTN.out];rfl⟩
end Go.Proofs.YtcikldoaidmnhaaGreatDoor
