/- Parts: Walks of the reference of packets: Cluster. No condition. Walks of the reference of packets: whether a list can be packed. No condition. -/
import Derived.Test.YtcikldoaidmnhaaGreatDoorQOpen10
import Derived.Test.YtcikldoaidmnhaaGreatDoorQOpen19
import Derived.Test.YtcikldoaidmnhaaGreatDoorQOpen30
import Derived.Test.YtcikldoaidmnhaaGreatDoorQOpen32
namespace Go.Proofs.YtcikldoaidmnhaaGreatDoor
open Go Go.RowKit Pk
set_option maxRecDepth 100000
theorem checkX_open (l:List Tri):checkX true 0 l=checkO l:=by
 rw [←check_ref];unfold checkX;simp
theorem hCheckOpen_any (v:Value) (l:List Tri) (hn:l.length≤100000) (w:World) (h:kTri.Rd w v l) :
  Calls Tryz.prog 66 #[v] w fun en w'=>en=.returned (.int .i64 (checkO l:Nat))∧Upd noBlk w w':=by
 have hc:=hcheck_gen true 0 v l hn w h (fun e=>by cases e);rw [checkX_open] at hc;have HC:=Lib.hid hc;clear hc;go_enter Tryz.func66,Tryz.ntmps66
 go_wp2_with fail
 refine HC.out.mono ?_;rintro e w1 ⟨rfl,u1⟩;have U1:=Lib.hid u1;clear u1 HC;go_wp2_with fail
 go_ret
 exact ⟨rfl,U1.out⟩
def insideP (p:Pt):Bool:=insideC p.1&&insideC p.2.1&&insideC p.2.2
theorem insideP_iff (p:Pt):insideP p=decide (0≤p.1∧p.1≤2097151∧0≤p.2.1∧p.2.1≤2097151∧0≤p.2.2∧p.2.2≤2097151):=by
 unfold insideP insideC;rw [Bool.eq_iff_iff];simp only [Bool.and_eq_true,decide_eq_true_eq];omega
theorem coordT_corners (t:Tri):coordT t=true↔∀j,j<3→insideP (cornAt t j)=true:=by
 unfold coordT;rw [List.all_eq_true];constructor
 ·intro h j hj;rw [insideP_iff];rcases (by omega:j=0∨j=1∨j=2) with rfl | rfl | rfl
  ·exact h t.1 (by simp)
  ·exact h t.2.1 (by simp)
  ·exact h t.2.2 (by simp)
 ·intro h p hp;rw [←insideP_iff];simp only [List.mem_cons,List.not_mem_nil,or_false] at hp;rcases hp with rfl | rfl | rfl
  ·exact h 0 (by omega)
  ·exact h 1 (by omega)
  ·exact h 2 (by omega)
set_option maxHeartbeats 4000000 in
theorem jPackable_any (v:Value) (l:List Tri) (hn:l.length≤100000) (w:World) (h:kTri.Rd w v l) :
  Calls Tryz.prog 18 #[v] w fun en w'=>en=.returned (.bool (packable l))∧Upd noBlk w w':=by
 obtain ⟨R,hR⟩:∃R,R=packable l:=⟨_,rfl⟩;rw [←hR];have HBIG:Hid (¬l.length≤128→R=false):=fun h=>by rw [hR];unfold packable;rw [decide_eq_false h];simp
 have HBAD:Hid (∀k (h:k<l.length),coordT l[k]=false→R=false):=fun k h e=>by
  rw [hR];unfold packable;have:l.all coordT=false:=by
   rw [List.all_eq_false];exact ⟨_,List.getElem_mem h,by rw [e];simp⟩
  rw [this];rfl
 have HEND:Hid (l.length≤128→(∀k (h:k<l.length),coordT l[k]=true)→R=decide (checkO l=0)):=fun h1 h2=>by
  rw [hR];unfold packable;have:l.all coordT=true:=by
   rw [List.all_eq_true];intro x hx;obtain ⟨k,hk,rfl⟩:=List.getElem_of_mem hx;exact h2 k hk
  rw [this,decide_eq_true h1];rfl
 have HCO:Hid (∀W,Upd noBlk w W→Calls Tryz.prog 66 #[v] W fun en w'=>en=.returned (.int .i64 (checkO l:Nat))∧Upd noBlk W w'):=fun W hW=>hCheckOpen_any v l hn W (h.keep hW);have HIN:=fun n W=>Lib.hid (jinside_any n W);obtain ⟨A,cap,rfl,hcap,hx⟩:=h;have HX:=Lib.hid hx;have hn':(l.length:Int)≤100000:=by omega
 clear hx hn hR hcap;by_cases hbig:l.length≤128
 ·have hb':¬(128:Int)<(l.length:Int):=by omega
  have HEND:=Lib.hid (HEND.out hbig);clear HBIG hbig;go_enter Tryz.func18,Tryz.ntmps18
  go_wp2_with fail
  go_loopw [3] (fun i wr=>∃k:Nat,i=.int .i64 k∧k≤l.length∧(∀a (h:a<l.length),a<k→coordT l[a]=true)∧Upd noBlk w wr) (fun i _=>l.length-(intOf i).toNat)
  case atStart=>exact ⟨0,rfl,Nat.zero_le _,fun a _ h=>absurd h (Nat.not_lt_zero _),Upd.refl _ _⟩
  case round=>
   obtain ⟨k,rfl,hk,hb,hu⟩:=hrel;have HB:=Lib.hid hb;have HU:=Lib.hid hu;clear hb hu;by_cases hlt:k<l.length
   ·have hlt':(k:Int)<(l.length:Int):=by omega
    obtain ⟨b,off,rfl,f1⟩:=HX.out (by omega);have hat:=f1 k hlt;rw [show kTri.k=9 from rfl] at hat;have HAT:=Lib.hid hat;have HF1:Hid (coordT l[k]=false→R=false):=HBAD.out k hlt;have HF0:Hid (coordT l[k]=true→∀a (h:a<l.length),a<k+1→coordT l[a]=true):=fun h a ha hak=>by
     rcases (by omega:a<k∨a=k) with h' | rfl
     ·exact HB.out a ha h'
     ·exact h
    have HK:Hid (k<l.length):=hlt;have hkw:IntKind.i64.wrap ((k:Int)+1)=(k:Int)+1:=wrapN (by omega) (by omega);clear hat f1 hk HB HBAD HEND HCO;generalize l[k]=t at *;clear hlt;go_wp2_with fail
    go_loopw [4] (fun i wz=>∃j:Nat,i=.int .i64 j∧j≤3∧(∀a,a<j→insideP (cornAt t a)=true)∧Upd noBlk w wz) (fun i _=>3-(intOf i).toNat)
    case atStart=>exact ⟨0,rfl,Nat.zero_le _,fun a h=>absurd h (Nat.not_lt_zero _),HU.out⟩
    case round=>
     obtain ⟨j,rfl,hj,hb,hu⟩:=hrel;have HB:=Lib.hid hb;have HU:=Lib.hid hu;clear hb hu;by_cases hj3:j<3
     ·have hj3':(j:Int)<3:=by omega
      have hjw:IntKind.i64.wrap ((j:Int)+1)=(j:Int)+1:=wrapN (by omega) (by omega);have HC:=fun W hW=>Lib.hid (tri_corner (HAT.out.keep (w':=W) hW) hj3);have HG0:Hid (insideP (cornAt t j)=false→R=false):=fun h=>HF1.out (by
       cases e:coordT t
       ·rfl
       ·rw [(coordT_corners t).1 e j hj3] at h;cases h)
      have HG1:Hid (insideP (cornAt t j)=true→∀a,a<j+1→insideP (cornAt t a)=true):=fun h a ha=>by
       rcases (by omega:a<j∨a=j) with h' | rfl
       ·exact HB.out a h'
       ·exact h
      have HJ:Hid (j<3):=hj3;clear hj hj3 HB HF0 HF1;generalize cornAt t j=q at *;obtain ⟨q0,q1,q2⟩:=q;have hip:insideP (q0,q1,q2)=(insideC q0&&insideC q1&&insideC q2):=rfl;rw [hip] at HG0 HG1;clear hip;obtain ⟨c0,c1,c2⟩:=(HC wr HU.out).out;go_wp2_with fail
      refine (HIN _ _).out.mono ?_;rintro e w1 ⟨rfl,u1⟩;have U1:=Lib.hid (HU.out.trans u1);clear u1 c0 c1 c2;obtain ⟨c0,c1,c2⟩:=(HC w1 U1.out).out;go_wp2_with fail
      refine (HIN _ _).out.mono ?_;rintro e w2 ⟨rfl,u2⟩;have U2:=Lib.hid (U1.out.trans u2);clear u2 c0 c1 c2;obtain ⟨c0,c1,c2⟩:=(HC w2 U2.out).out;go_wp2_with fail
      refine (HIN _ _).out.mono ?_;rintro e w3 ⟨rfl,u3⟩;have U3:=Lib.hid (U2.out.trans u3);clear u3 c0 c1 c2 HIN HC U1 U2 HU;generalize insideC q0=i0 at *;generalize insideC q1=i1 at *;generalize insideC q2=i2 at *;cases i0
      case false=>
       have HF:=Lib.hid (HG0.out rfl);clear HG0 HG1;go_wp2_with fail
       go_ret
       exact ⟨by rw [HF.out];rfl,U3.out⟩
      cases i1
      case false=>
       have HF:=Lib.hid (HG0.out rfl);clear HG0 HG1;go_wp2_with fail
       go_ret
       exact ⟨by rw [HF.out];rfl,U3.out⟩
      cases i2
      case false=>
       have HF:=Lib.hid (HG0.out rfl);clear HG0 HG1;go_wp2_with fail
       go_ret
       exact ⟨by rw [HF.out];rfl,U3.out⟩
      have HF:=Lib.hid (HG1.out rfl);clear HG0 HG1;go_wp2_with fail
      exact ⟨⟨j+1,by push_cast;rfl,HJ.out,HF.out,U3.out⟩,by simp only [intOf];have:=HJ.out;omega⟩
     ·obtain rfl:j=3:=by omega
      have HF:=Lib.hid (HF0.out ((coordT_corners t).2 HB.out));clear HF0 HF1 HB;go_wp2_with fail
      exact ⟨⟨k+1,by push_cast;rfl,HK.out,HF.out,HU.out⟩,by simp only [intOf];have:=HK.out;omega⟩
   ·obtain rfl:k=l.length:=by omega
    have HF:=Lib.hid (HEND.out (fun a h=>HB.out a h h));have HC:=Lib.hid (HCO.out wr HU.out);clear HB HBAD HEND HCO HIN;generalize checkO l=c at *;go_wp2_with fail
    refine HC.out.mono ?_;rintro e w1 ⟨rfl,u1⟩;have U1:=Lib.hid (HU.out.trans u1);clear u1 HC;by_cases h0:c=0
    ·have hR:Hid (R=true):=by show _=_;rw [HF.out];exact decide_eq_true h0
     subst h0;go_wp2_with fail
     go_ret
     exact ⟨by rw [hR.out];rfl,U1.out⟩
    ·have hR:Hid (R=false):=by show _=_;rw [HF.out];exact decide_eq_false h0
     have h0':¬(c:Int)=0:=by omega
     have h1':((c:Int) == 0)=false:=beq_eq_false_iff_ne.2 h0';go_wp2_with fail
     go_ret
     exact ⟨by rw [hR.out];rfl,U1.out⟩
 ·have hb':(128:Int)<(l.length:Int):=by omega
  have HF:=Lib.hid (HBIG.out hbig);clear HBIG HBAD HEND HCO HIN HX hbig;go_enter Tryz.func18,Tryz.ntmps18
  go_wp2_with fail
  go_ret
  exact ⟨by rw [HF.out];rfl,Upd.refl _ _⟩
end Go.Proofs.YtcikldoaidmnhaaGreatDoor
namespace Go.Proofs.YtcikldoaidmnhaaGreatDoor
open Go Go.RowKit Pk Pc
set_option maxRecDepth 100000
def usedT (tr:List Tri) (t:Tri):Prop:=(t.1,t.2.1)∈edgesL tr
def SeedAt (c tr:List Tri) (m s:Nat):Prop:=(s=0∧∀i (h:i<c.length),m≤i→usedT tr c[i])∨(m≤s∧∃h:s<c.length,¬usedT tr c[s]∧∀i (h:i<c.length),m≤i→i<s→usedT tr c[i])
theorem SeedAt.used {c tr:List Tri} {m s:Nat} (h:SeedAt c tr (m+1) s) (hm:m<c.length) (hu:usedT tr c[m]):SeedAt c tr m s:=by
 rcases h with ⟨h1,h2⟩ | ⟨h1,h2,h3,h4⟩
 ·refine .inl ⟨h1,fun i hi hmi=>?_⟩;rcases (by omega:i=m∨m+1≤i) with rfl | h
  ·exact hu
  ·exact h2 i hi h
 ·refine .inr ⟨by omega,h2,h3,fun i hi hmi his=>?_⟩;rcases (by omega:i=m∨m+1≤i) with rfl | h
  ·exact hu
  ·exact h4 i hi h his
theorem SeedAt.free {c tr:List Tri} {m:Nat} (hm:m<c.length) (hu:¬usedT tr c[m]):SeedAt c tr m m:=.inr ⟨Nat.le_refl _,hm,hu,fun i _ h1 h2=>by omega⟩
theorem SeedAt.done {c tr:List Tri} {s:Nat} {t:Tri} (h:SeedAt c tr 0 s) (ht:t∈c) (hu:¬usedT tr t):∃h:s<c.length,seedT c tr=some c[s]:=by
 rcases h with ⟨_,h2⟩ | ⟨_,h2,h3,h4⟩
 ·obtain ⟨i,hi,rfl⟩:=List.getElem_of_mem ht;exact absurd (h2 i hi (Nat.zero_le _)) hu
 ·refine ⟨h2,seedT_at h2 (fun t ht=>?_) h3⟩;obtain ⟨i,hi,rfl⟩:=List.getElem_of_mem ht;rw [List.getElem_take];rw [List.length_take] at hi;exact h4 i (by omega) (Nat.zero_le _) (by omega)
theorem third_used (tr:List Tri) (t:Tri):(third tr t.1 t.2.1).isSome=true↔usedT tr t:=by rw [third_isSome,decide_eq_true_eq];rfl
theorem jinit (w:World):JRep (w.alloc (.cells #[.slice none 0 0,.slice none 0 0,.slice none 0 0] 120)) w.heap.size Wk.init (jFoot w.heap.size (.slice none 0 0) (.slice none 0 0) (.slice none 0 0)):=
 ⟨_,_,_,⟨heap_alloc_new w _,⟨Kd.Own.nil _ _ _,Kd.Own.nil _ _ _,.inl ⟨rfl,rfl⟩⟩⟩,rfl⟩
set_option maxHeartbeats 8000000 in
theorem jCluster_any (v:Value) (l:List Tri) (hn:l.length≤100000) (w:World) (h:kTri.Rd w v l) :
  Calls Tryz.prog 17 #[v] w fun en w'=>en=.returned (.string (str (clusterN l)))∧Upd noBlk w w':=by
 have HPK:=Lib.hid (jPackable_any v l hn w h);have HCN:Hid (∀W,Upd noBlk w W→Calls Tryz.prog 21 #[v] W fun en w'=>∃v',en=.returned v'∧kTri.Rd w' v' (canon l)∧Upd noBlk W w'):=fun W hW=>hCanon_any v l (by omega) W (h.keep hW);obtain ⟨A,cap,rfl,hcap,hx⟩:=h;clear hx;go_enter Tryz.func17,Tryz.ntmps17
 go_wp2_with fail
 refine HPK.out.mono ?_;rintro e w1 ⟨rfl,u1⟩;have U1:=Lib.hid u1;clear u1 HPK;rcases hp:packable l with _ | _
 ·have HR:Hid (clusterN l=[]):=by show _=_;unfold clusterN;rw [hp];rfl
  go_wp2_with fail
  go_ret
  exact ⟨by rw [HR.out];rfl,U1.out⟩
 ·have HR:Hid (clusterN l=packC (canon l)):=by show _=_;unfold clusterN;rw [hp];rfl
  obtain ⟨hfine,hc128⟩:=canon_fine hp;have HFI:=Lib.hid hfine;have HC128:=Lib.hid hc128;have hCC:=HCN.out w1 U1.out;have HCC:=Lib.hid hCC;generalize canon l=c at *;have hcl:(c.length:Int)≤128:=by omega
  clear hp hfine hc128 hCC HCN;go_wp2_with fail
  refine HCC.out.mono ?_;rintro e w2 ⟨vc,rfl,hrd,u2⟩;have HRC:=Lib.hid hrd;obtain ⟨Ac,capc,rfl,hcapc,hxc⟩:=hrd;have HX:=Lib.hid hxc;have U2:=Lib.hid (U1.out.trans u2);clear u2 HCC hxc;have HNW:=Lib.hid (rNewWriter_any (w2.alloc (.cells #[.slice none 0 0,.slice none 0 0,.slice none 0 0] 120)));go_wp2_with fail
  refine HNW.out.mono ?_;rintro e w4 ⟨rfl,hw4⟩;have hcw:JW noBlk w2 w4 w2.heap.size Wk.init (w2.heap.size+1) []:=by
   rw [←hw4];have hr:=rNewWriter_rep (w2.alloc (.cells #[.slice none 0 0,.slice none 0 0,.slice none 0 0] 120));rw [World.size_alloc] at hr;refine ⟨⟨_,_,(jinit w2).upd ((Upd.refl noBlk _).alloc _) (fun _ _=>id),hr,fun k hk hf=>?_,fun k hk=>.inr ?_⟩,((Upd.refl _ w2).alloc _).alloc _⟩
   ·rcases hk with hk | hk | hk | hk
    ·have hf':k=w2.heap.size+1:=hf;omega
    ·cases hk
    ·cases hk
    ·cases hk
   ·rcases hk with (hk | hk | hk | hk) | hk
    ·omega
    ·cases hk
    ·cases hk
    ·cases hk
    ·have hk':k=w2.heap.size+1:=hk;omega
  clear hw4 HNW;rw [World.size_alloc];obtain ⟨b,hb⟩:∃b,b=w2.heap.size:=⟨_,rfl⟩;obtain ⟨bw,hbw⟩:∃bw,bw=w2.heap.size+1:=⟨_,rfl⟩;rw [←hbw,←hb] at hcw;have HC5:=Lib.hid hcw;clear hcw;rw [←hbw,←hb];clear hb hbw;have HNUM:=Lib.hid (HC5.out.number 64 c.length (by have:=HC128.out;omega) (by simp));have hwn:IntKind.u64.wrap (c.length:Int)=(c.length:Int):=by have:=IntKind.wrap_u64 (c.length:Int);omega
  go_wp2_with fail
  refine HNUM.out.mono ?_;rintro e w6 ⟨rfl,hc6⟩;rw [List.nil_append] at hc6;have HC6:=Lib.hid hc6;clear hc6 HNUM HC5 hwn;go_wp2_with fail
  have hleft0:Wk.init.left c=4*c.length:=by unfold Wk.left Wk.init;simp
  have hbits0:numBits 64 c.length++walkB c (4*c.length) Wk.init=bitsC c:=by unfold bitsC;rw [hleft0]
  have hnb0:=numBits_length 64 (n:=c.length) (by have:=HC128.out;omega);have HST:Hid (Wk.init.left c≤4*c.length∧numBits 64 c.length++walkB c (4*c.length) Wk.init=bitsC c∧(numBits 64 c.length).length+1300*(4*c.length)≤700000∧4*c.length≤512):=⟨by omega,hbits0,by have:=HC128.out;omega,by have:=HC128.out;omega⟩;clear hleft0 hbits0 hnb0;go_loopg [] (4*c.length) (fun f wz=>∃(W:Wk) (bits:Pk.Bits),JW noBlk w2 wz b W bw bits∧Inv c W∧bits++walkB c f W=bitsC c∧W.left c≤f∧f≤512∧W.known.length+3*f≤1536∧bits.length+1300*f≤700000)
  case atStart=>
   obtain ⟨s1,s2,s3,s4⟩:=HST.out;exact ⟨Wk.init,numBits 64 c.length,HC6.out,Inv.init c,s2,s1,s4,by show 0+_≤_;omega,s3⟩
  case round=>
   obtain ⟨⟨K,tr,gs⟩,bits,r5,r6,r7,r8,r9,r10,r11⟩:=hrel;simp only at *;have HC:=Lib.hid r5;have HINV:=Lib.hid r6;have HBT:=Lib.hid r7;have HLF:=Lib.hid r8;have HF5:=Lib.hid r9;have HKN:=Lib.hid r10;have HBL:=Lib.hid r11;obtain ⟨AK,cK,AT,cT,vG,hst,_,_,_⟩:=r5.state;have HBK:=Lib.hid hst;clear r5 r6 r7 r8 r9 r10 r11 hst HC6 HST;simp only at HBK;obtain ⟨⟨k0,k1,k2⟩,_⟩:=cellsF3 HBK.out;by_cases hlt3:tr.length<c.length
   ·have hlt':(tr.length:Int)<(c.length:Int):=by omega
    have HLT:=Lib.hid hlt3;obtain ⟨f,hf⟩:∃f,gk=f+1:=⟨gk-1,by have:=left_pos (W:=⟨K,tr,gs⟩) hlt3;have:=HLF.out;omega⟩;subst hf;have HTL:Hid (tr.length≤128):=by have:=HLT.out;have:=HC128.out;show _≤_;omega
    have HGL:Hid (gs.length≤1000):=by have h1:=HLF.out;have h2:=HF5.out;unfold Wk.left at h1;show gs.length≤_;simp only at h1;omega
    have HKL:Hid (K.length≤1536):=by have:=HKN.out;show _≤_;omega
    have HNX:=Lib.hid (HC.out.next (by have:=HTL.out;show tr.length≤_;omega) (by have:=HGL.out;show gs.length≤_;omega));simp only at HNX;clear hlt3;go_wp2_with fail
    refine HNX.out.mono ?_;rintro e w7 ⟨g,rfl,hg,hc7⟩;have HC7:=Lib.hid hc7;clear hc7 HNX k0 k1 k2 HBK;rcases hog:openG tr gs with _ | ⟨⟨⟨a0,a1,a2⟩,⟨a3,a4,a5⟩,⟨a6,a7,a8⟩⟩,r⟩
    ·have hnv:nextB tr gs=false∧restG tr gs=[]:=by unfold nextB restG;rw [hog];exact ⟨rfl,rfl⟩
     obtain ⟨n2,n3⟩:=hnv;rw [n2];rw [n3] at HC7;have HOG:=Lib.hid hog;clear n2 n3 hog hg;obtain ⟨⟨g0,g1,g2⟩,⟨g3,g4,g5⟩,⟨g6,g7,g8⟩⟩:=g;unfold gateV triC;have hA7:Upd noBlk w7 (w7.alloc (.cells #[.int .i64 g0,.int .i64 g1,.int .i64 g2,.int .i64 g3,.int .i64 g4,.int .i64 g5,.int .i64 g6,.int .i64 g7,.int .i64 g8] 44)):=(Upd.refl _ w7).alloc _;have HC8:=Lib.hid (HC7.out.upd hA7);obtain ⟨w8,hw8⟩:∃w8,w8=w7.alloc (.cells #[.int .i64 g0,.int .i64 g1,.int .i64 g2,.int .i64 g3,.int .i64 g4,.int .i64 g5,.int .i64 g6,.int .i64 g7,.int .i64 g8] 44):=⟨_,rfl⟩;rw [←hw8] at HC8;go_upto_region 16 with fail
     rw [←hw8];clear hw8 hA7 HC7;obtain ⟨t0,hst,ht0,hti,hfr,hun⟩:=seed_some HFI.out HINV.out HLT.out;have HT0:=Lib.hid ht0;have HUN:Hid (¬usedT tr t0):=hun;have h0c:0<c.length:=by have:=HLT.out;omega
     obtain ⟨bc,offc,rfl,hrows⟩:=HX.out h0c;have HROW:Hid (∀W,Upd noBlk w8 W→∀j (hj:j<c.length),kTri.At W bc (offc+j*9) c[j]):=fun W hW j hj=>((hrows j hj).keep HC8.out.up).keep hW;obtain ⟨AK8,cK8,AT8,cT8,vG8,hst8,_,_,hrt8⟩:=HC8.out.state;have HST8:=Lib.hid hst8;simp only at HST8 hrt8;have HTH:=fun p q W hW=>Lib.hid (jthird_any (.slice AT8 tr.length cT8) tr p q (by have:=HTL.out;omega) W (hrt8.keep (w':=W) hW));have hwl:IntKind.i64.wrap ((c.length:Int)-1)=(c.length:Int)-1:=wrapN (by omega) (by omega);clear hst ht0 hti hfr hun hrows hst8 hrt8;go_upto_block 2 with fail
     go_cut [11,12] (fun sv _ wc=>∃s:Nat,sv=.int .i64 s∧SeedAt c tr 0 s∧Upd noBlk w8 wc)
     case first=>
      go_wp2_with fail
      go_loopw [11,12] (fun sv kv wz=>∃(m s:Nat),kv=.int .i64 ((m:Int)-1)∧sv=.int .i64 s∧m≤c.length∧SeedAt c tr m s∧Upd noBlk w8 wz) (fun _ kv _=>(intOf kv+1).toNat)
      case atStart=>exact ⟨c.length,0,rfl,rfl,Nat.le_refl _,.inl ⟨rfl,fun i h h2=>by omega⟩,Upd.refl _ _⟩
      case round=>
       obtain ⟨m1,s,rfl,rfl,hm1,hs,hu⟩:=hrel;have HS:=Lib.hid hs;have HV:=Lib.hid hu;clear hs hu;cases m1 with
       | zero=>
        have HF:=HS;clear HTH HROW HS;go_wp2_with fail
        go_meet
        exact ⟨s,rfl,HF.out,HV.out⟩
       | succ m=>
        have hkv:(((m+1:Nat):Int)-1)=(m:Int):=by omega
        rw [hkv];have hmc:m<c.length:=hm1;have hmcI:(m:Int)<(c.length:Int):=by omega
        have hm0:(0:Int)≤(m:Int):=by omega
        have hmw:IntKind.i64.wrap ((m:Int)-1)=(m:Int)-1:=wrapN (by omega) (by omega);have HM:Hid (m<c.length):=hmc;have HAT:Hid (∀W,Upd noBlk wr W→kTri.At W bc (offc+m*9) c[m]):=fun W hW=>HROW.out W (HV.out.trans hW) m hmc;have HSU:Hid (usedT tr c[m]→SeedAt c tr m s):=fun h=>HS.out.used hmc h;have HSF:Hid (¬usedT tr c[m]→SeedAt c tr m m):=fun h=>SeedAt.free hmc h;have HRB:=Lib.hid (third_used tr c[m]);have HTH:=fun W hW=>HTH c[m].1 c[m].2.1 W (HV.out.trans hW);have HBW:Hid (wr.heap[b]?=some (.cells #[.slice AK8 K.length cK8,.slice AT8 tr.length cT8,vG8] 120 (0,0))):=HV.out.heap HST8.out id;clear hm1 hmc hkv HS HROW;generalize c[m]=ct at *;obtain ⟨⟨a0,a1,a2⟩,⟨a3,a4,a5⟩,⟨a6,a7,a8⟩⟩:=ct;simp only at HTH HRB;obtain ⟨RP,hRP⟩:∃RP,RP=(third tr (a0,a1,a2) (a3,a4,a5)).getD (a0,a1,a2):=⟨_,rfl⟩;rw [←hRP] at HTH;clear hRP;generalize (third tr (a0,a1,a2) (a3,a4,a5)).isSome=RB at *;obtain ⟨r0,r1,r2⟩:=RP;unfold ptV at HTH;simp only at HTH;go_upto_region 20 with fail
        refine wp_region_tree 20 (OT.sures [0,4,5,9,10,6,11,7,12,8,13,1,2,3] (.fork 14 (OT.sures [15,16,17] (.run 18 (.run 19 .nil))) 18 (.run 14 (OT.sures [15,16,17] (.run 19 .nil))))) (fun w'=>Upd noBlk wr w') (by kernel_rfl) (by kernel_rfl) (fun c a d v w h=>by cases d<;>exact h) ((Upd.refl noBlk wr).drew) ?_
        simp only [OT.sures]
        iterate 14 (apply wpT_sure rfl rfl;focus (intro w' hw';obtain ⟨⟨k0,k1,k2⟩,_⟩:=cellsF3 (hw'.heap HBW.out id);obtain ⟨g0,g1,g2,g3,g4,g5,g6,g7,g8⟩:=triAt9 (HAT.out w' hw');go_simp;rfl))
        refine wpT_fork (fun w'=>Upd noBlk wr w') (fun w'=>Upd noBlk wr w') (fun _ h=>h) (fun _ h=>h) rfl rfl (fun K' hK=>?_) (fun K' hK=>?_)
        ·go_simp
         refine (HTH _ ((Upd.refl noBlk wr).drew)).out.mono ?_;rintro e z1 ⟨rfl,u1⟩;have V1:=Lib.hid ((Upd.refl noBlk wr).drew.trans u1);refine hK _ _ ⟨V1.out,?_⟩;clear hK K' u1
         iterate 3 (apply wpT_sure rfl rfl;focus (intro w' hw';go_simp;rfl))
         refine wpT_run (fun w'=>Upd noBlk wr w') (fun _ h=>h) rfl (fun K' hK=>?_);go_simp
         have V2:=Lib.hid (V1.out.alloc (.cells #[.int .i64 0,.int .i64 0,.int .i64 0] 43));have HN2:=Lib.hid (heap_alloc_new z1 (.cells #[.int .i64 0,.int .i64 0,.int .i64 0] 43));refine hK _ _ ⟨V2.out,?_⟩;clear hK K';have HNB:Hid (wr.heap.size≤z1.heap.size):=V1.out.size;generalize z1.alloc (.cells #[.int .i64 0,.int .i64 0,.int .i64 0] 43)=z2 at *;generalize z1.heap.size=N at *;refine wpT_run (fun w'=>Upd noBlk wr w') (fun _ h=>h) rfl (fun K' hK=>?_);obtain ⟨⟨n0,n1,n2⟩,⟨m0,m1,m2⟩⟩:=cellsF3 HN2.out;go_simp
         have V3:=Lib.hid (upd3 V2.out HNB.out (.int .i64 r0) (.int .i64 r1) (.int .i64 r2));refine hK _ _ ⟨V3.out,?_⟩;clear hK K' V2 HN2 n0 n1 n2 m0 m1 m2;generalize ((z2.setCell ⟨N,0,none⟩ (.int .i64 r0)).setCell ⟨N,1,none⟩ (.int .i64 r1)).setCell ⟨N,2,none⟩ (.int .i64 r2)=z3 at *;refine wpT_nil ?_;have HV2:=Lib.hid ((HV.out.trans V3.out));clear HTH HBW HAT;by_cases hus:usedT tr ((a0,a1,a2),(a3,a4,a5),(a6,a7,a8))
         ·have hrb:RB=true:=HRB.out.2 hus;have HS2:=Lib.hid (HSU.out hus);subst hrb;clear HSU HSF HRB hus HV;go_wp2_with fail
          go_roundw
          case rel=>exact ⟨m,s,rfl,rfl,by have:=HM.out;omega,HS2.out,HV2.out⟩
          case measure=>simp only [intOf];omega
         ·have hrb:RB=false:=by
           cases hb:RB with
           | false=>rfl
           | true=>exact absurd (HRB.out.1 hb) hus
          have HS2:=Lib.hid (HSF.out hus);subst hrb;clear HSU HSF HRB hus HV;go_wp2_with fail
          go_roundw
          case rel=>exact ⟨m,m,rfl,rfl,by have:=HM.out;omega,HS2.out,HV2.out⟩
          case measure=>simp only [intOf];omega
        ·go_simp
         have V1:=Lib.hid ((Upd.refl noBlk wr).drew.alloc (.cells #[.int .i64 0,.int .i64 0,.int .i64 0] 43));have HN1:Hid ((wr.drew.alloc (.cells #[.int .i64 0,.int .i64 0,.int .i64 0] 43)).heap[wr.heap.size]?=some (.cells #[.int .i64 0,.int .i64 0,.int .i64 0] 43 (0,0))):=heap_alloc_new wr.drew (.cells #[.int .i64 0,.int .i64 0,.int .i64 0] 43);refine hK _ _ ⟨V1.out,?_⟩;clear hK K';obtain ⟨N,hN⟩:∃N,N=wr.heap.size:=⟨_,rfl⟩;have HNB:Hid (wr.heap.size≤N):=by show _≤_;omega
         rw [←hN] at HN1 ⊢;clear hN;refine wpT_run (fun w'=>Upd noBlk wr w') (fun _ h=>h) rfl (fun K' hK=>?_);go_simp
         refine (HTH _ V1.out).out.mono ?_;rintro e z2 ⟨rfl,u2⟩;have V2:=Lib.hid (V1.out.trans u2);have HN2:=Lib.hid (u2.heap HN1.out id);refine hK _ _ ⟨V2.out,?_⟩;clear hK K' u2 HN1 V1
         iterate 3 (apply wpT_sure rfl rfl;focus (intro w' hw';go_simp;rfl))
         refine wpT_run (fun w'=>Upd noBlk wr w') (fun _ h=>h) rfl (fun K' hK=>?_);obtain ⟨⟨n0,n1,n2⟩,⟨m0,m1,m2⟩⟩:=cellsF3 HN2.out;go_simp
         have V3:=Lib.hid (upd3 V2.out HNB.out (.int .i64 r0) (.int .i64 r1) (.int .i64 r2));refine hK _ _ ⟨V3.out,?_⟩;clear hK K' V2 HN2 n0 n1 n2 m0 m1 m2;generalize ((z2.setCell ⟨N,0,none⟩ (.int .i64 r0)).setCell ⟨N,1,none⟩ (.int .i64 r1)).setCell ⟨N,2,none⟩ (.int .i64 r2)=z3 at *;refine wpT_nil ?_;have HV2:=Lib.hid ((HV.out.trans V3.out));clear HTH HBW HAT;by_cases hus:usedT tr ((a0,a1,a2),(a3,a4,a5),(a6,a7,a8))
         ·have hrb:RB=true:=HRB.out.2 hus;have HS2:=Lib.hid (HSU.out hus);subst hrb;clear HSU HSF HRB hus HV;go_wp2_with fail
          go_roundw
          case rel=>exact ⟨m,s,rfl,rfl,by have:=HM.out;omega,HS2.out,HV2.out⟩
          case measure=>simp only [intOf];omega
         ·have hrb:RB=false:=by
           cases hb:RB with
           | false=>rfl
           | true=>exact absurd (HRB.out.1 hb) hus
          have HS2:=Lib.hid (HSF.out hus);subst hrb;clear HSU HSF HRB hus HV;go_wp2_with fail
          go_roundw
          case rel=>exact ⟨m,m,rfl,rfl,by have:=HM.out;omega,HS2.out,HV2.out⟩
          case measure=>simp only [intOf];omega
     case rest=>
      obtain ⟨s,rfl,hs,hu⟩:=hcut;obtain ⟨hsl,hsd⟩:=hs.done HT0.out HUN.out;have HC9:=Lib.hid (HC8.out.upd hu);have hstep:stepW c ⟨K,tr,gs⟩=some (seedBs c[s] K 3,Wk.visit ⟨seedK c[s] K 3,tr,[]⟩ c[s] 0):=by
       unfold stepW;simp only;rw [HOG.out];simp only;rw [hsd];simp [seedBs,seedK,cornAt]
      have HACC:=Lib.hid (step_acc HFI.out HINV.out HLT.out hstep HBT.out HLF.out HKN.out);obtain ⟨t1,q1,q2,q3,q4,q5⟩:=seed_some HFI.out HINV.out HLT.out;rw [hsd] at q1;cases q1;have HIT:=Lib.hid q3;have HKIN:=Lib.hid HINV.out.known;have HAT:Hid (∀W,Upd noBlk w2 W→kTri.At W bc (offc+s*9) c[s]):=fun W hW=>by
       obtain ⟨bc',offc',e,hr⟩:=HX.out h0c;cases e;exact (hr s hsl).keep hW
      have hslI:(s:Int)<(c.length:Int):=by omega
      clear hs hu hstep q2 q3 q4 q5 hsd HROW HTH HST8 HC8 HT0 HUN HINV HOG HBT HLF;generalize c[s]=ct at *;clear hsl;go_wp2_with fail
      go_loopw [15] (fun i wz=>∃j:Nat,i=.int .i64 j∧j≤3∧JW noBlk w2 wz b ⟨seedK ct K j,tr,[]⟩ bw (bits++seedBs ct K j)) (fun i _=>3-(intOf i).toNat)
      case atStart=>exact ⟨0,rfl,Nat.zero_le _,by show JW _ _ _ _ ⟨K,tr,[]⟩ _ (bits++[]);rw [List.append_nil];exact HC9.out⟩
      case round=>
       obtain ⟨j,rfl,hj,hc⟩:=hrel;have HCJ:=Lib.hid hc;have HA:=Lib.hid (HAT.out wr hc.up);clear hc HC9;by_cases hj3:j<3
       ·have hj3':(j:Int)<3:=by omega
        have hjw:IntKind.i64.wrap ((j:Int)+1)=(j:Int)+1:=wrapN (by omega) (by omega);have HCC:=fun W hW=>Lib.hid (tri_corner (HA.out.keep (w':=W) hW) hj3);have hpin:=cornAt_in HIT.out j;have hKin:=seedK_in HIT.out HKIN.out j;have hnin:=near_of_in (lastK_in hKin);obtain ⟨f1,f2,f3⟩:=far_of hpin hnin;have hKlen:=seedK_len ct K j;have hBlen:=seedBs_len HIT.out HKIN.out (by have:=HKL.out;omega) j hj;have HS:Hid (bits++seedBs ct K (j+1)=bits++seedBs ct K j++cornerB (seedK ct K j) (cornAt ct j) (lastK (seedK ct K j)) 0 192 256):=(List.append_assoc _ _ _).symm;have HSK:Hid (seedK ct K (j+1)=meetK (seedK ct K j) (cornAt ct j)):=rfl;have HLA:=fun W (hW:Upd noBlk wr W)=>Lib.hid ((HCJ.out.upd hW).last (by show (seedK ct K j).length≤_;have:=HKL.out;omega));have HCO:=fun W (hW:Upd noBlk wr W)=>Lib.hid ((HCJ.out.upd hW).corner (cornAt ct j) (lastK (seedK ct K j)) 0 192 256 ⟨by omega,by omega⟩ f1 f2 f3 (by show (seedK ct K j).length≤_;have:=HKL.out;omega) (by have:=HBL.out;rw [List.length_append];omega));have HJ:Hid (j<3):=hj3;simp only at HLA HCO;clear hj hj3 hpin hKin hnin f1 f2 f3 hKlen hBlen HCJ;generalize cornAt ct j=pj at *;generalize lastK (seedK ct K j)=nj at *;obtain ⟨p0,p1,p2⟩:=pj;obtain ⟨n0,n1,n2⟩:=nj;unfold ptV at HLA HCO;simp only at HLA HCO;go_wp2_with fail
        refine wp_region_tree 10 (OT.sures [0,1,2,3,4,8,5,6,7] (.run 9 .nil)) (fun w'=>Upd noBlk wr w') (by kernel_rfl) (by kernel_rfl) (fun c a d v w h=>by cases d<;>exact h) ((Upd.refl noBlk wr).drew) ?_
        simp only [OT.sures]
        iterate 9 (apply wpT_sure rfl rfl;focus (intro w' hw';obtain ⟨c0,c1,c2⟩:=(HCC w' hw').out;go_simp;rfl))
        refine wpT_run (fun w'=>Upd noBlk wr w') (fun _ h=>h) rfl (fun K' hK=>?_);go_simp
        refine (HLA _ ((Upd.refl noBlk wr).drew)).out.mono ?_;rintro e z1 ⟨rfl,u1⟩;have V1:=Lib.hid ((Upd.refl noBlk wr).drew.trans u1);refine hK _ _ ⟨V1.out,?_⟩;clear hK K' u1 HLA HCC;refine wpT_nil ?_;have HCW:=HCO z1 V1.out;clear HCO;go_wp2_with fail
        refine HCW.out.mono ?_;rintro e z2 ⟨rfl,c2⟩;have C2:=Lib.hid c2;clear c2 HCW;go_wp2_with fail
        exact ⟨⟨j+1,by push_cast;rfl,HJ.out,by rw [HS.out,HSK.out];exact C2.out⟩,by simp only [intOf];have:=HJ.out;omega⟩
       ·obtain rfl:j=3:=by omega
        have hbl9:=seedBs_len HIT.out HKIN.out (by have:=HKL.out;omega) 3 (by omega);have HBL9:Hid ((seedBs ct K 3).length≤1200):=hbl9;have HV:=Lib.hid (HCJ.out.visit ct 0 (.inl rfl) (by have:=HTL.out;show tr.length≤_;omega) (by show ([]:List Gate).length≤_;simp));clear hbl9 HCJ HIT HKIN HAT;generalize seedBs ct K 3=SB at *;generalize seedK ct K 3=SK at *;obtain ⟨⟨a0,a1,a2⟩,⟨a3,a4,a5⟩,⟨a6,a7,a8⟩⟩:=ct;unfold triV triC at HV;obtain ⟨g0,g1,g2,g3,g4,g5,g6,g7,g8⟩:=triAt9 HA.out;simp only at g0 g1 g2 g3 g4 g5 g6 g7 g8;go_wp2_with fail
        refine HV.out.mono ?_;rintro e w9 ⟨rfl,c9⟩;have HC10:=Lib.hid c9;clear c9 HV g0 g1 g2 g3 g4 g5 g6 g7 g8 HA;go_wp2_with fail
        go_roundg f
        case measure=>omega
        case rel=>
         obtain ⟨q1,q2,q3,q4⟩:=HACC.out;exact ⟨_,_,HC10.out,q1,q2,q3,by have:=HF5.out;omega,q4,by have:=HBL9.out;have:=HBL.out;rw [List.length_append];omega⟩
    ·have hnv:nextV tr gs=((a0,a1,a2),(a3,a4,a5),(a6,a7,a8))∧nextB tr gs=true∧restG tr gs=r:=by unfold nextV nextB restG;rw [hog];exact ⟨rfl,rfl,rfl⟩
     obtain ⟨n1,n2,n3⟩:=hnv;have hg':=hg n2;rw [n1] at hg';subst hg';rw [n2];rw [n3] at HC7;have HOG:Hid (openG tr gs=((a0,a1,a2),(a3,a4,a5),(a6,a7,a8)) :: r):=hog;have HRL:Hid (r.length≤1000):=by
      have h1:=openG_len tr gs;rw [hog] at h1;have h2:=HGL.out;simp only [List.length_cons] at h1;show r.length≤_;omega
     have HGIN:Hid (inG ((a0,a1,a2),(a3,a4,a5),(a6,a7,a8))):=gate_in HINV.out hog;have HTH:=fun W (hW:Upd noBlk w7 W)=>Lib.hid (jthird_any (.slice Ac c.length capc) c (a0,a1,a2) (a3,a4,a5) (by have:=HC128.out;omega) W ((HRC.out.keep HC7.out.up).keep hW));obtain ⟨D2,d1,d2,d3,_⟩:=HC7.out.enter;have HD1:=Lib.hid d1;have HD2:=Lib.hid d2;have HD3:=Lib.hid d3;clear n1 n2 n3 hog hg d1 d2 d3 HC7;unfold gateV triC;have hA7:Upd noBlk w7 (w7.alloc (.cells #[.int .i64 a0,.int .i64 a1,.int .i64 a2,.int .i64 a3,.int .i64 a4,.int .i64 a5,.int .i64 a6,.int .i64 a7,.int .i64 a8] 44)):=(Upd.refl _ w7).alloc _;have HG8:=Lib.hid (heap_alloc_new w7 (.cells #[.int .i64 a0,.int .i64 a1,.int .i64 a2,.int .i64 a3,.int .i64 a4,.int .i64 a5,.int .i64 a6,.int .i64 a7,.int .i64 a8] 44));have HU8:=Lib.hid hA7;have HSZ:Hid (w7.heap.size<(w7.alloc (.cells #[.int .i64 a0,.int .i64 a1,.int .i64 a2,.int .i64 a3,.int .i64 a4,.int .i64 a5,.int .i64 a6,.int .i64 a7,.int .i64 a8] 44)).heap.size):=lt_of_heap HG8.out;obtain ⟨w8,hw8⟩:∃w8,w8=w7.alloc (.cells #[.int .i64 a0,.int .i64 a1,.int .i64 a2,.int .i64 a3,.int .i64 a4,.int .i64 a5,.int .i64 a6,.int .i64 a7,.int .i64 a8] 44):=⟨_,rfl⟩;obtain ⟨gb,hgb⟩:∃gb,gb=w7.heap.size:=⟨_,rfl⟩;have HGB:Hid (¬D2 gb):=fun h=>by have:=HD1.out _ h;omega
     rw [←hw8] at HG8 HU8 HSZ;rw [←hgb] at HG8;go_upto_region 11 with fail
     rw [←hw8,←hgb];clear hw8 hgb hA7;have HTW:=HTH w8 HU8.out;clear HTH;obtain ⟨g0,g1,g2,g3,g4,g5,g6,g7,g8⟩:=cells9 HG8.out;unfold ptV at HTW;simp only at HTW;rcases h3:third c (a0,a1,a2) (a3,a4,a5) with _ | ⟨r0,r1,r2⟩
     ·rw [h3] at HTW;have hstep:stepW c ⟨K,tr,gs⟩=some ([(1,false)],⟨K,tr,r⟩):=by
       unfold stepW;simp only;rw [HOG.out];simp only;rw [h3]
      have HACC:=Lib.hid (step_acc HFI.out HINV.out HLT.out hstep HBT.out HLF.out HKN.out);clear hstep h3 HINV HOG HBT HLF;go_wp2_with fail
      refine HTW.out.mono ?_;rintro e w9 ⟨rfl,u9⟩;simp only [Option.getD_none,Option.isSome_none];have HU10:=Lib.hid ((HU8.out.trans u9).alloc (.cells #[.int .i64 a0,.int .i64 a1,.int .i64 a2] 43));have HBIT:=Lib.hid ((HD2.out _ HU10.out).bit 1 false (by have:=HBL.out;omega));clear u9 HTW g0 g1 g2 g3 g4 g5 g6 g7 g8;go_wp2_with fail
      refine HBIT.out.mono ?_;rintro e w11 ⟨rfl,c11⟩;have C11:=Lib.hid (HD3.out _ _ _ _ HU10.out c11);clear c11 HBIT;go_wp2_with fail
      go_roundg f
      case measure=>omega
      case rel=>
       obtain ⟨q1,q2,q3,q4⟩:=HACC.out;exact ⟨_,_,C11.out,q1,q2,q3,by have:=HF5.out;omega,q4,by have:=HBL.out;rw [List.length_append];simp only [List.length_cons,List.length_nil];omega⟩
     ·rw [h3] at HTW;obtain ⟨hpin,htin,hfree⟩:=gate_some HFI.out HINV.out HOG.out h3;have hnr:=near_exp HGIN.out;obtain ⟨f1,f2,f3⟩:=far_of hpin hnr;have HFAR:Hid (farC (r0,r1,r2).1 (expG ((a0,a1,a2),(a3,a4,a5),(a6,a7,a8))).1∧farC (r0,r1,r2).2.1 (expG ((a0,a1,a2),(a3,a4,a5),(a6,a7,a8))).2.1∧farC (r0,r1,r2).2.2 (expG ((a0,a1,a2),(a3,a4,a5),(a6,a7,a8))).2.2):=⟨f1,f2,f3⟩;have HCL:Hid ((cornerB K (r0,r1,r2) (expG ((a0,a1,a2),(a3,a4,a5),(a6,a7,a8))) 2 128 448).length≤400):=corner_len hpin hnr (by have:=HKL.out;omega);have hstep:stepW c ⟨K,tr,gs⟩=some ((1,true) :: cornerB K (r0,r1,r2) (expG ((a0,a1,a2),(a3,a4,a5),(a6,a7,a8))) 2 128 448,(⟨meetK K (r0,r1,r2),tr,r⟩:Wk).visit ((a0,a1,a2),(a3,a4,a5),(r0,r1,r2)) 1):=by
       unfold stepW;simp only;rw [HOG.out];simp only;rw [h3]
      have HACC:=Lib.hid (step_acc HFI.out HINV.out HLT.out hstep HBT.out HLF.out HKN.out);have HEX:=fun W=>Lib.hid (jexpected_any _ HGIN.out W);clear hstep h3 HINV HOG HBT HLF hpin htin hfree hnr f1 f2 f3 HGIN;go_wp2_with fail
      refine HTW.out.mono ?_;rintro e w9 ⟨rfl,u9⟩;simp only [Option.getD_some,Option.isSome_some];have HU10:=Lib.hid ((HU8.out.trans u9).alloc (.cells #[.int .i64 r0,.int .i64 r1,.int .i64 r2] 43));have HG10:=Lib.hid ((u9.trans ((Upd.refl noBlk w9).alloc (.cells #[.int .i64 r0,.int .i64 r1,.int .i64 r2] 43))).heap HG8.out id);have HP10:=Lib.hid (heap_alloc_new w9 (.cells #[.int .i64 r0,.int .i64 r1,.int .i64 r2] 43));have HPB:Hid (¬D2 w9.heap.size):=fun h=>by have h1:=HD1.out _ h;have h2:=HU8.out.size;have h3:=u9.size;omega
      go_upto_region 12 with fail
      obtain ⟨w10,hw10⟩:∃w10,w10=w9.alloc (.cells #[.int .i64 r0,.int .i64 r1,.int .i64 r2] 43):=⟨_,rfl⟩;obtain ⟨pb,hpb⟩:∃pb,pb=w9.heap.size:=⟨_,rfl⟩;rw [←hw10] at HU10 HG10 HP10;rw [←hpb] at HP10 HPB;rw [←hw10,←hpb];have HBIT:=Lib.hid ((HD2.out _ HU10.out).bit 1 true (by have:=HBL.out;omega));clear u9 HTW g0 g1 g2 g3 g4 g5 g6 g7 g8 hw10 hpb HU8 HG8 HSZ;go_wp2_with fail
      refine HBIT.out.mono ?_;rintro e w11 ⟨rfl,c11⟩;have C11:=Lib.hid c11;have HG11:=Lib.hid (c11.keepObj HG10.out HGB.out);have HP11:=Lib.hid (c11.keepObj HP10.out HPB.out);have HCO:=fun W (hW:Upd noBlk w11 W)=>Lib.hid ((C11.out.upd hW).corner (r0,r1,r2) (expG ((a0,a1,a2),(a3,a4,a5),(a6,a7,a8))) 2 128 448 ⟨by omega,by omega⟩ HFAR.out.1 HFAR.out.2.1 HFAR.out.2.2 (by show K.length≤_;have:=HKL.out;omega) (by have:=HBL.out;rw [List.length_append];simp only [List.length_cons,List.length_nil];omega));simp only at HCO;clear c11 HBIT HFAR C11;have HCX:Hid (bits++((1,true) :: cornerB K (r0,r1,r2) (expG ((a0,a1,a2),(a3,a4,a5),(a6,a7,a8))) 2 128 448)=bits++[(1,true)]++cornerB K (r0,r1,r2) (expG ((a0,a1,a2),(a3,a4,a5),(a6,a7,a8))) 2 128 448):=by show _=_;simp
      generalize expG ((a0,a1,a2),(a3,a4,a5),(a6,a7,a8))=ex at *;obtain ⟨e0,e1,e2⟩:=ex;unfold gateV triC ptV at HEX;unfold ptV at HCO;simp only at HEX HCO;go_upto_region 14 with fail
      refine wp_region_tree 5 (OT.sures [0,1,2,3] (.run 4 .nil)) (fun w'=>Upd noBlk w11 w') (by kernel_rfl) (by kernel_rfl) (fun c a d v w h=>by cases d<;>exact h) ((Upd.refl noBlk w11).drew) ?_
      simp only [OT.sures]
      iterate 4 (apply wpT_sure rfl rfl;focus (intro w' hw';obtain ⟨g0,g1,g2,g3,g4,g5,g6,g7,g8⟩:=cells9 (hw'.heap HG11.out id);obtain ⟨p0,p1,p2⟩:=cells3 (hw'.heap HP11.out id);go_simp;rfl))
      refine wpT_run (fun w'=>Upd noBlk w11 w') (fun _ h=>h) rfl (fun K' hK=>?_);go_simp
      refine (HEX _).out.mono ?_;rintro e z1 ⟨rfl,u1⟩;have V1:=Lib.hid ((Upd.refl noBlk w11).drew.trans u1);refine hK _ _ ⟨V1.out,?_⟩;clear hK K' u1 HEX;refine wpT_nil ?_;have HCW:=HCO z1 V1.out;clear HCO;go_wp2_with fail
      refine HCW.out.mono ?_;rintro e z2 ⟨rfl,c2⟩;have C2:=Lib.hid c2;have HG12:=Lib.hid (c2.keepObj HG10.out HGB.out);have HP12:=Lib.hid (c2.keepObj HP10.out HPB.out);have HV:=Lib.hid (c2.visit ((a0,a1,a2),(a3,a4,a5),(r0,r1,r2)) 1 (.inr rfl) (by have:=HTL.out;show tr.length≤_;omega) (by have:=HRL.out;show r.length≤_;omega));unfold triV triC at HV;clear c2 HCW HG10 HP10 HG11 HP11 V1;obtain ⟨g0,g1,g2,g3,g4,g5,g6,g7,g8⟩:=cells9 HG12.out;obtain ⟨p0,p1,p2⟩:=cells3 HP12.out;go_wp2_with fail
      refine HV.out.mono ?_;rintro e z3 ⟨rfl,c3⟩;have C3:=Lib.hid (HD3.out _ _ _ _ HU10.out c3);clear c3 HV g0 g1 g2 g3 g4 g5 g6 g7 g8 p0 p1 p2 HG12 HP12;go_wp2_with fail
      go_roundg f
      case measure=>omega
      case rel=>
       obtain ⟨q1,q2,q3,q4⟩:=HACC.out;rw [HCX.out] at q2;exact ⟨_,_,C3.out,q1,q2,q3,by have:=HF5.out;omega,q4,by have:=HBL.out;have:=HCL.out;simp only [List.length_append,List.length_cons,List.length_nil];omega⟩
   ·have hlt':¬(tr.length:Int)<(c.length:Int):=by omega
    have HBE:Hid (bits=bitsC c):=by
     have h1:=HBT.out;have h2:walkB c gk ⟨K,tr,gs⟩=[]:=by
      cases gk with
      | zero=>rfl
      | succ n=>rw [walkB,if_pos (by show c.length≤tr.length;omega)]
     rw [h2,List.append_nil] at h1;exact h1
    have HFN:=Lib.hid (HC.out.finish (by have:=HBL.out;omega));have hsum:str [1]++str (encode bits)=str (clusterN l):=by
     rw [HR.out,HBE.out];unfold packC str;apply ByteArray.ext;simp
    have HSUM:=Lib.hid hsum;have HUR:=Lib.hid (U2.out.trans HC.out.up);clear hlt3 hsum;go_wp2_with fail
    refine HFN.out.mono ?_;rintro e w9 ⟨rfl,u9⟩;have U9:=Lib.hid (HUR.out.trans u9);clear u9 HFN k0 k1 k2;have hz:¬9223372036854775807<(⟨#[1]⟩:ByteArray).size+(str (encode bits)).size:=by
     have h1:=encode_length bits;have h2:=HBL.out;have h3:(⟨#[1]⟩:ByteArray).size=1:=rfl;rw [str_size,h3];omega
    go_wp2_with fail
    go_ret
    exact ⟨by rw [←HSUM.out];rfl,U9.out⟩
end Go.Proofs.YtcikldoaidmnhaaGreatDoor
