/- Parts: The law: the parts of a surface are packed one after the other, and each packet yields its part. No condition. -/
import Derived.Test.YtcikldoaidmnhaaGreatDoorQFace25
import Derived.Test.YtcikldoaidmnhaaGreatDoorQFace27
import Derived.Test.YtcikldoaidmnhaaGreatDoorQFace29
import Derived.Test.YtcikldoaidmnhaaGreatDoorQFace30
namespace Go.Proofs.YtcikldoaidmnhaaGreatDoor
open Go Go.RowKit Pk
set_option maxRecDepth 100000
theorem hCheck_any (v:Value) (l:List Tri) (hn:l.length≤100000) (w:World) (h:kTri.Rd w v l) :
  Calls Tryz.prog 30 #[v] w fun en w'=>en=.returned (.int .i64 (checkR false l:Nat))∧Upd noBlk w w':=by
 have hc:=hcheck_gen false (borderE (edgesL l)).length v l hn w h (fun _ W hW=>hBorder_any v l hn W (h.keep hW));have e:checkX false (borderE (edgesL l)).length l=checkR false l:=rfl;rw [e] at hc;have HC:=Lib.hid hc;clear hc;go_enter Tryz.func30,Tryz.ntmps30
 go_wp2_with fail
 refine HC.out.mono ?_;rintro e w1 ⟨rfl,u1⟩;have U1:=Lib.hid u1;clear u1 HC;go_wp2_with fail
 go_ret
 exact ⟨rfl,U1.out⟩
def lenV:Value→Nat
 | .slice _ n _=>n
 | _=>0
set_option maxHeartbeats 4000000 in
theorem facesW (bits most:Nat) (_hb:bits<4294967296) (hm:most<256) (w:World):Calls Tryz.prog 9 #[.int .u32 bits,.int .u8 most] w fun en w'=>en=.returned (.bool true)∧Upd noBlk w w':=by
 have HS:=fun W=>Lib.hid (sanity_any W);obtain ⟨B,hB⟩:∃B,B=bits % 134217728:=⟨_,rfl⟩;have hmask:=u32_mask bits;rw [←hB] at hmask;have hB2:B<134217728:=by omega
 have hBw:wrap64 (B:Int)=(B:Int):=by unfold wrap64;omega
 have HVX:=fun W=>Lib.hid (Voxels_any (B:Int) 9 (1,1,1) W ⟨by omega,by omega⟩ ⟨by decide,by decide⟩ ⟨by decide,by decide⟩ ⟨by decide,by decide⟩ ⟨by decide,by decide⟩);have HIN:=Lib.hid (faces_in (B:Int));obtain ⟨T,hT⟩:∃T,T=voxelsT (B:Int) 9 (1,1,1):=⟨_,rfl⟩;rw [←hT] at HVX HIN;obtain ⟨n0,hn0⟩:∃n0,n0=most % 128:=⟨_,rfl⟩;obtain ⟨N,hN⟩:∃N,N=1+n0:=⟨_,rfl⟩;have hN1:(1:Int)≤(N:Int):=by omega
 have hN2:(N:Int)≤128:=by omega
 have HN:Hid (1≤N∧N≤128):=⟨by omega,by omega⟩;have hmod:((most:Int)) % 128=(n0:Int):=by omega
 have hnm:1+(n0:Int)=(N:Int):=by omega
 have hn1:(n0:Int)≤127:=by omega
 have hmI:(most:Int)≤255:=by omega
 clear hT hB hm hN hB2 hn0;unfold ptV at HVX;go_enter Tryz.func9,Tryz.ntmps9
 go_wp2_with fail
 refine (HS _).out.mono ?_;rintro e w1 ⟨rfl,u1⟩;have U1:=Lib.hid u1;clear u1 HS;go_wp2_with fail
 refine (HVX w1).out.mono ?_;rintro e w2 ⟨vt,rfl,ho,hl,u2⟩;have U2:=Lib.hid (U1.out.trans u2);have HTL:Hid (T.length≤324):=hl;have HCN:=Lib.hid (hCanon_any vt T (by omega) w2 ho.rd);clear ho hl u2 HVX U1 hmask hBw;go_wp2_with fail
 refine HCN.out.mono ?_;rintro e w3 ⟨vc,rfl,hc,u3⟩;have U3:=Lib.hid (U2.out.trans u3);have HC3:=Lib.hid hc;have HCL:Hid ((canon T).length≤324):=by show _≤_;rw [canon_length];exact HTL.out
 have HPP:=fun x m y (h:canon T=x++m++y) (hc:checkO (canon T)=0) (hm:m.length≤128)=>part_packs h hc HIN.out hm;have HOK:Hid (∀t,t∈canon T→okT t):=fun t ht=>okT_of (canon_inT HIN.out t ht);obtain ⟨C,hC⟩:∃C,C=canon T:=⟨_,rfl⟩;rw [←hC] at HC3 HCL HPP HOK;have HCK:=Lib.hid (hCheck_any vc C (by have:=HCL.out;omega) w3 HC3.out);clear hC hc u3 HCN U2 HTL HIN;go_wp2_with fail
 refine HCK.out.mono ?_;rintro e w4 ⟨rfl,u4⟩;have U4:=Lib.hid (U3.out.trans u4);have HC4:=Lib.hid (HC3.out.keep u4);clear u4 HCK U3 HC3;rcases hck:checkR false C with _ | n
 ·have HZ:=Lib.hid hck;have HPK:Hid (∀j k,j≤C.length→k≤128→openN (clusterN ((C.drop j).take k))=some ((C.drop j).take k)):=fun j k _ hk=>HPP (C.take j) ((C.drop j).take k) ((C.drop j).drop k) (by rw [List.append_assoc,List.take_append_drop,List.take_append_drop]) (checkR_zero HZ.out) (by rw [List.length_take];omega);clear hck HPP;go_wp2_with fail
  clear hmod hmI hn1;go_loopw [6,7] (fun t o wr=>∃j,j≤C.length∧kTri.Rd w4 t (C.drop j)∧kTri.Own w4.heap.size wr o (C.take j)∧Upd noBlk w4 wr) (fun t _ _=>lenV t)
  case atStart=>exact ⟨0,Nat.zero_le _,HC4.out,Kd.Own.nil _ _ _,Upd.refl _ _⟩
  case round=>
   obtain ⟨j,hj,ht,ho,hu⟩:=hrel;have HT:=Lib.hid ht;have HO:=Lib.hid ho;have HU:=Lib.hid hu;have HJ:Hid (j≤C.length):=hj;have HD:Hid (C.drop j=C.drop j):=rfl;obtain ⟨At,ct,rfl,hct,_⟩:=id ht;obtain ⟨Ao,co,rfl,_⟩:=id ho.form;have HTL:Hid ((C.take j).length=j):=by show _=_;rw [List.length_take,Nat.min_eq_left hj]
   have HDL:Hid ((C.drop j).length=C.length-j):=List.length_drop;obtain ⟨L,hL⟩:∃L,L=C.length-j:=⟨_,rfl⟩;rw [←hL] at HDL;rw [HDL.out] at HT hct;rw [HTL.out] at HO;rw [HDL.out,HTL.out];have hLI:(L:Int)≤324:=by have:=HCL.out;omega
   clear ht ho hu hj;by_cases hl:0<L
   ·have hlI:(0:Int)<(L:Int):=by omega
    obtain ⟨k,hk⟩:∃k,k=min N L:=⟨_,rfl⟩;have hmin:min (N:Int) (L:Int)=(k:Int):=by omega
    have hkL:k≤L:=by omega
    have hk1:1≤k:=by have:=HN.out;omega
    have hk128:k≤128:=by have:=HN.out;omega
    have HK:Hid (k≤L∧1≤k∧k≤128∧L=C.length-j):=⟨hkL,hk1,hk128,hL⟩;have hkc:(k:Int)≤(ct:Int):=by omega
    have hk0:(0:Int)≤(k:Int):=by omega
    obtain ⟨m,hm⟩:∃m,m=(C.drop j).take k:=⟨_,rfl⟩;have HML:Hid (m.length=k):=by show _=_;rw [hm,List.length_take,HDL.out];omega
    have hr0:kTri.Rd w4 (.slice At (C.drop j).length ct) (C.drop j):=by rw [HDL.out];exact HT.out
    have hr1:=hr0.takeV k (by rw [HDL.out];exact hkL);rw [←hm] at hr1;have HCLU:=Lib.hid (Cluster_any (.slice At k ct) m (by rw [HML.out];omega) (fun t ht=>HOK.out t (List.mem_of_mem_drop (List.mem_of_mem_take (by rw [←hm];exact ht)))) wr (Kd.Rd.keep hr1 HU.out));have HOPN:=fun W=>Lib.hid (OpenCluster_any (clusterN m) (clusterN_lt _) W);have hpk:=HPK.out j k HJ.out hk128;rw [←hm] at hpk;rw [hpk] at HOPN;have HCC:Hid (C.take (j+k)=C.take j++m):=by show _=_;rw [hm,List.take_add]
    have HDD:Hid (C.drop (j+k)=(C.drop j).drop k):=by show _=_;rw [List.drop_drop]
    have hdr0:=hr0.dropV k (by rw [HDL.out];exact hkL);rw [HDL.out,←HDD.out] at hdr0;have HDR:=Lib.hid hdr0;clear hk hkL hk1 hk128 hm hr0 hr1 hpk hdr0 hl hL hct;go_wp2_with fail
    refine HCLU.out.mono ?_;rintro e w5 ⟨rfl,u5⟩;have U5:=Lib.hid (HU.out.trans u5);have V5:=Lib.hid u5;have HO5:=HOPN w5;clear u5 HCLU HOPN;go_wp2_with fail
    refine HO5.out.mono ?_;rintro e w6 ⟨u6,vl,rfl,hvl⟩;obtain ⟨Al,cl,rfl,_⟩:=Kd.Rd.form2 hvl;have HVL:=Lib.hid hvl;have U6:=Lib.hid (U5.out.trans u6);have V6:=Lib.hid (V5.out.trans u6);rw [HML.out];have ho6:kTri.Own w4.heap.size w6 (.slice Ao (C.take j).length co) (C.take j):=by rw [HTL.out];exact Kd.Own.upd HO.out V6.out
    obtain ⟨A7,c7,w7,r7,o7,v7⟩:=ho6.appR U6.out.size hvl (by rw [HTL.out,HML.out];have:=HJ.out;have:=HCL.out;have:=HK.out;omega);rw [HTL.out,HML.out] at r7;have R7:=Lib.hid r7;have U7:=Lib.hid (U6.out.then v7 (fun i hi e=>absurd hi (by have:=(ho6.blk e).1;omega)));have HO7:Hid (kTri.Own w4.heap.size w7 (.slice A7 (j+k) c7) (C.take (j+k))):=by
     rw [HTL.out,HML.out] at o7;show Kd.Own _ _ _ _ _;rw [HCC.out];exact o7
    have HDR7:Hid (kTri.Rd w4 (dropV At L ct k 9) (C.drop (j+k))):=HDR.out;have HJK:Hid (j+k≤C.length):=by have:=HJ.out;have:=HK.out;show _≤_;omega
    have HLK:Hid (L-k<L):=by have:=HK.out;show _<_;omega
    clear r7 o7 v7 hvl u6 HO5 ho6 U5 V5 HDR HVL V6 U6 HCC HDD;unfold dropV at HDR7;by_cases hc:ct=k
    ·subst hc;simp only [if_true,Nat.sub_self] at HDR7;cases At with
     | none=>
      go_wp2_with (at_builtin;refine wpList_append_run rfl _ _ _ rfl rfl rfl R7.out ?_)
      go_roundw
      case rel=>exact ⟨_,HJK.out,HDR7.out,HO7.out,U7.out⟩
      case measure=>exact HLK.out
     | some a=>
      go_wp2_with (at_builtin;refine wpList_append_run rfl _ _ _ rfl rfl rfl R7.out ?_)
      go_roundw
      case rel=>exact ⟨_,HJK.out,HDR7.out,HO7.out,U7.out⟩
      case measure=>exact HLK.out
    ·simp only [if_neg hc] at HDR7;cases At with
     | none=>
      simp only [Option.map_none] at HDR7;go_wp2_with (at_builtin;refine wpList_append_run rfl _ _ _ rfl rfl rfl R7.out ?_)
      go_roundw
      case rel=>exact ⟨_,HJK.out,HDR7.out,HO7.out,U7.out⟩
      case measure=>exact HLK.out
     | some a=>
      simp only [Option.map_some] at HDR7;go_wp2_with (at_builtin;refine wpList_append_run rfl _ _ _ rfl rfl rfl R7.out ?_)
      go_roundw
      case rel=>exact ⟨_,HJK.out,HDR7.out,HO7.out,U7.out⟩
      case measure=>exact HLK.out
   ·obtain rfl:j=C.length:=by have:=HJ.out;omega
    have hl0:(L:Int)=0:=by omega
    clear hL hct HDL HT;have h1:=HO.out;rw [List.take_length] at h1;have HCX:=Lib.hid (hCheck_any (.slice Ao C.length co) C (by have:=HCL.out;omega) wr h1.rd);rw [HZ.out] at HCX;clear h1;go_wp2_with fail
    refine HCX.out.mono ?_;rintro e w5 ⟨rfl,u5⟩;have U5:=Lib.hid (HU.out.trans u5);clear u5 HCX;go_wp2_with fail
    go_ret
    exact ⟨rfl,U4.out.trans U5.out⟩
 ·have hne:¬((n+1:Nat):Int)=0:=by omega
  clear hck HPP;go_wp2_with fail
  go_ret
  exact ⟨rfl,U4.out⟩
theorem lawPackFaces_c (n c:Int) (hn:Lit.wf (.int .u32 n)=true) (hc:Lit.wf (.int .u8 c)=true) (w:World):Calls Tryz.prog 9 #[.int .u32 n,.int .u8 c] w fun en w'=>en=.returned (.bool true)∧Upd noBlk w w':=by
 have h1:0≤n∧n≤4294967295:=by
  simp [Lit.wf,IntKind.min,IntKind.max,IntKind.signed,IntKind.bits] at hn;omega
 have h2:0≤c∧c≤255:=by
  simp [Lit.wf,IntKind.min,IntKind.max,IntKind.signed,IntKind.bits] at hc;omega
 obtain ⟨b,rfl⟩:∃b:Nat,n=(b:Int):=⟨n.toNat,by omega⟩;obtain ⟨m,rfl⟩:∃m:Nat,c=(m:Int):=⟨c.toNat,by omega⟩;exact facesW b m (by omega) (by omega) w
end Go.Proofs.YtcikldoaidmnhaaGreatDoor
