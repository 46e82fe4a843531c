/- Parts: Parts as plain bytes and back. No condition. The packet of the group that fields determine: how long it is, and that it reads back. No condition. The triangles of a shape are small. No condition. The triangles of a shape. No condition. Walks of the reference of packets: equal groups compared. No condition. -/
import Derived.Test.YtcikldoaidmnhaaGreatDoorQKeep6
import Derived.Test.YtcikldoaidmnhaaGreatDoorQKeep9
import Derived.Test.YtcikldoaidmnhaaGreatDoorQKeep19
import Derived.Test.YtcikldoaidmnhaaGreatDoorQKeep20
import Derived.Test.YtcikldoaidmnhaaGreatDoorQKeep24
import Derived.Test.YtcikldoaidmnhaaGreatDoorQKeep31
namespace Go.Proofs.YtcikldoaidmnhaaGreatDoor
open Go Go.RowKit Pk
set_option maxRecDepth 100000
theorem u32_mask (b:Nat):bits .and .u32 (b:Int) 134217727=((b % 134217728:Nat):Int):=by
 have h127:(BitVec.ofInt 32 134217727).toNat=2 ^ 27-1:=by decide
 have key:(BitVec.ofInt 32 (b:Int) &&& BitVec.ofInt 32 134217727).toNat=b % 2 ^ 27:=by
  rw [BitVec.toNat_and,BitVec.ofInt_natCast,BitVec.toNat_ofNat,h127,Nat.and_two_pow_sub_one_eq_mod];omega
 show IntKind.u32.wrap ((BitVec.ofInt 32 (b:Int) &&& BitVec.ofInt 32 134217727).toNat:Nat)=_;rw [key,IntKind.wrap_u32];omega
theorem Kd.Rd.drop {P:Program} {α:Type} {K:Kd P α} {w:World} {A:Option Addr} {n cap:Nat} {l:List α} (h:K.Rd w (.slice A n cap) l) (k:Nat) (hk:k<l.length):∃b off,A=some ⟨b,off,none⟩∧K.Rd w (.slice (some ⟨b,off+k*K.k,none⟩) (l.length-k) (cap-k)) (l.drop k):=by
 obtain ⟨A',cap',e,hc,hx⟩:=h;cases e;obtain ⟨b,off,rfl,hx2⟩:=hx (by omega);refine ⟨b,off,rfl,_,cap-k,by rw [List.length_drop],by rw [List.length_drop];omega,fun _=>⟨b,off+k*K.k,rfl,fun j hj=>?_⟩⟩;rw [List.getElem_drop];have h2:=hx2 (k+j) (by rw [List.length_drop] at hj;omega);rw [Nat.add_mul,←Nat.add_assoc] at h2;exact h2
theorem Kd.Rd.take {P:Program} {α:Type} {K:Kd P α} {w:World} {A:Option Addr} {n cap:Nat} {l:List α} (h:K.Rd w (.slice A n cap) l) (k:Nat) (hk:k≤l.length):K.Rd w (.slice A k cap) (l.take k):=by
 obtain ⟨A',cap',e,hc,hx⟩:=h;cases e;have hlen:(l.take k).length=k:=by rw [List.length_take];omega
 refine ⟨A,cap,by rw [hlen],by rw [hlen];omega,fun h0=>?_⟩;obtain ⟨b,off,rfl,hx2⟩:=hx (by omega);refine ⟨b,off,rfl,fun j hj=>?_⟩;rw [List.getElem_take];exact hx2 j (by omega)
set_option maxHeartbeats 4000000 in
theorem tris_any (x:SV) (vh:Value) (w:World) (hx:x.Ok) (h:kInt.Rd w vh x.heights):Calls Tryz.prog 15 #[x.V vh] w fun en w'=>∃v,en=.returned v∧kTri.Rd w' v x.tris∧x.tris.length≤200∧Upd noBlk w w':=by
 obtain ⟨op,bits,side,heights,frm,many,q0,q1,q2⟩:=x;obtain ⟨T,hT⟩:∃T,T=(SV.mk op bits side heights frm many q0 q1 q2).tris:=⟨_,rfl⟩;have HT:=Lib.hid hT;rw [←hT];clear hT;have hx1:bits<4294967296:=hx.bits;have hx2:side<4294967296:=hx.side;have hx4:frm<256:=hx.frm;have hx5:many<256:=hx.many;have hx3:heights.length≤9223372036854775807:=hx.heights;have hh:kInt.Rd w vh heights:=h;clear hx h;unfold SV.V;simp only;have HVX:=fun W=>Lib.hid (Voxels_any ((bits % 134217728:Nat):Int) (1+((side % 600000:Nat):Int)) (7,5,0) W ⟨by omega,by omega⟩ ⟨by omega,by omega⟩ (by decide) (by decide) (by decide));obtain ⟨VT,hVT⟩:∃VT,VT=voxelsT ((bits % 134217728:Nat):Int) (1+((side % 600000:Nat):Int)) (7,5,0):=⟨_,rfl⟩;rw [←hVT] at HVX;have HHI:Hid (∀W A cap,Upd noBlk w W→kInt.Rd W (.slice A (heights.take 49).length cap) (heights.take 49)→Calls Tryz.prog 40 #[.int .i64 ((bits % 6:Nat):Int),.int .i64 (1+((side % 1000:Nat):Int)),.slice A (heights.take 49).length cap] W fun en w'=>∃v,en=.returned v∧kTri.Own W.heap.size w' v (hillsT ((bits % 6:Nat):Int) (1+((side % 1000:Nat):Int)) (heights.take 49))∧(hillsT ((bits % 6:Nat):Int) (1+((side % 1000:Nat):Int)) (heights.take 49)).length≤72∧Upd noBlk W w'):=fun W A cap _ hr=>Hills_any _ _ _ _ W (by omega) (by omega) (by rw [List.length_take];omega) hr;obtain ⟨HTT,hHT⟩:∃HTT,HTT=hillsT ((bits % 6:Nat):Int) (1+((side % 1000:Nat):Int)) (heights.take 49):=⟨_,rfl⟩;rw [←hHT] at HHI;have HBASE:Hid ((SV.mk op bits side heights frm many q0 q1 q2).base=if op then HTT else VT):=by show _=_;rw [hHT,hVT];rfl
 clear hVT hHT;obtain ⟨Ah,ch,rfl,hch,hxh⟩:=hh;have hh:kInt.Rd w (.slice Ah heights.length ch) heights:=⟨Ah,ch,rfl,hch,hxh⟩;have HHD:Hid (∀W,Upd noBlk w W→kInt.Rd W (.slice Ah (heights.take 49).length ch) (heights.take 49)):=fun W hW=>by
  have:=(hh.keep hW).take (min heights.length 49) (Nat.min_le_left _ _);have e:heights.take (min heights.length 49)=heights.take 49:=by
   by_cases h9:heights.length≤49
   ·rw [Nat.min_eq_left h9,List.take_of_length_le (Nat.le_refl _),List.take_of_length_le h9]
   ·rw [Nat.min_eq_right (by omega)]
  rw [e] at this;rw [List.length_take,Nat.min_comm];exact this
 obtain ⟨mh,hmh⟩:∃mh,mh=(heights.take 49).length:=⟨_,rfl⟩;rw [←hmh] at HHI HHD;have hmn:min (heights.length:Int) 49=(mh:Int):=by rw [hmh,List.length_take];omega
 have hmc:(mh:Int)≤(ch:Int):=by rw [hmh,List.length_take];omega
 have hhl:(heights.length:Int)≤9223372036854775807:=by omega
 have hm49:mh≤49:=by rw [hmh,List.length_take];omega
 clear hmh hxh hh hx3 hch;have HC:=heap_alloc_new w (.cells #[.bool op,.int .u32 bits,.int .u32 side,.slice Ah heights.length ch,.int .u8 frm,.int .u8 many,.int .i64 q0,.int .i64 q1,.int .i64 q2] 26);have HX:=Lib.hid HC;have HU0:=Lib.hid ((Upd.refl noBlk w).alloc (.cells #[.bool op,.int .u32 bits,.int .u32 side,.slice Ah heights.length ch,.int .u8 frm,.int .u8 many,.int .i64 q0,.int .i64 q1,.int .i64 q2] 26));clear HC;have hmask:=u32_mask bits;have hr1:(side:Int) % 600000=((side % 600000:Nat):Int):=by omega
 have hr2:(bits:Int) % 6=((bits % 6:Nat):Int):=by omega
 have hr3:(side:Int) % 1000=((side % 1000:Nat):Int):=by omega
 have hr4:(bits:Int).tmod 6=((bits % 6:Nat):Int):=by rw [Int.tmod_eq_emod_of_nonneg (by omega)];omega
 have hr5:(side:Int).tmod 1000=((side % 1000:Nat):Int):=by rw [Int.tmod_eq_emod_of_nonneg (by omega)];omega
 obtain ⟨s6,hs6⟩:∃s,s=side % 600000:=⟨_,rfl⟩;obtain ⟨b6,hb6⟩:∃s,s=bits % 6:=⟨_,rfl⟩;obtain ⟨s1,hs1⟩:∃s,s=side % 1000:=⟨_,rfl⟩;obtain ⟨bm,hbm⟩:∃s,s=bits % 134217728:=⟨_,rfl⟩;rw [←hs6] at hr1 HVX;rw [←hb6] at hr2 hr4 HHI;rw [←hs1] at hr3 hr5 HHI;rw [←hbm] at hmask HVX;have ks6:(s6:Int)<600000:=by omega
 have kb6:(b6:Int)<6:=by omega
 have ks1:(s1:Int)<1000:=by omega
 have kbm:(bm:Int)<134217728:=by omega
 have v1:IntKind.i64.wrap (bm:Int)=(bm:Int):=wrapN (by omega) (by omega);have v2:IntKind.i64.wrap (s6:Int)=(s6:Int):=wrapN (by omega) (by omega);have v3:IntKind.i64.wrap (1+(s6:Int))=1+(s6:Int):=wrapN (by omega) (by omega);have v4:IntKind.i64.wrap (b6:Int)=(b6:Int):=wrapN (by omega) (by omega);have v5:IntKind.i64.wrap (s1:Int)=(s1:Int):=wrapN (by omega) (by omega);have v6:IntKind.i64.wrap (1+(s1:Int))=1+(s1:Int):=wrapN (by omega) (by omega);clear ks6 kb6 ks1 kbm;have HF4:Hid (frm<256):=hx4;have HF5:Hid (many<256):=hx5;have HM49:Hid (mh≤49):=hm49;clear hs6 hb6 hs1 hbm hx1 hx2 hx4 hx5 hm49;go_enter Tryz.func15,Tryz.ntmps15
 go_upto_region 1 with fail
 obtain ⟨xb,hxb⟩:∃xb,xb=w.heap.size:=⟨_,rfl⟩;have HXB:Hid (w.heap.size≤xb):=by show _≤_;omega
 rw [←hxb] at HX ⊢;clear hxb;generalize w.alloc (.cells #[.bool op,.int .u32 bits,.int .u32 side,.slice Ah heights.length ch,.int .u8 frm,.int .u8 many,.int .i64 q0,.int .i64 q1,.int .i64 q2] 26)=w1 at *;have HV1:=HVX w1;obtain ⟨g0,g1,g2,g3,g4,g5,g6,g7,g8⟩:=cells9 HX.out;go_wp2_with fail
 refine HV1.out.mono ?_;rintro e w2 ⟨vv,rfl,ov,lv,u2⟩;have HX2:=Lib.hid (u2.heap HX.out id);have HU2:=Lib.hid (HU0.out.trans u2);have HOV:=Lib.hid (ov.mono (Nat.zero_le _)).rd;have HLV:Hid (VT.length≤324):=lv;clear g0 g1 g2 g3 g4 g5 g6 g7 g8 ov lv u2 HV1 HVX HX HU0;obtain ⟨B,hB⟩:∃B,B=(SV.mk op bits side heights frm many q0 q1 q2).base:=⟨_,rfl⟩;rw [←hB] at HBASE;have HTB:Hid (T=if B=[] then [] else spoilT ((B.drop (frm % B.length)).take (many % 141)) q0 q1 q2):=by show _=_;rw [HT.out,hB];rfl
 clear hB HT;obtain ⟨g0,g1,g2,g3,g4,g5,g6,g7,g8⟩:=cells9 HX2.out;go_upto_if 16 with fail
 clear g0 g1 g2 g3 g4 g5 g6 g7 g8;go_cut [3,16] (fun c _ wc=>kTri.Rd wc c B∧B.length≤324∧Upd noBlk w2 wc)
 case first=>
  cases op with
  | false=>
   have HBV:Hid (B=VT):=HBASE.out;go_wp2_with fail
   go_meet
   rw [HBV.out];exact ⟨HOV.out,HLV.out,Upd.refl _ _⟩
  | true=>
   have HBV:Hid (B=HTT):=HBASE.out;go_wp2_with fail
   refine wp_region_tree 17 (OT.sures [0,4,9,11,1,5,10,12,2,6,13,3,7,14,8,15] (.run 16 .nil)) (fun w'=>Upd noBlk w2 w') (by kernel_rfl) (by kernel_rfl) (fun c a d v w h=>by cases d<;>exact h) ((Upd.refl noBlk w2).drew) ?_
   simp only [OT.sures]
   iterate 16 (apply wpT_sure rfl rfl;focus (intro w' hw';obtain ⟨g0,g1,g2,g3,g4,g5,g6,g7,g8⟩:=cells9 (hw'.heap HX2.out id);go_simp;rfl))
   refine wpT_run (fun w'=>Upd noBlk w2 w') (fun _ h=>h) rfl (fun K' hK=>?_);go_simp
   refine (HHI.out _ Ah ch (HU2.out.trans (Upd.refl noBlk w2).drew) (HHD.out _ (HU2.out.trans (Upd.refl noBlk w2).drew))).mono ?_;rintro e wz ⟨vz,rfl,oz,lz,uz⟩;have HOZ:=Lib.hid (oz.mono (Nat.zero_le _)).rd;have HLZ:Hid (HTT.length≤72):=lz;have HUZ:=Lib.hid ((Upd.refl noBlk w2).drew.trans uz);refine hK _ _ ⟨HUZ.out,?_⟩;clear hK K' oz lz uz;refine wpT_nil ?_;go_wp2_with fail
   go_meet
   rw [HBV.out];exact ⟨HOZ.out,by have:=HLZ.out;omega,HUZ.out⟩
 case rest=>
  obtain ⟨hrd,hl3,hu⟩:=hcut;have HRB:=Lib.hid hrd;have HU3:=Lib.hid (HU2.out.trans hu);have HX3:=Lib.hid (hu.heap HX2.out id);have HL3:Hid (B.length≤324):=hl3;have hl3':(B.length:Int)≤324:=by omega
  obtain ⟨AB,cB,rfl,hcB,_⟩:=hrd;clear hu hl3 HBASE HHI HHD HU2 HX2 HOV HLV v1 v2 v3 v4 v5 v6 hmask hr1 hr2 hr3 hr4 hr5 hmn hmc hhl;by_cases hB0:B.length=0
  ·have hBn:B=[]:=List.eq_nil_of_length_eq_zero hB0;have HTN:Hid (T=[]):=by show _=_;rw [HTB.out,if_pos hBn]
   have hB0':(B.length:Int)=0:=by omega
   go_wp2_with fail
   go_ret
   rw [HTN.out];exact ⟨_,rfl,Kd.Rd.nil _ _,by simp,HU3.out⟩
  ·obtain ⟨k,hk⟩:∃k,k=frm % B.length:=⟨_,rfl⟩;have hkl:k<B.length:=by rw [hk];exact Nat.mod_lt _ (by omega)
   obtain ⟨b,off,rfl,hrd2⟩:=HRB.out.drop k hkl;have HRD2:=Lib.hid hrd2;have HTS:Hid (T=spoilT ((B.drop k).take (many % 141)) q0 q1 q2):=by show _=_;rw [HTB.out,if_neg (fun e=>hB0 (by rw [e];rfl)),hk]
   have hne:¬(B.length:Int)=0:=by omega
   have hkm:(frm:Int).tmod (B.length:Int)=(k:Int):=by rw [hk,Int.tmod_eq_emod_of_nonneg (by omega)];push_cast;rfl
   have hkm2:(frm:Int) % (B.length:Int)=(k:Int):=by rw [hk];push_cast;rfl
   have hfw:IntKind.i64.wrap (frm:Int)=(frm:Int):=wrapN (by omega) (by have:=HF4.out;omega);have hkl':(k:Int)≤(B.length:Int):=by omega
   have hkc':(B.length:Int)≤(cB:Int):=by omega
   have hkc:¬k=cB:=by omega
   have hkc2:¬cB=k:=by omega
   have hadd:(⟨b,off,none⟩:Addr).add (k*9)=⟨b,off+k*9,none⟩:=Addr.add_mid _ _ _;have hk9:kTri.k=9:=rfl;have HBL:Hid (k<B.length∧B.length≤cB):=⟨hkl,hcB⟩;obtain ⟨g0,g1,g2,g3,g4,g5,g6,g7,g8⟩:=cells9 HX3.out;clear hk hrd2 hkl hcB HTB HRB;go_upto_region 7 with fail
   clear g0 g1 g2 g3 g4 g5 g6 g7 g8;obtain ⟨d,hd⟩:∃d,d=B.length-k:=⟨_,rfl⟩;obtain ⟨e,he⟩:∃e,e=cB-k:=⟨_,rfl⟩;rw [←hd,←he] at HRD2 ⊢;obtain ⟨m2,hm2⟩:∃m2,m2=min d (many % 141):=⟨_,rfl⟩;have hmm:min (d:Int) ((many:Int) % 141)=(m2:Int):=by rw [hm2];omega
   have hmt:min (d:Int) ((many:Int).tmod 141)=(m2:Int):=by rw [Int.tmod_eq_emod_of_nonneg (by omega)];exact hmm
   have hmw:IntKind.i64.wrap (many:Int)=(many:Int):=wrapN (by omega) (by have:=HF5.out;omega);have hdl:(d:Int)≤324:=by omega
   have hde:(d:Int)≤(e:Int):=by have:=HBL.out;omega
   have hm2d:(m2:Int)≤(e:Int):=by rw [hm2];have:=HBL.out;omega
   have hDL:(B.drop k).length=d:=by rw [List.length_drop,hd]
   have hr3:=HRD2.out.take m2 (by rw [hDL,hm2];exact Nat.min_le_left _ _);have hte:(B.drop k).take m2=(B.drop k).take (many % 141):=by
    rw [hm2];by_cases h:d≤many % 141
    ·rw [Nat.min_eq_left h,List.take_of_length_le (by omega),List.take_of_length_le (by omega)]
    ·rw [Nat.min_eq_right (by omega)]
   rw [hte] at hr3;have hml:((B.drop k).take (many % 141)).length≤140:=by rw [List.length_take];omega
   have HML:Hid (((B.drop k).take (many % 141)).length≤140):=hml;obtain ⟨PT,hPT⟩:∃PT,PT=(B.drop k).take (many % 141):=⟨_,rfl⟩;rw [←hPT] at HTS HML hr3;have HR3:=Lib.hid hr3;rw [hk9] at HR3;have HTL:Hid (T.length≤200):=by show _≤_;rw [HTS.out];have:=spoilT_len PT q0 q1 q2;have:=HML.out;omega
   clear hPT hml hte hr3 hDL hd he hm2 HRD2 HBL;go_wp2_with fail
   refine wp_region_tree 12 (OT.sures [0,1,3,9,2,4,10,5,6,7,8] (.run 11 .nil)) (fun w'=>Upd noBlk wc w') (by kernel_rfl) (by kernel_rfl) (fun c a d v w h=>by cases d<;>exact h) ((Upd.refl noBlk wc).drew) ?_
   simp only [OT.sures]
   iterate 11 (apply wpT_sure rfl rfl;focus (intro w' hw';obtain ⟨g0,g1,g2,g3,g4,g5,g6,g7,g8⟩:=cells9 (hw'.heap HX3.out id);go_simp;rfl))
   refine wpT_run (fun w'=>Upd noBlk wc w') (fun _ h=>h) rfl (fun K' hK=>?_);go_simp
   refine (Spoiled_any _ PT q0 q1 q2 _ (by have:=HML.out;omega) (HR3.out.keep (Upd.refl noBlk wc).drew)).mono ?_;rintro e wz ⟨vz,rfl,oz,uz⟩;have HOZ:=Lib.hid oz;have HUZ:=Lib.hid ((Upd.refl noBlk wc).drew.trans uz);refine hK _ _ ⟨HUZ.out,?_⟩;clear hK K' oz uz;refine wpT_nil ?_;go_wp2_with fail
   go_ret
   rw [HTS.out];exact ⟨_,rfl,HOZ.out,by rw [←HTS.out];exact HTL.out,HU3.out.trans HUZ.out⟩
end Go.Proofs.YtcikldoaidmnhaaGreatDoor
namespace Go.Proofs.YtcikldoaidmnhaaGreatDoor
open Go Go.RowKit Pk
def smP (p:Pt):Prop:=(0≤p.1∧p.1≤10000000)∧(0≤p.2.1∧p.2.1≤10000000)∧(0≤p.2.2∧p.2.2≤10000000)
def smT (t:Tri):Prop:=smP t.1∧smP t.2.1∧smP t.2.2
theorem smP_z:smP (0,0,0):=⟨⟨by decide,by decide⟩,⟨by decide,by decide⟩,⟨by decide,by decide⟩⟩
theorem smT_z:smT z3:=⟨smP_z,smP_z,smP_z⟩
theorem smT_ok {t:Tri} (h:smT t):okT t:=by
 obtain ⟨⟨a,b,c⟩,⟨d,e,f⟩,⟨g,i,j⟩⟩:=h;refine ⟨⟨?_,?_,?_⟩,⟨?_,?_,?_⟩,⟨?_,?_,?_⟩⟩<;>(first | omega | (constructor<;>omega))
theorem getD_sm {l:List Tri} (h:∀t,t∈l→smT t) (i:Nat):smT (l.getD i z3):=by
 rw [List.getD_eq_getElem?_getD];cases hg:l[i]? with
 | none=>exact smT_z
 | some t=>exact h t (List.mem_of_getElem? hg)
theorem quad_sm {a b c d:Pt} (ha:smP a) (hb:smP b) (hc:smP c) (hd:smP d):∀t,t∈quadT a b c d→smT t:=by
 intro t ht;simp only [quadT,List.mem_cons,List.not_mem_nil,or_false] at ht;rcases ht with rfl | rfl
 ·exact ⟨ha,hb,hc⟩
 ·exact ⟨ha,hc,hd⟩
theorem app_sm {a b:List Tri} (ha:∀t,t∈a→smT t) (hb:∀t,t∈b→smT t):∀t,t∈a++b→smT t:=fun t ht=>(List.mem_append.1 ht).elim (ha t) (hb t)
theorem small_mul {a b s:Int} (ha:0≤a) (hab:a≤b) (hs:0≤s) (hm:s≤1000000) (hb:b≤8):0≤a*s∧a*s≤8000000:=
 ⟨Int.mul_nonneg ha hs,Int.le_trans (Int.mul_le_mul (by omega:a≤8) hm hs (by decide)) (by decide)⟩
theorem cubeP_sm {p:Pt} {s:Int} (hp:(0≤p.1∧p.1≤1900000)∧(0≤p.2.1∧p.2.1≤1900000)∧(0≤p.2.2∧p.2.2≤1900000)) (h0:0≤s) (h1:s≤1000000) (n:Nat) (hn:n<8):smP (cubeP p s n):=by
 obtain ⟨⟨a,b⟩,⟨c,d⟩,⟨e,f⟩⟩:=hp;have k1:=small_mul (a:=((n % 2:Nat):Int)) (b:=8) (by omega) (by omega) h0 h1 (by decide);have k2:=small_mul (a:=((n / 2 % 2:Nat):Int)) (b:=8) (by omega) (by omega) h0 h1 (by decide);have k3:=small_mul (a:=((n / 4:Nat):Int)) (b:=8) (by omega) (by omega) h0 h1 (by decide);unfold cubeP smP;simp only;generalize ((n % 2:Nat):Int)*s=x at *;generalize ((n / 2 % 2:Nat):Int)*s=y at *;generalize ((n / 4:Nat):Int)*s=z at *;omega
theorem cube_sm {p:Pt} {s:Int} (hp:(0≤p.1∧p.1≤1900000)∧(0≤p.2.1∧p.2.1≤1900000)∧(0≤p.2.2∧p.2.2≤1900000)) (h0:0≤s) (h1:s≤1000000):∀t,t∈cubeT p s→smT t:=by
 have h:=fun n hn=>cubeP_sm hp h0 h1 n hn;unfold cubeT;exact app_sm (app_sm (app_sm (app_sm (app_sm (quad_sm (h 0 (by decide)) (h 2 (by decide)) (h 3 (by decide)) (h 1 (by decide))) (quad_sm (h 4 (by decide)) (h 5 (by decide)) (h 7 (by decide)) (h 6 (by decide)))) (quad_sm (h 0 (by decide)) (h 1 (by decide)) (h 5 (by decide)) (h 4 (by decide)))) (quad_sm (h 2 (by decide)) (h 6 (by decide)) (h 7 (by decide)) (h 3 (by decide)))) (quad_sm (h 0 (by decide)) (h 4 (by decide)) (h 6 (by decide)) (h 2 (by decide)))) (quad_sm (h 1 (by decide)) (h 3 (by decide)) (h 7 (by decide)) (h 5 (by decide)))
theorem voxels_sm {b s:Int} (h0:0≤s) (h1:s≤600000):∀t,t∈voxelsT b s (7,5,0)→smT t:=by
 intro t ht;obtain ⟨n,hn,ht⟩:=List.mem_flatMap.1 ht;have hn:=List.mem_range.1 hn;unfold cubeV at ht;split at ht
 ·obtain ⟨f,_,ht⟩:=List.mem_flatMap.1 ht;have k1:0≤((n % 3:Nat):Int)*s∧((n % 3:Nat):Int)*s≤1200000:=⟨Int.mul_nonneg (by omega) h0,Int.le_trans (Int.mul_le_mul (by omega:((n % 3:Nat):Int)≤2) h1 h0 (by decide)) (by decide)⟩;have k2:0≤((n / 3 % 3:Nat):Int)*s∧((n / 3 % 3:Nat):Int)*s≤1200000:=⟨Int.mul_nonneg (by omega) h0,Int.le_trans (Int.mul_le_mul (by omega:((n / 3 % 3:Nat):Int)≤2) h1 h0 (by decide)) (by decide)⟩;have k3:0≤((n / 9:Nat):Int)*s∧((n / 9:Nat):Int)*s≤1200000:=⟨Int.mul_nonneg (by omega) h0,Int.le_trans (Int.mul_le_mul (by omega:((n / 9:Nat):Int)≤2) h1 h0 (by decide)) (by decide)⟩;have hc:=cube_sm (p:=pointV s (7,5,0) n) (s:=s) (by
   unfold pointV;simp only;generalize ((n % 3:Nat):Int)*s=x at *;generalize ((n / 3 % 3:Nat):Int)*s=y at *;generalize ((n / 9:Nat):Int)*s=z at *;omega) h0 (by omega)
  unfold sideV at ht;split at ht
  ·cases ht
  ·simp only [List.mem_cons,List.not_mem_nil,or_false] at ht;rcases ht with rfl | rfl
   ·exact getD_sm hc _
   ·exact getD_sm hc _
 ·cases ht
theorem hillP_sm {s:Int} (hs:List Int) (h0:0≤s) (h1:s≤1000) (x y:Nat) (hx:x≤8) (hy:y≤8):smP (hillP x y s hs):=by
 have k1:=small_mul (a:=(x:Int)) (b:=8) (by omega) (by omega) h0 (by omega) (by decide);have k2:=small_mul (a:=(y:Int)) (b:=8) (by omega) (by omega) h0 (by omega) (by decide);have k3:=modI_range (n:=hs.getD ((y*7+x) % hs.length) 0) (m:=64) (by decide);unfold hillP smP;simp only;generalize (x:Int)*s=a at *;generalize (y:Int)*s=b at *;split<;>omega
theorem hills_sm {n s:Int} (hs:List Int) (h0:0≤s) (h1:s≤1000):∀t,t∈hillsT n s hs→smT t:=by
 intro t ht;have h6:=hillsN_le n;obtain ⟨y,hy,ht⟩:=List.mem_flatMap.1 ht;obtain ⟨x,hx,ht⟩:=List.mem_flatMap.1 ht;have hy:=List.mem_range.1 hy;have hx:=List.mem_range.1 hx;exact quad_sm (hillP_sm hs h0 h1 x y (by omega) (by omega)) (hillP_sm hs h0 h1 (x+1) y (by omega) (by omega)) (hillP_sm hs h0 h1 (x+1) (y+1) (by omega) (by omega)) (hillP_sm hs h0 h1 x (y+1) (by omega) (by omega)) t ht
theorem set_sm {l:List Tri} (h:∀t,t∈l→smT t) (k:Nat) {x:Tri} (hx:smT x):∀t,t∈l.set k x→smT t:=fun t ht=>(List.mem_or_eq_of_mem_set ht).elim (h t) (fun e=>e ▸ hx)
theorem one_sm {x:Tri} (hx:smT x):∀t,t∈[x]→smT t:=fun t ht=>by rw [List.mem_singleton.1 ht];exact hx
theorem spoil_sm {l:List Tri} (h:∀t,t∈l→smT t) (q0 q1 q2:Int):∀t,t∈spoilT l q0 q1 q2→smT t:=by
 by_cases hl:l=[]
 ·subst hl;intro t ht;cases ht
 ·rw [spoilT_eq _ _ _ _ hl];generalize (modI q0 12).toNat=m;generalize (modI q1 l.length).toNat=k;generalize (modI q2 l.length).toNat=j;have hk:=getD_sm h k;have hj:=getD_sm h j;unfold spoilM;simp only;generalize l.getD k z3=u at *;generalize l.getD j z3=v at *;obtain ⟨a,b,c⟩:=hk;obtain ⟨d,e,f⟩:=hj;split
  ·exact app_sm (fun t ht=>h t (List.mem_of_mem_take ht)) (fun t ht=>h t (List.mem_of_mem_drop ht))
  ·exact set_sm h k ⟨a,c,b⟩
  ·exact app_sm h (one_sm ⟨d,e,f⟩)
  ·exact set_sm h k ⟨e,b,c⟩
  ·exact set_sm h k ⟨a,a,c⟩
  ·exact app_sm h (one_sm ⟨a,c,b⟩)
  ·intro t ht;obtain ⟨s,hs,rfl⟩:=List.mem_map.1 ht;obtain ⟨x,y,z⟩:=h s hs;refine ⟨?_,?_,?_⟩
   ·show smP (if s.1=v.2.2 then u.1 else s.1);split;exact a;exact x
   ·show smP (if s.2.1=v.2.2 then u.1 else s.2.1);split;exact a;exact y
   ·show smP (if s.2.2=v.2.2 then u.1 else s.2.2);split;exact a;exact z
  ·exact fun t ht=>h t (List.mem_of_mem_take ht)
  ·exact set_sm h k ⟨c,a,b⟩
  ·exact h
theorem SV.small (x:SV):∀t,t∈x.tris→smT t:=by
 have hb:∀t,t∈x.base→smT t:=by
  unfold SV.base;split
  ·exact hills_sm _ (by omega) (by omega)
  ·exact voxels_sm (by omega) (by omega)
 unfold SV.tris;split
 ·intro t ht;cases ht
 ·exact spoil_sm (fun t ht=>hb t (List.mem_of_mem_drop (List.mem_of_mem_take ht))) _ _ _
theorem SV.okT (x:SV):∀t,t∈x.tris→okT t:=fun t ht=>smT_ok (x.small t ht)
end Go.Proofs.YtcikldoaidmnhaaGreatDoor
namespace Go.Proofs.YtcikldoaidmnhaaGreatDoor
open Go Go.RowKit Pk
theorem good_plain (l:List P32):∀p,p∈l.map plainP→goodPart p:=fun p hp=>by
 obtain ⟨x,_,rfl⟩:=List.mem_map.1 hp;exact ⟨x.1.2,x.2.2⟩
end Go.Proofs.YtcikldoaidmnhaaGreatDoor
namespace Go.Proofs.YtcikldoaidmnhaaGreatDoor
open Go Go.RowKit Pk
set_option maxRecDepth 100000
theorem GV.good (y:GV):goodG y.g:=⟨fun p hp=>good_plain y.ins p hp,fun h hh=>by
 obtain ⟨p,_,rfl⟩:=List.mem_map.1 hh;exact p.2⟩
theorem FV.gv_ok {x:FV} (h:x.Ok):x.gv.Ok∧x.gv.ins.length≤10∧x.gv.outs.length≤10∧x.gv.moves.length≤10∧x.gv.mag.length≤40:=by
 have hm:x.gv.mag.length≤40:=by show (x.mag.take 40).length≤40;rw [List.length_take];omega
 refine ⟨⟨?_,?_,?_,by omega⟩,?_,?_,?_,hm⟩
 ·show x.level<_;have:=h.level;omega
 ·show x.err<_;have:=h.err;omega
 ·show x.total<_;have:=h.total;omega
 ·show ((x.ins.take 10).map partOf).length≤10;rw [List.length_map,List.length_take];omega
 ·show (((x.outs.take 10).map partOf).map (·.1)).length≤10;rw [List.length_map,List.length_map,List.length_take];omega
 ·show ((x.moves.take 10).map moveOf).length≤10;rw [List.length_map,List.length_take];omega
theorem GV.back {y:GV} (hy:y.Ok) (hm:y.mag.length≤40) (hr:rightG y.g=true):grpR (groupB y.g)=some y.g:=
 group_back hr y.good ⟨by have h:y.level<9223372036854775808:=hy.level;show y.level≤_;omega,by have h:y.err<9223372036854775808:=hy.err;show y.err≤_;omega,by have h:y.total<9223372036854775808:=hy.total;show y.total≤_;omega⟩ (by show y.mag.length<_;omega)
theorem flat_le {α:Type} (f:α→Bytes) (b:Nat):∀l:List α,(∀x,x∈l→(f x).length≤b)→(l.flatMap f).length≤l.length*b
 | [],_=>by simp
 | x :: l,h=>by
  have h1:=h x (by simp);have h2:=flat_le f b l (fun y hy=>h y (List.mem_cons_of_mem _ hy));rw [List.flatMap_cons,List.length_append,List.length_cons,Nat.add_mul];omega
theorem groupB_len {y:GV} (hy:y.Ok) (hr:rightG y.g=true) (hl:y.ins.length≤10∧y.outs.length≤10∧y.moves.length≤10∧y.mag.length≤40):(groupB y.g).length≤10000:=by
 obtain ⟨l1,l2,l3,l4⟩:=hl;obtain ⟨_,_,hm⟩:=right_parts hr;have e1:(digB y.level.toNat).length≤10:=digB_ten (by have h:y.level<9223372036854775808:=hy.level;omega);have e2:(digB y.err.toNat).length≤10:=digB_ten (by have h:y.err<9223372036854775808:=hy.err;omega);have e3:(digB y.total.toNat).length≤10:=digB_ten (by have h:y.total<9223372036854775808:=hy.total;omega);have e4:(digB y.outs.length).length≤10:=digB_ten (by omega);have e5:(digB y.moves.length).length≤10:=digB_ten (by omega);have e6:(digB (sizeG y.g)).length≤10:=digB_ten (by unfold sizeG;show 2*y.mag.length+_<_;split<;>omega)
 have e7:=partsB_len y.ins (by omega);have e8:((y.outs.map (·.1)).flatten).length≤320:=by
  rw [flatten_flatMap];have:=flat_le id 32 (y.outs.map (·.1)) (fun h hh=>by obtain ⟨p,_,rfl⟩:=List.mem_map.1 hh;exact Nat.le_of_eq p.2);rw [List.length_map] at this;omega
 have e9:(y.moves.flatMap (fun m=>(coordsM m).flatMap (fun n=>digB n.toNat))).length≤600:=by
  have h2:=flat_le (fun m:Mv=>(coordsM m).flatMap (fun n=>digB n.toNat)) 60 y.moves (fun m hm2=>by
   have h3:=flat_le (fun n:Int=>digB n.toNat) 10 (coordsM m) (fun n hn=>digB_ten (by
    have h4:=List.all_eq_true.1 (List.all_eq_true.1 hm m hm2) n hn;unfold insideC at h4;have h5:=of_decide_eq_true h4;omega))
   have h6:(coordsM m).length=6:=rfl;rw [h6] at h3;exact h3)
  exact Nat.le_trans h2 (Nat.le_trans (Nat.mul_le_mul_right _ l3) (by decide))
 have hg:groupB y.g=2 :: (digB y.level.toNat++partsB (y.ins.map plainP)++(digB (y.outs.map (·.1)).length++(y.outs.map (·.1)).flatten)++(digB y.moves.length++y.moves.flatMap (fun m=>(coordsM m).flatMap (fun n=>digB n.toNat)))++digB y.err.toNat++digB y.total.toNat++digB (sizeG y.g)++y.mag):=rfl;rw [hg,List.length_map];simp only [List.length_cons,List.length_append];omega
end Go.Proofs.YtcikldoaidmnhaaGreatDoor
namespace Go.Proofs.YtcikldoaidmnhaaGreatDoor
open Go Go.RowKit Pk
set_option maxRecDepth 100000
set_option maxHeartbeats 4000000 in
theorem jSameGroup_same (x:GV) (vi vo vm vj vp vn:Value) (w:World) (hl1:x.ins.length≤9223372036854775807) (hl2:x.outs.length≤9223372036854775807) (hl3:x.moves.length≤9223372036854775807) (hi:kPart.Rd w vi x.ins) (ho:kHash.Rd w vo x.outs) (hm:kMove.Rd w vm x.moves) (hj:kPart.Rd w vj x.ins) (hp:kHash.Rd w vp x.outs) (hn:kMove.Rd w vn x.moves) :
  Calls Tryz.prog 36 #[x.V vi vo vm,x.V vj vp vn] w fun en w'=>en=.returned (.bool true)∧Upd noBlk w w':=by
 obtain ⟨lv,ins,outs,moves,er,tot,neg,mag⟩:=x;simp only at hi ho hm hj hp hn hl1 hl2 hl3;have HSP:Hid (∀W,Upd noBlk w W→Calls Tryz.prog 28 #[vi,vj] W fun en w'=>en=.returned (.bool (decide (ins=ins)))∧Upd noBlk W w'):=fun W hW=>jSameParts_any vi vj ins ins hl1 W (hi.keep hW) (hj.keep hW);rw [decide_eq_true rfl] at HSP;obtain ⟨Ai,capi,rfl,_,_⟩:=hi;obtain ⟨Aj,capj,rfl,_,_⟩:=hj;obtain ⟨Ao,capo,rfl,_,hxo⟩:=ho;obtain ⟨Ap,capp,rfl,_,hxp⟩:=hp;obtain ⟨Am,capm,rfl,_,hxm⟩:=hm;obtain ⟨An,capn,rfl,_,hxn⟩:=hn;have HXO:=Lib.hid hxo;have HXP:=Lib.hid hxp;have HXM:=Lib.hid hxm;have HXN:=Lib.hid hxn;have hol:(outs.length:Int)≤9223372036854775807:=by omega
 have hml:(moves.length:Int)≤9223372036854775807:=by omega
 clear hxo hxp hxm hxn hl1 hl2 hl3;unfold GV.V;simp only;obtain ⟨w1,hw1⟩:∃w1,w1=(w.alloc (.cells #[.int .i64 lv,.slice Ai ins.length capi,.slice Ao outs.length capo,.slice Am moves.length capm,.int .i64 er,.int .i64 tot,.bool neg,.string (bs mag)] 68)).alloc (.cells #[.int .i64 lv,.slice Aj ins.length capj,.slice Ap outs.length capp,.slice An moves.length capn,.int .i64 er,.int .i64 tot,.bool neg,.string (bs mag)] 68):=⟨_,rfl⟩;have HU:Hid (Upd noBlk w w1):=by show Upd _ _ _;rw [hw1];exact ((Upd.refl _ w).alloc _).alloc _
 have HA:Hid (w1.heap[w.heap.size]?=some (.cells #[.int .i64 lv,.slice Ai ins.length capi,.slice Ao outs.length capo,.slice Am moves.length capm,.int .i64 er,.int .i64 tot,.bool neg,.string (bs mag)] 68 (0,0))):=by show _=_;rw [hw1];exact ((Upd.refl noBlk _).alloc _).heap (heap_alloc_new w _) id
 have HB:Hid (w1.heap[w.heap.size+1]?=some (.cells #[.int .i64 lv,.slice Aj ins.length capj,.slice Ap outs.length capp,.slice An moves.length capn,.int .i64 er,.int .i64 tot,.bool neg,.string (bs mag)] 68 (0,0))):=by
  show _=_;rw [hw1];have:=heap_alloc_new (w.alloc (.cells #[.int .i64 lv,.slice Ai ins.length capi,.slice Ao outs.length capo,.slice Am moves.length capm,.int .i64 er,.int .i64 tot,.bool neg,.string (bs mag)] 68)) (.cells #[.int .i64 lv,.slice Aj ins.length capj,.slice Ap outs.length capp,.slice An moves.length capn,.int .i64 er,.int .i64 tot,.bool neg,.string (bs mag)] 68);rwa [World.size_alloc] at this
 go_enter Tryz.func36,Tryz.ntmps36
 go_upto_region 1 with fail
 rw [←hw1];clear hw1;generalize w.heap.size=ba at *;obtain ⟨bb,hbb⟩:∃bb,bb=ba+1:=⟨_,rfl⟩;rw [←hbb] at HB ⊢;clear hbb;have HC:=HSP.out _ HU.out;obtain ⟨a0,a1,a2,a3,a4,a5,a6,a7⟩:=cells8 HA.out;obtain ⟨b0,b1,b2,b3,b4,b5,b6,b7⟩:=cells8 HB.out;go_wp2_with fail
 refine HC.mono ?_;rintro e w2 ⟨rfl,u2⟩;have HU2:=Lib.hid (HU.out.trans u2);have HA2:=Lib.hid (u2.heap HA.out id);have HB2:=Lib.hid (u2.heap HB.out id);clear HC HSP u2 HU HA HB a0 a1 a2 a3 a4 a5 a6 a7 b0 b1 b2 b3 b4 b5 b6 b7;obtain ⟨a0,a1,a2,a3,a4,a5,a6,a7⟩:=cells8 HA2.out;obtain ⟨b0,b1,b2,b3,b4,b5,b6,b7⟩:=cells8 HB2.out;go_wp2_with fail
 clear a0 a1 a2 a3 a4 a5 a6 a7 b0 b1 b2 b3 b4 b5 b6 b7;go_loopw [6] (fun i wr=>∃k:Nat,i=.int .i64 k∧k≤outs.length∧Upd noBlk w2 wr) (fun i _=>outs.length-(intOf i).toNat)
 case atStart=>exact ⟨0,rfl,Nat.zero_le _,Upd.refl _ _⟩
 case round=>
  obtain ⟨k,rfl,hk,hu⟩:=hrel;have HU3:=Lib.hid hu;clear hu;by_cases hlt:k<outs.length
  ·have hlt':(k:Int)<(outs.length:Int):=by omega
   obtain ⟨ca,oa,rfl,f1⟩:=HXO.out (by omega);obtain ⟨cb,ob,rfl,f2⟩:=HXP.out (by omega);have hk32:kHash.k=32:=rfl;have hf1:=(f1 k hlt).keep (HU2.out.trans HU3.out);have hf2:=(f2 k hlt).keep (HU2.out.trans HU3.out);rw [hk32] at hf1 hf2;have HF1:=Lib.hid hf1;have HF2:=Lib.hid hf2;clear f1 f2 hf1 hf2 hk32;generalize outs[k]=p at *;have he:=eq_hash 9998 p p wr.drew;rw [decide_eq_true rfl] at he;simp only [Nat.reduceAdd] at he;obtain ⟨a0,a1,a2,a3,a4,a5,a6,a7⟩:=cells8 (HU3.out.heap HA2.out id);obtain ⟨b0,b1,b2,b3,b4,b5,b6,b7⟩:=cells8 (HU3.out.heap HB2.out id);go_wp2_with fail
   clear a0 a1 a2 a3 a4 a5 a6 a7 b0 b1 b2 b3 b4 b5 b6 b7;refine wp_region_tree 10 (OT.sures [0,2,5,7,1,6,3,8,4,9] .nil) (fun w'=>Upd noBlk wr w') (by kernel_rfl) (by kernel_rfl) (fun c a d v w h=>by cases d<;>exact h) ((Upd.refl noBlk wr).drew) ?_
   simp only [OT.sures]
   iterate 8 (apply wpT_sure rfl rfl;focus (intro w' hw';obtain ⟨a0,a1,a2,a3,a4,a5,a6,a7⟩:=cells8 ((HU3.out.trans hw').heap HA2.out id);obtain ⟨b0,b1,b2,b3,b4,b5,b6,b7⟩:=cells8 ((HU3.out.trans hw').heap HB2.out id);go_simp;rfl))
   apply wpT_sure rfl rfl
   focus (intro w' hw';exact exec_load_mid 81 (.tmp 71) rfl ca (oa+k*32) (by go_simp) (byV p.1) _ (HF1.out.keep hw') Tryz.underlying81 rfl (size_hash p))
   apply wpT_sure rfl rfl
   focus (intro w' hw';exact exec_load_mid 81 (.tmp 76) rfl cb (ob+k*32) (by go_simp) (byV p.1) _ (HF2.out.keep hw') Tryz.underlying81 rfl (size_hash p))
   refine wpT_nil ?_;go_wp2_with fail
   exact ⟨⟨k+1,by push_cast;rfl,hlt,HU3.out.drew⟩,by simp only [intOf];omega⟩
  ·obtain rfl:k=outs.length:=by omega
   obtain ⟨a0,a1,a2,a3,a4,a5,a6,a7⟩:=cells8 (HU3.out.heap HA2.out id);obtain ⟨b0,b1,b2,b3,b4,b5,b6,b7⟩:=cells8 (HU3.out.heap HB2.out id);go_wp2_with fail
   clear a0 a1 a2 a3 a4 a5 a6 a7 b0 b1 b2 b3 b4 b5 b6 b7;go_loopw [7] (fun i wr=>∃k:Nat,i=.int .i64 k∧k≤moves.length∧Upd noBlk w2 wr) (fun i _=>moves.length-(intOf i).toNat)
   case atStart=>exact ⟨0,rfl,Nat.zero_le _,HU3.out⟩
   case round=>
    obtain ⟨k,rfl,hk,hu⟩:=hrel;have HU4:=Lib.hid hu;clear hu;by_cases hlt:k<moves.length
    ·have hlt':(k:Int)<(moves.length:Int):=by omega
     obtain ⟨ca,oa,rfl,f1⟩:=HXM.out (by omega);obtain ⟨cb,ob,rfl,f2⟩:=HXN.out (by omega);have hk6:kMove.k=6:=rfl;have hf1:=(f1 k hlt).keep (HU2.out.trans HU4.out);have hf2:=(f2 k hlt).keep (HU2.out.trans HU4.out);rw [hk6] at hf1 hf2;have HF1:=Lib.hid hf1;have HF2:=Lib.hid hf2;clear f1 f2 hf1 hf2 hk6;generalize moves[k]=pm at *;obtain ⟨⟨m0,m1,m2⟩,⟨m3,m4,m5⟩⟩:=pm;obtain ⟨a0,a1,a2,a3,a4,a5,a6,a7⟩:=cells8 (HU4.out.heap HA2.out id);obtain ⟨b0,b1,b2,b3,b4,b5,b6,b7⟩:=cells8 (HU4.out.heap HB2.out id);go_wp2_with fail
     clear a0 a1 a2 a3 a4 a5 a6 a7 b0 b1 b2 b3 b4 b5 b6 b7;refine wp_region_tree 10 (OT.sures [0,2,5,7,1,6,3,8,4,9] .nil) (fun w'=>Upd noBlk wr w') (by kernel_rfl) (by kernel_rfl) (fun c a d v w h=>by cases d<;>exact h) ((Upd.refl noBlk wr).drew) ?_
     simp only [OT.sures]
     iterate 10 (apply wpT_sure rfl rfl;focus (intro w' hw';obtain ⟨a0,a1,a2,a3,a4,a5,a6,a7⟩:=cells8 ((HU4.out.trans hw').heap HA2.out id);obtain ⟨b0,b1,b2,b3,b4,b5,b6,b7⟩:=cells8 ((HU4.out.trans hw').heap HB2.out id);obtain ⟨g0,g1,g2,g3,g4,g5⟩:=mvAt6 (HF1.out.keep hw');obtain ⟨k0,k1,k2,k3,k4,k5⟩:=mvAt6 (HF2.out.keep hw');go_simp;rfl))
     refine wpT_nil ?_;go_wp2_with fail
     exact ⟨⟨k+1,by push_cast;rfl,hlt,HU4.out.drew⟩,by simp only [intOf];omega⟩
    ·obtain rfl:k=moves.length:=by omega
     obtain ⟨a0,a1,a2,a3,a4,a5,a6,a7⟩:=cells8 (HU4.out.heap HA2.out id);obtain ⟨b0,b1,b2,b3,b4,b5,b6,b7⟩:=cells8 (HU4.out.heap HB2.out id);go_wp2_with fail
     go_ret
     exact ⟨rfl,HU2.out.trans HU4.out⟩
end Go.Proofs.YtcikldoaidmnhaaGreatDoor
