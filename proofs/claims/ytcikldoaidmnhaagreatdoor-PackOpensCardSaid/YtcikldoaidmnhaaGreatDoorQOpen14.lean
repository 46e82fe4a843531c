/- Parts: A state and a writer side by side: what each step leaves. No condition. Walks of the coder: the reader's Number. Walks of the coder: the writer's Number. Walks of the packets' program: a place is written. No condition. Walks of the packets' program: a triangle that is not at a gate is written. No condition. Walks of the packets' program: expected, zigzag, places written. No condition. -/
import Derived.Test.YtcikldoaidmnhaaGreatDoorQOpen1
import Derived.Test.YtcikldoaidmnhaaGreatDoorQOpen2
import Derived.Test.YtcikldoaidmnhaaGreatDoorQOpen12
import Derived.Test.YtcikldoaidmnhaaGreatDoorQOpen13
import Derived.Test.YtcikldoaidmnhaaGreatDoorShelf
import Derived.Laws.BitsAllLaws
import Derived.Lib.Zigzag
namespace Go.Proofs.YtcikldoaidmnhaaGreatDoor
open Go Go.RowKit Pc
set_option maxRecDepth 100000
structure WG (F0:Nat→Prop) (w wr:World) (b:Nat) (e:E) (F:Nat→Prop):Prop where
 rep:WRep wr b e F
 new:∀k,F k→F0 k∨w.heap.size≤k
 up:Upd F0 w wr
theorem WG.self {w:World} {b:Nat} {e:E} {F:Nat→Prop} (h:WRep w b e F):WG F w w b e F:=⟨h,fun _ hk=>.inl hk,Upd.refl _ _⟩
theorem upd_foot {F0 F:Nat→Prop} {w w1 w2:World} (h:Upd F0 w w1) (k:Upd F w1 w2) (hF:∀k,F k→F0 k∨w.heap.size≤k):Upd F0 w w2:=
 h.then k (fun i hi hf=>(hF i hf).elim id (fun x=>absurd hi (by omega)))
theorem WG.upd {F0:Nat→Prop} {w wr w2:World} {b:Nat} {e:E} {F:Nat→Prop} (h:WG F0 w wr b e F) (hu:Upd noBlk wr w2):WG F0 w w2 b e F:=
 ⟨h.rep.upd hu (fun _ _=>id),h.new,h.up.trans (hu.mono (fun _ _ x=>x.elim))⟩
theorem WG.bit {F0:Nat→Prop} {w wr:World} {b:Nat} {e:E} {F:Nat→Prop} (h:WG F0 w wr b e F) (c:Int) (one:Bool) (hlen:e.done.length+1≤1000000) :
  Calls Tryz.prog 49 #[.pointer (some ⟨b,0,none⟩),.int .i64 c,.bool one] wr fun en w'=>en=.returned (.tuple #[])∧∃F',WG F0 w w' b (e.bit c one) F':=by
 refine (WBit_any b c one e F wr h.rep hlen).mono ?_;rintro en w2 ⟨rfl,F',q1,q2,q3⟩;exact ⟨rfl,F',q1,fun j hj=>(q3 j hj).elim (h.new j) (fun x=>.inr (Nat.le_trans h.up.size x)),upd_foot h.up q2 h.new⟩
set_option maxHeartbeats 1000000 in
theorem all_W {F0:Nat→Prop} {w0 w:World} {b:Nat} {e:E} {F:Nat→Prop} (h:WG F0 w0 w b e F) (g:Nat) (c:Int) (one:Bool) (hc:w.cell? ⟨g,0,none⟩=some (.bool one)) (hlen:e.done.length+1≤1000000) :
  Calls Tryz.prog 97 #[.pointer (some ⟨b,0,none⟩),.int .i64 c,.slice (some ⟨g,0,none⟩) 1 1] w fun en w'=>en=.returned (.tuple #[])∧∃F',WG F0 w0 w' b (e.bit c one) F':=by
 have H:=Lib.hid h;have HL:=Lib.hid hlen;clear h hlen;go_enter Tryz.func97,Tryz.ntmps97
 go_wp2_with fail
 refine wp_loop_rounds 2 ?_;rw [rounds_succ];go_wp2_with (go_at_call 49;refine (H.out.bit c one HL.out).mono ?_;rintro e w2 ⟨rfl,F',q⟩;have Q:=Lib.hid q;clear q)
 rw [rounds_succ];go_wp2
 go_end0
 exact ⟨rfl,F',Q.out⟩
theorem bitLen_eq {n:Nat} (h:n<2 ^ 64):Lib.bitLen n=blen n:=by
 have aux:∀f x,x<2 ^ f→Lib.bitLenAux f x=blen x:=by
  intro f;induction f with
  | zero=>
   intro x hx;have:x=0:=by omega
   subst this;rfl
  | succ f ih=>
   intro x hx;unfold Lib.bitLenAux;split
   ·rename_i h0;subst h0;rfl
   ·have h1:=ih (x / 2) (by rw [Nat.pow_succ] at hx;omega);have h2:=blen_pos (n:=x) (by omega);omega
 exact aux 64 n h
theorem bit_val {n j:Nat} (hn:n<2 ^ 64):(bits .and .u64 ((n:Int) / 2 ^ j) 1 == 1)=decide (n / 2 ^ j % 2=1):=by
 have e:(n:Int) / 2 ^ j=((n / 2 ^ j:Nat):Int):=by push_cast;rfl
 have hq:n / 2 ^ j≤n:=Nat.div_le_self _ _;have h1:=u64_and_nat (n / 2 ^ j) 1 (by omega) (by omega);rw [e,show (1:Int)=((1:Nat):Int) from rfl,h1,nat_mask1,Bool.eq_iff_iff];simp;omega
set_option maxHeartbeats 1000000 in
theorem WNumber_any {F0:Nat→Prop} {w0 w:World} {b:Nat} {e:E} {F:Nat→Prop} (h:WG F0 w0 w b e F) (c:Int) (n:Nat) (hn:n<2 ^ 64) (hlen:e.done.length+200≤1000000) :
  Calls Tryz.prog 46 #[.pointer (some ⟨b,0,none⟩),.int .i64 c,.int .u64 n] w fun en w'=>en=.returned (.tuple #[])∧∃F',WG F0 w0 w' b (encFrom e (numBits c n)) F':=by
 have H:=Lib.hid h;have HL:=Lib.hid hlen;have HN:=Lib.hid hn;have hB:=bitLen_eq hn;have hk:=blen_le hn;have hnn:0≤(n:Int):=by omega
 clear h hlen hn;go_enter Tryz.func46,Tryz.ntmps46
 go_wp2_with (go_at_call 96;refine (Tryz.bits_Len64 _ _ hnn (by have:=HN.out;omega)).mono ?_;rw [Int.toNat_natCast,hB];rintro e w2 ⟨rfl,rfl⟩)
 have H':=Lib.hid (H.out);clear H hB;go_loopw [7,12] (fun _ i wr=>∃k:Nat,i=.int .i64 k∧k≤blen n∧∃e' F',WG F0 w0 wr b e' F'∧e'.done.length≤e.done.length+k∧encFrom e' (obits c k (blen n-k)++vbits c n (blen n-1))=encFrom e (numBits c n)) (fun _ i _=>64-(intOf i).toNat)
 case atStart=>exact ⟨0,rfl,Nat.zero_le _,e,F,H'.out,Nat.le_refl _,rfl⟩
 case round=>
  obtain ⟨k,rfl,hkn,e',F',h1,h2,h3⟩:=hrel;have H1:=Lib.hid h1;have H2:=Lib.hid h2;have H3:=Lib.hid h3;clear h1 h2 h3 H';have hkb:(k:Int)≤64:=by omega
  have HS:Hid (e'.done.length+2≤1000000):=by show _≤_;have:=H2.out;have:=HL.out;omega
  by_cases hlt:k<blen n
  ·have HX:Hid (encFrom (e'.bit (nctx c k) true) (obits c (k+1) (blen n-(k+1))++vbits c n (blen n-1))=encFrom e (numBits c n)):=by
    show _=_;rw [←H3.out,show blen n-k=(blen n-(k+1))+1 by omega];rfl
   go_wp2_with (go_at_call 97;refine (all_W (H1.out.upd ((Upd.refl noBlk wr).alloc _)) _ _ true (World.cell?_alloc_new wr _ _ 0) (by have:=HS.out;omega)).mono ?_;rintro en w3 ⟨rfl,F3,q⟩;have Q:Hid (WG F0 w0 w3 b (e'.bit (nctx c k) true) F3):=q;clear q)
   go_roundw
   case rel=>exact ⟨k+1,by go_num,hlt,_,F3,Q.out,by have:=E.bit_done_length e' (nctx c k) true;have:=H2.out;omega,HX.out⟩
   case measure=>simp [intOf];omega
  ·have hkk:k=blen n:=by omega
   have HX:Hid (encFrom (e'.bit (nctx c (blen n)) false) (vbits c n (blen n-1))=encFrom e (numBits c n)):=by
    show _=_;rw [←H3.out,hkk,Nat.sub_self];rfl
   have HT:Hid (e'.done.length≤e.done.length+64):=by show _≤_;have:=H2.out;omega
   clear hkk H2 H3;go_wp2_with (go_at_call 97;refine (all_W (H1.out.upd ((Upd.refl noBlk wr).alloc _)) _ _ false (World.cell?_alloc_new wr _ _ 0) (by have:=HS.out;omega)).mono ?_;rintro en w3 ⟨rfl,F3,q⟩;have Q:Hid (WG F0 w0 w3 b (e'.bit (nctx c (blen n)) false) F3):=q;clear q)
   go_loopw [8] (fun i wr=>∃(z:Int) (m:Nat),i=.int .i64 z∧(z=(m:Int)-1∨(z=-2∧m=0))∧m≤63∧∃e' F',WG F0 w0 wr b e' F'∧e'.done.length+m≤e.done.length+130∧encFrom e' (vbits c n m)=encFrom e (numBits c n)) (fun i _=>(intOf i+1).toNat)
   case atStart=>exact ⟨_,blen n-1,rfl,by omega,by omega,_,F3,Q.out,by have:=E.bit_done_length e' (nctx c (blen n)) false;have:=HT.out;omega,HX.out⟩
   case round=>
    obtain ⟨z,m,rfl,hz,hm,e2,F2,h1,h2,h3⟩:=hrel;have R1:=Lib.hid h1;have R2:=Lib.hid h2;have R3:=Lib.hid h3;clear h1 h2 h3 H1 Q HX HS HT;rcases m with _ | j
    ·have hz0:z<0:=by omega
     have R4:Hid (encFrom e2 []=encFrom e (numBits c n)):=R3.out;clear hz;go_wp2_with fail
     go_end0
     exact ⟨rfl,F2,by rw [←R4.out];exact R1.out⟩
    ·obtain rfl:z=(j:Int):=by omega
     have hj:(j:Int)≤63:=by omega
     have HX:Hid (encFrom (e2.bit (vctx c j) (decide (n / 2 ^ j % 2=1))) (vbits c n j)=encFrom e (numBits c n)):=R3.out;clear hz;have BV:Hid ((bits .and .u64 ((n:Int) / 2 ^ j) 1 == 1)=decide (n / 2 ^ j % 2=1)):=bit_val HN.out;have HS:Hid (e2.done.length+1≤1000000):=by show _≤_;have:=R2.out;have:=HL.out;omega
     go_wp2_with (go_at_call 97;refine (all_W (R1.out.upd ((Upd.refl noBlk wr).alloc _)) _ _ _ (World.cell?_alloc_new wr _ _ 0) HS.out).mono ?_;rintro en w4 ⟨rfl,F4,q⟩;have Q:Hid (WG F0 w0 w4 b (e2.bit (vctx c j) (decide (n / 2 ^ j % 2=1))) F4):=(by rw [←BV.out];exact q);clear q)
     go_roundw
     case rel=>exact ⟨_,j,by go_num,by omega,by omega,_,F4,Q.out,by have:=E.bit_done_length e2 (vctx c j) (decide (n / 2 ^ j % 2=1));have:=R2.out;omega,HX.out⟩
     case measure=>simp [intOf]<;>omega
end Go.Proofs.YtcikldoaidmnhaaGreatDoor
namespace Go.Proofs.YtcikldoaidmnhaaGreatDoor
open Go Go.RowKit Pk
set_option maxRecDepth 100000
def inG (g:Gate):Prop:=inP g.1∧inP g.2.1∧inP g.2.2
theorem wrapC {a b c:Int} (ha:0≤a∧a≤2097151) (hb:0≤b∧b≤2097151) (hc:0≤c∧c≤2097151):IntKind.i64.wrap (a+b)=a+b∧IntKind.i64.wrap (a+b-c)=a+b-c:=⟨wrapN (by omega) (by omega),wrapN (by omega) (by omega)⟩
set_option maxHeartbeats 1000000 in
theorem expected_any (g:Gate) (hg:inG g) (w:World):Calls Tryz.prog 52 #[gateV g] w fun en w'=>en=.returned (ptV (expG g))∧Upd noBlk w w':=by
 obtain ⟨⟨a0,a1,a2⟩,⟨a3,a4,a5⟩,⟨a6,a7,a8⟩⟩:=g;obtain ⟨⟨h0,h1,h2,h3,h4,h5⟩,⟨h6,h7,h8,h9,h10,h11⟩,⟨h12,h13,h14,h15,h16,h17⟩⟩:=hg;simp only at h0 h1 h2 h3 h4 h5 h6 h7 h8 h9 h10 h11 h12 h13 h14 h15 h16 h17;obtain ⟨x1,x2⟩:=wrapC ⟨h0,h1⟩ ⟨h6,h7⟩ ⟨h12,h13⟩;obtain ⟨x3,x4⟩:=wrapC ⟨h2,h3⟩ ⟨h8,h9⟩ ⟨h14,h15⟩;obtain ⟨x5,x6⟩:=wrapC ⟨h4,h5⟩ ⟨h10,h11⟩ ⟨h16,h17⟩;clear h0 h1 h2 h3 h4 h5 h6 h7 h8 h9 h10 h11 h12 h13 h14 h15 h16 h17;unfold gateV triC;go_enter Tryz.func52,Tryz.ntmps52
 go_wp2_with fail
 (try simp only [Exit.inBlock,Exit.then])
 have hz:((w.alloc (.cells #[.int .i64 a0,.int .i64 a1,.int .i64 a2,.int .i64 a3,.int .i64 a4,.int .i64 a5,.int .i64 a6,.int .i64 a7,.int .i64 a8] 105)).alloc (.cells #[.int .i64 (a0+a3-a6),.int .i64 (a1+a4-a7),.int .i64 (a2+a5-a8)] 43)).heap[w.heap.size+1]?=some (.cells #[.int .i64 (a0+a3-a6),.int .i64 (a1+a4-a7),.int .i64 (a2+a5-a8)] 43 (0,0)):=by
  have:=heap_alloc_new (w.alloc (.cells #[.int .i64 a0,.int .i64 a1,.int .i64 a2,.int .i64 a3,.int .i64 a4,.int .i64 a5,.int .i64 a6,.int .i64 a7,.int .i64 a8] 105)) (.cells #[.int .i64 (a0+a3-a6),.int .i64 (a1+a4-a7),.int .i64 (a2+a5-a8)] 43);rw [World.size_alloc] at this;exact this
 refine bodyPost_ret (results_cell_row rfl _ _ (w.heap.size+1) 43 _ (0,0) _ rfl hz Tryz.underlying43 rfl (by kernel_rfl)) rfl ?_;exact ⟨rfl,((Upd.refl _ w).alloc _).alloc _⟩
theorem zig_bits {n:Int} (h0:-4611686018427387904≤n) (h1:n≤4611686018427387903):bits BinOp.xor IntKind.u64 (IntKind.u64.wrap (IntKind.u64.wrap n*2)) (IntKind.u64.wrap (n / 9223372036854775808))=((zig n:Nat):Int):=by
 have w1:=IntKind.wrap_u64 n;have w2:=IntKind.wrap_u64 (IntKind.u64.wrap n*2);have w3:=IntKind.wrap_u64 (n / 9223372036854775808);unfold zig;by_cases hn:n<0
 ·have e1:IntKind.u64.wrap (IntKind.u64.wrap n*2)=(((2*n+18446744073709551616).toNat:Nat):Int):=by omega
  have e2:IntKind.u64.wrap (n / 9223372036854775808)=((18446744073709551615:Nat):Int):=by omega
  rw [e1,e2,u64_xor_nat _ _ (by omega) (by omega),Nat.xor_comm,if_pos hn];have:=Lib.xor_ones64 (2*n+18446744073709551616).toNat (by omega);have e3:(2 ^ 64-1:Nat)=18446744073709551615:=by decide
  rw [e3] at this;rw [this];congr 1
  omega
 ·have e1:IntKind.u64.wrap (IntKind.u64.wrap n*2)=(((2*n).toNat:Nat):Int):=by omega
  have e2:IntKind.u64.wrap (n / 9223372036854775808)=((0:Nat):Int):=by omega
  rw [e1,e2,u64_xor_nat _ _ (by omega) (by omega),Nat.xor_zero,if_neg hn]
theorem zigzag_any (n:Int) (h0:-4611686018427387904≤n) (h1:n≤4611686018427387903) (w:World):Calls Tryz.prog 105 #[.int .i64 n] w fun en w'=>en=.returned (.int .u64 ((zig n:Nat):Int))∧w=w':=by
 have HZ:=Lib.hid (zig_bits h0 h1);clear h0 h1;go_enter Tryz.func105,Tryz.ntmps105
 go_wp2_with fail
 go_ret
 exact ⟨by rw [←HZ.out];rfl,rfl⟩
end Go.Proofs.YtcikldoaidmnhaaGreatDoor
namespace Go.Proofs.YtcikldoaidmnhaaGreatDoor
open Go Go.RowKit Pk Pc
set_option maxRecDepth 100000
theorem encFrom_app (e:E) (a b:List (Int × Bool)):encFrom e (a++b)=encFrom (encFrom e a) b:=by simp [encFrom,List.foldl_append]
def WB (F0:Nat→Prop) (w wr:World) (b:Nat) (l:Pk.Bits) (F:Nat→Prop):Prop:=WG F0 w wr b (encFrom E.init l) F
theorem done_len {l:Pk.Bits} (h:l.length≤900000):(encFrom E.init l).done.length+200≤1000000:=by
 have:=encFrom_done_length E.init l;have h4:E.init.done.length=0:=rfl;omega
theorem WB.bit {F0:Nat→Prop} {w wr:World} {b:Nat} {l:Pk.Bits} {F:Nat→Prop} (h:WB F0 w wr b l F) (c:Int) (one:Bool) (hl:l.length≤900000) :
  Calls Tryz.prog 49 #[.pointer (some ⟨b,0,none⟩),.int .i64 c,.bool one] wr fun en w'=>en=.returned (.tuple #[])∧∃F',WB F0 w w' b (l++[(c,one)]) F':=by
 refine (WG.bit h c one (by have:=done_len hl;omega)).mono ?_;rintro e w' ⟨rfl,F',h'⟩;exact ⟨rfl,F',by unfold WB;rw [encFrom_snoc];exact h'⟩
theorem WB.number {F0:Nat→Prop} {w wr:World} {b:Nat} {l:Pk.Bits} {F:Nat→Prop} (h:WB F0 w wr b l F) (c:Int) (n:Nat) (hn:n<2 ^ 64) (hl:l.length≤900000) :
  Calls Tryz.prog 46 #[.pointer (some ⟨b,0,none⟩),.int .i64 c,.int .u64 n] wr fun en w'=>en=.returned (.tuple #[])∧∃F',WB F0 w w' b (l++numBits c n) F':=by
 refine (WNumber_any h c n hn (done_len hl)).mono ?_;rintro e w' ⟨rfl,F',h'⟩;exact ⟨rfl,F',by unfold WB;rw [encFrom_app];exact h'⟩
theorem WB.upd {F0:Nat→Prop} {w wr w2:World} {b:Nat} {l:Pk.Bits} {F:Nat→Prop} (h:WB F0 w wr b l F) (hu:Upd noBlk wr w2):WB F0 w w2 b l F:=WG.upd h hu
def farC (a b:Int):Prop:=-100000000≤a-b∧a-b≤100000000∧-100000000≤a∧a≤100000000∧-100000000≤b∧b≤100000000
set_option maxHeartbeats 2000000 in
theorem writePlace_any {F0:Nat→Prop} {w w0:World} {b:Nat} {l:Pk.Bits} {F:Nat→Prop} (h:WB F0 w w0 b l F) (c:Int) (hc:0≤c∧c≤1000) (p near:Pt) (h1:farC p.1 near.1) (h2:farC p.2.1 near.2.1) (h3:farC p.2.2 near.2.2) (hl:l.length≤800000) :
  Calls Tryz.prog 51 #[.pointer (some ⟨b,0,none⟩),.int .i64 c,ptV p,ptV near] w0 fun en w'=>en=.returned (.tuple #[])∧∃F',WB F0 w w' b (l++placeB c p near) F':=by
 obtain ⟨p0,p1,p2⟩:=p;obtain ⟨n0,n1,n2⟩:=near;unfold farC at h1 h2 h3;simp only at h1 h2 h3;have hz:=fun n h0 h1 W=>Lib.hid (zigzag_any n h0 h1 W);have z0:=fun W=>hz (p0-n0) (by omega) (by omega) W;have z1:=fun W=>hz (p1-n1) (by omega) (by omega) W;have z2:=fun W=>hz (p2-n2) (by omega) (by omega) W;have d0:IntKind.i64.wrap (p0-n0)=p0-n0:=wrapN (by omega) (by omega);have d1:IntKind.i64.wrap (p1-n1)=p1-n1:=wrapN (by omega) (by omega);have d2:IntKind.i64.wrap (p2-n2)=p2-n2:=wrapN (by omega) (by omega);have c1:IntKind.i64.wrap (c+64)=c+64:=wrapN (by omega) (by omega);have c2:IntKind.i64.wrap (c+128)=c+128:=wrapN (by omega) (by omega);have v0:wrap64 c=c:=by unfold wrap64;omega
 have v1:wrap64 (c+64)=c+64:=by unfold wrap64;omega
 have v2:wrap64 (c+128)=c+128:=by unfold wrap64;omega
 have hs:∀x n:Int,-100000000≤x-n∧x-n≤100000000→zig (x-n)<2 ^ 64:=fun x n k=>by unfold zig;split<;>omega
 have s0:=Lib.hid (hs p0 n0 ⟨by omega,by omega⟩);have s1:=Lib.hid (hs p1 n1 ⟨by omega,by omega⟩);have s2:=Lib.hid (hs p2 n2 ⟨by omega,by omega⟩);have HP:Hid (placeB c (p0,p1,p2) (n0,n1,n2)=numBits c (zig (p0-n0))++numBits (c+64) (zig (p1-n1))++numBits (c+128) (zig (p2-n2))):=by
  show _=_;unfold placeB;rfl
 have HL:Hid (l.length≤800000):=hl;have H0:=Lib.hid (h.upd (((Upd.refl noBlk w0).alloc (.cells #[.int .i64 p0,.int .i64 p1,.int .i64 p2] 43)).alloc (.cells #[.int .i64 n0,.int .i64 n1,.int .i64 n2] 43)));have B0:Hid ((numBits c (zig (p0-n0))).length≤128):=numBits_length c s0.out;have B1:Hid ((numBits (c+64) (zig (p1-n1))).length≤128):=numBits_length _ s1.out;have ix0:∀(x y z:Int) (W:World),(Instr.index 24 (.agg #[.int .i64 x,.int .i64 y,.int .i64 z]) (.int .i64 0)).run Tryz.prog W=.ok (.int .i64 x) W:=fun _ _ _ _=>by kernel_rfl
 have ix1:∀(x y z:Int) (W:World),(Instr.index 24 (.agg #[.int .i64 x,.int .i64 y,.int .i64 z]) (.int .i64 1)).run Tryz.prog W=.ok (.int .i64 y) W:=fun _ _ _ _=>by kernel_rfl
 have ix2:∀(x y z:Int) (W:World),(Instr.index 24 (.agg #[.int .i64 x,.int .i64 y,.int .i64 z]) (.int .i64 2)).run Tryz.prog W=.ok (.int .i64 z) W:=fun _ _ _ _=>by kernel_rfl
 clear hz hs h1 h2 h3 h hl hc;generalize zig (p0-n0)=m0 at *;generalize zig (p1-n1)=m1 at *;generalize zig (p2-n2)=m2 at *;unfold ptV;go_enter Tryz.func51,Tryz.ntmps51
 go_wp2_with fail
 refine wp_loop_rounds 4 ?_;rw [rounds_succ];go_wp2_with fail
 refine (z0 _).out.mono ?_;rintro e w1 ⟨rfl,rfl⟩;have C0:=Lib.hid (WB.number H0.out c m0 s0.out (by have:=HL.out;omega));go_wp2_with fail
 refine C0.out.mono ?_;rintro e w2 ⟨rfl,F1,H1'⟩;have H1:=Lib.hid H1';clear C0 H1';go_wp2_with fail
 rw [rounds_succ];go_wp2_with fail
 refine (z1 _).out.mono ?_;rintro e w1 ⟨rfl,rfl⟩;have C1:=Lib.hid (WB.number H1.out (c+64) m1 s1.out (by have:=HL.out;have:=B0.out;rw [List.length_append];omega));go_wp2_with fail
 refine C1.out.mono ?_;rintro e w3 ⟨rfl,F2,H2'⟩;have H2:=Lib.hid H2';clear C1 H2';go_wp2_with fail
 rw [rounds_succ];go_wp2_with fail
 refine (z2 _).out.mono ?_;rintro e w1 ⟨rfl,rfl⟩;have C2:=Lib.hid (WB.number H2.out (c+128) m2 s2.out (by have:=HL.out;have:=B0.out;have:=B1.out;rw [List.length_append,List.length_append];omega));go_wp2_with fail
 refine C2.out.mono ?_;rintro e w4 ⟨rfl,F3,H3'⟩;have H3:=Lib.hid H3';clear C2 H3';go_wp2_with fail
 rw [rounds_succ];go_wp2_with fail
 go_end0
 refine ⟨rfl,F3,?_⟩;rw [HP.out,←List.append_assoc,←List.append_assoc];exact H3.out
end Go.Proofs.YtcikldoaidmnhaaGreatDoor
namespace Go.Proofs.YtcikldoaidmnhaaGreatDoor
open Go Go.RowKit Pk Pc
set_option maxRecDepth 100000
structure CW (D:Nat→Prop) (w0 wr:World) (b:Nat) (S:Wk) (bw:Nat) (l:Pk.Bits):Prop where
 ex:∃G F,SRep wr b S G∧WRep wr bw (encFrom E.init l) F∧(∀k,G k→¬F k)∧(∀k,G k∨F k→D k∨w0.heap.size≤k)
 up:Upd D w0 wr
theorem CW.upd {D:Nat→Prop} {w0 wr w2:World} {b:Nat} {S:Wk} {bw:Nat} {l:Pk.Bits} (h:CW D w0 wr b S bw l) (hu:Upd noBlk wr w2):CW D w0 w2 b S bw l:=by
 obtain ⟨⟨G,F,h1,h2,h3,h4⟩,h5⟩:=h;exact ⟨⟨G,F,h1.upd hu (fun _ _=>id),h2.upd hu (fun _ _=>id),h3,h4⟩,h5.trans (hu.mono (fun _ _ h=>h.elim))⟩
theorem CW.drew {D:Nat→Prop} {w0 wr:World} {b:Nat} {S:Wk} {bw:Nat} {l:Pk.Bits} (h:CW D w0 wr b S bw l):CW D w0 wr.drew b S bw l:=h.upd (Upd.refl _ wr).drew
theorem CW.stepW {D:Nat→Prop} {w0 wr w':World} {b:Nat} {S:Wk} {bw:Nat} {l':Pk.Bits} {G F F':Nat→Prop} (h1:SRep wr b S G) (h3:∀k,G k→¬F k) (h4:∀k,G k∨F k→D k∨w0.heap.size≤k) (h5:Upd D w0 wr) (h:WB F wr w' bw l' F'):CW D w0 w' b S bw l':=by
 obtain ⟨r,n,u⟩:=h;refine ⟨⟨G,F',h1.upd u (fun k hk=>h3 k hk),r,fun k hk hf=>?_,fun k hk=>?_⟩,h5.then u (fun i hi hf=>(h4 i (.inr hf)).resolve_right (by omega))⟩
 ·rcases n k hf with h | h
  ·exact h3 k hk h
  ·have:=h1.lt k hk;omega
 ·rcases hk with h | h
  ·exact h4 k (.inl h)
  ·rcases n k h with h | h
   ·exact h4 k (.inr h)
   ·exact .inr (by have:=h5.size;omega)
theorem CW.stepS {D:Nat→Prop} {w0 wr w':World} {b:Nat} {S':Wk} {bw:Nat} {l:Pk.Bits} {G F:Nat→Prop} (h2:WRep wr bw (encFrom E.init l) F) (h3:∀k,G k→¬F k) (h4:∀k,G k∨F k→D k∨w0.heap.size≤k) (h5:Upd D w0 wr) (h:SPost G wr w' b S'):CW D w0 w' b S' bw l:=by
 obtain ⟨G',r,n,u⟩:=h;refine ⟨⟨G',F,r,h2.upd u (fun k hf hk=>h3 k hk hf),fun k hk hf=>?_,fun k hk=>?_⟩,h5.then u (fun i hi hg=>(h4 i (.inl hg)).resolve_right (by omega))⟩
 ·rcases n k hk with h | h
  ·exact h3 k h hf
  ·have:=h2.lt k hf;omega
 ·rcases hk with h | h
  ·rcases n k h with h | h
   ·exact h4 k (.inl h)
   ·exact .inr (by have:=h5.size;omega)
  ·exact h4 k (.inr h)
theorem CW.bit {D:Nat→Prop} {w0 wr:World} {b:Nat} {S:Wk} {bw:Nat} {l:Pk.Bits} (h:CW D w0 wr b S bw l) (c:Int) (one:Bool) (hl:l.length≤900000) :
  Calls Tryz.prog 49 #[.pointer (some ⟨bw,0,none⟩),.int .i64 c,.bool one] wr fun en w'=>en=.returned (.tuple #[])∧CW D w0 w' b S bw (l++[(c,one)]):=by
 obtain ⟨⟨G,F,h1,h2,h3,h4⟩,h5⟩:=h;refine (WB.bit (F0:=F) (w:=wr) (WG.self h2) c one hl).mono ?_;rintro e w' ⟨rfl,F',h'⟩;exact ⟨rfl,CW.stepW h1 h3 h4 h5 h'⟩
theorem CW.number {D:Nat→Prop} {w0 wr:World} {b:Nat} {S:Wk} {bw:Nat} {l:Pk.Bits} (h:CW D w0 wr b S bw l) (c:Int) (n:Nat) (hn:n<2 ^ 64) (hl:l.length≤900000) :
  Calls Tryz.prog 46 #[.pointer (some ⟨bw,0,none⟩),.int .i64 c,.int .u64 n] wr fun en w'=>en=.returned (.tuple #[])∧CW D w0 w' b S bw (l++numBits c n):=by
 obtain ⟨⟨G,F,h1,h2,h3,h4⟩,h5⟩:=h;refine (WB.number (F0:=F) (w:=wr) (WG.self h2) c n hn hl).mono ?_;rintro e w' ⟨rfl,F',h'⟩;exact ⟨rfl,CW.stepW h1 h3 h4 h5 h'⟩
theorem CW.place {D:Nat→Prop} {w0 wr:World} {b:Nat} {S:Wk} {bw:Nat} {l:Pk.Bits} (h:CW D w0 wr b S bw l) (c:Int) (hc:0≤c∧c≤1000) (p near:Pt) (k1:farC p.1 near.1) (k2:farC p.2.1 near.2.1) (k3:farC p.2.2 near.2.2) (hl:l.length≤800000) :
  Calls Tryz.prog 51 #[.pointer (some ⟨bw,0,none⟩),.int .i64 c,ptV p,ptV near] wr fun en w'=>en=.returned (.tuple #[])∧CW D w0 w' b S bw (l++placeB c p near):=by
 obtain ⟨⟨G,F,h1,h2,h3,h4⟩,h5⟩:=h;refine (writePlace_any (F0:=F) (w:=wr) (WG.self h2) c hc p near k1 k2 k3 hl).mono ?_;rintro e w' ⟨rfl,F',h'⟩;exact ⟨rfl,CW.stepW h1 h3 h4 h5 h'⟩
theorem CW.last {D:Nat→Prop} {w0 wr:World} {b:Nat} {S:Wk} {bw:Nat} {l:Pk.Bits} (h:CW D w0 wr b S bw l) (hl:S.known.length≤1000000) :
  Calls Tryz.prog 98 #[.pointer (some ⟨b,0,none⟩)] wr fun en w'=>en=.returned (ptV (lastK S.known))∧Upd noBlk wr w':=by
 obtain ⟨G,F,h1,h2,h3,h4⟩:=h.ex;refine (last_any b S G hl wr h1).mono ?_;rintro e w' ⟨rfl,hu⟩;exact ⟨rfl,hu⟩
theorem CW.meet {D:Nat→Prop} {w0 wr:World} {b:Nat} {S:Wk} {bw:Nat} {l:Pk.Bits} (h:CW D w0 wr b S bw l) (p:Pt) (hp:okP p) (hl:S.known.length≤100000) :
  Calls Tryz.prog 50 #[.pointer (some ⟨b,0,none⟩),ptV p] wr fun en w'=>en=.returned (.tuple #[.int .i64 (meetN S.known p),.bool (decide (p∈S.known))])∧CW D w0 w' b ⟨meetK S.known p,S.tris,S.gates⟩ bw l:=by
 obtain ⟨⟨G,F,h1,h2,h3,h4⟩,h5⟩:=h;refine (meet_any b S G p hp hl wr h1).mono ?_;rintro e w' ⟨rfl,h'⟩;exact ⟨rfl,CW.stepS h2 h3 h4 h5 h'⟩
theorem CW.visit {D:Nat→Prop} {w0 wr:World} {b:Nat} {S:Wk} {bw:Nat} {l:Pk.Bits} (h:CW D w0 wr b S bw l) (t:Tri) (first:Nat) (hf:first=0∨first=1) (ht:okT t) (hfr:freeT false S.tris t) (hl:S.tris.length≤100000) (hg:S.gates.length≤1000000) :
  Calls Tryz.prog 53 #[.pointer (some ⟨b,0,none⟩),triV t,.int .i64 first] wr fun en w'=>en=.returned (.bool true)∧CW D w0 w' b (S.visit t first) bw l:=by
 obtain ⟨⟨G,F,h1,h2,h3,h4⟩,h5⟩:=h;refine (visit_any b S G t first hf ht hl hg wr h1).mono ?_;rintro e w' ⟨rfl,_,h'⟩;exact ⟨by rw [decide_eq_true hfr],CW.stepS h2 h3 h4 h5 (h' hfr)⟩
theorem CW.next {D:Nat→Prop} {w0 wr:World} {b:Nat} {S:Wk} {bw:Nat} {l:Pk.Bits} (h:CW D w0 wr b S bw l) (hok:∀g,g∈S.gates→okT g) (hl:S.gates.length≤1000000) :
  Calls Tryz.prog 47 #[.pointer (some ⟨b,0,none⟩)] wr fun en w'=>en=.returned (.tuple #[gateV (nextV S.tris S.gates),.bool (nextB S.tris S.gates)])∧CW D w0 w' b ⟨S.known,S.tris,restG S.tris S.gates⟩ bw l:=by
 obtain ⟨⟨G,F,h1,h2,h3,h4⟩,h5⟩:=h;refine (snext_any b S G hok hl wr h1).mono ?_;rintro e w' ⟨rfl,h'⟩;exact ⟨rfl,CW.stepS h2 h3 h4 h5 h'⟩
theorem CW.finish {D:Nat→Prop} {w0 wr:World} {b:Nat} {S:Wk} {bw:Nat} {l:Pk.Bits} (h:CW D w0 wr b S bw l) (hl:l.length≤900000) :
  Calls Tryz.prog 54 #[.pointer (some ⟨bw,0,none⟩)] wr fun en w'=>en=.returned (.string (str (encode l)))∧Upd noBlk wr w':=by
 obtain ⟨⟨G,F,h1,h2,h3,h4⟩,h5⟩:=h;exact WFinish_any bw _ F wr h2 (by have:=done_len hl;omega)
theorem CW.enter {D:Nat→Prop} {w0 wr:World} {b:Nat} {S:Wk} {bw:Nat} {l:Pk.Bits} (h:CW D w0 wr b S bw l):∃D1:Nat→Prop,(∀k,D1 k→k<wr.heap.size)∧(∀w1,Upd noBlk wr w1→CW D1 w1 w1 b S bw l)∧(∀w1 w' S' l',Upd noBlk wr w1→CW D1 w1 w' b S' bw l'→CW D w0 w' b S' bw l')∧(∀k,D1 k→D k∨w0.heap.size≤k):=by
 obtain ⟨⟨G,F,h1,h2,h3,h4⟩,h5⟩:=h;refine ⟨fun k=>G k∨F k,fun k hk=>?_,fun w1 hu=>?_,fun w1 w' S' l' hu h'=>?_,h4⟩
 ·rcases hk with h | h
  ·exact h1.lt k h
  ·exact h2.lt k h
 ·exact ⟨⟨G,F,h1.upd hu (fun _ _=>id),h2.upd hu (fun _ _=>id),h3,fun k hk=>.inl hk⟩,Upd.refl _ _⟩
 ·obtain ⟨⟨G',F',k1,k2,k3,k4⟩,k5⟩:=h';have hs:=hu.size;have hs5:=h5.size;refine ⟨⟨G',F',k1,k2,k3,fun k hk=>?_⟩,?_⟩
  ·rcases k4 k hk with h | h
   ·exact h4 k h
   ·exact .inr (by omega)
  ·exact (h5.trans (hu.mono (fun _ _ h=>h.elim))).then k5 (fun i hi hd=>(h4 i hd).resolve_right (by omega))
theorem CW.keepObj {D:Nat→Prop} {w0 wr:World} {b:Nat} {S:Wk} {bw:Nat} {l:Pk.Bits} (h:CW D w0 wr b S bw l) {k:Nat} {o:Obj} (ho:w0.heap[k]?=some o) (hk:¬D k):wr.heap[k]?=some o:=h.up.heap ho hk
def cornAt (t:Tri):Nat→Pt
 | 0=>t.1
 | 1=>t.2.1
 | _=>t.2.2
def seedK (t:Tri) (known:List Pt):Nat→List Pt
 | 0=>known
 | j+1=>meetK (seedK t known j) (cornAt t j)
def seedBs (t:Tri) (known:List Pt):Nat→Pk.Bits
 | 0=>[]
 | j+1=>seedBs t known j++cornerB (seedK t known j) (cornAt t j) (lastK (seedK t known j)) 0 192 256
theorem corner_len {known:List Pt} {p near:Pt} {b n q:Int} (hp:inP p) (hn:nearP near) (hk:known.length≤100000):(cornerB known p near b n q).length≤400:=by
 unfold cornerB;split
 ·rw [List.length_cons];have:=numBits_length n (n:=known.length-1-known.idxOf p) (by omega);omega
 ·obtain ⟨p1,p2,p3,p4,p5,p6⟩:=hp;obtain ⟨n1,n2,n3⟩:=hn;rw [List.length_cons];unfold placeB;rw [List.length_append,List.length_append];have a1:=numBits_length q (n:=zig (p.1-near.1)) (by have:=zig_small p1 p2 n1.1 n1.2;omega);have a2:=numBits_length (q+64) (n:=zig (p.2.1-near.2.1)) (by have:=zig_small p3 p4 n2.1 n2.2;omega);have a3:=numBits_length (q+128) (n:=zig (p.2.2-near.2.2)) (by have:=zig_small p5 p6 n3.1 n3.2;omega);omega
theorem seedK_len (t:Tri) (known:List Pt):∀j,(seedK t known j).length≤known.length+j
 | 0=>Nat.le_refl _
 | j+1=>by have:=seedK_len t known j;have h2:=meetK_len (seedK t known j) (cornAt t j);show (meetK _ _).length≤_;omega
theorem cornAt_in {t:Tri} (h:inT t) (j:Nat):inP (cornAt t j):=by
 obtain ⟨h1,h2,h3⟩:=h;match j with
 | 0=>exact h1
 | 1=>exact h2
 | _+2=>exact h3
theorem seedK_in {t:Tri} (h:inT t) {known:List Pt} (hk:∀p,p∈known→inP p):∀j,∀p,p∈seedK t known j→inP p
 | 0=>hk
 | j+1=>meetK_in (seedK_in h hk j) (cornAt_in h j)
theorem seedBs_len {t:Tri} (h:inT t) {known:List Pt} (hk:∀p,p∈known→inP p) (hl:known.length≤90000):∀j,j≤3→(seedBs t known j).length≤400*j
 | 0,_=>Nat.le_refl _
 | j+1,hj=>by
  have h1:=seedBs_len h hk hl j (by omega);have h2:=corner_len (known:=seedK t known j) (p:=cornAt t j) (near:=lastK (seedK t known j)) (b:=0) (n:=192) (q:=256) (cornAt_in h j) (near_of_in (lastK_in (seedK_in h hk j))) (by have:=seedK_len t known j;omega);show (_++_:List _).length≤_;rw [List.length_append];omega
theorem okP_of {p:Pt} (h:inP p):okP p:=by
 obtain ⟨p1,p2,p3,p4,p5,p6⟩:=h;exact ⟨⟨by omega,by omega⟩,⟨by omega,by omega⟩,⟨by omega,by omega⟩⟩
theorem okT_of {t:Tri} (h:inT t):okT t:=⟨okP_of h.1,okP_of h.2.1,okP_of h.2.2⟩
theorem far_of {p near:Pt} (hp:inP p) (hn:nearP near):farC p.1 near.1∧farC p.2.1 near.2.1∧farC p.2.2 near.2.2:=by
 obtain ⟨p1,p2,p3,p4,p5,p6⟩:=hp;obtain ⟨n1,n2,n3⟩:=hn;unfold farC;omega
end Go.Proofs.YtcikldoaidmnhaaGreatDoor
namespace Go.Proofs.YtcikldoaidmnhaaGreatDoor
open Go Go.RowKit Pk Pc
set_option maxRecDepth 100000
theorem index_tri (t:Tri) (j:Nat) (hj:j<3) (W:World):(Instr.index 45 (triV t) (.int .i64 (j:Int))).run Tryz.prog W=.ok (ptV (cornAt t j)) W:=by
 obtain ⟨⟨a0,a1,a2⟩,⟨a3,a4,a5⟩,⟨a6,a7,a8⟩⟩:=t;rcases (by omega:j=0∨j=1∨j=2) with rfl | rfl | rfl<;>kernel_rfl
theorem cells2 {w:World} {b:Nat} {x0 x1:Value} {t:TypeId} {fr:Nat × Nat} (h:w.heap[b]?=some (.cells #[x0,x1] t fr)):w.cell? ⟨b,0,none⟩=some x0∧w.cell? ⟨b,1,none⟩=some x1:=by simp [World.cell?,h]
set_option maxHeartbeats 4000000 in
theorem seed_any {D:Nat→Prop} {w0 wq:World} {b:Nat} {S:Wk} {bw:Nat} {l:Pk.Bits} (h:CW D w0 wq b S bw l) (t:Tri) (ht:inT t) (hk:∀p,p∈S.known→inP p) (hkl:S.known.length≤90000) (hfr:freeT false S.tris t) (htl:S.tris.length≤100000) (hgl:S.gates.length≤1000000) (hl:l.length≤700000) :
  Calls Tryz.prog 48 #[.agg #[.pointer (some ⟨b,0,none⟩),.pointer (some ⟨bw,0,none⟩)],triV t] wq fun en w'=>en=.returned (.tuple #[])∧CW D w0 w' b (Wk.visit ⟨seedK t S.known 3,S.tris,S.gates⟩ t 0) bw (l++seedBs t S.known 3):=by
 obtain ⟨D1,e1,e2,e3,_⟩:=h.enter;have HIX:=fun j hj W=>Lib.hid (index_tri t j hj W);obtain ⟨K,tr,gs⟩:=S;simp only at *;have HT:=Lib.hid ht;have HK:=Lib.hid hk;have HKL:Hid (K.length≤90000):=hkl;have HFR:=Lib.hid hfr;have HTL:Hid (tr.length≤100000):=htl;have HGL:Hid (gs.length≤1000000):=hgl;have HLL:Hid (l.length≤700000):=hl;obtain ⟨tv,htv⟩:∃tv,tv=triC t:=⟨_,rfl⟩;have htV:triV t=.agg tv.toArray:=by rw [htv];rfl
 obtain ⟨w1,hw1⟩:∃w1,w1=(wq.alloc (.cells #[.pointer (some ⟨b,0,none⟩),.pointer (some ⟨bw,0,none⟩)] 95)).alloc (.cells (triC t).toArray 45):=⟨_,rfl⟩;have hu1:Upd noBlk wq w1:=by rw [hw1];exact ((Upd.refl _ wq).alloc _).alloc _
 have HC1:=Lib.hid (e2 w1 hu1);have HB1:Hid (w1.heap[wq.heap.size]?=some (.cells #[.pointer (some ⟨b,0,none⟩),.pointer (some ⟨bw,0,none⟩)] 95 (0,0))):=by show _=_;rw [hw1];exact ((Upd.refl noBlk _).alloc _).heap (heap_alloc_new wq _) id
 have HT1:Hid (w1.heap[wq.heap.size+1]?=some (.cells (triC t).toArray 45 (0,0))):=by
  show _=_;rw [hw1];have:=heap_alloc_new (wq.alloc (.cells #[.pointer (some ⟨b,0,none⟩),.pointer (some ⟨bw,0,none⟩)] 95)) (.cells (triC t).toArray 45);rwa [World.size_alloc] at this
 have HE3:Hid (∀w' S' l',CW D1 w1 w' b S' bw l'→CW D w0 w' b S' bw l'):=fun w' S' l'=>e3 w1 w' S' l' hu1;have HD0:Hid (¬D1 wq.heap.size):=fun h=>by have:=e1 _ h;omega
 have HD1:Hid (¬D1 (wq.heap.size+1)):=fun h=>by have:=e1 _ h;omega
 clear h e1 e2 e3 ht hk hkl hfr htl hgl hl htv htV;clear tv;obtain ⟨⟨a0,a1,a2⟩,⟨a3,a4,a5⟩,⟨a6,a7,a8⟩⟩:=t;unfold triV triC at *;go_enter Tryz.func48,Tryz.ntmps48
 go_upto_region 1 with fail
 rw [←hw1];clear hw1 hu1;obtain ⟨g0,g1,g2,g3,g4,g5,g6,g7,g8⟩:=cells9 HT1.out;go_wp2_with fail
 clear g0 g1 g2 g3 g4 g5 g6 g7 g8;go_loopw [10] (fun i wr=>∃j:Nat,i=.int .i64 j∧j≤3∧CW D1 w1 wr b ⟨seedK ((a0,a1,a2),(a3,a4,a5),(a6,a7,a8)) K j,tr,gs⟩ bw (l++seedBs ((a0,a1,a2),(a3,a4,a5),(a6,a7,a8)) K j)) (fun i _=>3-(intOf i).toNat)
 case atStart=>exact ⟨0,rfl,by omega,by show CW _ _ _ _ ⟨K,tr,gs⟩ _ (l++[]);rw [List.append_nil];exact HC1.out⟩
 case round=>
  obtain ⟨j,rfl,hj,hc⟩:=hrel;have HC:=Lib.hid hc;clear hc HC1;by_cases hj3:j<3
  ·have hj':(j:Int)<3:=by omega
   have hix:=fun W=>(HIX j hj3 W).out;have hpin:=cornAt_in HT.out j;have hKin:=seedK_in HT.out HK.out j;have hKlen:=seedK_len ((a0,a1,a2),(a3,a4,a5),(a6,a7,a8)) K j;have hBlen:=seedBs_len HT.out HK.out HKL.out j hj;have hnin:=near_of_in (lastK_in hKin);have HS:Hid (seedBs ((a0,a1,a2),(a3,a4,a5),(a6,a7,a8)) K (j+1)=seedBs ((a0,a1,a2),(a3,a4,a5),(a6,a7,a8)) K j++cornerB (seedK ((a0,a1,a2),(a3,a4,a5),(a6,a7,a8)) K j) (cornAt ((a0,a1,a2),(a3,a4,a5),(a6,a7,a8)) j) (lastK (seedK ((a0,a1,a2),(a3,a4,a5),(a6,a7,a8)) K j)) 0 192 256):=rfl;have HSK:Hid (seedK ((a0,a1,a2),(a3,a4,a5),(a6,a7,a8)) K (j+1)=meetK (seedK ((a0,a1,a2),(a3,a4,a5),(a6,a7,a8)) K j) (cornAt ((a0,a1,a2),(a3,a4,a5),(a6,a7,a8)) j)):=rfl;obtain ⟨D2,d1,d2,d3,d4⟩:=HC.out.enter;have HBR:=Lib.hid (HC.out.keepObj HB1.out HD0.out);have HLT:Hid (wq.heap.size<wr.heap.size):=lt_of_heap HBR.out;have HD2:Hid (¬D2 wq.heap.size):=fun h=>by
    rcases d4 _ h with h | h
    ·exact HD0.out h
    ·have:=lt_of_heap HB1.out;omega
   have HDD:=Lib.hid d1;have HD3:=Lib.hid d2;have HD4:=Lib.hid d3;clear d1 d2 d3 d4;generalize seedK ((a0,a1,a2),(a3,a4,a5),(a6,a7,a8)) K j=KJ at *;generalize seedBs ((a0,a1,a2),(a3,a4,a5),(a6,a7,a8)) K j=BJ at *;generalize hpp:cornAt ((a0,a1,a2),(a3,a4,a5),(a6,a7,a8)) j=pj at *;clear hpp;obtain ⟨p0,p1,p2⟩:=pj;generalize hnn:lastK KJ=nj at *;have HNN:=Lib.hid hnn;clear hnn;obtain ⟨n0,n1,n2⟩:=nj;have HPIN:=Lib.hid hpin;have HNIN:=Lib.hid hnin;have HKJL:Hid (KJ.length≤90003):=by have:=HKL.out;show _≤_;omega
   have HBJL:Hid ((l++BJ).length≤702000):=by have:=HLL.out;show _≤_;rw [List.length_append];omega
   unfold ptV at hix;clear hpin hnin hKin hKlen hBlen;have hu1:Upd noBlk wr (wr.alloc (.cells #[.int .i64 p0,.int .i64 p1,.int .i64 p2] 43)):=(Upd.refl _ wr).alloc _;have HLAST:=Lib.hid ((HD3.out _ hu1).last (by have:=HKJL.out;show KJ.length≤_;omega));have HU1:=Lib.hid hu1;have HP1:=Lib.hid (heap_alloc_new wr (.cells #[.int .i64 p0,.int .i64 p1,.int .i64 p2] 43));have HB2:=Lib.hid (hu1.heap HBR.out id);obtain ⟨b0,b1⟩:=cells2 HBR.out;obtain ⟨b0',b1'⟩:=cells2 HB2.out;rw [HNN.out] at HLAST;clear hu1;go_wp2_with fail
   refine HLAST.out.mono ?_;rintro e w2 ⟨rfl,u2⟩;have HU2:=Lib.hid (HU1.out.trans u2);have HB3:=Lib.hid (u2.heap HB2.out id);have HP2:=Lib.hid (u2.heap HP1.out id);clear u2 HLAST b0 b1 b0' b1';unfold ptV;have HU3:=Lib.hid (HU2.out.alloc (.cells #[.int .i64 n0,.int .i64 n1,.int .i64 n2] 43));have hu3:Upd noBlk w2 (w2.alloc (.cells #[.int .i64 n0,.int .i64 n1,.int .i64 n2] 43)):=(Upd.refl _ w2).alloc _;have HB4:=Lib.hid (hu3.heap HB3.out id);have HP4:=Lib.hid (hu3.heap HP2.out id);have HN4:=Lib.hid (heap_alloc_new w2 (.cells #[.int .i64 n0,.int .i64 n1,.int .i64 n2] 43));have HBN:Hid (wr.heap.size≤w2.heap.size):=HU2.out.size;have HMEET:=Lib.hid ((HD3.out _ HU3.out).meet (p0,p1,p2) (okP_of HPIN.out) (by have:=HKJL.out;show KJ.length≤_;omega));obtain ⟨x3,hx3⟩:∃x3,x3=w2.alloc (.cells #[.int .i64 n0,.int .i64 n1,.int .i64 n2] 43):=⟨_,rfl⟩;rw [←hx3] at HU3 HB4 HP4 HN4 HMEET;have HBS:=HB4;have HPS:=HP4;have HNS:=HN4;obtain ⟨b0,b1⟩:=cells2 HB4.out;obtain ⟨k0,k1,k2⟩:=cells3 HP4.out;clear hu3 HB2 HP1 HB3 HP2;go_upto_region 5 with fail
   rw [←hx3];clear hx3;unfold ptV at HMEET;go_wp2_with fail
   refine HMEET.out.mono ?_;rintro e w4 ⟨rfl,hc4⟩;have HC4:=Lib.hid hc4;have HB5:=Lib.hid (hc4.keepObj HB4.out HD2.out);have HP5:=Lib.hid (hc4.keepObj HP4.out (fun h=>by have:=HDD.out _ h;omega));have HN5:=Lib.hid (hc4.keepObj HN4.out (fun h=>by have:=HDD.out _ h;have:=HBN.out;omega));clear hc4 HMEET b0 b1 k0 k1 k2 HB4 HP4 HN4;obtain ⟨b0,b1⟩:=cells2 HB5.out;by_cases hm:(p0,p1,p2)∈KJ
   ·have hd:decide ((p0,p1,p2)∈KJ)=true:=decide_eq_true hm;have HCB:Hid (cornerB KJ (p0,p1,p2) (n0,n1,n2) 0 192 256=[(0,true)]++numBits 192 (meetN KJ (p0,p1,p2))):=by
     show _=_;unfold cornerB meetN;rw [if_pos hm,if_pos hm];rfl
    have HML:Hid (meetN KJ (p0,p1,p2)≤100000):=by show _≤_;unfold meetN;have:=HKJL.out;split<;>omega
    generalize meetN KJ (p0,p1,p2)=mn at *;have hwn:IntKind.u64.wrap (mn:Int)=(mn:Int):=by have:=HML.out;have:=IntKind.wrap_u64 (mn:Int);omega
    rw [hd];have HBIT:=Lib.hid (HC4.out.bit 0 true (by have:=HBJL.out;omega));clear hm hd;go_wp2_with fail
    refine HBIT.out.mono ?_;rintro e w5 ⟨rfl,hc5⟩;have HC5:=Lib.hid hc5;have HB6:=Lib.hid (hc5.keepObj HBS.out HD2.out);clear hc5 HBIT b0 b1;obtain ⟨b0,b1⟩:=cells2 HB6.out;have HNUM:=Lib.hid (HC5.out.number 192 mn (by have:=HML.out;omega) (by have:=HBJL.out;rw [List.length_append];simp only [List.length_cons,List.length_nil];omega));go_wp2_with fail
    refine HNUM.out.mono ?_;rintro e w6 ⟨rfl,hc6⟩;have HC6:=Lib.hid (HD4.out x3 w6 _ _ HU3.out hc6);clear hc6 HNUM b0 b1;go_wp2_with fail
    refine ⟨⟨j+1,by go_num,by omega,?_⟩,by simp [intOf];omega⟩;rw [HS.out,HSK.out,HCB.out,←List.append_assoc,←List.append_assoc];exact HC6.out
   ·have hd:decide ((p0,p1,p2)∈KJ)=false:=decide_eq_false hm;have HCB:Hid (cornerB KJ (p0,p1,p2) (n0,n1,n2) 0 192 256=[(0,false)]++placeB 256 (p0,p1,p2) (n0,n1,n2)):=by
     show _=_;unfold cornerB;rw [if_neg hm];rfl
    rw [hd];have HBIT:=Lib.hid (HC4.out.bit 0 false (by have:=HBJL.out;omega));clear hm hd;go_wp2_with fail
    refine HBIT.out.mono ?_;rintro e w5 ⟨rfl,hc5⟩;have HC5:=Lib.hid hc5;have HB6:=Lib.hid (hc5.keepObj HBS.out HD2.out);have HP6:=Lib.hid (hc5.keepObj HPS.out (fun h=>by have:=HDD.out _ h;omega));have HN6:=Lib.hid (hc5.keepObj HNS.out (fun h=>by have:=HDD.out _ h;have:=HBN.out;omega));clear hc5 HBIT b0 b1;obtain ⟨b0,b1⟩:=cells2 HB6.out;obtain ⟨k0,k1,k2⟩:=cells3 HP6.out;obtain ⟨m0,m1,m2⟩:=cells3 HN6.out;obtain ⟨f1,f2,f3⟩:=far_of HPIN.out HNIN.out;have HPL:=Lib.hid (HC5.out.place 256 ⟨by omega,by omega⟩ (p0,p1,p2) (n0,n1,n2) f1 f2 f3 (by have:=HBJL.out;rw [List.length_append];simp only [List.length_cons,List.length_nil];omega));unfold ptV at HPL;clear f1 f2 f3;go_wp2_with fail
    refine HPL.out.mono ?_;rintro e w6 ⟨rfl,hc6⟩;have HC6:=Lib.hid (HD4.out x3 w6 _ _ HU3.out hc6);clear hc6 HPL b0 b1 k0 k1 k2 m0 m1 m2;go_wp2_with fail
    refine ⟨⟨j+1,by go_num,by omega,?_⟩,by simp [intOf];omega⟩;rw [HS.out,HSK.out,HCB.out,←List.append_assoc,←List.append_assoc];exact HC6.out
  ·obtain rfl:j=3:=by omega
   have HBE:=Lib.hid (HC.out.keepObj HB1.out HD0.out);have HTE:=Lib.hid (HC.out.keepObj HT1.out HD1.out);obtain ⟨b0,b1⟩:=cells2 HBE.out;obtain ⟨g0,g1,g2,g3,g4,g5,g6,g7,g8⟩:=cells9 HTE.out;have HV:=Lib.hid (HC.out.visit ((a0,a1,a2),(a3,a4,a5),(a6,a7,a8)) 0 (.inl rfl) (okT_of HT.out) HFR.out HTL.out HGL.out);unfold triV triC at HV;go_wp2_with fail
   refine HV.out.mono ?_;rintro e w6 ⟨rfl,hc6⟩;have HC6:=Lib.hid (HE3.out _ _ _ hc6);clear hc6 HV;go_wp2_with fail
   go_end0
   exact ⟨rfl,HC6.out⟩
end Go.Proofs.YtcikldoaidmnhaaGreatDoor
namespace Go.Proofs.YtcikldoaidmnhaaGreatDoor
open Go Go.RowKit Pc
set_option maxRecDepth 100000
structure RG (F0:Nat→Prop) (w wr:World) (r:Nat) (d:D) (F:Nat→Prop):Prop where
 rep:RRep wr r d F
 new:∀k,F k→F0 k∨w.heap.size≤k
 up:Upd F0 w wr
theorem RG.self {w:World} {r:Nat} {d:D} {F:Nat→Prop} (h:RRep w r d F):RG F w w r d F:=⟨h,fun _ hk=>.inl hk,Upd.refl _ _⟩
theorem RG.bit {F0:Nat→Prop} {w wr:World} {r:Nat} {d:D} {F:Nat→Prop} (h:RG F0 w wr r d F) (c:Int) :
  Calls Tryz.prog 151 #[.pointer (some ⟨r,0,none⟩),.int .i64 c] wr fun en w'=>en=.returned (.bool (d.one c))∧∃F',RG F0 w w' r (d.bit c) F':=by
 refine (RBit_any r c d F wr h.rep).mono ?_;rintro e w2 ⟨rfl,F',q1,q2,q3⟩;exact ⟨rfl,F',q1,fun j hj=>(q3 j hj).elim (h.new j) (fun x=>.inr (Nat.le_trans h.up.size x)),upd_foot h.up q2 h.new⟩
theorem ones_step {c:Int} {k:Nat} (hk:k≤64) (d:D):D.ones c (65-k) d=if d.one (nctx c k) then D.ones c (64-k) (d.bit (nctx c k)) else (k,d.bit (nctx c k)):=by
 rw [show 65-k=(64-k)+1 by omega,D.ones,show 64-(64-k)=k by omega]
def numV (x:NumR):Value:=.tuple #[.int .u64 (x.n:Int),.bool x.ok]
theorem number_many {c:Int} {d d':D} (h:(65,d')=D.ones c 65 d):d.number c=⟨0,false,d'⟩:=by unfold D.number;rw [←h];simp
theorem number_none {c:Int} {d d':D} (h:(0,d')=D.ones c 65 d):d.number c=⟨0,true,d'⟩:=by unfold D.number;rw [←h];simp
theorem number_some {c:Int} {d d':D} {k:Nat} (h:(k,d')=D.ones c 65 d) (h0:0<k) (h1:k≤64):d.number c=⟨(D.val c (k-1) 1 d').1,true,(D.val c (k-1) 1 d').2⟩:=by
 unfold D.number;rw [←h];simp only;rw [if_neg (by omega),if_neg (by omega)]
theorem or_one {x:Nat} (hx:x<9223372036854775808):bits .or .u64 ((x:Int)*2) 1=(((2*x+1:Nat)):Int):=by
 have h:=u64_or_nat (2*x) 1 (by omega) (by omega);rw [show (x:Int)*2=((2*x:Nat):Int) by omega,show (1:Int)=((1:Nat):Int) from rfl,h];rw [nat_join 1 _ _ (by omega) (by omega)]
theorem val_bd {x m:Nat} (hm:m+1≤63) (h:x<2 ^ (64-(m+1))):x<9223372036854775808∧2*x+1<2 ^ (64-m):=by
 have e:2 ^ (64-m)=2 ^ (64-(m+1))*2:=by rw [←Nat.pow_succ];congr 1;omega
 have h1:2 ^ (64-(m+1))≤2 ^ 63:=Nat.pow_le_pow_right (by omega) (by omega);constructor
 ·omega
 ·omega
set_option maxHeartbeats 1000000 in
theorem RNumber_any {F0:Nat→Prop} {w0 w:World} {r:Nat} {d:D} {F:Nat→Prop} (h:RG F0 w0 w r d F) (c:Int) :
  Calls Tryz.prog 174 #[.pointer (some ⟨r,0,none⟩),.int .i64 c] w fun en w'=>en=.returned (numV (d.number c))∧∃F',RG F0 w0 w' r (d.number c).d F':=by
 have H:=Lib.hid h;clear h;go_enter Tryz.func174,Tryz.ntmps174
 go_wp2_with fail
 go_loopw [6] (fun i wr=>∃k:Nat,i=.int .i64 k∧k≤64∧∃d' F',RG F0 w0 wr r d' F'∧D.ones c (65-k) d'=D.ones c 65 d) (fun i _=>65-(intOf i).toNat)
 case atStart=>exact ⟨0,rfl,Nat.zero_le _,d,F,H.out,rfl⟩
 case round=>
  obtain ⟨k,rfl,hk,d',F',h1,h2⟩:=hrel;have H1:=Lib.hid h1;have H2:Hid ((if d'.one (nctx c k) then D.ones c (64-k) (d'.bit (nctx c k)) else (k,d'.bit (nctx c k)))=D.ones c 65 d):=by show _=_;rw [←ones_step hk];exact h2
  have hkb:(k:Int)≤64:=by omega
  clear h1 h2;by_cases ho:d'.one (nctx c k)=true
  ·have HO:=Lib.hid ho;have hcall:Calls Tryz.prog 151 #[.pointer (some ⟨r,0,none⟩),.int .i64 (nctx c k)] wr fun en w'=>en=.returned (.bool true)∧∃F',RG F0 w0 w' r (d'.bit (nctx c k)) F':=by
    have:=H1.out.bit (nctx c k);rwa [ho] at this
   have HC:=Lib.hid hcall;clear ho hcall;by_cases hlt:k<64
   ·have HX:Hid (D.ones c (65-(k+1)) (d'.bit (nctx c k))=D.ones c 65 d):=by
     show _=_;rw [←H2.out,HO.out,if_pos rfl,show 65-(k+1)=64-k by omega]
    have hlt':(k:Int)<64:=by omega
    go_wp2_with (go_at_call 151;refine HC.out.mono ?_;rintro en w3 ⟨rfl,F3,q⟩;have Q:=Lib.hid q;clear q)
    go_roundw
    case rel=>exact ⟨k+1,by go_num,hlt,_,F3,Q.out,HX.out⟩
    case measure=>simp [intOf];omega
   ·obtain rfl:k=64:=by omega
    have HX:Hid (d.number c=⟨0,false,d'.bit (nctx c 64)⟩):=number_many (by rw [←H2.out,HO.out,if_pos rfl];rfl);go_wp2_with (go_at_call 151;refine HC.out.mono ?_;rintro en w3 ⟨rfl,F3,q⟩;have Q:=Lib.hid q;clear q)
    go_ret2
    exact ⟨by rw [HX.out];rfl,F3,by rw [HX.out];exact Q.out⟩
  ·have ho':d'.one (nctx c k)=false:=by simpa using ho
   have HE:Hid ((k,d'.bit (nctx c k))=D.ones c 65 d):=by show _=_;rw [←H2.out,ho',if_neg (by simp)]
   have hcall:Calls Tryz.prog 151 #[.pointer (some ⟨r,0,none⟩),.int .i64 (nctx c k)] wr fun en w'=>en=.returned (.bool false)∧∃F',RG F0 w0 w' r (d'.bit (nctx c k)) F':=by
    have:=H1.out.bit (nctx c k);rwa [ho'] at this
   have HC:=Lib.hid hcall;clear ho ho' hcall H2;rcases Nat.eq_zero_or_pos k with hk0 | hk0
   ·subst hk0;have HX:Hid (d.number c=⟨0,true,d'.bit (nctx c 0)⟩):=number_none HE.out;go_wp2_with (go_at_call 151;refine HC.out.mono ?_;rintro en w3 ⟨rfl,F3,q⟩;have Q:=Lib.hid q;clear q)
    go_ret2
    exact ⟨by rw [HX.out];rfl,F3,by rw [HX.out];exact Q.out⟩
   ·have HX:Hid (d.number c=⟨(D.val c (k-1) 1 (d'.bit (nctx c k))).1,true,(D.val c (k-1) 1 (d'.bit (nctx c k))).2⟩):=number_some HE.out hk0 hk;have hne:((k:Int) == 0)=false:=by rw [beq_eq_false_iff_ne];omega
    go_wp2_with (go_at_call 151;refine HC.out.mono ?_;rintro en w3 ⟨rfl,F3,q⟩;have Q:=Lib.hid q;clear q)
    clear hne HC HE;generalize d'.bit (nctx c k)=d1 at *;go_loopw [7,8] (fun x i wr=>∃(v m:Nat),x=.int .u64 v∧i=.int .i64 ((m:Int)-1)∧m≤63∧v<2 ^ (64-m)∧∃d2 F2,RG F0 w0 wr r d2 F2∧D.val c m v d2=D.val c (k-1) 1 d1) (fun _ i _=>(intOf i+1).toNat)
    case atStart=>exact ⟨1,k-1,rfl,by go_num,by omega,Nat.one_lt_two_pow (by omega),_,F3,Q.out,rfl⟩
    case round=>
     obtain ⟨v,m,rfl,rfl,hm,hv,d2,F2,h1,h2⟩:=hrel;have R1:=Lib.hid h1;have R2:=Lib.hid h2;clear h1 h2 H1 Q;rcases m with _ | j
     ·have h0:decide (((0:Nat):Int)-1 ≥ 0)=false:=by decide
      have HV:Hid ((v,d2)=D.val c (k-1) 1 d1):=R2.out;clear hv;go_wp2_with fail
      go_ret2
      exact ⟨by rw [HX.out,←HV.out];rfl,F2,by rw [HX.out,←HV.out];exact R1.out⟩
     ·have e1:(((j+1:Nat):Int)-1)=(j:Int):=by omega
      rw [e1];have hj:(j:Int)≤62:=by omega
      obtain ⟨v1,v2⟩:=val_bd hm hv;have hvb:(v:Int)<9223372036854775808:=by omega
      have hor:=or_one v1;have V2:=Lib.hid v2;have R3:Hid (D.val c j (2*v+if d2.one (vctx c j) then 1 else 0) (d2.bit (vctx c j))=D.val c (k-1) 1 d1):=R2.out;clear hv e1 v1 v2 R2;by_cases ho:d2.one (vctx c j)=true
      ·have hcall:Calls Tryz.prog 151 #[.pointer (some ⟨r,0,none⟩),.int .i64 (vctx c j)] wr fun en w'=>en=.returned (.bool true)∧∃F',RG F0 w0 w' r (d2.bit (vctx c j)) F':=by
        have:=R1.out.bit (vctx c j);rwa [ho] at this
       have HC:=Lib.hid hcall;have R4:Hid (D.val c j (2*v+1) (d2.bit (vctx c j))=D.val c (k-1) 1 d1):=by show _=_;rw [←R3.out,ho];rfl
       clear ho hcall;go_wp2_with (go_at_call 151;refine HC.out.mono ?_;rintro en w4 ⟨rfl,F4,q⟩;have Q4:=Lib.hid q;clear q)
       go_roundw
       case rel=>exact ⟨2*v+1,j,rfl,by go_num,by omega,V2.out,_,F4,Q4.out,R4.out⟩
       case measure=>simp [intOf]<;>omega
      ·have ho':d2.one (vctx c j)=false:=by simpa using ho
       have hcall:Calls Tryz.prog 151 #[.pointer (some ⟨r,0,none⟩),.int .i64 (vctx c j)] wr fun en w'=>en=.returned (.bool false)∧∃F',RG F0 w0 w' r (d2.bit (vctx c j)) F':=by
        have:=R1.out.bit (vctx c j);rwa [ho'] at this
       have HC:=Lib.hid hcall;have R4:Hid (D.val c j (2*v) (d2.bit (vctx c j))=D.val c (k-1) 1 d1):=by show _=_;rw [←R3.out,ho'];rfl
       clear ho ho' hcall hor;go_wp2_with (go_at_call 151;refine HC.out.mono ?_;rintro en w4 ⟨rfl,F4,q⟩;have Q4:=Lib.hid q;clear q)
       go_roundw
       case rel=>exact ⟨2*v,j,by go_num,by go_num,by omega,by have:=V2.out;omega,_,F4,Q4.out,R4.out⟩
       case measure=>simp [intOf]<;>omega
end Go.Proofs.YtcikldoaidmnhaaGreatDoor
