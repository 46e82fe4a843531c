/- Parts: Rows of the call's own from some place of their block on: what is left of a row behind 'l = l[1:]', and appends to it. No condition. Walks of the coder's writer: Bit. -/
import Derived.Test.YtmgklblglpplcaaGreatDoorRPubl1
import Derived.Test.YtmgklblglpplcaaGreatDoorRPubl2
import Derived.Test.YtmgklblglpplcaaGreatDoorRPubl3
import Derived.Test.YtmgklblglpplcaaGreatDoorRPubl5
import Derived.Test.YtmgklblglpplcaaGreatDoorRPubl6
import Derived.Test.YtmgklblglpplcaaGreatDoorRPubl9
import Derived.WalkKit
import Derived.WalkSpells
import Derived.WalkLawsBesides
import Derived.Lib.Hide
import Derived.BigQuiet
import Derived.Deep.DeepFit
import Derived.Deep.DeepCutAuto
import Derived.Deep.AppendLies
import Derived.Deep.QuietTactic
import Derived.Deep.MidRow
import Derived.ArgAppend
import Derived.Deep.Upon
import Derived.Test.YtmgklblglpplcaaGreatDoorRows
import Derived.Deep.RegionHeld3
import Derived.StillTail
namespace Go.Proofs.YtmgklblglpplcaaGreatDoor
open Go Go.RowKit
variable {P:Program} {α:Type}
theorem setCells_blk {g:Nat} {T:TypeId}:∀(vs:List Value) (o:Nat) (w:World) (cur:Array Value),w.heap[g]?=some (.cells cur T (0,0))→∃cur',(w.setCells g o vs).heap[g]?=some (.cells cur' T (0,0))∧cur'.size=cur.size
 | [],_,_,cur,h=>⟨cur,h,rfl⟩
 | v :: r,o,w,cur,h=>by
  obtain ⟨c',h1,h2⟩:=setCells_blk r (o+1) (w.setCell ⟨g,o,none⟩ v) _ (heap_setCell_eq (i:=o) v h);exact ⟨c',h1,by rw [h2];simp⟩
theorem setCells_upd {g:Nat}:∀(vs:List Value) (o:Nat) (w:World),Upd (fun k=>k=g) w (w.setCells g o vs)
 | [],_,w=>Upd.refl _ w
 | v :: r,o,w=>((Upd.refl (fun k=>k=g) w).setCell (p:=⟨g,o,none⟩) (fun _=>rfl) v).trans (setCells_upd r (o+1) _)
def Kd.Que (K:Kd P α) (base:Nat) (w:World) (v:Value) (l:List α):Prop:=
 (v=.slice none 0 0∧l=[])∨∃g off cap cur,v=.slice (some ⟨g,off,none⟩) l.length cap∧base≤g∧w.heap[g]?=some (.cells cur K.T (0,0))∧l.length≤cap∧cap≤maxLen∧off+cap*K.k≤cur.size∧w.rangeAt g off (l.flatMap K.enc)
theorem Kd.Que.nil (K:Kd P α) (base:Nat) (w:World):K.Que base w (.slice none 0 0) []:=.inl ⟨rfl,rfl⟩
theorem Kd.Que.form {K:Kd P α} {base:Nat} {w:World} {v:Value} {l:List α} (h:K.Que base w v l):∃A cap,v=.slice A l.length cap∧l.length≤cap:=by
 rcases h with ⟨rfl,rfl⟩ | ⟨g,off,cap,cur,rfl,_,_,h1,_⟩
 ·exact ⟨none,0,rfl,Nat.le_refl _⟩
 ·exact ⟨_,_,rfl,h1⟩
theorem Kd.Que.blk {K:Kd P α} {base:Nat} {w:World} {v:Value} {l:List α} (h:K.Que base w v l) {g:Nat} (hg:v.ownBlock=some g):base≤g∧∃cur,w.heap[g]?=some (.cells cur K.T (0,0)):=by
 rcases h with ⟨rfl,_⟩ | ⟨g',off,cap,cur,rfl,h1,h2,_⟩
 ·cases hg
 ·cases hg;exact ⟨h1,cur,h2⟩
theorem Kd.Que.keepB {K:Kd P α} {base:Nat} {w w':World} {v:Value} {l:List α} (h:K.Que base w v l) (hk:∀g,v.ownBlock=some g→w'.heap[g]?=w.heap[g]?):K.Que base w' v l:=by
 rcases h with h | ⟨g,off,cap,cur,rfl,h1,h2,h3,h4,h5,h6⟩
 ·exact .inl h
 ·have hb:=hk g rfl;exact .inr ⟨g,off,cap,cur,rfl,h1,hb.trans h2,h3,h4,h5,fun j u hu=>(World.cell?_of_block hb).trans (h6 j u hu)⟩
theorem Kd.Que.other {K:Kd P α} {F:Nat→Prop} {base:Nat} {w w':World} {v:Value} {l:List α} (h:K.Que base w v l) (hu:Upd F w w') (hF:∀g,v.ownBlock=some g→¬F g):K.Que base w' v l:=
 h.keepB (fun g hg=>by obtain ⟨_,cur,hc⟩:=h.blk hg;exact hu.block g (lt_of_heap hc) (hF g hg))
theorem Kd.Que.keep {K:Kd P α} {base:Nat} {w w':World} {v:Value} {l:List α} (h:K.Que base w v l) (hu:Upd noBlk w w'):K.Que base w' v l:=h.other hu (fun _ _=>id)
theorem Kd.Own.que {K:Kd P α} {base:Nat} {w:World} {v:Value} {l:List α} (h:K.Own base w v l):K.Que base w v l:=by
 have h0:w.ownsRow base K.T K.k v l.length (l.flatMap K.enc):=h;rcases h.2 with ⟨rfl,h1⟩ | ⟨g,cap,cur,rfl,h1,h2,h3,h4,h5,h6⟩
 ·exact .inl ⟨rfl,List.eq_nil_of_length_eq_zero h1⟩
 ·refine .inr ⟨g,0,cap,cur,rfl,h1,h2,h3,h4,by omega,fun j u hu=>?_⟩;have hj:j<l.length*K.k:=by have:=(List.getElem?_eq_some_iff.1 hu).1;rw [K.flat_len] at this;exact this
  rw [Nat.zero_add,World.ownsRow.cellAt h0 j hj];exact hu
theorem Kd.Que.rd {K:Kd P α} {base:Nat} {w:World} {v:Value} {l:List α} (h:K.Que base w v l):K.Rd w v l:=by
 rcases h with ⟨rfl,rfl⟩ | ⟨g,off,cap,cur,rfl,h1,h2,h3,h4,h5,h6⟩
 ·exact Kd.Rd.nil K w
 ·refine ⟨_,cap,rfl,h3,fun _=>⟨g,off,rfl,fun j hj i v hv=>?_⟩⟩;have hi:i<K.k:=by
   have:=(List.getElem?_eq_some_iff.1 hv).1;rw [K.len] at this;exact this
  rw [Nat.add_assoc];exact h6 _ _ (by rw [K.flat_get l j hj i hi];exact hv)
theorem Kd.Que.pop {K:Kd P α} {base:Nat} {w:World} {A:Option Addr} {cap:Nat} {x:α} {l:List α} (h:K.Que base w (.slice A (x :: l).length cap) (x :: l)):K.Que base w (sliced A 1 (x :: l).length cap K.k) l:=by
 rcases h with ⟨e,h0⟩ | ⟨g,off,cap',cur,e,h1,h2,h3,h4,h5,h6⟩
 ·cases h0
 ·cases e;rw [List.length_cons] at h3;have hl:(x :: l).length-1=l.length:=by simp
  right;by_cases hc:cap=1
  ·refine ⟨g,off,cap-1,cur,by simp [sliced,hc],h1,h2,by omega,by omega,?_,?_⟩
   ·subst hc;omega
   ·have:l=[]:=List.eq_nil_of_length_eq_zero (by omega);subst this;intro j u hu;simp at hu
  ·have hadd:(⟨g,off,none⟩:Addr).add (1*K.k)=⟨g,off+1*K.k,none⟩:=by unfold Addr.add;split<;>simp_all
   refine ⟨g,off+1*K.k,cap-1,cur,by unfold sliced;rw [if_neg hc,Option.map_some,hadd,hl],h1,h2,by omega,by omega,?_,fun j u hu=>?_⟩
   ·have:cap*K.k=1*K.k+(cap-1)*K.k:=by rw [←Nat.add_mul];congr 1;omega
    omega
   ·rw [Nat.add_assoc];refine h6 _ _ ?_;rw [List.flatMap_cons,List.getElem?_append_right (by rw [K.len];omega),K.len];rw [show 1*K.k+j-K.k=j by omega];exact hu
theorem free_blk {w:World} {g:Nat} {cur:Array Value} {T:TypeId} (h:w.heap[g]?=some (.cells cur T (0,0))) (j:Nat):w.frozen? ⟨g,j,none⟩=false:=by simp [World.frozen?,h]
theorem some_blk {w:World} {g:Nat} {cur:Array Value} {T:TypeId} (h:w.heap[g]?=some (.cells cur T (0,0))) {j:Nat} (hj:j<cur.size):(w.cell? ⟨g,j,none⟩).isSome=true:=by simp [World.cell?,h,hj]
theorem Kd.Que.app1 {K:Kd P α} {base:Nat} {w:World} {v:Value} {l:List α} (h:K.Que base w v l) (hb:base≤w.heap.size) (x:α) (hl:l.length<4294967296) :
  ∃g off cap w',(Builtin.append_ #[K.S,K.S] K.S #[v,.slice (some ⟨w.heap.size,0,none⟩) 1 1]).run P (w.alloc (.cells (K.enc x).toArray K.T))=.ok (.slice (some ⟨g,off,none⟩) (l.length+1) cap) w' ∧
   K.Que base w' (.slice (some ⟨g,off,none⟩) (l.length+1) cap) (l++[x])∧Upd (fun k=>v.ownBlock=some k) w w'∧(v.ownBlock=some g∨w.heap.size<g):=by
 rcases h with ⟨rfl,rfl⟩ | ⟨g,off,cap,cur,rfl,h1,h2,h3,h4,h5,h6⟩
 ·obtain ⟨g,cap,w',r,o,u,ha⟩:=(Kd.Own.nil K base w).app1 hb x (by simp);exact ⟨g,0,cap,w',r,o.que,u,ha⟩
 ·obtain ⟨i,z,hi,hz,k1,k2,k3⟩:=K.info;have hs:=K.small;have hsz:=K.pos;have hgl:=lt_of_heap h2;have hu1:Upd noBlk w (w.alloc (.cells (K.enc x).toArray K.T)):=(Upd.refl _ w).alloc _;have h2':=hu1.heap h2 id;have hnews:∀j u,(K.enc x)[j]?=some u→(w.alloc (.cells (K.enc x).toArray K.T)).cell? ((⟨w.heap.size,0,none⟩:Addr).add j)=some u:=by
   have hh:=World.news_of_block (cs:=(K.enc x).toArray) (t:=K.T) (fr:=(0,0)) (heap_alloc_new w (.cells (K.enc x).toArray K.T));simpa using hh
  by_cases hroom:l.length+1≤cap
  ·have hfit:off+l.length*K.k+K.k≤cur.size:=by
    have:(l.length+1)*K.k≤cap*K.k:=Nat.mul_le_mul_right _ hroom;rw [Nat.add_mul] at this;omega
   have hr:=run_append_room_cells (P:=P) (w.alloc (.cells (K.enc x).toArray K.T)) K.S K.S K.T i K.und hi g off l.length cap ⟨w.heap.size,0,none⟩ 1 1 (K.enc x) (by rw [K.len,k1];omega) hnews (K.one x) hroom
    (fun j hj=>by rw [K.len] at hj;rw [k1];exact some_blk h2' (by omega)) (fun j _=>free_blk h2' _)
   rw [k1] at hr;obtain ⟨cur',c1,c2⟩:=setCells_blk (K.enc x) (off+l.length*K.k) _ cur h2';have hu2:=setCells_upd (g:=g) (K.enc x) (off+l.length*K.k) (w.alloc (.cells (K.enc x).toArray K.T));have hfl:(l++[x]).flatMap K.enc=l.flatMap K.enc++K.enc x:=by rw [List.flatMap_append];simp
   refine ⟨g,off,cap,_,hr,.inr ⟨g,off,cap,cur',by simp,h1,c1,by simpa using hroom,h4,by omega,?_⟩,(hu1.mono (fun _ _ h=>h.elim)).trans (hu2.mono (fun k _ e=>by have e':k=g:=e;rw [e'];rfl)),.inl rfl⟩;rw [hfl];have hth:(w.alloc (.cells (K.enc x).toArray K.T)).there g (off+l.length*K.k) (K.enc x).length:=fun j hj=>by
    rw [K.len] at hj;exact ⟨some_blk h2' (by omega),free_blk h2' _⟩
   have hnew:=World.rangeAt_setCells_same _ g (off+l.length*K.k) (K.enc x) hth;have hold:=World.rangeAt_setCells_apart (w:=w.alloc (.cells (K.enc x).toArray K.T)) (World.rangeAt_alloc h6 _) g (off+l.length*K.k) (K.enc x) (.inr (.inl (by rw [K.flat_len];omega)));intro j u hu;by_cases hj:j<l.length*K.k
   ·rw [List.getElem?_append_left (by rw [K.flat_len];exact hj)] at hu;exact hold j u hu
   ·rw [List.getElem?_append_right (by rw [K.flat_len];omega),K.flat_len] at hu;have:=hnew _ _ hu;rwa [show off+l.length*K.k+(j-l.length*K.k)=off+j by omega] at this
  ·obtain ⟨v',w',hr,ho,hg⟩:=run_append_arg_grows (P:=P) (w.alloc (.cells (K.enc x).toArray K.T)) K.S K.S K.T i z K.k K.bytes K.und hi hz k1 k2 k3 K.pos ⟨g,off,none⟩ l.length cap (l.flatMap K.enc) (K.flat_len l)
    (fun j u hu=>by rw [Addr.add_mid];exact World.rangeAt_alloc h6 _ j u hu) ⟨w.heap.size,0,none⟩ 1 1 (K.enc x) (by rw [K.len];omega) hnews (by omega) (by unfold maxLen;omega)
    (Nat.le_trans (Nat.mul_le_mul (Nat.succ_le_of_lt hl) hs) (by decide))
   obtain ⟨g',cap',rfl,hb',_⟩:=ho.form (by omega);rw [World.size_alloc] at hb';have hown:K.Own base w' (.slice (some ⟨g',0,none⟩) (l.length+1) cap') (l++[x]):=by
    have:K.Own (w.heap.size+1) w' (.slice (some ⟨g',0,none⟩) (l.length+1) cap') (l++[x]):=by
     unfold Kd.Own;rw [List.flatMap_append,List.length_append];simp only [List.flatMap_cons,List.flatMap_nil,List.append_nil];rw [World.size_alloc] at ho;exact ho
    exact this.mono (by omega)
   exact ⟨g',0,cap',w',hr,hown.que,(hu1.trans (upd_of_grown hg (fun j hj _=>by cases hj))).mono (fun _ _ h=>h.elim),.inr (by omega)⟩
end Go.Proofs.YtmgklblglpplcaaGreatDoor
namespace Go.Proofs.YtmgklblglpplcaaGreatDoor
open Go Go.RowKit Pc
set_option maxRecDepth 100000
set_option maxHeartbeats 400000 in
theorem carry_nil (w:World):Calls Tryz.prog 140 #[.slice none 0 0] w fun e w'=>e=.returned (.tuple #[])∧w=w':=by
 go_enter Tryz.func140,Tryz.ntmps140
 go_wp2
 refine wp_loop_once ?_;go_wp2
 go_end0
 exact ⟨rfl,rfl⟩
theorem grownBy_refl (w:World) (r:Option Nat):w.grownBy w r:=⟨rfl,rfl,rfl,Nat.le_refl _,fun _ _ _=>rfl⟩
theorem carry_v {base:Nat} (v:Value) (ds:List Nat) (hds:∀d,d∈ds→d<256) (w:World) (hown:w.ownsRow base 5 1 v ds.length (ds.map byteV)) (hn:ds.length≤maxLen) :
  Calls Tryz.prog 140 #[v] w fun e w'=>e=.returned (.tuple #[])∧w'.ownsRow base 5 1 v ds.length ((carry ds).map byteV)∧w.grownBy w' v.ownBlock:=by
 rcases hown.2 with ⟨rfl,h0⟩ | ⟨g,cap,cur,rfl,r⟩
 ·have hd:ds=[]:=List.eq_nil_of_length_eq_zero h0;subst hd;refine (carry_nil w).mono ?_;rintro e w' ⟨rfl,rfl⟩;exact ⟨rfl,hown,grownBy_refl _ _⟩
 ·exact carry_any base cap g ds hds w hown hn
theorem wrep_fin {F:Nat→Prop} {b wb:Nat} {dv dv':Value} {w w1 w2:World} {e:E} (hu0:Upd F w w1) (hf:∀k,wFoot b wb dv k→F k∨w.heap.size≤k)
  (k1:WLive w2 b wb dv' e) (k2:Upd (wFoot b wb dv) w1 w2) (k3:dv'.ownBlock=dv.ownBlock∨∃g,dv'.ownBlock=some g∧w1.heap.size≤g) :
  ∃F',WRep w2 b e F'∧Upd F w w2∧∀k,F' k→F k∨w.heap.size≤k:=by
 refine ⟨wFoot b wb dv',.inr ⟨wb,dv',k1,rfl⟩,hu0.then k2 (fun i hi hw=>(hf i hw).elim id (fun x=>absurd hi (by omega))),?_⟩;have hs:=hu0.size;rintro k (h | h | h)
 ·exact hf k (.inl h)
 ·exact hf k (.inr (.inl h))
 ·rcases k3 with h3 | ⟨g,h3,h4⟩
  ·exact hf k (.inr (.inr (by unfold inRow at *;rw [←h3];exact h)))
  ·right;have:k=g:=by unfold inRow at h;rw [h3] at h;simpa using h.symm
   omega
theorem WLive.setLow {w:World} {b wb:Nat} {dv:Value} {e:E} (h:WLive w b wb dv e) {low:Nat} (hl:low<4294967296) (n:Nat) :
  WLive ((w.drewN n).setCell ⟨b,3,none⟩ (.int .u32 low)) b wb dv ⟨e.m,e.done,low⟩:=
 ⟨⟨h.wf.m,hl,h.wf.done⟩,heap_setCell_eq (w:=w.drewN n) (i:=3) _ h.blk,h.wt.keep (heap_setCell_other (w.drewN n) ⟨b,3,none⟩ wb _ (fun x=>h.n1 x.symm)),
  ownsRow_setCell_other (w:=w.drewN n) h.own h.n2 _,h.n1,h.n2,h.n3⟩
theorem WLive.carry {w w':World} {b wb:Nat} {dv:Value} {e:E} (h:WLive w b wb dv e) (h1:w'.ownsRow 0 5 1 dv e.done.length ((carry e.done).map byteV)) (h2:w.grownBy w' dv.ownBlock) :
  WLive w' b wb dv ⟨e.m,carry e.done,e.low⟩:=
 ⟨⟨h.wf.m,h.wf.low,carry_lt h.wf.done⟩,(h2.block b (lt_of_heap h.blk) (fun x=>h.n2 x.symm)).trans h.blk,h.wt.keep (h2.block wb h.wt.lt (fun x=>h.n3 x.symm)),
  by rw [carry_length];exact h1,h.n1,h.n2,h.n3⟩
set_option maxHeartbeats 1000000 in
theorem WBit_any (b:Nat) (c:Int) (one:Bool) (e:E) (F:Nat→Prop) (w:World) (h:WRep w b e F) (hlen:e.done.length+1≤1000000) :
  Calls Tryz.prog 98 #[.pointer (some ⟨b,0,none⟩),.int .i64 c,.bool one] w fun en w'=>en=.returned (.tuple #[]) ∧
   ∃F',WRep w' b (e.bit c one) F'∧Upd F w w'∧∀k,F' k→F k∨w.heap.size≤k:=by
 have hF:=h.lt;have he:=h.wf;have hL:=Lib.hid hlen;have hML:Hid (e.done.length≤maxLen):=by show _≤_;unfold maxLen;omega
 clear hlen;have hbx:=h.keep (w':=w.alloc (.cells #[.pointer (some ⟨b,0,none⟩)] 172)) (fun k hk=>_root_.Go.heap_alloc_old w _ (hF k hk));clear h;cases one
 all_goals
  go_enter Tryz.func98,Tryz.ntmps98
  go_wp2_with fail
  refine (begin_W b e F _ hbx).mono ?_;rintro en w1 ⟨r,rfl,wb,dv,hl,hu,hf⟩;have hwc:w1.cell? ⟨w.heap.size,0,none⟩=some (.pointer (some ⟨b,0,none⟩)):=hu.cell (World.cell?_alloc_new w _ _ 0) (fun x=>Nat.lt_irrefl _ (hF _ x));have hnf:¬wFoot b wb dv w.heap.size:=fun x=>(hf _ x).elim (fun y=>Nat.lt_irrefl _ (hF _ y)) (fun y=>by simp at y;omega);have hf':Hid (∀k,wFoot b wb dv k→F k∨w.heap.size≤k):=fun k hk=>(hf k hk).imp id (fun y=>by simp at y;omega);have H2:Hid (Upd F w w1):=((Upd.refl F w).alloc _).trans hu;have H1:=Lib.hid hl;clear hl hu hf hbx
 ·go_wp2_with fail
  refine (upd_W c false b w.heap.size wb dv e w1 he H1.out hwc hnf hL.out).mono ?_;rintro en w2 ⟨rfl,dv',k1,k2,k3⟩;go_wp2
  go_end0
  exact ⟨rfl,wrep_fin H2.out hf'.out k1 k2 k3⟩
 ·have c0:w1.cell? ⟨b,0,none⟩=some (.slice (some ⟨wb,0,none⟩) 4096 4096):=by rw [cell_of_row w1 b 0 _ _ _ H1.out.blk];rfl
  have c1:w1.cell? ⟨b,1,none⟩=some (.int .u32 e.m.size):=by rw [cell_of_row w1 b 1 _ _ _ H1.out.blk];rfl
  have c2:w1.cell? ⟨b,2,none⟩=some dv:=by rw [cell_of_row w1 b 2 _ _ _ H1.out.blk];rfl
  have c3:w1.cell? ⟨b,3,none⟩=some (.int .u32 e.low):=by rw [cell_of_row w1 b 3 _ _ _ H1.out.blk];rfl
  have f1:=frozen_of_row w1 b 1 _ _ H1.out.blk;have f3:=frozen_of_row w1 b 3 _ _ H1.out.blk;have hmod:∀n,Mod (w1.drewN n) b wb e.m:=fun n=>⟨c0,c1,f1,H1.out.wt,H1.out.n1⟩;have hsp:Hid (e.m.split (ctx c)<4294967296):=by
   have:=M.split_bd he.m (ctx_lt c);have:=he.m.hi;show _<_;omega
  have hlw:=Lib.hid he.low;have nwb:w.heap.size≠b:=fun x=>hnf (.inl x);have hM:=Lib.hid hmod;clear hmod;go_wp2_with fail
  go_quiet ((first | (go_at_call 139;exact quiet_drew (split_any _ _ _ _ he.m _ (hM.out _))) | (go_at_call 138;exact quiet_eq (add32_any _ _ hlw.out hsp.out _))))
  by_cases hov:4294967296≤e.low+e.m.split (ctx c)
  ·have hq:((((e.low+e.m.split (ctx c)) / 4294967296:Nat):Int) != 0)=true:=by rw [bne_iff_ne];omega
   have HV:=Lib.hid hov;clear hov;have hl2:=Lib.hid (H1.out.setLow (low:=(e.low+e.m.split (ctx c)) % 4294967296) (Nat.mod_lt _ (by omega)) nq);have hwc2:((w1.drewN nq).setCell ⟨b,3,none⟩ (.int .u32 (((e.low+e.m.split (ctx c)) % 4294967296:Nat):Int))).cell? ⟨w.heap.size,0,none⟩=some (.pointer (some ⟨b,0,none⟩)):=by
    rw [World.cell?_setCell_other _ _ _ _ (by simp)];exact hwc
   have hup2:Hid (Upd (wFoot b wb dv) w1 ((w1.drewN nq).setCell ⟨b,3,none⟩ (.int .u32 (((e.low+e.m.split (ctx c)) % 4294967296:Nat):Int)))):=(Upd.ofDrewN w1 nq).setCell (fun _=>.inl rfl) _;go_wp2_with fail
   refine (carry_v dv e.done he.done _ hl2.out.own hML.out).mono ?_;rintro en w3 ⟨rfl,q1,q2⟩;have hwc3:=q2.cell hwc2 (fun x=>hnf (.inr (.inr x.symm)));have hl3:Hid (WLive w3 b wb dv ⟨e.m,e.done1 (ctx c) true,e.low1 (ctx c) true⟩):=by
    have:=hl2.out.carry q1 q2;have e1:e.done1 (ctx c) true=Pc.carry e.done:=by unfold E.done1;rw [if_pos (by simpa using HV.out)]
    have e2:e.low1 (ctx c) true=(e.low+e.m.split (ctx c)) % 4294967296:=by unfold E.low1;simp
    show WLive _ _ _ _ _;rw [e1,e2];exact this
   have hup3:Hid (Upd (wFoot b wb dv) w1 w3):=hup2.out.grown q2 (fun k hk _=>.inr (.inr hk));clear q1 q2 hwc2 hwc;go_wp2_with fail
   refine (upd_W c true b w.heap.size wb dv e w3 he hl3.out hwc3 hnf hL.out).mono ?_;rintro en w2 ⟨rfl,dv',k1,k2,k3⟩;go_wp2
   go_end0
   exact ⟨rfl,wrep_fin H2.out hf'.out k1 (hup3.out.trans k2) (k3.imp id (fun ⟨g,g1,g2⟩=>⟨g,g1,Nat.le_trans hup3.out.size g2⟩))⟩
  ·have hq:((((e.low+e.m.split (ctx c)) / 4294967296:Nat):Int) != 0)=false:=by rw [bne_eq_false_iff_eq];omega
   have HV:=Lib.hid hov;clear hov;have hl2:Hid (WLive ((w1.drewN nq).setCell ⟨b,3,none⟩ (.int .u32 (((e.low+e.m.split (ctx c)) % 4294967296:Nat):Int))) b wb dv ⟨e.m,e.done1 (ctx c) true,e.low1 (ctx c) true⟩):=by
    have:=H1.out.setLow (low:=(e.low+e.m.split (ctx c)) % 4294967296) (Nat.mod_lt _ (by omega)) nq;have e1:e.done1 (ctx c) true=e.done:=by unfold E.done1;rw [if_neg (by simpa using HV.out)]
    have e2:e.low1 (ctx c) true=(e.low+e.m.split (ctx c)) % 4294967296:=by unfold E.low1;simp
    show WLive _ _ _ _ _;rw [e1,e2];exact this
   have hwc2:((w1.drewN nq).setCell ⟨b,3,none⟩ (.int .u32 (((e.low+e.m.split (ctx c)) % 4294967296:Nat):Int))).cell? ⟨w.heap.size,0,none⟩=some (.pointer (some ⟨b,0,none⟩)):=by
    rw [World.cell?_setCell_other _ _ _ _ (by simp)];exact hwc
   have hup3:Hid (Upd (wFoot b wb dv) w1 ((w1.drewN nq).setCell ⟨b,3,none⟩ (.int .u32 (((e.low+e.m.split (ctx c)) % 4294967296:Nat):Int)))):=(Upd.ofDrewN w1 nq).setCell (fun _=>.inl rfl) _;go_wp2_with fail
   refine (upd_W c true b w.heap.size wb dv e _ he hl2.out hwc2 hnf hL.out).mono ?_;rintro en w2 ⟨rfl,dv',k1,k2,k3⟩;go_wp2
   go_end0
   exact ⟨rfl,wrep_fin H2.out hf'.out k1 (hup3.out.trans k2) (k3.imp id (fun ⟨g,g1,g2⟩=>⟨g,g1,Nat.le_trans hup3.out.size g2⟩))⟩
end Go.Proofs.YtmgklblglpplcaaGreatDoor
