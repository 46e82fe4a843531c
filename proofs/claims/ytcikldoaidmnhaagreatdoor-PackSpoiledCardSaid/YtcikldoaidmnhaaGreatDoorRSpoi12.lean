/- Parts: Rings at a corner: what program and reference look for is the same. No condition. Rows of bytes in the call's own memory, and strings made of them. No condition. Rows of the call's own from some place of their block on: what is left of a row behind 'l = l[1:]', and appends to it. No condition. The lists of triangles that the reference makes, as plain functions. No condition. Triangles and points c -/
import Derived.Test.YtcikldoaidmnhaaGreatDoorRSpoi1
import Derived.Test.YtcikldoaidmnhaaGreatDoorRSpoi2
import Derived.Test.YtcikldoaidmnhaaGreatDoorRSpoi3
import Derived.Test.YtcikldoaidmnhaaGreatDoorRSpoi4
import Derived.Test.YtcikldoaidmnhaaGreatDoorRSpoi5
import Derived.Test.YtcikldoaidmnhaaGreatDoorRSpoi6
import Derived.Test.YtcikldoaidmnhaaGreatDoorRSpoi7
import Derived.Test.YtcikldoaidmnhaaGreatDoorRSpoi9
import Derived.WalkKit
import Derived.WalkSpells
import Derived.WalkLawsBesides
import Derived.Lib.Hide
import Derived.BigQuiet
import Derived.Deep.DeepFit
import Derived.Deep.DeepCutAuto
import Derived.Deep.AppendLies
import Derived.Deep.QuietTactic
import Derived.Test.YtcikldoaidmnhaaGreatDoorRows
import Derived.Deep.RegionHeld3
import Derived.StillTail
import Derived.Lib.Bits
import Derived.Maps.OwnOps
import Derived.Maps.OwnSet
import Derived.Maps.RangeWalk
import Derived.WideKeyEntry
import Derived.Deep.MidRow
import Derived.Laws.EntriesVeiled
import Derived.Handy
import Derived.DeepKeys4
import Derived.ArgAppend
import Derived.Deep.Upon
import Derived.Deep.CutBlock
import Derived.Test.YtcikldoaidmnhaaGreatDoorShelf2
import Derived.ChangeKeysEq
namespace Go.Proofs.YtcikldoaidmnhaaGreatDoor
open Go Go.RowKit Pk
set_option maxRecDepth 100000
theorem data_extract (s:ByteArray) (a b:Nat):(s.extract a b).data.toList=(s.data.toList.drop a).take (b-a):=by
 simp [List.extract_eq_take_drop]
def bs (l:Bytes):ByteArray:=⟨l.toArray⟩
theorem bs_data (l:Bytes):(bs l).data.toList=l:=by simp [bs]
theorem bs_size (l:Bytes):(bs l).size=l.length:=by simp [bs,ByteArray.size]
theorem bs_append (a b:Bytes):bs a++bs b=bs (a++b):=by apply ByteArray.ext;simp [bs]
theorem bs_extract (s:Bytes) (a k:Nat):(bs s).extract a k=bs ((s.drop a).take (k-a)):=by
 apply ByteArray.ext;apply Array.ext';rw [data_extract,bs_data,bs_data]
theorem own_form {w:World} {base n:Nat} {T:TypeId} {s:Nat} {v:Value} {xs:List Value} (h:w.ownsRow base T s v n xs):∃A cap,v=.slice A n cap:=by
 rcases h.2 with ⟨rfl,h0⟩ | ⟨g,cap,cur,rfl,_⟩
 ·exact ⟨none,0,by rw [h0]⟩
 ·exact ⟨_,_,rfl⟩
def byV (l:Bytes):List Value:=l.map fun c=>Value.int .u8 c.toNat
theorem byV_str (l:Bytes):byV l=(l.map UInt8.toNat).map byteV:=by simp [byV,byteV]
theorem str_bs (l:Bytes):str (l.map UInt8.toNat)=bs l:=by
 unfold str bs;rw [List.map_map];have e:UInt8.ofNat ∘ UInt8.toNat=id:=funext fun u=>by simp
 rw [e,List.map_id]
theorem conv_bs {w:World} {base n:Nat} {v:Value} {l:Bytes} (hn:n=l.length) (hown:w.ownsRow base 5 1 v n (byV l)):(convert 41 9 v).run Tryz.prog w=.ok (.string (bs l)) w:=by
 subst hn;rw [byV_str] at hown;have:=conv_own (P:=Tryz.prog) (src:=41) (e:=5) (dst:=9) (l:=l.map UInt8.toNat) Tryz.underlying41 Tryz.underlying5 Tryz.underlying9 (by rw [List.length_map];exact hown);rw [str_bs] at this;exact this
theorem append_by {w:World} {base:Nat} (hb:base≤w.heap.size) {v:Value} {l:Bytes} (h:w.ownsRow base 5 1 v l.length (byV l)) (c:UInt8) (hl:l.length<4294967296) :
  ∃g cap w',(Builtin.append_ #[41,41] 41 #[v,.slice (some ⟨w.heap.size,0,none⟩) 1 1]).run Tryz.prog (w.alloc (.cells #[.int .u8 c.toNat] 5))=.ok (.slice (some ⟨g,0,none⟩) (l.length+1) cap) w' ∧
   w'.ownsRow base 5 1 (.slice (some ⟨g,0,none⟩) (l.length+1) cap) (l++[c]).length (byV (l++[c]))∧Upd (fun k=>v.ownBlock=some k) w w':=by
 obtain ⟨i0,hi0,hz0,hz1,hz2⟩:=info_parts info_u8;obtain ⟨g,cap,w',r,o,gr,_,_⟩:=append_one (P:=Tryz.prog) w 41 41 5 i0 _ 1 1 Tryz.underlying41 hi0 hz0 hz1 hz2 rfl (by omega) h hb [.int .u8 c.toNat] rfl (by simp [Value.oneCell']) (by unfold maxLen;omega) (by omega);refine ⟨g,cap,w',r,?_,(upd_of_grown (World.grownBy_alloc w _ v.ownBlock) (fun j hj _=>hj)).trans (upd_of_grown gr (fun j hj _=>hj))⟩;have e:byV (l++[c])=byV l++[.int .u8 c.toNat]:=by simp [byV]
 rw [e,List.length_append];exact o
def strR (s:Bytes) (w:World) (en:Ending) (w':World):Prop:=en=.returned (.string (bs s))∧Upd noBlk w w'
end Go.Proofs.YtcikldoaidmnhaaGreatDoor
namespace Go.Proofs.YtcikldoaidmnhaaGreatDoor
open Go Go.RowKit
namespace Pk
def modI (n m:Int):Int:=((n.tmod m)+m).tmod m
theorem modI_range {n m:Int} (h:0<m):0≤modI n m∧modI n m<m:=by
 unfold modI;have h1:=Int.lt_tmod_of_pos n h;have h2:=Int.tmod_lt_of_pos n h;exact ⟨Int.tmod_nonneg _ (by omega),Int.tmod_lt_of_pos _ h⟩
def quadT (a b c d:Pt):List Tri:=[(a,b,c),(a,c,d)]
def cubeP (p:Pt) (s:Int) (n:Nat):Pt:=(p.1+((n % 2:Nat):Int)*s,p.2.1+((n / 2 % 2:Nat):Int)*s,p.2.2+((n / 4:Nat):Int)*s)
def cubeT (p:Pt) (s:Int):List Tri:=quadT (cubeP p s 0) (cubeP p s 2) (cubeP p s 3) (cubeP p s 1)++quadT (cubeP p s 4) (cubeP p s 5) (cubeP p s 7) (cubeP p s 6)++quadT (cubeP p s 0) (cubeP p s 1) (cubeP p s 5) (cubeP p s 4)++quadT (cubeP p s 2) (cubeP p s 6) (cubeP p s 7) (cubeP p s 3)++quadT (cubeP p s 0) (cubeP p s 4) (cubeP p s 6) (cubeP p s 2)++quadT (cubeP p s 1) (cubeP p s 3) (cubeP p s 7) (cubeP p s 5)
def bitV (bits:Int) (n:Nat):Bool:=decide (bits / 2 ^ n % 2=1)
def stepsV (f:Nat):Int × Int × Int:=([(0,0,-1),(0,0,1),(0,-1,0),(0,1,0),(-1,0,0),(1,0,0)]:List (Int × Int × Int)).getD f (0,0,0)
def nearV (bits:Int) (n f:Nat):Bool:=
 let u:=((n % 3:Nat):Int)+(stepsV f).1
 let v:=((n / 3 % 3:Nat):Int)+(stepsV f).2.1
 let w:=((n / 9:Nat):Int)+(stepsV f).2.2
 decide (0≤u∧u<3∧0≤v∧v<3∧0≤w∧w<3)&&bitV bits ((w*3+v)*3+u).toNat
def pointV (step:Int) (at_:Pt) (n:Nat):Pt:=(at_.1+((n % 3:Nat):Int)*step,at_.2.1+((n / 3 % 3:Nat):Int)*step,at_.2.2+((n / 9:Nat):Int)*step)
def sideV (bits step:Int) (at_:Pt) (n f:Nat):List Tri:=if nearV bits n f then [] else [(cubeT (pointV step at_ n) step).getD (2*f) ((0,0,0),(0,0,0),(0,0,0)),(cubeT (pointV step at_ n) step).getD (2*f+1) ((0,0,0),(0,0,0),(0,0,0))]
def cubeV (bits step:Int) (at_:Pt) (n:Nat):List Tri:=if bitV bits n then (List.range 6).flatMap (sideV bits step at_ n) else []
def voxelsT (bits step:Int) (at_:Pt):List Tri:=(List.range 27).flatMap (cubeV bits step at_)
def hillP (x y:Nat) (step:Int) (hs:List Int):Pt:=((x:Int)*step,(y:Int)*step,100+(if hs=[] then 0 else modI (hs.getD ((y*7+x) % hs.length) 0) 64))
def hillsN (n:Int):Nat:=(1+modI n 6).toNat
def hillsT (n step:Int) (hs:List Int):List Tri:=(List.range (hillsN n)).flatMap fun y=>(List.range (hillsN n)).flatMap fun x=>quadT (hillP x y step hs) (hillP (x+1) y step hs) (hillP (x+1) (y+1) step hs) (hillP x (y+1) step hs)
def swapP (p r:Pt) (t:Tri):Tri:=(if t.1=p then r else t.1,if t.2.1=p then r else t.2.1,if t.2.2=p then r else t.2.2)
def z3:Tri:=((0,0,0),(0,0,0),(0,0,0))
def spoilT (l:List Tri) (q0 q1 q2:Int):List Tri:=
 if l=[] then [] else
 let k:=(modI q1 l.length).toNat
 let j:=(modI q2 l.length).toNat
 let t:=l.getD k z3
 let u:=l.getD j z3
 match (modI q0 12).toNat with
 | 0=>l.take k++l.drop (k+1)
 | 1=>l.set k (t.1,t.2.2,t.2.1)
 | 2=>l++[u]
 | 3=>l.set k (u.2.1,t.2.1,t.2.2)
 | 4=>l.set k (t.1,t.1,t.2.2)
 | 5=>l++[(t.1,t.2.2,t.2.1)]
 | 6=>l.map (swapP u.2.2 t.1)
 | 7=>l.take (1+k)
 | 8=>l.set k (t.2.2,t.1,t.2.1)
 | _=>l
end Pk
end Go.Proofs.YtcikldoaidmnhaaGreatDoor
namespace Go.Proofs.YtcikldoaidmnhaaGreatDoor
open Go Go.RowKit
variable {P:Program} {α:Type}
theorem setCells_blk {g:Nat} {T:TypeId}:∀(vs:List Value) (o:Nat) (w:World) (cur:Array Value),w.heap[g]?=some (.cells cur T (0,0))→∃cur',(w.setCells g o vs).heap[g]?=some (.cells cur' T (0,0))∧cur'.size=cur.size
 | [],_,_,cur,h=>⟨cur,h,rfl⟩
 | v :: r,o,w,cur,h=>by
  obtain ⟨c',h1,h2⟩:=setCells_blk r (o+1) (w.setCell ⟨g,o,none⟩ v) _ (heap_setCell_eq (i:=o) v h);exact ⟨c',h1,by rw [h2];simp⟩
theorem setCells_upd {g:Nat}:∀(vs:List Value) (o:Nat) (w:World),Upd (fun k=>k=g) w (w.setCells g o vs)
 | [],_,w=>Upd.refl _ w
 | v :: r,o,w=>((Upd.refl (fun k=>k=g) w).setCell (p:=⟨g,o,none⟩) (fun _=>rfl) v).trans (setCells_upd r (o+1) _)
def Kd.Que (K:Kd P α) (base:Nat) (w:World) (v:Value) (l:List α):Prop:=
 (v=.slice none 0 0∧l=[])∨∃g off cap cur,v=.slice (some ⟨g,off,none⟩) l.length cap∧base≤g∧w.heap[g]?=some (.cells cur K.T (0,0))∧l.length≤cap∧cap≤maxLen∧off+cap*K.k≤cur.size∧w.rangeAt g off (l.flatMap K.enc)
theorem Kd.Que.nil (K:Kd P α) (base:Nat) (w:World):K.Que base w (.slice none 0 0) []:=.inl ⟨rfl,rfl⟩
theorem Kd.Que.form {K:Kd P α} {base:Nat} {w:World} {v:Value} {l:List α} (h:K.Que base w v l):∃A cap,v=.slice A l.length cap∧l.length≤cap:=by
 rcases h with ⟨rfl,rfl⟩ | ⟨g,off,cap,cur,rfl,_,_,h1,_⟩
 ·exact ⟨none,0,rfl,Nat.le_refl _⟩
 ·exact ⟨_,_,rfl,h1⟩
theorem Kd.Que.blk {K:Kd P α} {base:Nat} {w:World} {v:Value} {l:List α} (h:K.Que base w v l) {g:Nat} (hg:v.ownBlock=some g):base≤g∧∃cur,w.heap[g]?=some (.cells cur K.T (0,0)):=by
 rcases h with ⟨rfl,_⟩ | ⟨g',off,cap,cur,rfl,h1,h2,_⟩
 ·cases hg
 ·cases hg;exact ⟨h1,cur,h2⟩
theorem Kd.Que.keepB {K:Kd P α} {base:Nat} {w w':World} {v:Value} {l:List α} (h:K.Que base w v l) (hk:∀g,v.ownBlock=some g→w'.heap[g]?=w.heap[g]?):K.Que base w' v l:=by
 rcases h with h | ⟨g,off,cap,cur,rfl,h1,h2,h3,h4,h5,h6⟩
 ·exact .inl h
 ·have hb:=hk g rfl;exact .inr ⟨g,off,cap,cur,rfl,h1,hb.trans h2,h3,h4,h5,fun j u hu=>(World.cell?_of_block hb).trans (h6 j u hu)⟩
theorem Kd.Que.other {K:Kd P α} {F:Nat→Prop} {base:Nat} {w w':World} {v:Value} {l:List α} (h:K.Que base w v l) (hu:Upd F w w') (hF:∀g,v.ownBlock=some g→¬F g):K.Que base w' v l:=
 h.keepB (fun g hg=>by obtain ⟨_,cur,hc⟩:=h.blk hg;exact hu.block g (lt_of_heap hc) (hF g hg))
theorem Kd.Que.keep {K:Kd P α} {base:Nat} {w w':World} {v:Value} {l:List α} (h:K.Que base w v l) (hu:Upd noBlk w w'):K.Que base w' v l:=h.other hu (fun _ _=>id)
theorem Kd.Own.que {K:Kd P α} {base:Nat} {w:World} {v:Value} {l:List α} (h:K.Own base w v l):K.Que base w v l:=by
 have h0:w.ownsRow base K.T K.k v l.length (l.flatMap K.enc):=h;rcases h.2 with ⟨rfl,h1⟩ | ⟨g,cap,cur,rfl,h1,h2,h3,h4,h5,h6⟩
 ·exact .inl ⟨rfl,List.eq_nil_of_length_eq_zero h1⟩
 ·refine .inr ⟨g,0,cap,cur,rfl,h1,h2,h3,h4,by omega,fun j u hu=>?_⟩;have hj:j<l.length*K.k:=by have:=(List.getElem?_eq_some_iff.1 hu).1;rw [K.flat_len] at this;exact this
  rw [Nat.zero_add,World.ownsRow.cellAt h0 j hj];exact hu
theorem Kd.Que.rd {K:Kd P α} {base:Nat} {w:World} {v:Value} {l:List α} (h:K.Que base w v l):K.Rd w v l:=by
 rcases h with ⟨rfl,rfl⟩ | ⟨g,off,cap,cur,rfl,h1,h2,h3,h4,h5,h6⟩
 ·exact Kd.Rd.nil K w
 ·refine ⟨_,cap,rfl,h3,fun _=>⟨g,off,rfl,fun j hj i v hv=>?_⟩⟩;have hi:i<K.k:=by
   have:=(List.getElem?_eq_some_iff.1 hv).1;rw [K.len] at this;exact this
  rw [Nat.add_assoc];exact h6 _ _ (by rw [K.flat_get l j hj i hi];exact hv)
theorem Kd.Que.pop {K:Kd P α} {base:Nat} {w:World} {A:Option Addr} {cap:Nat} {x:α} {l:List α} (h:K.Que base w (.slice A (x :: l).length cap) (x :: l)):K.Que base w (sliced A 1 (x :: l).length cap K.k) l:=by
 rcases h with ⟨e,h0⟩ | ⟨g,off,cap',cur,e,h1,h2,h3,h4,h5,h6⟩
 ·cases h0
 ·cases e;rw [List.length_cons] at h3;have hl:(x :: l).length-1=l.length:=by simp
  right;by_cases hc:cap=1
  ·refine ⟨g,off,cap-1,cur,by simp [sliced,hc],h1,h2,by omega,by omega,?_,?_⟩
   ·subst hc;omega
   ·have:l=[]:=List.eq_nil_of_length_eq_zero (by omega);subst this;intro j u hu;simp at hu
  ·have hadd:(⟨g,off,none⟩:Addr).add (1*K.k)=⟨g,off+1*K.k,none⟩:=by unfold Addr.add;split<;>simp_all
   refine ⟨g,off+1*K.k,cap-1,cur,by unfold sliced;rw [if_neg hc,Option.map_some,hadd,hl],h1,h2,by omega,by omega,?_,fun j u hu=>?_⟩
   ·have:cap*K.k=1*K.k+(cap-1)*K.k:=by rw [←Nat.add_mul];congr 1;omega
    omega
   ·rw [Nat.add_assoc];refine h6 _ _ ?_;rw [List.flatMap_cons,List.getElem?_append_right (by rw [K.len];omega),K.len];rw [show 1*K.k+j-K.k=j by omega];exact hu
theorem free_blk {w:World} {g:Nat} {cur:Array Value} {T:TypeId} (h:w.heap[g]?=some (.cells cur T (0,0))) (j:Nat):w.frozen? ⟨g,j,none⟩=false:=by simp [World.frozen?,h]
theorem some_blk {w:World} {g:Nat} {cur:Array Value} {T:TypeId} (h:w.heap[g]?=some (.cells cur T (0,0))) {j:Nat} (hj:j<cur.size):(w.cell? ⟨g,j,none⟩).isSome=true:=by simp [World.cell?,h,hj]
theorem Kd.Que.app1 {K:Kd P α} {base:Nat} {w:World} {v:Value} {l:List α} (h:K.Que base w v l) (hb:base≤w.heap.size) (x:α) (hl:l.length<4294967296) :
  ∃g off cap w',(Builtin.append_ #[K.S,K.S] K.S #[v,.slice (some ⟨w.heap.size,0,none⟩) 1 1]).run P (w.alloc (.cells (K.enc x).toArray K.T))=.ok (.slice (some ⟨g,off,none⟩) (l.length+1) cap) w' ∧
   K.Que base w' (.slice (some ⟨g,off,none⟩) (l.length+1) cap) (l++[x])∧Upd (fun k=>v.ownBlock=some k) w w'∧(v.ownBlock=some g∨w.heap.size<g):=by
 rcases h with ⟨rfl,rfl⟩ | ⟨g,off,cap,cur,rfl,h1,h2,h3,h4,h5,h6⟩
 ·obtain ⟨g,cap,w',r,o,u,ha⟩:=(Kd.Own.nil K base w).app1 hb x (by simp);exact ⟨g,0,cap,w',r,o.que,u,ha⟩
 ·obtain ⟨i,z,hi,hz,k1,k2,k3⟩:=K.info;have hs:=K.small;have hsz:=K.pos;have hgl:=lt_of_heap h2;have hu1:Upd noBlk w (w.alloc (.cells (K.enc x).toArray K.T)):=(Upd.refl _ w).alloc _;have h2':=hu1.heap h2 id;have hnews:∀j u,(K.enc x)[j]?=some u→(w.alloc (.cells (K.enc x).toArray K.T)).cell? ((⟨w.heap.size,0,none⟩:Addr).add j)=some u:=by
   have hh:=World.news_of_block (cs:=(K.enc x).toArray) (t:=K.T) (fr:=(0,0)) (heap_alloc_new w (.cells (K.enc x).toArray K.T));simpa using hh
  by_cases hroom:l.length+1≤cap
  ·have hfit:off+l.length*K.k+K.k≤cur.size:=by
    have:(l.length+1)*K.k≤cap*K.k:=Nat.mul_le_mul_right _ hroom;rw [Nat.add_mul] at this;omega
   have hr:=run_append_room_cells (P:=P) (w.alloc (.cells (K.enc x).toArray K.T)) K.S K.S K.T i K.und hi g off l.length cap ⟨w.heap.size,0,none⟩ 1 1 (K.enc x) (by rw [K.len,k1];omega) hnews (K.one x) hroom
    (fun j hj=>by rw [K.len] at hj;rw [k1];exact some_blk h2' (by omega)) (fun j _=>free_blk h2' _)
   rw [k1] at hr;obtain ⟨cur',c1,c2⟩:=setCells_blk (K.enc x) (off+l.length*K.k) _ cur h2';have hu2:=setCells_upd (g:=g) (K.enc x) (off+l.length*K.k) (w.alloc (.cells (K.enc x).toArray K.T));have hfl:(l++[x]).flatMap K.enc=l.flatMap K.enc++K.enc x:=by rw [List.flatMap_append];simp
   refine ⟨g,off,cap,_,hr,.inr ⟨g,off,cap,cur',by simp,h1,c1,by simpa using hroom,h4,by omega,?_⟩,(hu1.mono (fun _ _ h=>h.elim)).trans (hu2.mono (fun k _ e=>by have e':k=g:=e;rw [e'];rfl)),.inl rfl⟩;rw [hfl];have hth:(w.alloc (.cells (K.enc x).toArray K.T)).there g (off+l.length*K.k) (K.enc x).length:=fun j hj=>by
    rw [K.len] at hj;exact ⟨some_blk h2' (by omega),free_blk h2' _⟩
   have hnew:=World.rangeAt_setCells_same _ g (off+l.length*K.k) (K.enc x) hth;have hold:=World.rangeAt_setCells_apart (w:=w.alloc (.cells (K.enc x).toArray K.T)) (World.rangeAt_alloc h6 _) g (off+l.length*K.k) (K.enc x) (.inr (.inl (by rw [K.flat_len];omega)));intro j u hu;by_cases hj:j<l.length*K.k
   ·rw [List.getElem?_append_left (by rw [K.flat_len];exact hj)] at hu;exact hold j u hu
   ·rw [List.getElem?_append_right (by rw [K.flat_len];omega),K.flat_len] at hu;have:=hnew _ _ hu;rwa [show off+l.length*K.k+(j-l.length*K.k)=off+j by omega] at this
  ·obtain ⟨v',w',hr,ho,hg⟩:=run_append_arg_grows (P:=P) (w.alloc (.cells (K.enc x).toArray K.T)) K.S K.S K.T i z K.k K.bytes K.und hi hz k1 k2 k3 K.pos ⟨g,off,none⟩ l.length cap (l.flatMap K.enc) (K.flat_len l)
    (fun j u hu=>by rw [Addr.add_mid];exact World.rangeAt_alloc h6 _ j u hu) ⟨w.heap.size,0,none⟩ 1 1 (K.enc x) (by rw [K.len];omega) hnews (by omega) (by unfold maxLen;omega)
    (Nat.le_trans (Nat.mul_le_mul (Nat.succ_le_of_lt hl) hs) (by decide))
   obtain ⟨g',cap',rfl,hb',_⟩:=ho.form (by omega);rw [World.size_alloc] at hb';have hown:K.Own base w' (.slice (some ⟨g',0,none⟩) (l.length+1) cap') (l++[x]):=by
    have:K.Own (w.heap.size+1) w' (.slice (some ⟨g',0,none⟩) (l.length+1) cap') (l++[x]):=by
     unfold Kd.Own;rw [List.flatMap_append,List.length_append];simp only [List.flatMap_cons,List.flatMap_nil,List.append_nil];rw [World.size_alloc] at ho;exact ho
    exact this.mono (by omega)
   exact ⟨g',0,cap',w',hr,hown.que,(hu1.trans (upd_of_grown hg (fun j hj _=>by cases hj))).mono (fun _ _ h=>h.elim),.inr (by omega)⟩
end Go.Proofs.YtcikldoaidmnhaaGreatDoor
namespace Go.Proofs.YtcikldoaidmnhaaGreatDoor
open Go Go.RowKit
namespace Pk
def ringLoop (l:List Tri) (p tq:Pt) (M:Nat):Nat→Nat→Pt→Bool
 | 0,size,at_=>decide (at_=tq∧size<M)
 | f+1,size,at_=>if at_≠tq∧size≤M then match third l p at_ with
   | none=>decide (at_=tq∧size<M)
   | some b=>ringLoop l p tq M f (size+1) b
  else decide (at_=tq∧size<M)
theorem ringLoop_iff (l:List Tri) (p tq:Pt) (M:Nat):∀(f size:Nat) (at_:Pt),M+1≤size+f→(ringLoop l p tq M f size at_=true↔∃k,size+k<M∧ringN l p k at_=some tq)
 | 0,size,at_,h=>by
  rw [ringLoop,decide_eq_true_eq];exact ⟨fun k=>absurd k.2 (by omega),fun ⟨k,h1,_⟩=>absurd h1 (by omega)⟩
 | f+1,size,at_,h=>by
  rw [ringLoop];by_cases h1:at_≠tq∧size≤M
  ·rw [if_pos h1];cases h2:third l p at_ with
   | none=>
    simp only;rw [decide_eq_true_eq];refine ⟨fun k=>absurd k.1 h1.1,fun ⟨k,h3,h4⟩=>?_⟩;cases k with
    | zero=>rw [ringN] at h4;cases h4;exact absurd rfl h1.1
    | succ k=>rw [ringN,h2] at h4;cases h4
   | some b=>
    simp only;rw [ringLoop_iff l p tq M f (size+1) b (by omega)];constructor
    ·rintro ⟨k,h3,h4⟩;exact ⟨k+1,by omega,by rw [ringN,h2];exact h4⟩
    ·rintro ⟨k,h3,h4⟩;cases k with
     | zero=>rw [ringN] at h4;cases h4;exact absurd rfl h1.1
     | succ k=>rw [ringN,h2] at h4;exact ⟨k,by omega,h4⟩
  ·rw [if_neg h1,decide_eq_true_eq];constructor
   ·rintro ⟨rfl,h3⟩;exact ⟨0,h3,rfl⟩
   ·rintro ⟨k,h3,h4⟩;refine ⟨?_,by omega⟩;by_cases e:at_=tq
    ·exact e
    ·exact absurd ⟨e,by omega⟩ h1
def hitE (l:List Tri) (e:Pt × Pt):Bool:=(List.range (manyC l e.1)).any (fun n=>decide (1≤n)&&(ringN l e.1 n e.2 == some e.2))
theorem hitE_iff (l:List Tri) (e:Pt × Pt):hitE l e=true↔∃n,1≤n∧n<manyC l e.1∧ringN l e.1 n e.2=some e.2:=by
 unfold hitE;rw [List.any_eq_true];constructor
 ·rintro ⟨n,h1,h2⟩;simp only [Bool.and_eq_true,decide_eq_true_eq,beq_iff_eq] at h2;exact ⟨n,h2.1,List.mem_range.1 h1,h2.2⟩
 ·rintro ⟨n,h1,h2,h3⟩;exact ⟨n,List.mem_range.2 h2,by simp [h1,h3]⟩
theorem pinched_any (l:List Tri):pinched l=(edgesL l).any (hitE l):=rfl
theorem ring_prog (l:List Tri) (e:Pt × Pt) {at0:Pt} (h:third l e.1 e.2=some at0):ringLoop l e.1 e.2 (manyC l e.1) (manyC l e.1) 1 at0=hitE l e:=by
 rw [Bool.eq_iff_iff,ringLoop_iff l e.1 e.2 _ _ _ _ (by omega),hitE_iff];constructor
 ·rintro ⟨k,h1,h2⟩;exact ⟨k+1,by omega,by omega,by rw [ringN,h];exact h2⟩
 ·rintro ⟨n,h1,h2,h3⟩;obtain ⟨k,rfl⟩:∃k,n=k+1:=⟨n-1,by omega⟩;rw [ringN,h] at h3;exact ⟨k,by omega,h3⟩
end Pk
end Go.Proofs.YtcikldoaidmnhaaGreatDoor
namespace Go.Proofs.YtcikldoaidmnhaaGreatDoor
open Go Go.RowKit Pc
set_option maxRecDepth 100000
theorem snoc_cases {α:Type} (k:List α):k=[]∨∃k0 d,k=k0++[d]:=by
 rcases List.eq_nil_or_concat k with h | ⟨k0,d,h⟩
 ·exact .inl h
 ·exact .inr ⟨k0,d,by rw [h,List.concat_eq_append]⟩
theorem trim_snoc_zero (l:List Nat):trim (l++[0])=trim l:=by simp [trim,trimR]
theorem trim_snoc_ne (l:List Nat) {d:Nat} (h:d≠0):trim (l++[d])=l++[d]:=by simp [trim,trimR,h]
set_option maxHeartbeats 400000 in
theorem trimByte_any (l:List Nat) (hl:∀d,d∈l→d<256) (hlen:l.length≤maxLen) (w:World) :
  Calls Tryz.prog 144 #[.string (str l),.int .u8 0] w fun e w'=>e=.returned (.string (str (trim l)))∧w=w':=by
 unfold maxLen at hlen;go_enter Tryz.func144,Tryz.ntmps144
 go_wp2
 go_loop [0] (fun s=>∃k,s=.string (str k)∧trim k=trim l∧(∀d,d∈k→d<256)∧k.length≤l.length) (fun s=>lenOfV s)
 case atStart=>exact ⟨l,rfl,rfl,hl,Nat.le_refl _⟩
 case round=>
  obtain ⟨k,rfl,h1,h2,h3⟩:=hrel;have hsz:=str_size k;rcases snoc_cases k with rfl | ⟨k0,d,rfl⟩
  ·have h4:Hid (trim l=[]):=h1.symm;clear h1 hl h2 h3;go_wp2
   go_ret
   exact ⟨by rw [h4.out];rfl,rfl⟩
  ·have hsz':(str (k0++[d])).size=k0.length+1:=by rw [str_size];simp
   have hk0:(k0.length:Int)<9223372036854775807:=by simp at h3;omega
   have hix:∀(i:Nat) (h:i<(str (k0++[d])).size),i=k0.length→((str (k0++[d]))[i]'h).toNat=d:=by
    intro i h e;subst e;rw [str_get (by simp) h2];simp
   by_cases hd:d=0
   ·subst hd;have H1:Hid (trim k0=trim l):=by show _=_;rw [←h1,trim_snoc_zero]
    have hq:(str (k0++[0])).extract 0 k0.length=str k0:=by rw [str_extract];simp
    have H2:Hid (∀d,d∈k0→d<256):=fun d hd=>h2 d (by simp [hd]);have h4:k0.length≤l.length:=by simp at h3;omega
    clear hl h1 h2 h3 hsz;go_wp2
    go_round
    case rel=>exact ⟨k0,rfl,H1.out,H2.out,h4⟩
    case measure=>simp [lenOfV,str_size]
   ·have hq:((d:Int) == 0)=false:=by rw [beq_eq_false_iff_ne];omega
    have H1:Hid (trim l=k0++[d]):=by show _=_;rw [←h1,trim_snoc_ne _ hd]
    clear hl h1 h2 h3 hsz;go_wp2
    go_ret
    exact ⟨by rw [H1.out];rfl,rfl⟩
set_option maxHeartbeats 400000 in
theorem trimRight_any (l:List Nat) (hl:∀d,d∈l→d<256) (hlen:l.length≤maxLen) (w:World) :
  Calls Tryz.prog 106 #[.string (str l),.string ⟨#[0]⟩] w fun e w'=>e=.returned (.string (str (trim l)))∧w=w':=by
 rcases l with _ | ⟨x,l⟩
 ·have hs0:(str []).toList=[]:=str_toList _;go_enter Tryz.func106,Tryz.ntmps106
  go_wp2
  go_ret
  exact ⟨rfl,rfl⟩
 ·have hs0:(str (x :: l)).toList=UInt8.ofNat x :: l.map UInt8.ofNat:=str_toList _;have hq:(⟨#[0]⟩:ByteArray).size=1:=rfl;go_enter Tryz.func106,Tryz.ntmps106
  go_wp2_with fail
  refine (trimByte_any _ hl hlen _).mono ?_;rintro e w' ⟨rfl,rfl⟩;go_wp2
  go_ret
  exact ⟨rfl,rfl⟩
theorem WRep.reads {w:World} {b:Nat} {e:E} {F:Nat→Prop} (h:WRep w b e F):∃dv,w.cell? ⟨b,1+1,none⟩=some dv∧w.cell? ⟨b,3,none⟩=some (.int .u32 e.low) ∧
  w.ownsRow 0 5 1 dv e.done.length (e.done.map byteV):=by
 rcases h with ⟨rfl,h2,rfl⟩ | ⟨wb,dv,h1,rfl⟩
 ·exact ⟨.slice none 0 0,by rw [cell_of_row w b _ _ _ _ h2];rfl,by rw [cell_of_row w b 3 _ _ _ h2];rfl,World.ownsRow_nil _ _ _ _⟩
 ·exact ⟨dv,by rw [cell_of_row w b _ _ _ _ h1.blk];rfl,by rw [cell_of_row w b 3 _ _ _ h1.blk];rfl,h1.own⟩
theorem byteV_one (l:List Nat):∀u∈l.map byteV,u.oneCell'=true:=by
 intro u hu;obtain ⟨d,_,rfl⟩:=List.mem_map.1 hu;rfl
set_option maxHeartbeats 1000000 in
theorem WFinish_any (b:Nat) (e:E) (F:Nat→Prop) (w:World) (h:WRep w b e F) (hlen:e.done.length+1≤1000000) :
  Calls Tryz.prog 54 #[.pointer (some ⟨b,0,none⟩)] w fun en w'=>en=.returned (.string (str e.finish))∧Upd noBlk w w':=by
 obtain ⟨dv,hc2,hc3,hown⟩:=h.reads;have he:=h.wf;have hlow:(e.low:Int)<4294967296:=by have:=he.low;omega
 obtain ⟨i0,hi0,hz0,hz1,hz2⟩:=info_parts info_u8;have m1:Hid (e.done.length≤maxLen):=by show _≤_;unfold maxLen;omega
 have m2:Hid (e.done.length+1≤maxLen):=by show _≤_;unfold maxLen;omega
 have b1:Hid ((e.done.length+1)*1≤140737488355328):=by show _≤_;omega
 obtain ⟨v1,w1,r1,o1,g1⟩:=append_copy w 41 41 5 i0 _ 1 1 Tryz.underlying41 hi0 hz0 hz1 hz2 rfl (by omega) hown (byteV_one _) m1.out (by omega);have u1:Hid (Upd noBlk w w1):=upd_of_grown g1 (fun k hk=>by simp at hk);have hc3':=g1.cell hc3 (by simp);have R1:=Lib.hid r1;have O1:=Lib.hid o1;have hq:((e.low:Int)+16777216-1) / 16777216=(e.last:Int):=by unfold E.last;omega
 have hlast:Hid (e.last≤256):=by show _≤_;unfold E.last;omega
 have hd:=Lib.hid he.done;clear r1 o1 hown h hlen;by_cases hl:e.last=256
 ·have ht:((e.last:Int) == 256)=true:=by rw [beq_iff_eq];omega
  have HL:=Lib.hid hl;clear hl;go_enter Tryz.func54,Tryz.ntmps54
  go_wp2_with (at_builtin;refine wpList_append_run rfl _ _ _ rfl rfl rfl R1.out ?_)
  refine (carry_v v1 e.done hd.out w1 O1.out m1.out).mono ?_;rintro en w2 ⟨rfl,o2,g2⟩;have hcl:Hid ((carry e.done).length=e.done.length):=carry_length _;have hbase:Hid (w.heap.size≤w2.heap.size):=Nat.le_trans u1.out.size g2.size;obtain ⟨gg,cap,w3,r3,o3,g3,hat,hlt⟩:=append_one w2 41 41 5 i0 _ 1 1 Tryz.underlying41 hi0 hz0 hz1 hz2 rfl (by omega) o2 hbase.out [byteV 0] rfl (byteV_one [0]) m2.out b1.out;have hcv:=conv_own (P:=Tryz.prog) (src:=41) (e:=5) (dst:=9) (l:=carry e.done++[0]) Tryz.underlying41 Tryz.underlying5 Tryz.underlying9 (by rw [List.length_append,hcl.out,List.map_append];exact o3);have hw8:IntKind.u8.wrap (e.last:Int)=0:=by rw [HL.out];rfl
  have R3:=Lib.hid r3;have O3:=Lib.hid o3;have hu:Hid (Upd noBlk w w3):=by
   refine (u1.out.grown g2 (fun k hk hk'=>?_)).then ((upd_of_grown (World.grownBy_alloc w2 _ v1.ownBlock) (F:=inRow v1) (fun k hk _=>hk)).trans (upd_of_grown g3 (fun k hk _=>hk))) (fun k hk hk'=>?_)
   ·have:=(O1.out.lt k hk).1;omega
   ·have:=(O1.out.lt k hk').1;omega
  clear r3 o3 o2 g2 g3;go_wp2_with (at_builtin;refine wpList_append_run rfl _ _ _ rfl rfl rfl R3.out ?_)
  have hfin:Hid (trim (carry e.done++[0])=e.finish):=by show _=_;unfold E.finish;rw [if_pos HL.out]
  have hb8:Hid (∀d,d∈carry e.done++[0]→d<256):=by
   intro d hd';rcases List.mem_append.1 hd' with h | h
   ·exact carry_lt hd.out d h
   ·simp at h;omega
  have hln:Hid ((carry e.done++[0]).length≤maxLen):=by show _≤_;rw [List.length_append,hcl.out];exact m2.out
  clear hcv;refine (trimRight_any _ hb8.out hln.out _).mono ?_;rintro en w4 ⟨rfl,rfl⟩;go_wp2
  go_ret
  exact ⟨by rw [←hfin.out];rfl,hu.out⟩
 ·have ht:((e.last:Int) == 256)=false:=by rw [beq_eq_false_iff_ne];omega
  have HL:=Lib.hid hl;have hl256:e.last<256:=by have:=hlast.out;omega
  obtain ⟨gg,cap,w3,r3,o3,g3,hat,hlt⟩:=append_one w1 41 41 5 i0 _ 1 1 Tryz.underlying41 hi0 hz0 hz1 hz2 rfl (by omega) O1.out u1.out.size [byteV e.last] rfl (byteV_one [e.last]) m2.out b1.out;have hcv:=conv_own (P:=Tryz.prog) (src:=41) (e:=5) (dst:=9) (l:=e.done++[e.last]) Tryz.underlying41 Tryz.underlying5 Tryz.underlying9 (by rw [List.length_append,List.map_append];exact o3);have hw8:IntKind.u8.wrap (e.last:Int)=(e.last:Int):=wrap_u8 (by omega) (by omega);have R3:=Lib.hid r3;have O3:=Lib.hid o3;have hu:Hid (Upd noBlk w w3):=by
   refine u1.out.then ((upd_of_grown (World.grownBy_alloc w1 _ v1.ownBlock) (F:=inRow v1) (fun k hk _=>hk)).trans (upd_of_grown g3 (fun k hk _=>hk))) (fun k hk hk'=>?_);have:=(O1.out.lt k hk').1;omega
  have hfin:Hid (trim (e.done++[e.last])=e.finish):=by show _=_;unfold E.finish;rw [if_neg hl]
  have hb8:Hid (∀d,d∈e.done++[e.last]→d<256):=by
   intro d hd';rcases List.mem_append.1 hd' with h | h
   ·exact hd.out d h
   ·simp at h;omega
  have hln:Hid ((e.done++[e.last]).length≤maxLen):=by show _≤_;rw [List.length_append];exact m2.out
  clear hl r3 o3 g3 hl256;go_enter Tryz.func54,Tryz.ntmps54
  go_wp2_with (first | (at_builtin;refine wpList_append_run rfl _ _ _ rfl rfl rfl R1.out ?_) | (at_builtin;refine wpList_append_run rfl _ _ _ rfl rfl rfl R3.out ?_))
  refine (trimRight_any _ hb8.out hln.out _).mono ?_;rintro en w4 ⟨rfl,rfl⟩;go_wp2
  go_ret
  exact ⟨by rw [←hfin.out];rfl,hu.out⟩
end Go.Proofs.YtcikldoaidmnhaaGreatDoor
namespace Go.Proofs.YtcikldoaidmnhaaGreatDoor
open Go Go.RowKit Pk
set_option maxRecDepth 100000
theorem eq_pt (d:Nat) (a0 a1 a2 b0 b1 b2:Int) (W:World):(Op.equalIn (d+2) 43 (.agg #[.int .i64 a0,.int .i64 a1,.int .i64 a2]) (.agg #[.int .i64 b0,.int .i64 b1,.int .i64 b2])).run Tryz.prog W=.ok (decide (((a0,a1,a2):Pt)=(b0,b1,b2))) W:=by
 have h:decide (((a0,a1,a2):Pt)=(b0,b1,b2))=(a0 == b0&&(a1 == b1&&a2 == b2)):=by
  rw [Bool.eq_iff_iff,decide_eq_true_iff];simp
 rw [h];go_simp
 by_cases h0:a0=b0
 ·by_cases h1:a1=b1
  ·by_cases h2:a2=b2
   ·simp [h0,h1,h2]
   ·simp [h0,h1,h2]
  ·simp [h0,h1]
 ·simp [h0]
theorem eq_tri (a0 a1 a2 a3 a4 a5 a6 a7 a8 b0 b1 b2 b3 b4 b5 b6 b7 b8:Int) (W:World) :
  (Op.equalIn 10000 45 (.agg #[.int .i64 a0,.int .i64 a1,.int .i64 a2,.int .i64 a3,.int .i64 a4,.int .i64 a5,.int .i64 a6,.int .i64 a7,.int .i64 a8]) (.agg #[.int .i64 b0,.int .i64 b1,.int .i64 b2,.int .i64 b3,.int .i64 b4,.int .i64 b5,.int .i64 b6,.int .i64 b7,.int .i64 b8])).run Tryz.prog W=.ok (decide ((((a0,a1,a2),(a3,a4,a5),(a6,a7,a8)):Tri)=((b0,b1,b2),(b3,b4,b5),(b6,b7,b8)))) W:=by
 obtain ⟨i,hi⟩:∃i,Tryz.prog.info? 43=some i:=by
  cases h:Tryz.prog.info? 43 with
  | none=>
   have:(Tryz.prog.info? 43).isSome=true:=by kernel_rfl
   rw [h] at this;cases this
  | some i=>exact ⟨i,rfl⟩
 rw [run_equalIn_array W 9999 _ _ Tryz.underlying45 hi];have hc:Tryz.prog.cellsOf 43=3:=by kernel_rfl
 have hr:List.range 3=[0,1,2]:=rfl;have p0:∀x0 x1 x2 x3 x4 x5 x6 x7 x8:Int,(part 43 #[.int .i64 x0,.int .i64 x1,.int .i64 x2,.int .i64 x3,.int .i64 x4,.int .i64 x5,.int .i64 x6,.int .i64 x7,.int .i64 x8] 0).run Tryz.prog W=.ok (.agg #[.int .i64 x0,.int .i64 x1,.int .i64 x2]) W:=fun _ _ _ _ _ _ _ _ _=>by kernel_rfl
 have p1:∀x0 x1 x2 x3 x4 x5 x6 x7 x8:Int,(part 43 #[.int .i64 x0,.int .i64 x1,.int .i64 x2,.int .i64 x3,.int .i64 x4,.int .i64 x5,.int .i64 x6,.int .i64 x7,.int .i64 x8] 3).run Tryz.prog W=.ok (.agg #[.int .i64 x3,.int .i64 x4,.int .i64 x5]) W:=fun _ _ _ _ _ _ _ _ _=>by kernel_rfl
 have p2:∀x0 x1 x2 x3 x4 x5 x6 x7 x8:Int,(part 43 #[.int .i64 x0,.int .i64 x1,.int .i64 x2,.int .i64 x3,.int .i64 x4,.int .i64 x5,.int .i64 x6,.int .i64 x7,.int .i64 x8] 6).run Tryz.prog W=.ok (.agg #[.int .i64 x6,.int .i64 x7,.int .i64 x8]) W:=fun _ _ _ _ _ _ _ _ _=>by kernel_rfl
 have q:=fun x0 x1 x2 y0 y1 y2=>eq_pt 9997 x0 x1 x2 y0 y1 y2 W;simp only [Nat.reduceAdd] at q;have h:decide ((((a0,a1,a2),(a3,a4,a5),(a6,a7,a8)):Tri)=((b0,b1,b2),(b3,b4,b5),(b6,b7,b8)))=(decide (((a0,a1,a2):Pt)=(b0,b1,b2))&&(decide (((a3,a4,a5):Pt)=(b3,b4,b5))&&decide (((a6,a7,a8):Pt)=(b6,b7,b8)))):=by
  rw [Bool.eq_iff_iff,decide_eq_true_iff];simp [and_assoc]
 rw [h,hr,hc];rcases d0:decide (((a0,a1,a2):Pt)=(b0,b1,b2)) with _ | _<;>rcases d1:decide (((a3,a4,a5):Pt)=(b3,b4,b5)) with _ | _<;>rcases d2:decide (((a6,a7,a8):Pt)=(b6,b7,b8)) with _ | _<;>simp only [Op.eqItems,Nat.reduceMul,Sem.run_bind,p0,p1,p2,q,Result.andThen_ok,d0,d1,d2,Sem.run_ite,Sem.run_pure,Bool.not_true,Bool.not_false,if_true,Bool.false_eq_true,if_false,Bool.and_true,Bool.and_false]
end Go.Proofs.YtcikldoaidmnhaaGreatDoor
