/- Parts: Maps as functions: one element turned in place ('m[k]++'), and kits for whatever is laid by an injective code. No condition. Maps in the call's own memory as functions: looked up, stored into, ranged over, whatever the keys and the elements are. No condition. Rows of things of several cells, whatever the things are: read at any address, and made by append in the call's own memory. No condition. -/
import Derived.Test.YtmgklblglpplcaaGreatDoorRPubl2
import Derived.Test.YtmgklblglpplcaaGreatDoorRPubl5
import Derived.WalkKit
import Derived.WalkSpells
import Derived.WalkLawsBesides
import Derived.Lib.Hide
import Derived.BigQuiet
import Derived.Deep.DeepFit
import Derived.Deep.DeepCutAuto
import Derived.Deep.AppendLies
import Derived.Deep.QuietTactic
import Derived.Deep.MidRow
import Derived.Maps.OwnOps
import Derived.Maps.OwnSet
import Derived.Maps.RangeWalk
import Derived.WideKeyEntry
namespace Go.Proofs.YtmgklblglpplcaaGreatDoor
open Go Go.RowKit
structure Kd (P:Program) (α:Type) where
 T:TypeId
 S:TypeId
 k:Nat
 bytes:Nat
 enc:α→List Value
 len:∀x,(enc x).length=k
 one:∀x,∀v∈enc x,v.oneCell'=true
 pos:0<k
 small:bytes≤4096
 und:P.underlying S=some (.slice T)
 info:∃i z,P.info? T=some i∧i.zero=some z∧i.size=k∧i.bytes=bytes∧z.cells.size=k
variable {P:Program} {α:Type}
def Kd.At (K:Kd P α) (w:World) (b o:Nat) (x:α):Prop:=w.rangeAt b o (K.enc x)
def Kd.Rd (K:Kd P α) (w:World) (v:Value) (l:List α):Prop:=∃A cap,v=.slice A l.length cap∧l.length≤cap∧(0<l.length→∃b off,A=some ⟨b,off,none⟩∧∀j (h:j<l.length),K.At w b (off+j*K.k) l[j])
def Kd.Own (K:Kd P α) (base:Nat) (w:World) (v:Value) (l:List α):Prop:=w.ownsRow base K.T K.k v l.length (l.flatMap K.enc)
theorem rangeAt_upd {w w':World} {b o:Nat} {cs:List Value} (h:w.rangeAt b o cs) (hu:Upd noBlk w w'):w'.rangeAt b o cs:=fun j v hv=>hu.cell (h j v hv) id
theorem Kd.At.keep {K:Kd P α} {w w':World} {b o:Nat} {x:α} (h:K.At w b o x) (hu:Upd noBlk w w'):K.At w' b o x:=rangeAt_upd h hu
theorem Kd.Rd.keep {K:Kd P α} {w w':World} {v:Value} {l:List α} (h:K.Rd w v l) (hu:Upd noBlk w w'):K.Rd w' v l:=by
 obtain ⟨A,cap,e,hc,h1⟩:=h;refine ⟨A,cap,e,hc,fun h0=>?_⟩;obtain ⟨b,off,e2,h2⟩:=h1 h0;exact ⟨b,off,e2,fun j hj=>(h2 j hj).keep hu⟩
theorem Kd.Rd.nil (K:Kd P α) (w:World):K.Rd w (.slice none 0 0) []:=⟨none,0,rfl,Nat.le_refl _,fun h=>absurd h (by simp)⟩
theorem Kd.flat_get (K:Kd P α):∀(l:List α) (j:Nat) (hj:j<l.length) (i:Nat),i<K.k→(l.flatMap K.enc)[j*K.k+i]?=(K.enc l[j])[i]?
 | [],j,hj,_,_=>absurd hj (by simp)
 | x :: l,0,_,i,hi=>by
  rw [List.flatMap_cons,Nat.zero_mul,Nat.zero_add,List.getElem?_append_left (by rw [K.len];exact hi)];rfl
 | x :: l,j+1,hj,i,hi=>by
  rw [List.flatMap_cons,List.getElem?_append_right (by rw [K.len,Nat.add_mul];omega),K.len];have e:(j+1)*K.k+i-K.k=j*K.k+i:=by rw [Nat.add_mul];omega
  rw [e,K.flat_get l j (by simpa using hj) i hi];rfl
theorem Kd.flat_len (K:Kd P α) (l:List α):(l.flatMap K.enc).length=l.length*K.k:=by
 induction l with
 | nil=>simp
 | cons x l ih=>rw [List.flatMap_cons,List.length_append,K.len,ih,List.length_cons,Nat.add_mul];omega
theorem Kd.Own.form {K:Kd P α} {base:Nat} {w:World} {v:Value} {l:List α} (h:K.Own base w v l):∃A cap,v=.slice A l.length cap∧l.length≤cap:=by
 rcases h.2 with ⟨rfl,h0⟩ | ⟨g,cap,cur,rfl,_,_,h1,_⟩
 ·exact ⟨none,0,by rw [h0],by omega⟩
 ·exact ⟨_,_,rfl,h1⟩
theorem Kd.Own.rd {K:Kd P α} {base:Nat} {w:World} {v:Value} {l:List α} (h:K.Own base w v l):K.Rd w v l:=by
 obtain ⟨A,cap,rfl,hc⟩:=h.form;refine ⟨A,cap,rfl,hc,fun h0=>?_⟩;have h':w.ownsRow base K.T K.k (.slice A l.length cap) l.length (l.flatMap K.enc):=h;rcases h.2 with ⟨_,h1⟩ | ⟨g,c,cur,e,_⟩
 ·omega
 ·cases e;refine ⟨g,0,rfl,fun j hj i v hv=>?_⟩;have hi:i<K.k:=by
   have:=(List.getElem?_eq_some_iff.1 hv).1;rw [K.len] at this;exact this
  have hji:j*K.k+i<l.length*K.k:=by
   have:(j+1)*K.k≤l.length*K.k:=Nat.mul_le_mul_right _ hj;rw [Nat.add_mul] at this;omega
  rw [Nat.zero_add,World.ownsRow.cellAt h' _ hji,K.flat_get l j hj i hi];exact hv
theorem Kd.Own.nil (K:Kd P α) (base:Nat) (w:World):K.Own base w (.slice none 0 0) []:=⟨by simp,.inl ⟨rfl,rfl⟩⟩
theorem Kd.Own.upd {K:Kd P α} {base:Nat} {w w':World} {v:Value} {l:List α} (h:K.Own base w v l) (hu:Upd noBlk w w'):K.Own base w' v l:=ownsRow_upd h hu
theorem Kd.Own.mono {K:Kd P α} {base base':Nat} {w:World} {v:Value} {l:List α} (h:K.Own base w v l) (hb:base'≤base):K.Own base' w v l:=by
 refine ⟨h.1,?_⟩;rcases h.2 with e | ⟨g,cap,cur,e,hg,r⟩
 ·exact .inl e
 ·exact .inr ⟨g,cap,cur,e,Nat.le_trans hb hg,r⟩
theorem Kd.Own.blk {K:Kd P α} {base:Nat} {w:World} {v:Value} {l:List α} (h:K.Own base w v l) {g:Nat} (hg:v.ownBlock=some g):base≤g∧∃cur,w.heap[g]?=some (.cells cur K.T (0,0)):=by
 rcases h.2 with ⟨rfl,_⟩ | ⟨g',cap,cur,rfl,h1,h2,_⟩
 ·cases hg
 ·cases hg;exact ⟨h1,cur,h2⟩
theorem Kd.Own.other {K:Kd P α} {F:Nat→Prop} {base:Nat} {w w':World} {v:Value} {l:List α} (h:K.Own base w v l) (hu:Upd F w w') (hF:∀g,v.ownBlock=some g→¬F g):K.Own base w' v l:=
 ownsRow_keep h (fun g hg=>hu.block g (h.lt g hg).2 (hF g hg))
theorem Kd.Own.app1 {K:Kd P α} {base:Nat} {w:World} {v:Value} {l:List α} (h:K.Own base w v l) (hb:base≤w.heap.size) (x:α) (hl:l.length<4294967296) :
  ∃g cap w',(Builtin.append_ #[K.S,K.S] K.S #[v,.slice (some ⟨w.heap.size,0,none⟩) 1 1]).run P (w.alloc (.cells (K.enc x).toArray K.T))=.ok (.slice (some ⟨g,0,none⟩) (l.length+1) cap) w' ∧
   K.Own base w' (.slice (some ⟨g,0,none⟩) (l.length+1) cap) (l++[x])∧Upd (fun k=>v.ownBlock=some k) w w'∧(v.ownBlock=some g∨w.heap.size<g):=by
 obtain ⟨i,z,hi,hz,h1,h2,h3⟩:=K.info;have hs:=K.small;obtain ⟨g,cap,w',r,o,gr,hat,_⟩:=append_one (P:=P) w K.S K.S K.T i z K.k K.bytes K.und hi hz h1 h2 h3 K.pos h hb (K.enc x) (K.len x) (K.one x) (by unfold maxLen;omega)
  (Nat.le_trans (Nat.mul_le_mul (Nat.succ_le_of_lt hl) hs) (by decide))
 refine ⟨g,cap,w',r,?_,(upd_of_grown (World.grownBy_alloc w _ v.ownBlock) (fun j hj _=>hj)).trans (upd_of_grown gr (fun j hj _=>hj)),hat.imp id (fun e=>by omega)⟩;unfold Kd.Own;rw [List.flatMap_append,List.length_append];simp only [List.flatMap_cons,List.flatMap_nil,List.append_nil];exact o
theorem Kd.Own.appN {K:Kd P α} {base:Nat} {w:World} {v:Value} {l:List α} (h:K.Own base w v l) (hb:base≤w.heap.size) {b off c:Nat} (m:List α) (hm:∀j (hj:j<m.length),K.At w b (off+j*K.k) m[j]) (hl:l.length+m.length<4294967296) (h0:0<m.length) :
  ∃g cap w',(Builtin.append_ #[K.S,K.S] K.S #[v,.slice (some ⟨b,off,none⟩) m.length c]).run P w=.ok (.slice (some ⟨g,0,none⟩) (l.length+m.length) cap) w' ∧
   K.Own base w' (.slice (some ⟨g,0,none⟩) (l.length+m.length) cap) (l++m)∧Upd (fun k=>v.ownBlock=some k) w w'∧(v.ownBlock=some g∨w.heap.size≤g):=by
 obtain ⟨i,z,hi,hz,h1,h2,h3⟩:=K.info;have hs:=K.small;obtain ⟨g,cap,w',r,o,gr,hat,_⟩:=run_append_lies (P:=P) w K.S K.S base K.T i z K.k K.bytes K.und hi hz h1 h2 h3 K.pos v l.length (l.flatMap K.enc) h ⟨b,off,none⟩ m.length c (m.flatMap K.enc) (K.flat_len m)
  (fun j u hu=>by
   have hj:j<m.length*K.k:=by have:=(List.getElem?_eq_some_iff.1 hu).1;rw [K.flat_len] at this;exact this
   have hp:=K.pos;have hq:j / K.k<m.length:=Nat.div_lt_of_lt_mul (by rw [Nat.mul_comm];exact hj);have hr:j % K.k<K.k:=Nat.mod_lt _ hp;have e:j / K.k*K.k+j % K.k=j:=by rw [Nat.mul_comm];exact Nat.div_add_mod j K.k
   rw [←e,K.flat_get m _ hq _ hr] at hu;have:=hm _ hq _ _ hu;rw [Addr.add_mid,←e,←Nat.add_assoc];exact this)
  (fun u hu=>by obtain ⟨x,_,hx⟩:=List.mem_flatMap.1 hu;exact K.one x u hx) h0 (by unfold maxLen;omega)
  (Nat.le_trans (Nat.mul_le_mul (Nat.le_of_lt hl) hs) (by decide)) hb w.heap.size rfl
 refine ⟨g,cap,w',r,?_,upd_of_grown gr (fun j hj _=>hj),hat.imp id (fun e=>by omega)⟩;unfold Kd.Own;rw [List.flatMap_append,List.length_append];exact o
end Go.Proofs.YtmgklblglpplcaaGreatDoor
namespace Go.Proofs.YtmgklblglpplcaaGreatDoor
open Go Go.RowKit
structure MapKit (P:Program) (α β:Type) where
 t:TypeId
 k:TypeId
 e:TypeId
 encK:α→Value
 klK:α→Lit
 goodK:α→Prop
 encV:β→Value
 dV:β→DataW Unit
 goodV:β→Prop
 zero:β
 R:Value→Option (DataW Unit × List MemPlace)
 keyed:Maps.Keyed P k
 ht:P.underlying t=some (.map k e)
 hkey:∀a,goodK a→keyOf P k (encK a)=some (klK a)
 inj:∀a b,goodK a→goodK b→klK a=klK b→a=b
 hval:∀b,goodV b→R (encV b)=some (dV b,[])
 hinv:∀v y,R v=some y→∃b,goodV b∧v=encV b∧y=(dV b,[])
 dinj:∀b b',goodV b→goodV b'→dV b=dV b'→b=b'
 hz:∀w,(zeroValue e).run P w=.ok (encV zero) w
 gz:goodV zero
variable {P:Program} {α β:Type}
def MapKit.At (K:MapKit P α β) (w:World) (b n:Nat) (f:α→Option β):Prop:=
 ∃D:DataW Unit,w.ownsMap P K.k K.R b n D∧(∀a,K.goodK a→D.atKey (K.klK a) (K.dV K.zero)=K.dV ((f a).getD K.zero))∧(∀a,K.goodK a→Maps.has D (K.klK a)=(f a).isSome)∧(∀kl,Maps.has D kl=true→∃a,K.goodK a∧kl=K.klK a)∧(∀a v,f a=some v→K.goodV v)
theorem MapKit.At.made (K:MapKit P α β) (w:World):K.At (w.alloc (.map #[] 0)) w.heap.size 0 (fun _=>none):=⟨_,World.ownsMap_made _ _ _ _,fun _ _=>rfl,fun _ _=>rfl,(fun _ h=>by cases h),(fun _ _ h=>by cases h)⟩
theorem MapKit.At.blk {K:MapKit P α β} {w:World} {b n:Nat} {f:α→Option β} (h:K.At w b n f):∃es clock,w.heap[b]?=some (.map es clock):=by
 obtain ⟨D,⟨es,clock,h1,_⟩,_⟩:=h;exact ⟨es,clock,h1⟩
theorem MapKit.At.heap {K:MapKit P α β} {w w':World} {b n:Nat} {f:α→Option β} (h:K.At w b n f) (hb:∀o,w.heap[b]?=some o→w'.heap[b]?=some o):K.At w' b n f:=by
 obtain ⟨D,⟨es,clock,h1,h2,h3,h4⟩,h5⟩:=h;exact ⟨D,⟨es,clock,hb _ h1,h2,h3,h4⟩,h5⟩
theorem MapKit.At.keep {K:MapKit P α β} {w w':World} {b n:Nat} {f:α→Option β} (h:K.At w b n f) (hu:Upd noBlk w w'):K.At w' b n f:=h.heap (fun _ ho=>hu.heap ho id)
theorem MapKit.At.other {K:MapKit P α β} {F:Nat→Prop} {w w':World} {b n:Nat} {f:α→Option β} (h:K.At w b n f) (hu:Upd F w w') (hF:¬F b):K.At w' b n f:=h.heap (fun _ ho=>hu.heap ho hF)
theorem MapKit.At.mono {K:MapKit P α β} {w:World} {b n m:Nat} {f:α→Option β} (h:K.At w b n f) (hm:n≤m):K.At w b m f:=by
 obtain ⟨D,h1,h2⟩:=h;exact ⟨D,h1.mono hm,h2⟩
theorem MapKit.At.putD [DecidableEq α] {K:MapKit P α β} {w w':World} {b n:Nat} {f:α→Option β} {D:DataW Unit} (h1:w.ownsMap P K.k K.R b n D) (h2:∀a,K.goodK a→D.atKey (K.klK a) (K.dV K.zero)=K.dV ((f a).getD K.zero)) (h3:∀a,K.goodK a→Maps.has D (K.klK a)=(f a).isSome) (h4:∀kl,Maps.has D kl=true→∃a,K.goodK a∧kl=K.klK a) (h5:∀a v,f a=some v→K.goodV v)
  {a:α} (ha:K.goodK a) {v:β} (hv:K.goodV v) (k1:w'.ownsMap P K.k K.R b (n+1) (D.put (K.klK a) (K.dV v))):K.At w' b (n+1) (fun c=>if c=a then some v else f c):=by
 have ht:=h1.tidy K.keyed;have hkl:WideAt.IsKeyLit (K.klK a):=K.keyed.key (K.hkey a ha);refine ⟨_,k1,fun c hc=>?_,fun c hc=>?_,fun kl hk=>?_,fun c u hu=>?_⟩
 ·by_cases e:c=a
  ·subst e;rw [Maps.atKey_put_same ht.isMap hkl];simp only [if_pos,Option.getD_some]
  ·rw [Maps.atKey_put_other (fun h=>e (K.inj c a hc ha h)),h2 c hc];simp only [if_neg e]
 ·by_cases e:c=a
  ·subst e;rw [Maps.has_put_same ht.isMap hkl];simp only [if_pos,Option.isSome_some]
  ·rw [Maps.has_put_other (fun h=>e (K.inj c a hc ha h)),h3 c hc];simp only [if_neg e]
 ·by_cases e:kl=K.klK a
  ·exact ⟨a,ha,e⟩
  ·rw [Maps.has_put_other e] at hk;exact h4 kl hk
 ·by_cases e:c=a
  ·simp only [if_pos e] at hu;cases hu;exact hv
  ·simp only [if_neg e] at hu;exact h5 c u hu
theorem MapKit.At.put [DecidableEq α] {K:MapKit P α β} {w:World} {b n:Nat} {f:α→Option β} (h:K.At w b n f) (hn:n<maxLen) {a:α} (ha:K.goodK a) {v:β} (hv:K.goodV v) :
  ∃w',(Instr.mapUpdate K.t (.map (some b)) (K.encK a) (K.encV v)).run P w=.ok () w'∧K.At w' b (n+1) (fun c=>if c=a then some v else f c)∧Upd (fun j=>j=b) w w':=by
 obtain ⟨D,h1,h2,h3,h4,h5⟩:=h;obtain ⟨w',hrun,k1,k2⟩:=h1.update K.keyed K.ht hn (K.hkey a ha) (K.hval v hv);exact ⟨w',hrun,MapKit.At.putD h1 h2 h3 h4 h5 ha hv k1,upd_of_grown k2 (fun j hj _=>(Option.some.inj hj).symm)⟩
theorem MapKit.At.store [DecidableEq α] {K:MapKit P α β} {w:World} {ops:Array Oper} {rest:List Oper} {o:Oper} {ac:Act} {Q:Exit→Act→World→Prop} {b n:Nat} {f:α→Option β} (h:K.At w b n f) (hn:n<maxLen) (hg:o.guard=none) (m x y:Operand) (hop:o.op=Op.mapUpdate K.t m x y) (hm:ac.eval m=.map (some b)) {a:α} (hx:ac.eval x=K.encK a) (ha:K.goodK a) {v:β} (hy:ac.eval y=K.encV v) (hv:K.goodV v)
  (hK:∀w',K.At w' b (n+1) (fun c=>if c=a then some v else f c)→Upd (fun j=>j=b) w w'→wpList P ops Q rest (ac.put o.dst undef) w'):wpList P ops Q (o :: rest) ac w:=by
 obtain ⟨w',hrun,r1,r2⟩:=h.put hn ha hv;refine wpList_plain hg fun K' hK'=>?_;unfold Oper.wp;simp [execOp,hop,hm,hx,hy,hrun,Result.andThen];exact hK' _ _ (hK w' r1 r2)
def MapKit.Rng (K:MapKit P α β) (w:World) (b r n:Nat) (f:α→Option β) (left:α→Bool) (cnt:Nat):Prop:=
 ∃(D:DataW Unit) (ll:Lit→Bool),w.ranges P K.k K.R b r n D ll cnt∧(∀a,K.goodK a→D.atKey (K.klK a) (K.dV K.zero)=K.dV ((f a).getD K.zero))∧(∀a,K.goodK a→Maps.has D (K.klK a)=(f a).isSome)∧(∀kl,Maps.has D kl=true→∃a,K.goodK a∧kl=K.klK a)∧(∀a v,f a=some v→K.goodV v)∧(∀a,K.goodK a→ll (K.klK a)=left a)∧(∀kl,ll kl=true→Maps.has D kl=true)
theorem MapKit.Rng.at {K:MapKit P α β} {w:World} {b r n:Nat} {f:α→Option β} {left:α→Bool} {cnt:Nat} (h:K.Rng w b r n f left cnt):K.At w b n f:=by
 obtain ⟨D,ll,h1,h2,h3,h4,h5,_⟩:=h;exact ⟨D,h1.owns,h2,h3,h4,h5⟩
theorem MapKit.Rng.left_eq {K:MapKit P α β} {w:World} {b r n:Nat} {f:α→Option β} {left:α→Bool} {cnt:Nat} (h:K.Rng w b r n f left cnt):w.rangeLeft b r=cnt:=by
 obtain ⟨D,ll,h1,_⟩:=h;exact h1.left_eq
theorem MapKit.Rng.kept {K:MapKit P α β} {w w':World} {b r n:Nat} {f:α→Option β} {left:α→Bool} {cnt:Nat} {row:Option Nat} (h:K.Rng w b r n f left cnt) (hg:w.grownBy w' row) (hb:some b≠row) (hr:some r≠row):K.Rng w' b r n f left cnt:=by
 obtain ⟨D,ll,h1,h2⟩:=h;exact ⟨D,ll,h1.kept hg hb hr,h2⟩
theorem MapKit.At.range {K:MapKit P α β} {w:World} {ops:Array Oper} {rest:List Oper} {o:Oper} {ac:Act} {Q:Exit→Act→World→Prop} {b n:Nat} {f:α→Option β} (h:K.At w b n f) (hg:o.guard=none) (m:Operand) (hop:o.op=Op.range K.t m) (hm:ac.eval m=.map (some b))
  (hK:∀w' cnt,K.Rng w' b w.heap.size n f (fun a=>(f a).isSome) cnt→w.grownBy w' none→w'.heap.size=w.heap.size+1→wpList P ops Q rest (ac.put o.dst (.pointer (some ⟨w.heap.size,0,none⟩))) w'):wpList P ops Q (o :: rest) ac w:=by
 obtain ⟨D,h1,h2,h3,h4,h5⟩:=h;exact wpList_range_own w hg m K.t hop K.k K.e K.keyed K.ht K.R b n D hm h1 (fun w' k1 k2 k3=>hK w' _ ⟨D,_,k1,h2,h3,h4,h5,fun a ha=>h3 a ha,fun _ h=>h⟩ k2 k3)
theorem MapKit.Rng.next [DecidableEq α] {K:MapKit P α β} {w:World} {ops:Array Oper} {rest:List Oper} {o:Oper} {ac:Act} {Q:Exit→Act→World→Prop} {b r n:Nat} {f:α→Option β} {left:α→Bool} {cnt:Nat} (h:K.Rng w b r n f left cnt) (hg:o.guard=none) (it:Operand) (hop:o.op=Op.next it false) (hit:ac.eval it=.pointer (some ⟨r,0,none⟩))
  (hDone:cnt=0→(∀a,K.goodK a→left a=false)→wpList P ops Q rest (ac.put o.dst (.tuple #[.bool false])) w)
  (hMore:∀(a:α) (v:β) (w':World) (cnt':Nat),K.goodK a→left a=true→f a=some v→K.Rng w' b r n f (fun c=>left c&&!decide (c=a)) cnt'→cnt'<cnt→w.grownBy w' (some r)→w'.heap.size=w.heap.size →
   (Instr.entry (.pointer (some ⟨r,0,none⟩))).run P w'=.ok (.tuple #[K.encK a,K.encV v]) w'→wpList P ops Q rest (ac.put o.dst (.tuple #[.bool true,K.encK a,K.encV v])) w') :
  wpList P ops Q (o :: rest) ac w:=by
 obtain ⟨D,ll,h1,h2,h3,h4,h5,h6,h7⟩:=h;refine wpList_next_ranges (α:=Value) (β:=Value) w hg it hop K.k K.keyed K.R id id (fun key _ _=>⟨key,rfl⟩) (fun v _ _=>⟨v,rfl⟩) b r n D ll cnt hit h1 (fun c0 hl=>hDone c0 (fun a ha=>by rw [←h6 a ha];exact hl _)) ?_;intro x c kl y w' cnt' hkey hll hR hat hrg hlt hgr hsz hen;simp only [id] at hkey hR hen ⊢;obtain ⟨a,ha,rfl⟩:=h4 kl (h7 kl hll);have hxa:x=K.encK a:=K.keyed.inj hkey (K.hkey a ha);subst hxa;have hsome:=h3 a ha;rw [h7 _ hll] at hsome;obtain ⟨v,hv⟩:=Option.isSome_iff_exists.1 hsome.symm;obtain ⟨v',gv',rfl,hy⟩:=K.hinv c y hR;have h8:=h2 a ha;rw [hat,hv,hy] at h8;have:=K.dinj _ _ gv' (h5 a v hv) (by simpa using h8);subst this;refine hMore a v' w' cnt' ha (by rw [←h6 a ha];exact hll) hv ⟨D,_,hrg,h2,h3,h4,h5,fun d hd=>?_,fun kl hk=>?_⟩ hlt hgr hsz hen
 ·show (ll (K.klK d)&&!(K.klK d).sameKey (K.klK a))=_;rw [h6 d hd];congr 1
  by_cases e:d=a
  ·subst e;rw [WideAt.sameKey_self (K.keyed.key (K.hkey d hd))];simp
  ·have:(K.klK d).sameKey (K.klK a)=false:=Maps.sameKey_ne (fun h=>e (K.inj d a hd ha h));rw [this];simp [e]
 ·simp only [Bool.and_eq_true] at hk;exact h7 kl hk.1
theorem MapKit.Rng.nextH [DecidableEq α] {K:MapKit P α β} {w:World} {ops:Array Oper} {rest:List Oper} {o:Oper} {ac:Act} {Q:Exit→Act→World→Prop} {b r n:Nat} {f:α→Option β} {left:α→Bool} {cnt:Nat} (h:K.Rng w b r n f left cnt) (hg:o.guard=none) (it:Operand) (hop:o.op=Op.next it false) (hit:ac.eval it=.pointer (some ⟨r,0,none⟩))
  (hDone:Hid (cnt=0→(∀a,K.goodK a→left a=false)→wpList P ops Q rest (ac.put o.dst (.tuple #[.bool false])) w))
  (hMore:Hid (∀(a:α) (v:β) (w':World) (cnt':Nat),K.goodK a→left a=true→f a=some v→K.Rng w' b r n f (fun c=>left c&&!decide (c=a)) cnt'→cnt'<cnt→w.grownBy w' (some r)→w'.heap.size=w.heap.size →
   (Instr.entry (.pointer (some ⟨r,0,none⟩))).run P w'=.ok (.tuple #[K.encK a,K.encV v]) w'→wpList P ops Q rest (ac.put o.dst (.tuple #[.bool true,K.encK a,K.encV v])) w')) :
  wpList P ops Q (o :: rest) ac w:=h.next hg it hop hit hDone hMore
end Go.Proofs.YtmgklblglpplcaaGreatDoor
namespace Go.Proofs.YtmgklblglpplcaaGreatDoor
open Go Go.RowKit
variable {P:Program} {α β:Type}
theorem MapKit.At.entry [DecidableEq α] {K:MapKit P α β} (L:Go.WideMaps.KeyLaw P K.k) {w:World} {b n:Nat} {f:α→Option β} (h:K.At w b n f) (hn:n<maxLen) {a:α} (ha:K.goodK a) {v:β} (hv:K.goodV v) :
  ∃(v0:Value) (st:Nat) (w1 w2:World),(Instr.mapEntry K.t (.map (some b)) (K.encK a)).run P w=.ok (.tuple #[v0,goInt st]) w1∧(Instr.entryStore K.t (.map (some b)) (goInt st) (K.encV v)).run P w1=.ok () w2 ∧
   K.At w2 b (n+1) (fun c=>if c=a then some v else f c)∧Upd (fun j=>j=b) w w2:=by
 obtain ⟨w',hrun,r1,r2⟩:=h.put hn ha hv;obtain ⟨D,⟨es,clock,hb,hF,hs,hD⟩,_⟩:=h;obtain ⟨v0,st,es1,clock1,he,_,hst⟩:=Go.WideElems.entry_then_store L K.ht K.hz hb hF (K.hkey a ha);have hlt:=lt_of_heap hb;obtain ⟨es',clock',hs1,hs2⟩:=hst (Go.ChangeMaps.setBlock w b (.map es1 clock1)) (K.encV v) (by unfold Go.ChangeMaps.setBlock;simp [hlt]);refine ⟨v0,st,_,_,he,hs1,?_⟩;rw [hs2] at hrun;have e:Go.ChangeMaps.setBlock w b (.map es' clock')=w':=by cases hrun;rfl
 have e2:Go.ChangeMaps.setBlock (Go.ChangeMaps.setBlock w b (.map es1 clock1)) b (.map es' clock')=Go.ChangeMaps.setBlock w b (.map es' clock'):=by unfold Go.ChangeMaps.setBlock;simp
 rw [e2,e];exact ⟨r1,r2⟩
theorem MapKit.At.lookR {K:MapKit P α β} {w:World} {b n:Nat} {f:α→Option β} (h:K.At w b n f) {a:α} (ha:K.goodK a):(Instr.lookup K.t (.map (some b)) (K.encK a) false).run P w=.ok (K.encV ((f a).getD K.zero)) w:=by
 obtain ⟨D,h1,h2,h3,h4,h5⟩:=h;obtain ⟨v,ps,hrun,hv⟩:=h1.lookup K.keyed K.ht (K.hz w) (K.hval _ K.gz) (K.hkey a ha);obtain ⟨c,gc,rfl,hc⟩:=K.hinv v _ hv;rw [h2 a ha] at hc;have hgd:K.goodV ((f a).getD K.zero):=by
  cases hf:f a with
  | none=>exact K.gz
  | some u=>exact h5 a u hf
 have:=K.dinj _ _ hgd gc (by simpa using (Prod.mk.inj hc).1);subst this;exact hrun
theorem MapKit.At.lookOkR {K:MapKit P α β} {w:World} {b n:Nat} {f:α→Option β} (h:K.At w b n f) {a:α} (ha:K.goodK a):(Instr.lookup K.t (.map (some b)) (K.encK a) true).run P w=.ok (.tuple #[K.encV ((f a).getD K.zero),.bool (f a).isSome]) w:=by
 obtain ⟨D,h1,h2,h3,h4,h5⟩:=h;obtain ⟨v,ps,hrun,hv⟩:=h1.look_ok K.keyed K.ht (K.hz w) (K.hval _ K.gz) (K.hkey a ha);obtain ⟨c,gc,rfl,hc⟩:=K.hinv v _ hv;rw [h2 a ha] at hc;rw [h3 a ha] at hrun;have hgd:K.goodV ((f a).getD K.zero):=by
  cases hf:f a with
  | none=>exact K.gz
  | some u=>exact h5 a u hf
 have:=K.dinj _ _ hgd gc (by simpa using (Prod.mk.inj hc).1);subst this;exact hrun
theorem grown_of_upd {w w':World} (h:Upd noBlk w w'):w.grownBy w' none:=⟨h.os,h.tape,h.output,h.size,fun k hk _=>h.block k hk id⟩
theorem grown_of_upd1 {w w':World} {c:Nat} (h:Upd (fun j=>j=c) w w'):w.grownBy w' (some c):=⟨h.os,h.tape,h.output,h.size,fun k hk hc=>h.block k hk (fun e=>hc (by rw [e]))⟩
theorem MapKit.Rng.keep {K:MapKit P α β} {w w':World} {b r n:Nat} {f:α→Option β} {left:α→Bool} {cnt:Nat} (h:K.Rng w b r n f left cnt) (hu:Upd noBlk w w'):K.Rng w' b r n f left cnt:=h.kept (grown_of_upd hu) (by simp) (by simp)
theorem MapKit.Rng.other {K:MapKit P α β} {w w':World} {b r n c:Nat} {f:α→Option β} {left:α→Bool} {cnt:Nat} (h:K.Rng w b r n f left cnt) (hu:Upd (fun j=>j=c) w w') (hb:b≠c) (hr:r≠c):K.Rng w' b r n f left cnt:=h.kept (grown_of_upd1 hu) (by simpa using hb) (by simpa using hr)
noncomputable def mkR (goodV:β→Prop) (encV:β→Value) (dV:β→DataW Unit):Value→Option (DataW Unit × List MemPlace):=fun v=>
 open Classical in if h:∃b,goodV b∧v=encV b then some (dV h.choose,[]) else none
theorem mkR_val {goodV:β→Prop} {encV:β→Value} {dV:β→DataW Unit} (hi:∀a b,encV a=encV b→a=b) (b:β) (hb:goodV b):mkR goodV encV dV (encV b)=some (dV b,[]):=by
 unfold mkR;have h:∃c,goodV c∧encV b=encV c:=⟨b,hb,rfl⟩;rw [dif_pos h];have e:h.choose=b:=(hi b h.choose h.choose_spec.2).symm;rw [e]
theorem mkR_inv {goodV:β→Prop} {encV:β→Value} {dV:β→DataW Unit} (hi:∀a b,encV a=encV b→a=b) {v:Value} {y:DataW Unit × List MemPlace} (h:mkR goodV encV dV v=some y):∃b,goodV b∧v=encV b∧y=(dV b,[]):=by
 by_cases hex:∃b,goodV b∧v=encV b
 ·obtain ⟨b,hb,rfl⟩:=hex;rw [mkR_val hi b hb] at h;exact ⟨b,hb,rfl,(Option.some.inj h).symm⟩
 ·unfold mkR at h;rw [dif_neg hex] at h;cases h
end Go.Proofs.YtmgklblglpplcaaGreatDoor
