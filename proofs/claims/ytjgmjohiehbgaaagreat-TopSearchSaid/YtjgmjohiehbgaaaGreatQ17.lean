/- Part 17. -/
import Derived.Test.YtjgmjohiehbgaaaGreatQ13
import Derived.Test.YtjgmjohiehbgaaaGreatQ15
namespace Go.Proofs.YtjgmjohiehbgaaaGreat
open Go.RowKit Go.Proofs.Tryz
set_option maxHeartbeats 20000000
set_option maxRecDepth 100000
set_option linter.all false
variable{S:aL}{k:Key}{l:Lk}{m:Mo}{n:Nat}{q:Wq}{t u:Int}{w:World}{x:kT}{α:Type}
open List (nodup_cons)
def rr(t:Int):Prop:=0<=t/\t<32
def sP(h:rr t)(i:Nat):(b7 t).getLsbD i=(decide (i<32)&&decide (i=t.toNat)):=by
 unfold b7;rw[if_neg (oI h.1 h.2)];simp only[BitVec.getLsbD_shiftLeft]
 by_cases e:i=t.toNat
 ·subst e;have:=h.2;simp;try omega
 ·by_cases h1:i<32
  ·simp[h1,e]
   intro h2;have:¬i-t.toNat=0:=oM
   simp[this]
  ·simp[h1]
def Vy(h:rr t):b7 t≠0#32:=λe=>by
 have h1:=sP h t.toNat;rw[e]at h1;have:=h.1;have:=h.2;simp at h1;omega
def Zu(ht:rr t)(hu:rr u)(h:t≠u):b7 t &&& b7 u=0#32:=by
 apply BitVec.eq_of_getLsbD_eq;intro i hi;rw[BitVec.getLsbD_and,sP ht,sP hu];have:=ht.1;have:=hu.1
 by_cases e:i=t.toNat
 ·have:¬i=u.toNat:=oM
  simp[this]
 ·simp[e]
def Vz(l:Lk)(t:Int):Prop:=l.w &&& b7 t=0#32/\l.r &&& b7 t=0#32
def uA(h:rr t):dh l t=0↔Vz l t:=by
 unfold dh Vz;rw[if_neg (Vy h)]
 split
 ·rename_i h1;simp[h1]
 ·rename_i h1
  split
  ·rename_i h2;simp[h2]
  ·rename_i h2;simp at h1 h2;simp[h1,h2]
def uB{x:Wt}(hx:rr x.task)(hu:rr u)(h:x.task≠u):(eP l x).w &&& b7 u=l.w &&& b7 u/\(eP l x).r &&& b7 u=l.r &&& b7 u:=by
 have h1:∀b:BitVec 32,(b ||| b7 x.task) &&& b7 u=b &&& b7 u:=λb=>by
  rw[BitVec.and_comm,BitVec.and_or_distrib_left,BitVec.and_comm (b7 u) (b7 x.task),(Zu hx hu h),BitVec.or_zero,BitVec.and_comm]
 unfold eP
 split
 ·exact⟨h1 _,rfl⟩
 ·exact⟨rfl,h1 _⟩
def uC{m:Lk}(h1:m.w &&& b7 u=l.w &&& b7 u)(h2:m.r &&& b7 u=l.r &&& b7 u):dh m u=dh l u:=by
 unfold dh;rw[h1,h2]
structure q8(l:Lk):Prop where
 Fq:∀x∈l.line,rr x.task
 nd:(l.line.map Wt.task).Nodup
 fr:∀x∈l.line,Vz l x.task
theorem uD:∀(n:Nat)(l:List Int),l.Nodup->(∀x∈l,0<=x/\x<n)->l.length<=n
 |0,l,_,h=>by
  cases l with
  |nil=>exact aC2 _
  |cons x l=>have:=h x sI;omega
 |n+1,l,hd,h=>by
  have:=uD n (l.filter λy=>decide (y≠(n:Int))) (hd.filter _) (λx hx=>by
   rw[aD5]at hx;have h2:=h x hx.1;have:x≠(n:Int):=by simpa using hx.2
   omega)
  have h2:∀l:List Int,l.Nodup->l.length<=(l.filter λy=>decide (y≠(n:Int))).length+1:=by
   intro l
   induction l with
   |nil=>intro _;simp
   |cons x l ih=>
    intro hd;rw[nodup_cons]at hd
    by_cases e:x=(n:Int)
    ·subst e
     have h4:(l.filter λy=>decide (y≠(n:Int)))=l:=by
      rw[aS5];intro y hy;simp;rintro rfl;exact hd.1 hy
     rw[aT9,if_neg sI,h4];simp
    ·have:=ih hd.2
     rw[aT9,if_pos (by simpa using e)];simp only[aC4];omega
  have:=h2 l hd;omega
def q8.len(h:q8 l):l.line.length<=32:=by
 have:=uD 32 (l.line.map Wt.task) h.nd (λx hx=>by
  obtain⟨y,hy,rfl⟩:=aF2.1 hx;have h9:=h.Fq y hy;exact⟨h9.1,oH h9.2⟩)
 simpa using this
def ad4:q8 ⟨0#32,0#32,[]⟩:=⟨sI,sI,sI⟩
def N5(h:q8 l)(ht:rr t)(wr:Bool):q8 (oK l t wr).2/\(∀u,rr u->u≠t->dh (oK l t wr).2 u=dh l u)/\(∀x∈(oK l t wr).2.line,x∈l.line\/x.task=t):=by
 unfold oK;rw[if_neg (Vy ht)]
 split
 ·exact⟨h,λ_ _ _=>rfl,λx hx=>.inl hx⟩
 rename_i h0
 split
 ·exact⟨h,λ_ _ _=>rfl,λx hx=>.inl hx⟩
 rename_i h1
 split
 ·rename_i h2
  have h3:(eP l ⟨t,wr⟩).line=[]:=by unfold eP;split<;>exact h2.1
  refine⟨⟨by rw[h3];simp,by rw[h3];simp,by rw[h3];simp⟩,λu hu hne=>?_,by rw[h3];simp⟩;obtain⟨h4,h5⟩:=uB (l:=l) (x:=⟨t,wr⟩) ht hu (Ne.symm hne);exact uC h4 h5
 ·have h4:dh l t=0:=sH h0
  refine⟨⟨λx hx=>?_,?_,λx hx=>?_⟩,λu _ _=>rfl,λx hx=>?_⟩
  ·rcases aD1.1 hx with hx|hx
   ·exact h.Fq x hx
   ·rw[aD8]at hx;subst hx;exact ht
  ·show((l.line++([⟨t,wr⟩]:List Wt)).map Wt.task).Nodup
   rw[aG4];refine aH5.2 ⟨h.nd,sI,λa ha b hb e=>?_⟩;simp at hb;subst hb;subst e;exact h1 (sH ha)
  ·rcases aD1.1 hx with hx|hx
   ·exact h.fr x hx
   ·rw[aD8]at hx;subst hx;exact(uA ht).1 h4
  ·rcases aD1.1 hx with hx|hx
   ·exact .inl hx
   ·rw[aD8]at hx;subst hx;exact .inr rfl
theorem IP:∀(L:List Wt)(r w:BitVec 32),q8 ⟨r,w,L⟩->q8 (nE L r w)/\(∀u,rr u->(∀x∈L,x.task≠u)->dh (nE L r w) u=dh ⟨r,w,L⟩ u)/\∀x∈(nE L r w).line,x∈L
 |[],r,w,h=>⟨h,λ_ _ _=>rfl,λ_ h=>h⟩
 |x::L,r,w,h=>by
  unfold nE
  split
  ·have hx:=h.Fq x sI
   have hd:x.task ∉ L.map Wt.task/\(L.map Wt.task).Nodup:=by have:=h.nd;simpa only[aH1,nodup_cons]using this
   have h2:q8 ⟨(eP ⟨r,w,[]⟩ x).r,(eP ⟨r,w,[]⟩ x).w,L⟩:=⟨λy hy=>h.Fq y (aH6 _ hy),hd.2,λy hy=>by
    have hne:x.task≠y.task:=λe=>hd.1 (by rw[e];exact List.mem_map_of_mem hy)
    obtain⟨h4,h5⟩:=uB (l:=⟨r,w,[]⟩) hx (h.Fq y (aH6 _ hy)) hne;have h6:=h.fr y (aH6 _ hy);exact⟨h4.trans h6.1,h5.trans h6.2⟩⟩
   obtain⟨k1,k2,k3⟩:=IP L _ _ h2;refine⟨k1,λu hu hne=>(k2 u hu λy hy=>hne y (aH6 _ hy)).trans ?_,λy hy=>aH6 _ (k3 y hy)⟩;obtain⟨h4,h5⟩:=uB (l:=⟨r,w,[]⟩) hx hu (hne x sI);exact uC h4 h5
  ·exact⟨h,λ_ _ _=>rfl,λ_ h=>h⟩
def IQ{b:BitVec 32}(ht:rr t)(hu:rr u)(h:t≠u):(b &&& ~~~b7 t) &&& b7 u=b &&& b7 u:=by
 apply BitVec.eq_of_getLsbD_eq;intro i hi;simp only[BitVec.getLsbD_and,BitVec.getLsbD_not,sP ht,sP hu];have:=ht.1;have:=hu.1
 by_cases e:i=u.toNat
 ·subst e
  have h2:¬u.toNat=t.toNat:=oM
  have h3:¬t.toNat=u.toNat:=oM
  have h4:u.toNat<32:=oH hu.2
  simp[h2,h3,h4]
 ·simp[e]
def IU{b c:BitVec 32}(d:BitVec 32)(h:b &&& c=0#32):(b &&& d) &&& c=0#32:=by
 rw[BitVec.and_assoc,BitVec.and_comm d c,<-BitVec.and_assoc,h,BitVec.zero_and]
def IV(b c:BitVec 32):(b &&& ~~~c) &&& c=0#32:=by
 apply BitVec.eq_of_getLsbD_eq;intro i hi;simp only[BitVec.getLsbD_and,BitVec.getLsbD_not,BitVec.getLsbD_zero];cases c.getLsbD i<;>simp
def yI(h:q8 l)(ht:rr t):q8 (mb l t).2/\(∀u,rr u->u≠t->(∀x∈l.line,x.task≠u)->dh (mb l t).2 u=dh l u)/\(∀x∈(mb l t).2.line,x∈l.line)/\((∀x∈l.line,x.task≠t)->dh (mb l t).2 t=0):=by
 unfold mb
 split
 ·rename_i h0
  exact⟨h,λ_ _ _ _=>rfl,λx hx=>hx,λ_=>h0⟩
 ·have h2:q8 ⟨l.r &&& ~~~b7 t,l.w &&& ~~~b7 t,l.line⟩:=⟨h.Fq,h.nd,λx hx=>by
   obtain⟨k1,k2⟩:=h.fr x hx;exact⟨IU _ k1,IU _ k2⟩⟩
  obtain⟨k1,k2,k3⟩:=IP _ _ _ h2;refine⟨k1,λu hu hne hl=>(k2 u hu hl).trans (uC (IQ ht hu (Ne.symm hne)) (IQ ht hu (Ne.symm hne))),k3,λhl=>(k2 t ht hl).trans ((uA ht).2 ⟨IV _ _,IV _ _⟩)⟩
structure jC(m:Mo):Prop where
 lk:q8 m.lk
 nd:m.asleep.Nodup
 Fq:∀t∈m.asleep,rr t
 off:∀t∈m.asleep,dh m.lk t=0/\∀x∈m.lk.line,x.task≠t
def jC.len(h:jC m):m.asleep.length<=32:=uD 32 _ h.nd h.Fq
def jC.ask(h:jC m)(ht:rr t)(hn:t ∉ m.asleep)(wr:Bool):jC ⟨(oK m.lk t wr).2,m.asleep⟩:=by
 obtain⟨h1,h2,h3⟩:=N5 h.lk ht wr;refine⟨h1,h.nd,h.Fq,λu hu=>⟨(h2 u (h.Fq u hu) (λe=>hn (e ▸ hu))).trans (h.off u hu).1,λx hx e=>?_⟩⟩;rcases h3 x hx with h4|h4
 ·exact(h.off u hu).2 x h4 e
 ·exact hn (by rw[<-h4,e];exact hu)
def jC.drop(h:jC m)(ht:rr t)(hn:t ∉ m.asleep):jC ⟨(mb m.lk t).2,m.asleep⟩:=by
 obtain⟨h1,h2,h3,-⟩:=yI h.lk ht;exact⟨h1,h.nd,h.Fq,λu hu=>⟨(h2 u (h.Fq u hu) (λe=>hn (e ▸ hu)) (h.off u hu).2).trans (h.off u hu).1,λx hx=>(h.off u hu).2 x (h3 x hx)⟩⟩
def jC.sleep(h:jC m)(ht:rr t)(hn:t ∉ m.asleep):jC (lK m t)/\∀u∈(lK m t).asleep,u∈m.asleep\/u=t:=by
 unfold lK
 split
 ·exact⟨h,λu hu=>.inl hu⟩
 ·rename_i h0
  have h0:dh m.lk t=2:=sH h0
  have h9:∀x∈m.lk.line,x.task≠t:=λx hx e=>by
   have:=(uA ht).2 (e ▸ h.lk.fr x hx);rw[h0]at this;exact absurd this dC
  have h8:=h.drop ht hn;obtain⟨-,-,h3,h4⟩:=yI h.lk ht;refine⟨⟨h8.lk,aH5.2 ⟨h.nd,sI,λa ha b hb e=>hn (by simp at hb;rw[<-hb,<-e];exact ha)⟩,λu hu=>?_,λu hu=>?_⟩,λu hu=>?_⟩
  ·rcases aD1.1 hu with hu|hu
   ·exact h.Fq u hu
   ·rw[aD8]at hu;subst hu;exact ht
  ·rcases aD1.1 hu with hu|hu
   ·exact h8.off u hu
   ·rw[aD8]at hu;subst hu;exact⟨h4 h9,λx hx=>h9 x (h3 x hx)⟩
  ·rcases aD1.1 hu with hu|hu
   ·exact .inl hu
   ·rw[aD8]at hu;exact .inr hu
def jC.VA(h:jC m):jC (iP m)/\(iP m).asleep ⊆ m.asleep:=by
 unfold iP
 split
 ·exact⟨h,λ_ h=>h⟩
 ·rename_i t rest e
  have hd:t ∉ rest/\rest.Nodup:=by have:=h.nd;rw[e]at this;exact List.nodup_cons.1 this
  have h1:jC ⟨m.lk,rest⟩:=⟨h.lk,hd.2,λu hu=>h.Fq u (e▸aH6 _ hu),λu hu=>h.off u (e▸aH6 _ hu)⟩;exact⟨h1.ask (h.Fq t (by rw[e];simp)) hd.1 true,λu hu=>e▸aH6 _ hu⟩
theorem jC.j4{m:Mo}(h:jC m):∀k,jC (j4 k m)/\(Go.Proofs.YtjgmjohiehbgaaaGreat.j4 k m).asleep ⊆ m.asleep
 |0=>⟨h,λ_ h=>h⟩
 |k+1=>by
  obtain⟨h1,h2⟩:=h.VA;obtain⟨h3,h4⟩:=jC.j4 h1 k;exact⟨h3,λu hu=>h2 (h4 hu)⟩
def jC.N7(h:jC m):jC (j5 m)/\(j5 m).asleep ⊆ m.asleep:=h.j4 _
def bj(S:aL)(k:Key):Prop:=k∈(S.str (S.home k)).keys
theorem QC: bj S k↔∃x,aJ (S.str (S.home k)).loads k=some x:=by
 unfold bj bF.keys
 constructor
 ·intro h
  cases h1:aJ (S.str (S.home k)).loads k with
  |none=>exact absurd h (jV.1 h1)
  |some x=>exact⟨x,rfl⟩
 ·rintro⟨x,hx⟩
  exact aF2.2 ⟨_,tW hx,rfl⟩
def uE{i:Nat}{y:bF}(h:(S.str i).keys ⊆ y.keys)(hp:bj S k):bj (S.et i y) k:=by
 have hh:(S.et i y).home k=S.home k:=by unfold aL.home aL.et;simp
 unfold bj at *;rw[hh,wM]
 split
 ·rename_i e;rw[<-e.1]at hp;exact h hp
 ·exact hp
def yJ(s:bF)(k:Key)(x:Ld):s.keys ⊆ (s.put k x).keys:=λy hy=>by
 have:(s.put k x).keys=cE s.keys k:=lY _ _ _;rw[this];exact(ee _ _ _).2 (.inl hy)
def N9(s:bF)(k:Key)(x:Ld):k∈(s.put k x).keys:=by
 have:(s.put k x).keys=cE s.keys k:=lY _ _ _;rw[this];exact(ee _ _ _).2 (.inr rfl)
theorem vy(s:bF)(k:Key)(t v:Int):s.keys ⊆ (s.eD k t v).2.keys/\((s.eD k t v).1=0->k∈(s.eD k t v).2.keys):=by
 unfold bF.eD
 split
 ·cases gH s k with
  |none=>exact⟨λ_ h=>h,λh=>absurd (show(6:Int)=0 from h) dC⟩
  |some x=>exact⟨yJ _ _ _,λ_=>N9 _ _ _⟩
 ·rename_i h0
  exact⟨λ_ h=>h,λh=>absurd h h0⟩
theorem IW(s:bF)(k:Key)(p:dI):s.keys ⊆ (s.set k p).2.keys/\((s.set k p).1=0->k∈(s.set k p).2.keys):=by
 unfold bF.set
 split
 ·cases gH s k with
  |none=>exact⟨λ_ h=>h,λh=>absurd (show(6:Int)=0 from h) dC⟩
  |some x=>exact⟨yJ _ _ _,λ_=>N9 _ _ _⟩
 ·rename_i h0
  exact⟨λ_ h=>h,λh=>absurd h h0⟩
def QD(s:bF)(k:Key)(a:aU):s.keys ⊆ (s.note k a).2.keys:=by
 unfold bF.note
 split
 ·exact yJ _ _ _
 ·exact λ_ h=>h
def QE(key:Key)(a:aU)(h:bj S k):bj (S.et (S.home key) ((S.str (S.home key)).note key a).2) k:=uE (QD _ _ _) h
def Oa{f:bF->bF}{i:Nat}(hi:i<S.strs.length):({S with strs:=S.strs.map f} : aL).str i=f (S.str i):=by
 unfold aL.str;simp[hi]
def Zv{m:Nat}(h:qj S n m)(c:ak)(hp:bj S k):bj (S.do c).2 k:=by
 unfold aL.do
 split
 ·exact hp
 split
 ·exact uE (vy _ _ _ _).1 hp
 split
 ·have hh:({S with strs:=S.strs.map λx=>x.trim c.t} : aL).home k=S.home k:=by unfold aL.home;simp
  unfold bj at *;rw[hh,Oa (dW S k (cy h)).2];unfold bF.trim;rw[(kg _ _ _).1];exact hp
 split
 ·unfold aL.snap;split<;>exact hp
 split
 ·unfold aL.free;split<;>exact hp
 split
 ·exact hp
 split
 ·exact uE (IW _ _ _).1 hp
 split
 ·exact hp
 ·unfold aL.shut;split<;>exact hp
def QF{m:Nat}(h:qj S n m)(c:ak)(hk:c.k=1\/c.k=6)(he:(S.do c).1.err=0):bj (S.do c).2 c.key:=by
 have QG:∀y:bF,(S.et (S.home c.key) y).home c.key=S.home c.key/\(S.et (S.home c.key) y).str (S.home c.key)=y:=λy=>by
  refine⟨by unfold aL.home aL.et;simp,?_⟩;rw[wM,if_pos ⟨rfl,(dW S c.key (cy h)).2⟩]
 unfold aL.do at he |-
 split at he
 ·rename_i h1;exact absurd he h1
 rename_i h1;rw[if_neg h1];rcases hk with hk|hk
 ·rw[if_pos hk]at he |-
  unfold aL.put at *;unfold bj;rw[(QG _).1,(QG _).2];exact(vy _ _ _ _).2 he
 ·rw[if_neg oM,if_neg oM,if_neg oM,if_neg oM,if_neg oM,if_pos hk]at he |-
  unfold aL.put at *;unfold bj;rw[(QG _).1,(QG _).2];exact(IW _ _ _).2 he
def Zw(S:aL)(c:ak):(S.do c).2.cfg=S.cfg/\(S.do c).2.strs.length=S.strs.length:=by
 unfold aL.do
 split
 ·exact⟨rfl,rfl⟩
 split
 ·unfold aL.put aL.et;simp
 split
 ·simp
 split
 ·unfold aL.snap;split<;>exact⟨rfl,rfl⟩
 split
 ·unfold aL.free;split<;>exact⟨rfl,rfl⟩
 split
 ·exact⟨rfl,rfl⟩
 split
 ·unfold aL.put aL.et;simp
 split
 ·exact⟨rfl,rfl⟩
 ·unfold aL.shut;split<;>exact⟨rfl,rfl⟩
section
structure JW(S:aL)(q:Wq)(u:Nat):Prop where
 fb:q.fi.f.length+q.fi.b.length<=u
 dl:q.ax.length<=u
 zl:q.busy.length<=u
 fd:∀k∈q.fi.all,k∈q.ax
 nd:q.fi.all.Nodup
 zf:∀k∈q.busy,k ∉ q.fi.all
 pr:∀k∈q.ax,k.good/\bj S k
def Zx(q:Fi):q.all.length=q.f.length+q.b.length:=by unfold Fi.all;simp
def JW.mono{u v:Nat}(h:JW S q u)(hv:u<=v):JW S q v:=⟨aB4 h.fb hv,aB4 h.dl hv,aB4 h.zl hv,h.fd,h.nd,h.zf,h.pr⟩
def JW.aG{S': aL}{u:Nat}(h:JW S q u)(hp:∀k,bj S k->bj S' k):JW S' q u:=⟨h.fb,h.dl,h.zl,h.fd,h.nd,h.zf,λk hk=>⟨(h.pr k hk).1,hp k (h.pr k hk).2⟩⟩
def JW.add{u:Nat}(h:JW S q u)(hk:k.good/\bj S k):JW S (Ax q k).2 (u+1):=by
 unfold Ax
 split
 ·exact h.mono (aC5 u)
 rename_i h1;have h2:k ∉ q.ax:=λe=>h1 (.inr e)
 have hd:∀x∈cE q.ax k,x.good/\bj S x:=λx hx=>by
  rcases(ee _ _ _).1 hx with hx|rfl
  ·exact h.pr x hx
  ·exact hk
 have hl:(cE q.ax k).length<=u+1:=aB4 (jG _ _) (Nat.succ_le_succ h.dl)
 split
 ·exact⟨aD3 h.fb,hl,aD3 h.zl,λx hx=>(ee _ _ _).2 (.inl (h.fd x hx)),h.nd,h.zf,hd⟩
 ·rename_i h3
  have hf:k ∉ q.fi.all:=λe=>h2 (h.fd k e)
  refine⟨by have:=h.fb;unfold Fi.put;simp;omega,hl,aD3 h.zl,λx hx=>?_,?_,λx hx hx2=>?_,hd⟩
  ·rw[Fi.pq,aD1,aD8]at hx
   rcases hx with hx|rfl
   ·exact(ee _ _ _).2 (.inl (h.fd x hx))
   ·exact(ee _ _ _).2 (.inr rfl)
  ·rw[Fi.pq]
   exact aH5.2 ⟨h.nd,sI,λa ha b hb e=>hf (by rw[aD8]at hb;rw[<-hb,<-e];exact ha)⟩
  ·rw[Fi.pq,aD1,aD8]at hx2
   rcases hx2 with hx2|rfl
   ·exact h.zf x hx hx2
   ·exact h3 hx
def JW.done{u:Nat}(h:JW S q u)(k:Key):JW S (oG q k).2 (u+1):=by
 unfold oG
 split
 ·rename_i h1
  have hz:(q.busy.filter λy=>decide (y≠k)).length<=u+1:=aB4 (aE7 _ _) (aD3 h.zl)
  split
  ·rename_i h2
   have hf:k ∉ q.fi.all:=h.zf k h1;refine⟨by have:=h.fb;unfold Fi.put;simp;omega,aD3 h.dl,hz,λx hx=>?_,?_,λx hx hx2=>?_,h.pr⟩
   ·rw[Fi.pq,aD1,aD8]at hx
    rcases hx with hx|rfl
    ·exact h.fd x hx
    ·exact h2
   ·rw[Fi.pq]
    exact aH5.2 ⟨h.nd,sI,λa ha b hb e=>hf (by rw[aD8]at hb;rw[<-hb,<-e];exact ha)⟩
   ·rw[Fi.pq,aD1,aD8]at hx2
    rw[aD5]at hx;rcases hx2 with hx2|rfl
    ·exact h.zf x hx.1 hx2
    ·simp at hx
  ·exact⟨aD3 h.fb,aD3 h.dl,hz,h.fd,h.nd,λx hx=>h.zf x (aD5.1 hx).1,h.pr⟩
 ·exact h.mono (aC5 u)
def JW.take{u:Nat}(h:JW S q u):JW S (gG q).2 (u+1)/\((gG q).1.2=true->(gG q).1.1.good/\bj S (gG q).1.1):=by
 unfold gG;rcases q.fi.wG with⟨h0,h1⟩|⟨x,L,h2,h3,h4⟩
 ·rw[h1]
  rw[if_neg (show ¬false=true by decide)];exact⟨h.mono (aC5 u),λe=>absurd (show false=true from e) dC⟩
 ·rw[h4]
  rw[if_pos rfl];have hn:=h.nd;rw[h3,nodup_cons]at hn;have ha:(⟨L,q.fi.turn.b⟩:Fi).all=L.reverse++q.fi.turn.b:=rfl;have hx:x∈q.ax:=h.fd x (by rw[h3];simp);have hl:=Zx q.fi;rw[h3]at hl;have QH:∀y∈L.reverse++q.fi.turn.b,y∈q.fi.all:=λy hy=>by rw[h3];exact aH6 _ hy
  refine⟨⟨?_,aB4 (aE7 _ _) (aD3 h.dl),aB4 (jG _ _) (Nat.succ_le_succ h.zl),λy hy=>?_,?_,λy hy hy2=>?_,λy hy=>h.pr y (aD5.1 hy).1⟩,λ_=>h.pr x hx⟩
  ·have:=h.fb
   simp at hl
   show L.length+q.fi.turn.b.length<=u+1
   omega
  ·rw[ha]at hy
   exact aD5.2 ⟨h.fd y (QH y hy),by simp;rintro rfl;exact hn.1 hy⟩
  ·rw[ha];exact hn.2
  ·rw[ha]at hy2
   rcases(ee _ _ _).1 hy with hy|rfl
   ·exact h.zf y hy (QH y hy2)
   ·exact hn.1 hy2
def LQ(c:ak):c.key.good:=⟨by have:=jY c.s;show aO c.s<_;omega,by have:=jZ c.s;show aP c.s<_;omega⟩
structure jD(cf:aM)(W:Gw)(e u d:Nat):Prop where
 cfg:W.aG.cfg=cf
 loc:W.ay.length=(cf.str+1).toNat
 Ob:∀l∈W.ay,q8 l
 mo:jC W.mo
 evs:W.evs.length<=e
 wq:JW W.aG W.wq u
 wO:∃n k,qj W.aG n k/\k<=d/\n<=u+60*d
section
variable{cf:aM}{W:Gw}{e u d:Nat}
def jD.mono(h:jD cf W e u d){e' u' d' : Nat}(h1:e<=e')(h2:u<=u')(h3:d<=d'):jD cf W e' u' d':=
 ⟨h.cfg,h.loc,h.Ob,h.mo,aB4 h.evs h1,h.wq.mono h2,by obtain⟨n,k,k1,k2,k3⟩:=h.wO;exact⟨n,k,k1,oM,oM⟩⟩
def jD.note(h:jD cf W e u d)(x:Ev):jD cf (W.note x) (e+1) u d:=⟨h.cfg,h.loc,h.Ob,h.mo,by have:=h.evs;unfold Gw.note;simp;exact this,h.wq,h.wO⟩
def yK{n:Int}(hl:W.lock n=some l):(n=W.ay.length/\l=W.mo.lk)\/(n≠W.ay.length/\l∈W.ay):=by
 unfold Gw.lock at hl
 split at hl
 ·cases hl
 split at hl
 ·rename_i h1;injection hl with hl;exact .inl ⟨h1,hl.symm⟩
 ·rename_i h1;exact .inr ⟨h1,aC1 hl⟩
def jD.LR(h:jD cf W e u d){n:Int}(hl:W.lock n=some l):q8 l:=by
 rcases yK hl with⟨-,rfl⟩|⟨-,hm⟩
 ·exact h.mo.lk
 ·exact h.Ob l hm
def jD.ed(h:jD cf W e u d){n:Int}(hl:n≠W.ay.length->q8 l)(hm:n=W.ay.length->jC ⟨l,W.mo.asleep⟩):jD cf (W.ed n l) e u d/\(W.ed n l).mo.asleep=W.mo.asleep/\(W.ed n l).aG=W.aG/\(W.ed n l).wq=W.wq:=by
 unfold Gw.ed
 split
 ·rename_i h1
  exact⟨⟨h.cfg,h.loc,h.Ob,hm h1,h.evs,h.wq,h.wO⟩,rfl,rfl,rfl⟩
 ·rename_i h1
  refine⟨⟨h.cfg,by simp;exact h.loc,λx hx=>?_,h.mo,h.evs,h.wq,h.wO⟩,rfl,rfl,rfl⟩;rcases aI1 hx with hx|rfl
  ·exact h.Ob x hx
  ·exact hl h1
theorem jD.ask(h:jD cf W e u d)(n:Int)(ht:rr t)(hn:t ∉ W.mo.asleep)(wr:Bool):jD cf (W.ask n t wr).2 e u d/\(W.ask n t wr).2.mo.asleep=W.mo.asleep/\(W.ask n t wr).2.aG=W.aG/\(W.ask n t wr).2.wq=W.wq:=by
 unfold Gw.ask;cases hl:W.lock n with
 |none=>exact⟨h,rfl,rfl,rfl⟩
 |some l=>
  refine h.ed (λ_=>(N5 (h.LR hl) ht wr).1) (λe=>?_);rcases yK hl with⟨-,rfl⟩|⟨h1,-⟩
  ·exact h.mo.ask ht hn wr
  ·exact absurd e h1
theorem jD.drop(h:jD cf W e u d)(n:Int)(ht:rr t)(hn:t ∉ W.mo.asleep):jD cf (W.drop n t) e u d/\(W.drop n t).mo.asleep=W.mo.asleep/\(W.drop n t).aG=W.aG/\(W.drop n t).wq=W.wq:=by
 unfold Gw.drop;cases hl:W.lock n with
 |none=>exact⟨h,rfl,rfl,rfl⟩
 |some l=>
  refine h.ed (λ_=>(yI (h.LR hl) ht).1) (λe=>?_);rcases yK hl with⟨-,rfl⟩|⟨h1,-⟩
  ·exact h.mo.drop ht hn
  ·exact absurd e h1
def jD.add(h:jD cf W e u d)(hk:k.good/\bj W.aG k):jD cf (W.add k) e (u+1) d/\(W.add k).mo.asleep ⊆ W.mo.asleep/\(W.add k).aG=W.aG:=by
 have h':=h.mono (aC2 e) (aC5 u) (aC2 d);unfold Gw.add
 split
 ·exact⟨⟨h.cfg,h.loc,h.Ob,h.mo.VA.1,h.evs,h.wq.add hk,h'.wO⟩,h.mo.VA.2,rfl⟩
 ·exact⟨⟨h.cfg,h.loc,h.Ob,h.mo,h.evs,h.wq.add hk,h'.wO⟩,λ_ h=>h,rfl⟩
def jD.give(h:jD cf W e u d)(k:Key):jD cf (W.give k) e (u+1) d/\(W.give k).mo.asleep ⊆ W.mo.asleep/\(W.give k).aG=W.aG:=by
 have h':=h.mono (aC2 e) (aC5 u) (aC2 d);unfold Gw.give
 split
 ·exact⟨⟨h.cfg,h.loc,h.Ob,h.mo.VA.1,h.evs,h.wq.done k,h'.wO⟩,h.mo.VA.2,rfl⟩
 ·exact⟨⟨h.cfg,h.loc,h.Ob,h.mo,h.evs,h.wq.done k,h'.wO⟩,λ_ h=>h,rfl⟩
def jD.do_(h:jD cf W e u d){c:ak}(hc:bM c)(hd:d<=58):jD cf (W.do c).2 e u (d+1)/\(W.do c).2.mo.asleep ⊆ W.mo.asleep/\(∀k,bj W.aG k->bj (W.do c).2.aG k)/\((c.k=1\/c.k=6)->(W.do c).1.err=0->bj (W.do c).2.aG c.key):=by
 obtain⟨n,k,k1,k2,k3⟩:=h.wO;unfold Gw.do
 split
 ·rename_i h8
  unfold Gw.shut;have hn:¬(c.k=1\/c.k=6):=oM
  split
  ·exact⟨h.mono lR lR (aC5 d),λ_ h=>h,λ_ h=>h,λh _=>absurd h hn⟩
  ·have hw:=h.wq
   exact⟨⟨h.cfg,h.loc,h.Ob,h.mo.N7.1,h.evs,⟨hw.fb,hw.dl,hw.zl,hw.fd,hw.nd,hw.zf,hw.pr⟩,⟨n,k,⟨k1.fit,k1.py,k1.len,k1.str,k1.nT,k1.cuts,k1.DO,k1.YX,k1.YY⟩,oM,oM⟩⟩,h.mo.N7.2,λ_ h=>h,λh _=>absurd h hn⟩
 ·have hp:∀k,bj W.aG k->bj (W.aG.do c).2 k:=λk=>Zv k1 c
  exact⟨⟨(Zw _ _).1.trans h.cfg,h.loc,h.Ob,h.mo,h.evs,h.wq.aG hp,⟨_,_,k1.do hc,oM,oM⟩⟩,λ_ h=>h,hp,λh1 h2=>QF k1 c h1 h2⟩
def jD.Zz(h:jD cf W e u d)(key:Key)(a:aU):jD cf {W with aG:=W.aG.et (W.aG.home key) ((W.aG.str (W.aG.home key)).note key a).2} e (u+1) d/\(∀k,bj W.aG k->bj (W.aG.et (W.aG.home key) ((W.aG.str (W.aG.home key)).note key a).2) k):=by
 obtain⟨n,k,k1,k2,k3⟩:=h.wO;have hp:∀k,bj W.aG k->bj (W.aG.et (W.aG.home key) ((W.aG.str (W.aG.home key)).note key a).2) k:=λk=>QE key a
 exact⟨⟨h.cfg,h.loc,h.Ob,h.mo,h.evs,(h.wq.aG hp).mono (aC5 u),⟨_,_,k1.note key a,k2,oM⟩⟩,hp⟩
def jD.take(h:jD cf W e u d):jD cf {W with wq:=(gG W.wq).2} e (u+1) d:=
 ⟨h.cfg,h.loc,h.Ob,h.mo,h.evs,h.wq.take.1,(h.mono (aC2 e) (aC5 u) (aC2 d)).wO⟩
def jD.sleep(h:jD cf W e u d)(ht:rr t)(hn:t ∉ W.mo.asleep):jD cf {W with mo:=lK W.mo t} e u d/\∀x∈(lK W.mo t).asleep,x∈W.mo.asleep\/x=t:=
 ⟨⟨h.cfg,h.loc,h.Ob,(h.mo.sleep ht hn).1,h.evs,h.wq,h.wO⟩,(h.mo.sleep ht hn).2⟩
end
end
section
def Jk{w w' : World}{b o B:Nat}{l:List Value}(h:w.rangeAt b o l)(hb:b<B)(hw:Below B w w'):w'.rangeAt b o l:=λj v hv=>(hw.cell (p:=⟨b,o+j,none⟩) hb).trans (h j v hv)
structure dg(w:World)(S:Nat->Prop)(g mp:Nat)(A:Option Addr)(n cc:Nat)(l:List fF)(m:Fm):Prop where
 b:QZ w S g mp m.cfg (.slice A n cc) m.ep m.over m.ks m.M
 cuts:fl w S A n cc l m.cuts
 n:n<=90000
structure Q8(m:Fm):Prop where
 py:m.cfg.gV
 ld:∀s x,m.M s=some x->x.dE.length<=256/\(∀y∈x.dE,y.good)/\x.past.length<=1000
 cut:∀k,some k∈m.cuts->∀s x,k.M s=some x->x.dE.length<=256/\(∀y∈x.dE,y.good)/\x.past.length<=1000
 ks:m.ks.length<=90000
 ep:0<=m.ep/\m.ep<=90000
section
variable{w w' : World}{S:Nat->Prop}{g mp:Nat}{A:Option Addr}{n cc:Nat}{l:List fF}{m:Fm}
def dg.call(h:dg w S g mp A n cc l m)(hb:Bl w w'):dg w' S g mp A n cc l m:=⟨h.b.call hb,h.cuts.call hb,h.n⟩
def dg.ext(h:dg w S g mp A n cc l m){T:Nat->Prop}(hT:∀k,T k->S k\/w.heap.size<=k)(hg:T g)(hm:T mp):dg w T g mp A n cc l m:=by
 obtain⟨f,hf⟩:=h.b.map;exact⟨⟨h.b.blk,⟨f,hf.ext hT⟩,hg,hm,h.b.ne,h.b.len,h.b.i64⟩,h.cuts.ext hT,h.n⟩
def dg.upd{T:Nat->Prop}(h:dg w S g mp A n cc l m)(hu:ah T w w')(hT:∀k,T k->S k)(hg:¬T g)(hm:¬T mp):dg w' S g mp A n cc l m:=by
 obtain⟨f,hf⟩:=h.b.map;exact⟨⟨h.b.blk.upd hu hg,⟨f,hf.upd hu hT hm⟩,h.b.sg,h.b.sm,h.b.ne,h.b.len,h.b.i64⟩,h.cuts.upd (hu.mono hT),h.n⟩
theorem Bu(cq:ak)(h:dg w S g mp A n cc l m)(hh:aw cq.h)(he:m.dH cq.h≠0) :
 Calls prog 63 #[pt g,.agg cq.row] w (Rt (.agg (cK (m.dH cq.h)).row) (Bl w)):=by
 have BY:=ai.dR w (.cells cq.row eZ) dv zR;have EX:=(zW w (.cells cq.row eZ)).alloc sI (.cells zR dv);have HF:=zh (λW (hb:Bl w W)=>by
  have h9:=pO cq.h (h.call hb).b.blk (h.call hb).cuts.Fv (aB4 h.n dC) hh;rw[sW (h.call hb).cuts]at h9;exact h9)
 have:(m.dH cq.h != 0)=true:=sH he
 generalize m.dH cq.h=PE at *;clear h he;go_enter func63,ntmps63;go_wp2_with(first
  |go_at_call 132;refine zN (HF _ EX) ?_
  |(refine zJ BY ?_;intro w9 X9 G9))
 refine zU X9 underlying70 ⟨rfl,EX.grown G9 EX.size (λk e=>by injection e;omega)⟩
theorem Wf(h:dg w S g mp A n cc l m){k:Int}(he:m.dH k=0):∃(i:Nat)(b off:Nat)(x:fF)(y:pV)(mq:Nat)(f:ByteArray->Option Value)(ks:List ByteArray),k=(i:Int)+1/\i<n/\A=some ⟨b,off,none⟩/\b<w.heap.size/\x=⟨y.ep,some mq,false⟩/\l[i]? = some x/\m.cut k=y/\some y∈m.cuts/\fO w S mq f ks y.M/\¬S mq/\w.rangeAt b (off+i*3) x.cells:=by
 unfold Fm.dH at he
 split at he
 ·exact absurd he dC
 rename_i h1;have:=h.cuts.len;have:l.length=n:=h.cuts.Fv.1;obtain⟨i,hi⟩:∃i:Nat,k=(i:Int)+1:=⟨(k-1).toNat,oM⟩
 subst hi;have hin:i<n:=oM
 have hj:i<m.cuts.length:=oM
 rw[show((i:Int)+1-1).toNat=i by omega,aB7,aB3 hj]at he;simp only[aF6]at he;obtain⟨b,off,x,hA,hx,fH,hcl⟩:=ag.at_ (k:=i) h.cuts.Fv hin;have h2:=h.cuts.at_ _ _ _ hx (aB3 hj);cases hy:m.cuts[i]with
 |none=>rw[hy]at he;exact absurd he dC
 |some y=>
  rw[hy]at h2;obtain⟨h3,h4,mq,f,ks,h5,h6,h7⟩:=h2;obtain⟨xe,xm,xf⟩:=x;simp only at h3 h4 h5;subst h3;subst h4;subst h5;refine⟨i,b,off,_,y,mq,f,ks,rfl,hin,hA,fH,rfl,hx,?_,hy▸List.getElem_mem hj,h7,h6,λj v hv=>by have h9:=hcl j v hv;rw[<-aD9]at h9;exact h9⟩;unfold Fm.cut;rw[show((i:Int)+1-1).toNat=i by omega,aB7,aB3 hj,hy]
  rfl
theorem EC(cq:ak)(h:dg w S g mp A n cc l m)(hm:Q8 m)(hc:bM cq)(he:m.dH cq.h=0) :
 Calls prog 63 #[pt g,.agg cq.row] w (Rt (.agg (m.look cq.s cq.h cq.t cq.v).row) (Bl w)):=by
 have BX:=zD ((ai.new w eZ cq.row).alloc (.cells zR dv));have BY:=zD (ai.dR w (.cells cq.row eZ) dv zR);have EX:=zD ((zW w (.cells cq.row eZ)).alloc sI (.cells zR dv));have HF:=zD (λW (hb:Bl w W)=>by
  have h9:=pO cq.h (h.call hb).b.blk (h.call hb).cuts.Fv (aB4 h.n dC) hc.h;rw[sW (h.call hb).cuts,he]at h9;exact h9)
 have HQ:m.look cq.s cq.h cq.t cq.v=match (m.cut cq.h).M cq.s with|none=>cK 5|some x=>{eo with bV:=(m.cut cq.h).ep,stat:=iR (iQ x.dE (iT cq.t cq.v) cq.t)}:=by
  unfold Fm.look;rw[if_neg (λe=>e he)];cases(m.cut cq.h).M cq.s<;>rfl
 obtain⟨i,b,off,x,y,mq,f,ks,Fb,hin,rfl,fH,rfl,hx,hy,kv,hfm,-,hrg⟩:=Wf h he;rw[hy]at HQ;have Fh:=zD HQ;obtain⟨B,bn,bc,D,dn,dc,hlk,hsm,qx,-,-,hi⟩:=hfm.look cq.s;have qf:=zD hlk;have HI:=zD hi;have vY:=zD hsm;have HMq:=zD hfm.map;have mC:=zD hrg;have HB:=zD fH;have H0:=zD h;have kh:∀z,y.M cq.s=some z->z.dE.length<=256/\∀u∈z.dE,u.good:=λz hz=>⟨(hm.cut y kv cq.s z hz).1,(hm.cut y kv cq.s z hz).2.1⟩
 have HC:=zD hc;have HK:=zD Fb;clear h hm hc he hlk hi hsm qx hfm hrg fH hx kv hy HQ Fb;go_enter func63,ntmps63;go_upto_region 4 with(go_at_call 132;refine zN (HF.out _ EX.out) ?_)
 generalize(w.alloc (.cells cq.row eZ)).alloc (.cells zR dv)=W1 at *;have as4:=zD (show W1.rangeAt b (off+i*3) (fF.cells ⟨y.ep,some mq,false⟩)from Jk mC.out HB.out EX.out);have Xf:=zD (show b<W1.heap.size from aB9 HB.out EX.out.size);have e1:cq.h-1=(i:Int):=oH HK.out
 have e2:(i:Int)<(n:Int):=oM
 have ew:IntKind.i64.wrap (i:Int)=(i:Int):=IntWalk.i64_in _ (oH H0.out.n);refine zB λS0=>?_
 refine zk 6 [0,1,2,3,4] [_,_,_,.slice (some ⟨b,off,none⟩) n cc,_] (.q zX<|.q zX<|.q zX<|.q (zS λ_ h=>((H0.out.call EX.out).b.blk.call h).z 5 (.slice (some ⟨b,off,none⟩) n cc))<|.e) S0 ?_;refine zk 2 [5,6,7,8] [I6 cq.h,I6 (i:Int),.pointer (some ⟨b,off+i*3,none⟩),.agg (fF.row ⟨y.ep,some mq,false⟩)] (.q (zS λ_ hW1=>(BX.out.call hW1).z 4 (I6 cq.h))<|.q zX<|.q zX<|.c rfl rfl (zl λ_ h=>by exact aF (ty:=Q0) (x:=.tmp 24) rfl rfl (run_loadAt_mid _ _ _ _ _ _ (Jk as4.out Xf.out h) underlying138 rfl kZ)) .nil) S0 ?_;refine zQ 9 ?_;obtain⟨G,hG,bG,lG⟩:=dp (S:=S0) (#[I6 0,.map none,.bool false]) 138;go_wp2_with fail;refine .i (S0.alloc S0.size _) ?_
 (try simp only[hG])
 clear hG;have SG:=S0.alloc S0.size (.cells (#[I6 0,.map none,.bool false]) 138);refine zQ 10 ?_;go_wp2_with(refine zJ (bG) ?_;intro uG p9 jH);refine .i (SG.trans (Only.below jH lG SG.size)) ?_;have jf:=SG.trans (Only.below jH lG SG.size);refine zd ?_;have B3:=zD (zT EX.out jf);have Y3:=zD (BY.out.call jf);have X3:=zD (BX.out.call jf);have G3:=zD p9;have ak4:=zD (HMq.out.call B3.out);clear jf SG S0 p9 jH bG lG e1 e2 ew as4 Xf BX BY EX HF mC HB HMq;generalize uG=W3 at *;have g1:=G3.out.z 1 (.map (some mq));have x1:=X3.out.z 1 (.string cq.s);have HS:=HC.out.s;cases hM:y.M cq.s with
 |none=>
  rw[hM]at Fh qf HI;simp only at Fh;go_upto_region 6 with(refine bQ fI _ rfl _ _ mj rfl jq bZ _ (fh _) mq f ks rfl ak4.out cq.s rfl HS ?_;rw[qf.out,HI.out])
  clear g1 x1;have Y4:=zD (Y3.out.alloc (.cells (bl B bn bc D dn dc eF.cM eF.nM) jq));have B4:=zD (B3.out.alloc B3.out.size (.cells (bl B bn bc D dn dc eF.cM eF.nM) jq));go_wp2_with(refine zJ Y4.out ?_;intro w9 b8 dM;have X9:=zD b8;have G9:=zD dM;clear b8 dM);exact zU X9.out underlying70 ⟨by rw[Fh.out];rfl,B4.out.grown G9.out B4.out.size (λk e=>by injection e;omega)⟩
 |some x=>
  rw[hM]at Fh qf HI vY;simp only[aF6]at Fh vY qf;have HX:=zD (kh x hM);go_upto_region 6 with(refine bQ fI _ rfl _ _ mj rfl jq bZ _ (fh _) mq f ks rfl ak4.out cq.s rfl HS ?_;rw[qf.out,HI.out])
  clear g1 x1;obtain⟨GL,hGL⟩:=zE W3.heap.size;obtain⟨W4,JX⟩:=zE (W3.alloc (.cells (bl B bn bc D dn dc x.cM x.nM) jq));have L4:=zD (show ai W4 GL jq (bl B bn bc D dn dc x.cM x.nM)from by rw[JX,hGL];exact ai.new _ _ _);have Y4:=zD (show ai W4 (w.heap.size+1) dv zR from by rw[JX];exact Y3.out.alloc _);have X4:=zD (show ai W4 w.heap.size eZ cq.row from by rw[JX];exact X3.out.alloc _);have G4:=zD (show ai W4 G Q0 (fF.row ⟨y.ep,some mq,false⟩)from by rw[JX];exact G3.out.alloc _);have B4:=zD (show Bl w W4 from by rw[JX];exact B3.out.alloc B3.out.size _);have Zc:=zD (λW (hb:Bl w W)=>ub B bn bc x.dE cq.t cq.v W (af vY.out hb) HX.out.2 (oI vY.out.1 HX.out.1) HC.out.t HC.out.v);rw[<-JX,<-hGL];clear hGL JX Y3 X3 G3 B3 ak4 qf HI kh hM;generalize iR (iQ x.dE (iT cq.t cq.v) cq.t)=ST at *;go_upto_region 8 with fail
  refine zr (λj=>[10].contains j) (λwS=>Bl W4 wS) ?_;have S0:=(Below.refl W4.heap.size W4).drew;refine zk 6 [0,1,2,3,4] [_,I6 y.ep,_,.slice B bn bc,_] (.q zX<|.q (zS λ_ h=>(G4.out.call h).z 0 (I6 y.ep))<|.q zX<|.q (zS λ_ h=>(L4.out.call h).z 0 (.slice B bn bc))<|.e) S0 ?_;refine zk 3 [5,6,7] [I6 cq.t,_,I6 cq.v] (.q (zS λ_ h=>(X4.out.call h).z 2 (I6 cq.t))<|.q zX<|.q (zS λ_ h=>(X4.out.call h).z 3 (I6 cq.v)) .nil) S0 ?_;refine zQ 8 ?_;go_wp2_with(go_at_call 133;refine zM (Zc.out _ (B4.out.trans ((S0).mono B4.out.size))) λv5 dx=>?_;have Y5:=zD (Y4.out.call ((S0).trans (dx.mono (S0).size))));refine .i (zT S0 dx) ?_;have S5:=zT S0 dx;refine zq 1 [9] [_] S5 ?_;refine aq _ _ _ _ kZ ?_;refine zO 10 (λQ2 aI=>?_);go_wp2_with(refine zJ Y5.out ?_;intro w9 b8 dM;have X9:=zD b8;have G9:=zD dM;clear b8 dM);(try refine aI _ _ ?_);(try clear aI Q2)
  refine wpAny_done kZ ?_ _;have B5:=zT B4.out S5;go_wp2;exact zU X9.out underlying70 ⟨by rw[Fh.out];rfl,B5.grown G9.out B5.size (λk e=>by injection e;omega)⟩
def Q9(cq:ak)(h:dg w S g mp A n cc l m)(hm:Q8 m)(hc:bM cq) :
 Calls prog 63 #[pt g,.agg cq.row] w (Rt (.agg (m.look cq.s cq.h cq.t cq.v).row) (Bl w)):=by
 by_cases he:m.dH cq.h=0
 ·exact EC cq h hm hc he
 ·unfold Fm.look;rw[if_pos he];exact Bu cq h hc.h he
end
end
section
def Oq:(prog.info? Q0).map (λi=>(i.zero,i.size,i.bytes))=some (some (.agg #[I6 0,.map none,.bool false]),3,24):=kZ
def Wh:∀x:fF,∀u∈x.cells,u.oneCell' = true:=by
 intro x u hu;simp only[fF.cells,aE6,aU0,or_false]at hu;rcases hu with rfl|rfl|rfl<;>rfl
def uN:∀x:fF,x.cells.length=3:=λ_=>rfl
def ak5(w:World)(l:List fF)(e:Ending)(w' : World):Prop:=∃A n c,e=.returned (.slice A n c)/\Own w' w.heap.size Q0 3 fF.cells (.slice A n c) l/\Bl w w'
theorem Bv(A:Option Addr)(n c:Nat)(l:List fF)(w:World)(hs:ag w 3 fF.cells A n c l)(hn:n<=100000) :
 Calls prog 57 #[.slice A n c] w (ak5 w l):=by
 cases A with
 |none=>
  obtain⟨rfl,rfl⟩:=hs.2.2.2.1 rfl;have hl:l=[]:=aC0 hs.1;subst hl;have:=λ(W:World)=>Lib.run_eql_slice_nil (P:=prog) W ZP Q0 none 0 0 0 0 underlying100
  go_enter func57,ntmps57;go_wp2;go_ret;exact⟨none,0,0,rfl,Own.nil _ _ _ _ _,Below.refl _ _⟩
 |some a=>
  have:=λ(W:World)=>Lib.run_eql_slice_nil (P:=prog) W ZP Q0 (some a) n c 0 0 underlying100
  have HS:=af hs (show Bl w (w.alloc (.cells #[] Q0)) by go_grown);have HO:Own (w.alloc (.cells #[] Q0)) w.heap.size Q0 3 fF.cells (.slice (some ⟨w.heap.size,0,none⟩) 0 0) []:=World.ownsRow_made w #[] 0 lR (aB6 _) rfl;clear hs;go_enter func57,ntmps57;go_wp2_with(at_builtin;refine fP _ rfl (.tmp 5) (.tmp 6) ZP rfl w.heap.size Q0 _ 3 24 fF.cells underlying100 Oq rF dC (λ_=>rfl) Wh (.slice (some ⟨w.heap.size,0,none⟩) 0 0) [] rfl HO (some a) n c l rfl HS sM dC sI ?_;intro v' w1 ho aT hgr;have HV:=ho;have HB:=Below.trans (show Bl w (w.alloc (.cells #[] Q0)) by go_grown) aT;clear ho aT hgr);go_ret;obtain⟨A',n',c',rfl,-,-⟩:=HV.shape uN;exact⟨A',n',c',rfl,HV,HB⟩
def fl.set{w w' : World}{S:Nat->Prop}{A A2:Option Addr}{n c n2 c2:Nat}{l:List fF}{cuts:List (Option pV)}(h:fl w S A n c l cuts)(hu:ah S w w')(i:Nat)(y:fF)(hy:y.fr=true)(hs:ag w' 3 fF.cells A2 n2 c2 (l.set i y))(ho:∀a,A2=some a->0<n2->¬S a.block):fl w' S A2 n2 c2 (l.set i y) (cuts.set i none):=by
 refine⟨hs,ho,by simp;exact h.len,λj x k h1 h2=>?_⟩;rw[aG1]at h1 h2
 split at h1
 ·rename_i e
  rw[if_pos e]at h2
  split at h1
  ·injection h1 with h1;subst h1
   split at h2
   ·injection h2 with h2;subst h2;exact hy
   ·cases h2
  ·cases h1
 ·rename_i e
  rw[if_neg e]at h2;exact(h.at_ j x k h1 h2).upd hu
section
variable{w w' : World}{S:Nat->Prop}{g mp:Nat}{A:Option Addr}{n cc:Nat}{l:List fF}{m:Fm}
theorem Bw(k:Int)(h:dg w S g mp A n cc l m)(hk:aw k)(he:m.dH k≠0) :
 Calls prog 62 #[pt g,I6 k] w (Rt (.agg (cK (m.dH k)).row) (Bl w)):=by
 have BY:=ai.new w dv zR;have EX:=zW w (.cells zR dv);have HF:=zh (λW (hb:Bl w W)=>by
  have h9:=pO k (h.call hb).b.blk (h.call hb).cuts.Fv (aB4 h.n dC) hk;rw[sW (h.call hb).cuts]at h9;exact h9)
 have:(m.dH k==0)=false:=sH he
 generalize m.dH k=PE at *;clear h he;go_enter func62,ntmps62;go_wp2_with(first
  |go_at_call 132;refine zN (HF _ EX) ?_
  |(refine zJ BY ?_;intro w9 X9 G9))
 refine zU X9 underlying70 ⟨rfl,EX.grown G9 EX.size (λk e=>by injection e;omega)⟩
def Wi(S:Nat->Prop)(g mp:Nat)(m' : Fm)(w w' : World):Prop:=∃A n cc l,dg w' S g mp A n cc l m'/\ah (λk=>k=g) w w'
theorem ED(k:Int)(h:dg w S g mp A n cc l m)(ey:∀k,S k->k<w.heap.size)(hk:aw k)(he:m.dH k=0) :
 Calls prog 62 #[pt g,I6 k] w λe w'=>e=.returned (.agg eo.row)/\Wi S g mp (m.free k).2 w w':=by
 have HQ:=zD (show(m.free k).2 = {m with cuts:=m.cuts.set (k-1).toNat none} from by unfold Fm.free;rw[if_pos he]);have BY:=zD (ai.new w dv zR);have EX:=zD (zW w (.cells zR dv));have HF:=zD (λW (hb:Bl w W)=>by
  have h9:=pO k (h.call hb).b.blk (h.call hb).cuts.Fv (aB4 h.n dC) hk;rw[sW (h.call hb).cuts,he]at h9;exact h9)
 have Ls:=zD (λW (hb:Bl w W)=>Bv A n cc l W (h.call hb).cuts.Fv (aB4 h.n dC));obtain⟨i,b,off,x,y,mq,f,ks,Fb,hin,-,-,-,hx,-⟩:=Wf h he;have H0:=zD h;have nR:=zD ey;have HK:=zD Fb;have HIn:=zD hin;have Nv:=zD (show l.length=n from h.cuts.Fv.1);clear h ey hk he Fb hx;go_enter func62,ntmps62;go_upto_region 3 with(go_at_call 132;refine zN (HF.out _ EX.out) ?_)
 generalize w.alloc (.cells zR dv)=W1 at *;have Z1:=H0.out.call EX.out;have c5:=Z1.b.blk.z 5 (.slice A n cc);clear Z1;go_upto_region 4 with(go_at_call 57;refine(Ls.out _ EX.out).mono ?_;rintro e w2 ⟨A2,n2,c2,rfl,mv,hb2⟩;have O2:=zD mv;have B2:=zD (zT EX.out hb2);have Y2:=zD (BY.out.call hb2);have Z2:=zD (H0.out.call B2.out);have c5:=Z2.out.b.blk.z 5 (.slice A n cc);have f5:=Z2.out.b.blk.frozen 5;clear hb2)
 obtain⟨gb,rfl,hgb⟩:∃gb,A2=some ⟨gb,0,none⟩/\W1.heap.size<=gb:=by
  rcases O2.out.2 with⟨e,h0⟩|⟨gb,cap,cur,e,h9,-⟩
  ·have:=Nv.out;have:=HIn.out;omega
  ·injection e with e1 e2 e3
   exact⟨gb,e1,h9⟩
 have fo:n2=n:=by obtain⟨A',n',c',e,h9,-⟩:=O2.out.shape uN;injection e with e1 e2 e3;rw[e2,h9,Nv.out]
 subst fo;have hgw:g<w.heap.size:=nR.out g H0.out.b.sg;have hw1:w.heap.size<W1.heap.size:=BY.out.lt;obtain⟨W3,hW3⟩:=zE (w2.setCell ⟨g,5,none⟩ (.slice (some ⟨gb,0,none⟩) n2 c2));rw[<-hW3];have U3:ah (λk=>k=g) w2 W3:=by rw[hW3];exact(ah.refl (λk=>k=g) w2).setCell (p:=⟨g,5,none⟩) (.inl rfl) _
 have G3:=zD (show ai W3 g Bi (fN m.cfg mp (.slice (some ⟨gb,0,none⟩) n2 c2) m.ep m.over)from by rw[hW3];exact Z2.out.b.blk.aX 5 _);have Y3:=zD (Y2.out.upd U3 oM);have O3:=zD (O2.out.upd U3 (λk hk e=>by injection hk with hk;have hk:gb=k:=hk;omega));have U3w:=zD ((ah.aa B2.out:ah (λk=>k=g) w w2).trans U3 iL);clear hW3 U3 c5 f5 Z2 Y2 O2 mv Ls HF EX B2;have c5:=G3.out.z 5 (.slice (some ⟨gb,0,none⟩) n2 c2);have e1:k-1=(i:Int):=by have:=HK.out;omega
 have e2:(i:Int)<(n2:Int):=oM
 have aB2:n2<=90000:=H0.out.n;obtain⟨q1,q2,q3⟩:=O3.out.set uN (K:=i) (by rw[Nv.out];exact hin) ⟨0,none,true⟩;have Q1:=zD q1;have Q2_:=zD q2;have Q3:=zD q3;have Y4:=zD (Y3.out.grown q2 (by intro h;injection h;omega));clear q1 q2 q3 Y3;go_upto_region 5 with(refine wpList_store_mid rfl Q0 (.tmp 26) (.tmp 25) rfl gb (i*3) (fF.row ⟨0,none,true⟩) rfl rfl Q3.out kZ (by simp[Value.oneCell']) ?_)
 obtain⟨W4,JX⟩:=zE (W3.setCells gb (i*3) (fF.cells ⟨0,none,true⟩));rw[show W3.setCells gb (i*3) (fF.row ⟨0,none,true⟩).toList=W4 from JX.symm];rw[<-JX]at Q1 Q2_ Y4;clear JX c5 e1 e2 Q3 O3;go_wp2_with(refine zJ Y4.out ?_;intro w9 b8 dM;have X9:=zD b8;have G9:=zD dM;clear b8 dM);have UG:=ah.bE G9.out;have U4:=ah.bE Q2_.out;have U:ah (λk=>k=g) w w9:=(U3w.out.trans U4 (λk e=>.inr oM)).trans UG (λk e=>.inr oM);have US:ah S w w9:=U.mono (λk e=>e ▸ H0.out.b.sg);have hs9:=((Q1.out.upd UG (λk hk e=>by injection hk with hk;have hk:gb=k:=hk;omega)).is uN);obtain⟨f0,hf0⟩:=H0.out.b.map;refine zU X9.out underlying70 ⟨rfl,?_⟩;rw[HQ.out,HK.out,show((i:Int)+1-1).toNat=i by omega];exact⟨some ⟨gb,0,none⟩,n2,c2,l.set i ⟨0,none,true⟩,⟨⟨(G3.out.upd U4 oM).upd UG oM,⟨f0,hf0.upd U (λk e=>e ▸ H0.out.b.sg) (λe=>H0.out.b.ne e.symm)⟩,H0.out.b.sg,H0.out.b.sm,H0.out.b.ne,H0.out.b.len,H0.out.b.i64⟩,H0.out.cuts.set US i ⟨0,none,true⟩ rfl hs9 (λa e _ h9=>by injection e with e;subst e;have:=nR.out _ h9;simp only at this;omega),H0.out.n⟩,U⟩
end
end
section
def uO{P:Program}(w:World){ops:Array Oper}{rest:List Oper}{o:Oper}{a:Act}{Q:Exit->Act->World->Prop}(hgd:o.guard=none)(s x:Operand)(t:TypeId)(ho:o.op=.call {callee:=.builtin .append,args:=#[s,x],argTypes:=#[t,t]})(e:TypeId)(z:Value)(size bytes:Nat)(cells:α->List Value)(ht:P.underlying t=some (.slice e))(hi:(P.info? e).map (λi=>(i.zero,i.size,i.bytes))=some (some z,size,bytes))(hzs:z.cells.size=size)(hsz:0<size)(hcs:∀x,(cells x).length=size)(vH:∀x,∀u∈cells x,u.oneCell' = true)(A:Option Addr)(n cap:Nat)(l:List α)(hs:a.eval s=.slice A n n)(hl:ag w size cells A n cap l)(ad:Addr)(c:Nat)(y:α)(hx:a.eval x=.slice (some ad) 1 c)(hnews:∀j u,(cells y)[j]? = some u->w.cell? (ad.add j)=some u)(hlen:n<1000000)(hby:bytes<=100000)(h:∀v' w',Own w' w.heap.size e size cells v' (l++[y])->w.grownBy w' none->wpList P ops Q rest (a.put o.dst v') w'):wpList P ops Q (o::rest) a w:=by
 obtain⟨i,h1,h2,h3,h4⟩:=info_parts hi;have OG:=hl.1;refine wpList_append_grows w hgd s x t ho e i z size bytes ht h1 h2 h3 h4 hzs hsz A n n (l.flatMap cells) hs (λe=>⟨(hl.2.2.2.1 e).1,(hl.2.2.2.1 e).1⟩) (by rw[aZ hcs,OG]) (λb e=>by subst e;exact hl.cells hcs) ad 1 c (cells y) hx (by rw[hcs,aI4]) hnews (vH y) oM (by unfold maxLen;omega) (by have:=aS4 (show n+1<=1000000 by omega) hby;omega) ?_;intro v' w' ho' hg;refine h v' w' ?_ hg
 show w'.ownsRow w.heap.size e size v' (l++[y]).length ((l++[y]).flatMap cells)
 rw[aB8,aH0,OG]
 simpa using ho'
theorem EE(A:Option Addr)(n c:Nat)(l:List fF)(w:World)(hs:ag w 3 fF.cells A n c l) :
 Calls prog 131 #[.slice A n c] w λe w'=>e=.returned (.slice A n n)/\w=w':=by
 have h1:n<=c:=hs.2.1;have h2:c<=9223372036854775807:=by have:=hs.2.2.1;unfold maxLen at this;omega
 have h4:=hs.2.2.2.1;clear hs;cases A with
 |none=>
  obtain⟨rfl,rfl⟩:=h4 rfl;go_enter func131,ntmps131;go_wp2;go_ret;exact⟨rfl,rfl⟩
 |some a=>
  clear h4;go_enter func131,ntmps131;go_wp2;go_ret;exact⟨rfl,rfl⟩
def Jl{w:World}{mp:Nat}{f:ByteArray->Option Value}{ks:List ByteArray}(hm:bP fI w mp f ks) :
 Calls prog 56 #[.map (some mp)] w λe w'=>e=.returned (.map (some w.heap.size))/\bP fI w' w.heap.size f ks/\Bl w w':=by
 obtain⟨D,h1,h2⟩:=hm;exact(AnyW.maps_Clone_owns aQ7 9 tH mp ks.length D w h1).mono λe w' ⟨k1,k2,k3,k4⟩=>⟨k1,⟨D,k2,h2⟩,k4⟩
theorem fl.snoc{w w' : World}{S:Nat->Prop}{A A2:Option Addr}{n c n2 c2:Nat}{l:List fF}{cuts:List (Option pV)}(h:fl w S A n c l cuts)(hu:ah S w w'){x:fF}{k:Option pV}(hx:yX w' S x k)(hs:ag w' 3 fF.cells A2 n2 c2 (l++[x]))(ho:∀a,A2=some a->0<n2->¬S a.block):fl w' S A2 n2 c2 (l++[x]) (cuts++[k]):=by
 refine⟨hs,ho,by simp[h.len],λj y q h1 h2=>?_⟩;rcases aE2 j l.length with hj|hj
 ·rw[aC9 hj]at h1
  rw[aC9 (h.len▸hj)]at h2;exact(h.at_ j y q h1 h2).upd hu
 ·rw[aC7 hj]at h1
  rw[aC7 (h.len▸hj)]at h2;rw[<-h.len]at h2;cases hz:j-l.length with
  |zero=>rw[hz]at h1 h2;simp at h1 h2;subst h1;subst h2;exact hx
  |succ i=>rw[hz]at h1;simp at h1
section
variable{w w' : World}{S:Nat->Prop}{g mp:Nat}{A:Option Addr}{n cc:Nat}{l:List fF}{m:Fm}
theorem yZ(h:dg w S g mp A n cc l m)(hl:64<=m.live) :
 Calls prog 61 #[pt g] w (Rt (.agg (cK 6).row) (Bl w)):=by
 have BY:=ai.new w dv zR;have EX:=zW w (.cells zR dv);have HLv:=(λW (hb:Bl w W)=>CK (h.call hb).b.blk (h.call hb).cuts.Fv (aB4 h.n dC));have d0:decide ((64:Int)<=(ml l:Nat))=true:=by rw[EB (w:=w) (S:=S) h.cuts.len h.cuts.at_];unfold Fm.live at hl;exact decide_eq_true oM
 generalize ml l=LV at *;clear h hl;go_enter func61,ntmps61;go_wp2_with(first
  |go_at_call 130;refine zM (HLv _ EX) λw1 hb1=>?_;have B1:=zT EX hb1;have Y1:=BY.call hb1;clear hb1
  |(refine zJ Y1 ?_;intro w9 X9 G9))
 refine zU X9 underlying70 ⟨rfl,B1.grown G9 B1.size (λk e=>by injection e;omega)⟩
theorem EF(h:dg w S g mp A n cc l m)(ey:∀k,S k->k<w.heap.size)(hm:Q8 m)(hn:n<90000)(hl:¬64<=m.live) :
 Calls prog 61 #[pt g] w λe w'=>e=.returned (.agg m.snap.1.row)/\Wi S g mp m.snap.2 w w':=by
 have BY:=zD (ai.new w dv zR);have EX:=zD (zW w (.cells zR dv));have HLv:=zD (λW (hb:Bl w W)=>CK (h.call hb).b.blk (h.call hb).cuts.Fv (aB4 h.n dC));have d0:decide ((64:Int)<=(ml l:Nat))=false:=by rw[EB (w:=w) (S:=S) h.cuts.len h.cuts.at_];unfold Fm.live at hl;exact decide_eq_false oM
 have HQ:=zD (show m.snap=({eo with bV:=m.ep+1,RX:=m.cuts.length+1},{m with ep:=m.ep+1,cuts:=m.cuts++[some ⟨m.ep+1,m.M⟩]})from if_neg hl);generalize ml l=LV at *;have H0:=zD h;have nR:=zD ey;have HEp:=zD hm.ep;have HN:=zD hn;have Nv:=zD (show l.length=n from h.cuts.Fv.1);have HLc:=zD (show m.cuts.length=n from h.cuts.len.symm.trans h.cuts.Fv.1);clear h ey hm hn hl;go_enter func61,ntmps61;go_upto_region 3 with(go_at_call 130;refine zM (HLv.out _ EX.out) λw1 hb1=>?_;have B1:=zD (zT EX.out hb1);have Y1:=zD (BY.out.call hb1);clear hb1)
 have Z1:=zD (H0.out.call B1.out);have c6:=Z1.out.b.blk.z 6 (I6 m.ep);have f6:=Z1.out.b.blk.frozen 6;have ew:IntKind.i64.wrap (m.ep+1)=m.ep+1:=IntWalk.i64_in _ (by have:=HEp.out;omega);go_upto_region 4 with fail
 obtain⟨W2,hW2⟩:=zE (w1.setCell ⟨g,6,none⟩ (I6 (m.ep+1)));rw[<-hW2];have:g<w.heap.size:=nR.out g H0.out.b.sg;have U2:ah (λk=>k=g) w1 W2:=by rw[hW2];exact(ah.refl (λk=>k=g) w1).setCell (p:=⟨g,6,none⟩) (.inl rfl) _
 have G2:=zD (show ai W2 g Bi (fN m.cfg mp (.slice A n cc) (m.ep+1) m.over)from by rw[hW2];exact Z1.out.b.blk.aX 6 _);have Y2:=zD (Y1.out.upd U2 oM);have U2w:=zD ((ah.aa B1.out:ah (λk=>k=g) w w1).trans U2 iL);have C2:=zD (H0.out.cuts.upd (U2w.out.mono (λk e=>e ▸ H0.out.b.sg)));obtain⟨f,hf0⟩:=H0.out.b.map;have HF0:=zD hf0;have hf:fO W2 S mp f m.ks m.M:=hf0.upd U2w.out (λk e=>e ▸ H0.out.b.sg) (λe=>H0.out.b.ne e.symm);have M2:=zD hf;have:w.heap.size<W2.heap.size:=Y2.out.lt;clear hW2 U2 c6 f6 Z1 Y1 B1 BY EX HLv hf hf0 d0;refine zr (λj=>[18,19,20].contains j) (λwS=>Bl W2 wS) ?_;have S0:=(Below.refl W2.heap.size W2).drew;refine zk 16 [0,1,2,3,4] [_,_,_,_,.slice A n cc] (.q zK<|.q zK<|.q zK<|.q zK<|.c rfl rfl (zl λ_ h=>by have:=(G2.out.call h).z 5 (.slice A n cc);go_simp) .nil) S0 ?_;refine zk 11 [6,7,8,9,10] [_,_,_,I6 (m.ep+1),_] (.q zK<|.q zK<|.q zK<|.c rfl rfl (zl λ_ h=>by have:=(G2.out.call h).z 6 (I6 (m.ep+1));go_simp)<|.f) S0 ?_;refine zk 8 [11,12,13] [_,_,.map (some mp)] (.q zK<|.q zK<|.c rfl rfl (zl λ_ h=>by have:=(G2.out.call h).z 4 (.map (some mp));go_simp) .nil) S0 ?_;refine zQ 5 ?_;go_wp2_with(go_at_call 131;refine zN (EE A n cc l _ (C2.out.call (S0)).Fv) ?_);refine .i S0 ?_;refine zQ 14 ?_;go_wp2_with(go_at_call 56;refine(Jl (M2.out.map.call (S0))).mono ?_;rintro e v6 ⟨rfl,hmq,dJ⟩;have Mq:=zD hmq);refine .i (zT S0 dJ) ?_;have S6:=zT S0 dJ;refine zk 5 [15] [_] .f S6 ?_;refine zQ 16 ?_;have nH:=dp (S:=S6) (#[I6 (m.ep+1),.map (some W2.drew.heap.size),.bool false]) 138;obtain⟨H,hH,bH,lH⟩:=nH;go_wp2_with fail;refine .i (S6.alloc S6.size _) ?_
 (try simp only[hH])
 clear hH;have SH:=S6.alloc S6.size (.cells (#[I6 (m.ep+1),.map (some W2.drew.heap.size),.bool false]) 138);refine zQ 17 ?_;go_wp2_with(refine uO _ rfl (.tmp 19) (.tmp 30) ZP rfl Q0 _ 3 24 fF.cells underlying100 Oq rF dC uN Wh A n cc l rfl (C2.out.call (SH)).Fv ⟨H,0,none⟩ 1 ⟨m.ep+1,some W2.drew.heap.size,false⟩ rfl (br (α:=fF) (vs:=fF.cells ⟨m.ep+1,some W2.drew.heap.size,false⟩) (bH) rfl) (by have:=HN.out;omega) dC ?_;intro v7 w7 Ck Yn;obtain⟨A7,n7,c7,rfl,he7,hs7⟩:=Ck.shape uN;have O7:=zD Ck;have L7:=zD he7;have S7_:=zD hs7;clear he7 hs7;have bg:=zD ((G2.out.call (SH)).grown Yn sI);have c5:=bg.out.z 5 (.slice A n cc);have f5:=bg.out.frozen 5);refine .i (SH.grown Yn SH.size (λk e=>by cases e)) ?_;have S7:=SH.grown Yn SH.size (λk e=>by cases e);refine aq _ _ _ _ kZ ?_;refine wpAny_take (i:=18) (v:=_) rfl kZ kZ kZ (λ_ _ _ h=>h) (Or.inl ⟨by rfl,λW=>by rfl⟩) ?_;refine wpAny_take (i:=19) (v:=_) rfl kZ kZ kZ (λ_ _ _ h=>h) (Or.inl ⟨by rfl,λW=>by rfl⟩) ?_;refine zO 20 (λQ2 aI=>?_);go_wp2_with(fail);(try refine aI _ _ ?_);(try clear aI Q2)
 refine wpAny_done kZ ?_ _;obtain⟨W8,Br⟩:=zE (w7.setCell ⟨g,5,none⟩ (.slice A7 n7 c7));rw[<-Br];have U78:ah (λk=>k=g) w7 W8:=by rw[Br];exact(ah.refl (λk=>k=g) w7).setCell (p:=⟨g,5,none⟩) (.inl rfl) _
 have G8:=zD (show ai W8 g Bi (fN m.cfg mp (.slice A7 n7 c7) (m.ep+1) m.over)from by rw[Br];exact bg.out.aX 5 _);have Y8:=zD ((Y2.out.call S7).upd U78 oM);have U28:ah (λk=>k=g) W2 W8:=(ah.aa S7:ah (λk=>k=g) W2 w7).trans U78 iL;have az1:ah S W2 W8:=U28.mono (λk e=>e ▸ H0.out.b.sg);have az2:W2.heap.size<=v6.heap.size:=S6.size;have hbk:∀a,A7=some a->W2.heap.size<=a.block:=λa e=>by
  subst e;have h9:=(O7.out.lt a.block rfl).1;simp only[World.size_alloc]at h9;omega
 have S8_:=zD (aV S7_.out U78 (λa e h9=>by have:=hbk a e;omega));have ad7:W2.drew.heap.size≠g:=by show W2.heap.size≠g;omega
 have K8:=zD hbk;have Mq8:=zD (show bP fI W8 W2.drew.heap.size f m.ks from((Mq.out.alloc _).grown Yn sI).block (U78.block _ ((Mq.out.alloc _).grown Yn sI).lt ad7));have U8:=zD (U2w.out.trans U28 iL);have:=zD U28;have hn7:n7=n+1:=by have h1:=L7.out;have h2:=Nv.out;rw[h1,aB8,h2];rfl
 clear Br U78 U28 az1 az2 hbk ad7 Mq M2 C2 U2w Y2 G2 bg c5 f5 S7_ L7 O7 Ck Yn hmq dJ S7 S6 S0 ew;subst hn7;go_upto_region 5 with fail
 refine zr (λj=>[10].contains j) (λwS=>Bl W8 wS) ?_;have S0:=(Below.refl W8.heap.size W8).drew;refine zk 6 [0,1,2,3,4] [_,_,_,I6 (m.ep+1),_] (.q zK<|.q zK<|.q zK<|.c rfl rfl (zl λ_ h=>by have:=(G8.out.call h).z 6 (I6 (m.ep+1));go_simp)<|.f) S0 ?_;refine zk 1 [5,6,7,8,9] [_,_,.slice A7 (n+1) c7,I6 ((n+1:Nat):Int),_] (.q zK<|.q zK<|.c rfl rfl (zl λ_ h=>by have:=(G8.out.call h).z 5 (.slice A7 (n+1) c7);go_simp)<|.q zK<|.f) S0 ?_;refine aq _ _ _ _ kZ ?_;refine zO 10 (λQ2 aI=>?_);go_wp2_with(refine zJ (Y8.out.call (S0)) ?_;intro w9 b8 dM;have X9:=zD b8;have G9:=zD dM;have D9:=zD (S0);clear b8 dM);(try refine aI _ _ ?_);(try clear aI Q2)
 refine wpAny_done kZ ?_ _;go_wp2;have UG:ah (λk=>k=w.heap.size) W8 w9:=(ah.aa D9.out:ah (λk=>k=w.heap.size) W8 _).trans (ah.bE G9.out) iL;have U9:ah (λk=>k=g) w w9:=U8.out.trans UG (λk e=>.inr oM);have US:ah S w w9:=U9.mono (λk e=>e ▸ H0.out.b.sg);have hS9:=aV S8_.out UG (λa e h9=>by have:=K8.out a e;omega);have hM9:bP fI w9 W2.drew.heap.size f m.ks:=Mq8.out.block (UG.block _ Mq8.out.lt (by show W2.heap.size≠w.heap.size;omega));refine zU X9.out underlying70 ?_;rw[HQ.out];refine⟨?_,?_⟩
 ·rw[show((m.cuts.length:Nat):Int)=(n:Int)from by rw[HLc.out]]
  rfl
 ·refine⟨A7,n+1,c7,_,⟨⟨G8.out.upd UG oM,⟨f,HF0.out.upd U9 (λk e=>e ▸ H0.out.b.sg) (λe=>H0.out.b.ne e.symm)⟩,H0.out.b.sg,H0.out.b.sm,H0.out.b.ne,H0.out.b.len,H0.out.b.i64⟩,H0.out.cuts.snoc US (x:=⟨m.ep+1,some W2.drew.heap.size,false⟩) ⟨rfl,rfl,W2.drew.heap.size,f,m.ks,rfl,(λh9=>by have:=nR.out _ h9;have:W2.drew.heap.size=W2.heap.size:=rfl;omega),⟨hM9,HF0.out.none,λs x hx=>?_⟩⟩ hS9 (λa e _ h9=>by have:=K8.out a e;have:=nR.out _ h9;omega),by have:=HN.out;show n+1<=90000;omega⟩,U9⟩
  obtain⟨v,h1,h2⟩:=HF0.out.some s x hx;exact⟨v,h1,h2.upd US⟩
def Ra(h:dg w S g mp A n cc l m)(ey:∀k,S k->k<w.heap.size)(hm:Q8 m)(hn:n<90000) :
 Calls prog 61 #[pt g] w λe w'=>e=.returned (.agg m.snap.1.row)/\Wi S g mp m.snap.2 w w':=by
 by_cases hl:64<=m.live
 ·have hq:m.snap=(cK 6,m):=if_pos hl
  rw[hq];exact(yZ h hl).mono λe w' ⟨h1,h2⟩=>⟨h1,A,n,cc,l,h.call h2,ah.aa h2⟩
 ·exact EF h ey hm hn hl
end
end
section
def eG(g mp:Nat):Nat->Prop:=λk=>k=g\/k=mp
def y5(S:Nat->Prop)(g mp:Nat)(r:kO×Fm)(w:World)(e:Ending)(w' : World):Prop:=e=.returned (.agg r.1.row)/\∃A n cc l,dg w' S g mp A n cc l r.2/\ah (eG g mp) w w'
def FlX(S:Nat->Prop)(b:Nat):Nat->Prop:=λk=>S k\/k=b
structure iy(m:Fm):Prop where
 ok:Q8 m
 ks:m.ks.length<90000
 cuts:m.cuts.length<90000
section
variable{w w' : World}{S:Nat->Prop}{g mp:Nat}{A:Option Addr}{n cc:Nat}{l:List fF}{m:Fm}
def vC.at_(h:dg w S g mp A n cc l m)(hk:m.ks.length<90000){s:ByteArray}(hp:vC S g mp m.cfg (.slice A n cc) m.ep m.over m.ks m.M s x w w'):dg w' S g mp A n cc l (m.put s x)/\ah (eG g mp) w w':=by
 obtain⟨h1,h2,h3⟩:=hp;exact⟨⟨⟨h1,h2,h.b.sg,h.b.sm,h.b.ne,(by have:=jG m.ks s;show(cE m.ks s).length<=100000;omega),h.b.i64⟩,h.cuts.upd (h3.mono λk e=>e ▸ h.b.sm),h.n⟩,h3.mono λk e=>.inr e⟩
theorem Wl(hm:Q8 m)(s:ByteArray):((m.M s).getD eF).dE.length<=256/\((m.M s).getD eF).past.length<=1000:=by
 cases h:m.M s with
 |none=>exact⟨aB6 _,aB6 _⟩
 |some x=>exact⟨(hm.ld s x h).1,(hm.ld s x h).2.2⟩
def Jo(cq:ak)(h:dg w S g mp A n cc l m)(ey:∀k,S k->k<w.heap.size)(hm:iy m)(hc:bM cq) :
 Calls prog 59 #[pt g,.agg cq.row] w (y5 S g mp (m.eD cq.s cq.t cq.v) w):=by
 unfold Fm.eD
 by_cases he:bU cq.t cq.v=0
 ·rw[if_neg (λhh=>hh he)]
  cases hf:m.full cq.s
  ·simp only[aG8,if_false]
   exact(yV cq h.b ey hm.ok.py hc.s (oH (Wl hm.ok cq.s).1) he hf).mono λe w' ⟨h1,h2⟩=>⟨h1,A,n,cc,l,vC.at_ h hm.ks h2⟩
  ·simp only[if_true]
   exact(uM cq h.b hc.s he hf).mono λe w' ⟨h1,h2⟩=>⟨h1,A,n,cc,l,h.call h2,ah.aa h2⟩
 ·rw[if_pos he]
  exact(vZ cq he).mono λe w' ⟨h1,h2⟩=>⟨h1,A,n,cc,l,h.call h2,ah.aa h2⟩
def Wm(cq:ak)(h:dg w S g mp A n cc l m)(ey:∀k,S k->k<w.heap.size)(hm:iy m)(hc:bM cq) :
 Calls prog 64 #[pt g,.agg cq.row] w (y5 S g mp (m.set cq.s cq.p) w):=by
 unfold Fm.set
 by_cases he:dy cq.p=0
 ·rw[if_neg (λhh=>hh he)]
  cases hf:m.full cq.s
  ·simp only[aG8,if_false]
   exact(Ji cq h.b ey hc.s he hf).mono λe w' ⟨h1,h2⟩=>⟨h1,A,n,cc,l,vC.at_ h hm.ks h2⟩
  ·simp only[if_true]
   exact(Bp cq h.b hc.s he hf).mono λe w' ⟨h1,h2⟩=>⟨h1,A,n,cc,l,h.call h2,ah.aa h2⟩
 ·rw[if_pos he]
  exact(Ex cq h.b he).mono λe w' ⟨h1,h2⟩=>⟨h1,A,n,cc,l,h.call h2,ah.aa h2⟩
def Mp(h:dg w S g mp A n cc l m)(ey:∀k,S k->k<w.heap.size)(hm:iy m) :
 Calls prog 61 #[pt g] w (y5 S g mp m.snap w):=
 (Ra h ey hm.ok (by have h1:=hm.cuts;have h2:=h.cuts.len;have h3:=h.cuts.Fv.1;omega)).mono λe w' ⟨h1,A',n',c',l',h2,h3⟩=>⟨h1,A',n',c',l',h2,h3.mono λk e=>.inl e⟩
def Mr(k:Int)(h:dg w S g mp A n cc l m)(ey:∀k,S k->k<w.heap.size)(hk:aw k) :
 Calls prog 62 #[pt g,I6 k] w (y5 S g mp (m.free k) w):=by
 by_cases he:m.dH k=0
 ·have h1:(m.free k).1=eo:=by unfold Fm.free;rw[if_pos he]
  unfold y5;rw[h1];exact(ED k h ey hk he).mono λe w' ⟨h1,A',n',c',l',h2,h3⟩=>⟨h1,A',n',c',l',h2,h3.mono λk e=>.inl e⟩
 ·have h1:m.free k=(cK (m.dH k),m):=if_neg he
  rw[h1];exact(Bw k h hk he).mono λe w' ⟨h1,h2⟩=>⟨h1,A,n,cc,l,h.call h2,ah.aa h2⟩
def dg.az3(h:dg w S g mp A n cc l m):dg w (FlX S (w.heap.size+1)) g mp A n cc l m:=
 h.ext (λk hk=>hk.elim .inl (λe=>.inr oM)) (.inl h.b.sg) (.inl h.b.sm)
def dg.fin{w5 w9:World}(h:dg w5 (FlX S (w.heap.size+1)) g mp A n cc l m)(hg:w5.grownBy w9 (some (w.heap.size+1)))(h1:g<w.heap.size)(h2:mp<w.heap.size)(hS:S g)(hM:S mp):dg w9 S g mp A n cc l m:=
 (h.upd (T:=λk=>k=w.heap.size+1) (ah.bE hg) (λk e=>.inr e) oM oM).ext (λk hk=>.inl (.inl hk)) hS hM
end
def y5.nm{S:Nat->Prop}{g mp:Nat}{r R:kO×Fm}{w w' : World}{e:Ending}(h:y5 S g mp r w e w')(hR:r=R):y5 S g mp R w e w':=hR ▸ h
end
section
section
variable{w:World}{g mp:Nat}{A:Option Addr}{n cc:Nat}{l:List fF}{m:Fm}
theorem EG{S:Nat->Prop}(x:ak)(h:dg w S g mp A n cc l m)(hk:x.k<1\/8<x.k) :
 Calls prog 22 #[pt g,.agg x.row] w (y5 S g mp (m.do x) w):=by
 have HQ:m.do x=(cK 14,m):=if_pos hk;rw[HQ];have EX:=(zW w (.cells x.row eZ)).alloc sI (.cells zR dv);have H0:=h;clear h HQ;rcases(show x.k<1\/1<=x.k by omega)with h1|h1
 all_goals
  first|have:decide (x.k<1)=true:=decide_eq_true h1|(have:decide (x.k<1)=false:=decide_eq_false oM;have:decide (8<x.k)=true:=decide_eq_true oM)
  clear hk h1;go_enter func22,ntmps22;go_wp2_with(refine zJ (ai.dR w (.cells x.row eZ) dv zR) ?_;intro w9 X9 G9);have B9:=EX.grown G9 EX.size (λk e=>by injection e;omega);exact zU X9 underlying70 ⟨rfl,A,n,cc,l,H0.call B9,ah.aa B9⟩
theorem Ms{S:Nat->Prop}(x:ak)(h:dg w S g mp A n cc l m)(hx:bM x)(hk:x.k=1\/x.k=6\/x.k=5\/x.k=7)(hid:eO x.s=false) :
 Calls prog 22 #[pt g,.agg x.row] w (y5 S g mp (m.do x) w):=by
 have HQ:m.do x=(cK 2,m):=by
  unfold Fm.do;rw[if_neg oM,if_pos ⟨hk,hid⟩]
 rw[HQ];have H0:=h;have ZV:=(λW=>iN x.s W hx.s);have as8:cT x.s=2:=by unfold cT;rw[hid];rfl
 rw[as8]at ZV;obtain⟨k0,s0,t0,v0,h0,p0⟩:=x;dsimp only at *;clear h HQ hid as8 hx;have:=(ai.new w eZ (aj k0 s0 t0 v0 h0 p0)).alloc (.cells zR dv);have BY:=ai.dR w (.cells (aj k0 s0 t0 v0 h0 p0) eZ) dv zR;have EX:=(zW w (.cells (aj k0 s0 t0 v0 h0 p0) eZ)).alloc sI (.cells zR dv);rcases hk with rfl|rfl|rfl|rfl
 all_goals
  go_enter func22,ntmps22;go_wp2_with(first
   |go_at_call 58;refine zM (ZV _) λw1 hb1=>?_;have B1:=zT EX hb1;have Y1:=BY.call hb1;clear hb1
   |(refine zJ Y1 ?_;intro w9 X9 G9))
  have B9:=B1.grown G9 B1.size (λk e=>by injection e;omega);exact zU X9 underlying70 ⟨rfl,A,n,cc,l,H0.call B9,ah.aa B9⟩
theorem EH{S:Nat->Prop}(x:ak)(h:dg w S g mp A n cc l m)(hx:bM x)(hK:x.k=8) :
 Calls prog 22 #[pt g,.agg x.row] w (y5 S g mp (m.do x) w):=by
 have HQ:m.do x=if m.over then(cK 9,m)else(eo,{m with over:=true}):=by
  unfold Fm.do;rw[hK];rw[if_neg dC,if_neg (λhh=>absurd hh.1 dC)]
  rfl
 have:g<w.heap.size:=h.b.blk.lt;have:mp<w.heap.size:=by obtain⟨f,hf⟩:=h.b.map;exact hf.map.lt
 have H0:=h;obtain⟨k0,s0,t0,v0,h0,p0⟩:=x;dsimp only at hK HQ;subst hK;rw[HQ];have ZV:=(λW=>iN s0 W hx.s);generalize cT s0=IE at *;have BX:=(ai.new w eZ (aj 8 s0 t0 v0 h0 p0)).alloc (.cells zR dv);have BY:=ai.dR w (.cells (aj 8 s0 t0 v0 h0 p0) eZ) dv zR;have EX:=(zW w (.cells (aj 8 s0 t0 v0 h0 p0) eZ)).alloc sI (.cells zR dv);have TF:=(λW (hb:Bl w W)=>pM (H0.call hb).b.blk);have HOv:=(λW (hb:Bl w W) (ov:Bool) (he:m.over=ov)=>(show W.cell? ⟨g,7,none⟩=some (.bool ov)from he ▸ (H0.call hb).b.blk.z 7 (.bool m.over)));have HFz:=(λW (hb:Bl w W)=>(H0.call hb).b.blk.frozen 7);clear h hx HQ;cases JL:m.over<;>simp only[aG8,if_false,if_true]
 all_goals
  go_enter func22,ntmps22;go_wp2_with(first
   |go_at_call 58;refine zM (ZV _) λw1 hb1=>?_;have B1:=zT EX hb1;have X1:=BX.call hb1;have Y1:=BY.call hb1;have:=X1.z 0 (I6 8);clear hb1
   |go_at_call 38;refine zM (TF _ B1) λw2 hb2=>?_;have B2:=zT B1 hb2;have Y2:=Y1.call hb2;have:=(X1.call hb2).z 0 (I6 8);have:=HOv _ B2 _ JL;have:=HFz _ B2;have Y3:=Y2.upd ((ah.refl (λk=>k=g) w2).setCell (p:=⟨g,7,none⟩) (.inl rfl) (.bool true)) oM;clear hb2
   |((first|(refine zJ Y3 ?_)|(refine zJ Y2 ?_));intro w9 b8 G9;have X9:=b8;clear b8))
 ·have U3:ah (eG g mp) w2 (w2.setCell ⟨g,7,none⟩ (.bool true)):=(ah.refl (eG g mp) w2).setCell (p:=⟨g,7,none⟩) (.inl (.inl rfl)) _
  have U:ah (eG g mp) w w9:=((ah.aa B2:ah (eG g mp) w w2).trans U3 iL).grown G9 (λk e=>by injection e;omega);have US:ah S w w9:=U.mono (λk e=>e.elim (λe=>e ▸ H0.b.sg) (λe=>e ▸ H0.b.sm));have b8:ai w9 g Bi (fN m.cfg mp (.slice A n cc) m.ep true):=((H0.call B2).b.blk.aX 7 (.bool true)).grown G9 (by intro h;injection h;omega);obtain⟨f,hf⟩:=H0.b.map;have hmap:bP fI w9 mp f m.ks:=((hf.map.call B2).far (p:=⟨g,7,none⟩) (λe=>H0.b.ne e.symm) _).grown G9 (by intro h;injection h;omega);exact zU X9 underlying70 ⟨rfl,A,n,cc,l,⟨⟨b8,⟨f,hmap,hf.none,λs x hx=>by
   obtain⟨v,h1,h2⟩:=hf.some s x hx;exact⟨v,h1,h2.upd US⟩⟩,H0.b.sg,H0.b.sm,H0.b.ne,H0.b.len,H0.b.i64⟩,H0.cuts.upd US,H0.n⟩,U⟩
 ·have B9:=B2.grown G9 B2.size (λk e=>by injection e;omega)
  exact zU X9 underlying70 ⟨rfl,A,n,cc,l,H0.call B9,ah.aa B9⟩
end
end
section
open Go.RowKit Go.Maps Go.Sort Go.Shelf
abbrev ak6:TypeId:=9
def Wo(s:ByteArray):List Value:=[.string s]
def pX(l:List ByteArray):List ByteArray:=((l.map λs=>s.data.toList).mergeSort leB).map λx=>⟨x.toArray⟩
theorem Rb(l:List ByteArray):l.flatMap Wo=(l.map λs=>s.data.toList).map encStr:=by
 induction l with
 |nil=>rfl
 |cons x l ih=>rw[aE8,ih];rfl
theorem Wp(l:List (List UInt8)):(l.map λx=>(⟨x.toArray⟩:ByteArray)).map (λs=>s.data.toList)=l:=by
 induction l with
 |nil=>rfl
 |cons x l ih=>rw[aH1,aH1,ih]
def y6(l:List ByteArray):(pX l).length=l.length:=by unfold pX;rw[aC8,List.length_mergeSort,aC8]
def y7(l:List ByteArray)(s:ByteArray):s∈pX l↔s∈l:=by
 unfold pX;rw[aF2]
 constructor
 ·rintro⟨x,hx,rfl⟩
  rw[(List.mergeSort_perm _ _).mem_iff,aF2]at hx;obtain⟨s,hs,rfl⟩:=hx;exact hs
 ·intro hs
  exact⟨s.data.toList,(List.mergeSort_perm _ _).mem_iff.2 (aF2.2 ⟨s,hs,rfl⟩),rfl⟩
def CN{l:List ByteArray}(h:l.Nodup):(l.map λs=>s.data.toList).Nodup:=by
 refine List.pairwise_map.2 (h.imp λ{a b} hne e=>hne ?_);obtain⟨⟨a⟩⟩:=a;obtain⟨⟨b⟩⟩:=b
 simpa using e
def Rc[DecidableEq α]{g:α->Prop}{L:α->Lit}{D:DataW Value}{f:α->Option Value}{ks:List α}(h:nv g L D f ks){x:α}(hx:g x):Maps.has D (L x)=true↔x∈ks:=by
 rw[h.ae6 hx];exact decide_eq_true_iff
def Mt{b:Nat}{D:DataW Value}{f:ByteArray->Option Value}{ks:List ByteArray}{ss:List (List UInt8)}(hown:w.ownsMap prog ak6 tH b n D)(hv:nv fI.good fI.l D f ks)(hp:ss.Perm (strKeys D)):ss.Perm (ks.map λs=>s.data.toList):=by
 refine hp.trans (Collected.perm (left:=λ_=>false) ⟨CN hv.2.1,λx=>?_⟩ hown (string_keyed il) il (λ_=>rfl)).symm;have az4:x∈(ks.map λs=>s.data.toList)↔(⟨x.toArray⟩:ByteArray)∈ks:=by
  rw[aF2];exact⟨λ⟨s,h1,h2⟩=>by subst h2;exact h1,λh=>⟨_,h,rfl⟩⟩
 rw[az4]
 by_cases hg:x.length<=maxLen
 ·have h1:=Rc hv (x:=(⟨x.toArray⟩:ByteArray)) hg
  exact⟨λh=>⟨h1.2 h,rfl⟩,λh=>h1.1 h.1⟩
 ·constructor
  ·intro h
   exact absurd (hv.2.2.2.2.2 _ h) hg
  ·rintro⟨h,-⟩
   exfalso
   obtain⟨es,rfl,hko⟩:=hown.keysOf;rw[has_eq,List.any_eq_true]at h;obtain⟨p,hp,hs⟩:=h;obtain⟨v,hv⟩:=hko p hp;obtain⟨y,-,hy,hl⟩:=Maps.keyOf_str il hv;rw[hy]at hs;have:y=x:=by simpa[Lit.sameKey]using hs
   exact hg (this ▸ hl)
def Re(m:Nat):AnyZ.SortsIn prog ac6 Fence.wide m:=
 ⟨λblk off cap ss W hH hblk hsz=>callsIn_wide.2 (AnyM.slices_Sort_string ac7 blk off cap ss W hH hblk hsz),
  λp cap W=>callsIn_wide.2 (AnyM.slices_Sort_string_none ac7 p cap W)⟩
def Mu(b:Nat)(f:ByteArray->Option Value)(ks:List ByteArray)(w:World)(h:bP fI w b f ks)(hl:ks.length<=100000) :
 Calls prog 39 #[.func (.func 105) #[] #[pt w.heap.size]] (w.alloc (.cells #[.map (some b)] mj)) λe w'=>∃v,e=.returned v/\Own w' (w.heap.size+1) ak6 1 Wo v (pX ks)/\Bl w w':=by
 obtain⟨D,hown,ad8⟩:=h;have hbl:=hown.lt;have hsz:Maps.size D=ks.length:=ad8.1;have hseq:SeqGives Fence.wide 2 prog 105 #[pt w.heap.size] encStr (λss=>ss.Perm (strKeys D)) (Maps.size D) (w.alloc (.cells #[.map (some b)] mj)):=
  AnyZ.keys_gives (ρ:=ac4) {ac5 with} Fence.wide _ trivial rfl oM w.heap.size b ks.length D _ sI sI (by
   obtain⟨es,clock,hb,Ft,hs,hD⟩:=hown;exact⟨es,clock,(Below.heap_alloc _ _ b hbl).trans hb,Ft,hs,hD⟩)
 have cS:=AnyZ.sorted_in al7 Fence.wide 5 trivial trivial trivial trivial rfl oM (Re _) (enters_of func104 kZ rfl) 105 #[pt w.heap.size] trivial (enters_of func105 kZ rfl) _ _ (by rw[hsz];unfold maxLen;omega) (by rw[hsz];omega) _ hseq;refine((callsIn_wide (n:=5)).1 cS).mono ?_;rintro e w' ⟨v,ss,rfl,hS,hrow,hnil,hb⟩;have hP:=Mt hown ad8 hS;have HV:ss.mergeSort leB=(ks.map λs=>s.data.toList).mergeSort leB:=mergeSort_of_perm hP;have HL:ss.length=(pX ks).length:=by rw[hP.length_eq,y6,aC8]
 refine⟨v,rfl,?_,((Below.refl _ w).alloc lR _).trans (hb.mono sI)⟩;have h1:=ownsRow_base_a hrow (show w.heap.size+1<=(w.alloc (.cells #[.map (some b)] mj)).heap.size by simp)
 show World.ownsRow _ _ _ _ _ (pX ks).length ((pX ks).flatMap _)
 rw[Rb,<-HL];unfold pX;rw[Wp,<-HV];exact h1
def Ws(b:Nat)(W:World):Calls prog 40 #[.map (some b)] W λe w'=>e=.returned (.func (.func 105) #[] #[pt W.heap.size])/\w' = W.alloc (.cells #[.map (some b)] mj):=
 (callsIn_wide (n:=5)).1 (AnyZ.keys_in ac5 Fence.wide 5 trivial rfl (some b) W)
theorem Jp{S:Nat->Prop}{g mp:Nat}{A:Option Addr}{cc:Nat}{l:List fF}{m:Fm}(h:dg w S g mp A n cc l m):
 Calls prog 11 #[pt g] w λe w'=>∃v,e=.returned v/\Own w' w.heap.size ak6 1 Wo v (pX m.ks)/\Bl w w':=by
 have TF:=zD (pM h.b.blk)
 have H0:=zD h
 have HK:=zD (λW=>Ws mp W)
 have hlen:=h.b.len
 have HS:=zD (λW (hb:Bl w W)=>by
  obtain⟨f,hf⟩:=(h.call hb).b.map
  exact Mu mp f m.ks W hf.map hlen)
 clear h hlen
 go_enter func11,ntmps11
 go_wp2_with(first
  |go_at_call 38;refine TF.out.mono ?_;rintro e w1 ⟨rfl,hb1⟩;have B1:=zD hb1;have:=(H0.out.call hb1).b.blk.z 4 (.map (some mp));clear hb1
  |go_at_call 40;refine(HK.out _).mono ?_;rintro e w2 ⟨rfl,rfl⟩
  |(go_at_call 39;refine(HS.out _ B1.out).mono ?_;rintro e w3 ⟨v,rfl,ho,hb3⟩))
 go_ret
 have hz:=B1.out.size
 exact⟨_,rfl,ho.mono oM,B1.out.trans (hb3.mono hz)⟩
end
section
open Go.RowKit Go.Maps Go.Sort
abbrev Jq:TypeId:=2
def Wv[DecidableEq α]{ks:List α}{x:α}(h:x∈ks):cE ks x=ks:=if_pos h
def Mv{l:List ByteArray}(h:l.Nodup):(pX l).Nodup:=by
 unfold pX;have h1:=(List.mergeSort_perm (l.map λs=>s.data.toList) leB).symm.nodup (CN h);refine List.pairwise_map.2 (h1.imp λ{a b} hne e=>hne ?_)
 simpa using e
def Jr{l:List α}{k:Nat}{s:α}(h:l.Nodup)(hk:l[k]? = some s): ¬s∈l.take k:=λhm=>by
 obtain⟨i,hi⟩:=aD7 hm;rw[aE4]at hi
 split at hi
 ·have:=(List.getElem?_inj (d9.1 hi).1 h).1 (hi.trans hk.symm)
  omega
 ·cases hi
def ZW(M M' : ByteArray->Option kT)(t:Int)(l:List ByteArray):Prop:=(∀s,s∈l->M' s=(M s).map (sV t))/\∀s,¬s∈l->M' s=M s
def ZW.next{M M' : ByteArray->Option kT}{l:List ByteArray}(h:ZW M M' t l){s:ByteArray}(hs:¬s∈l)(hx:M' s=some x):ZW M (yT M' s (sV t x)) t (l++[s]):=by
 refine⟨λy hy=>?_,λy hy=>?_⟩
 ·unfold yT
  by_cases e:y=s
  ·subst e
   rw[if_pos rfl,<-h.2 y hs,hx];rfl
  ·rw[if_neg e]
   rcases aD1.1 hy with hy|hy
   ·exact h.1 y hy
   ·simp at hy;exact absurd hy e
 ·unfold yT
  rw[aD1,not_or]at hy;rw[if_neg (sH hy.2)];exact h.2 y hy.1
def az6(S:Nat->Prop)(g mp:Nat)(r:kO×Fm)(w:World)(e:Ending)(w' : World):Prop:=e=.returned (.agg r.1.row)/\∃A n cc l,dg w' S g mp A n cc l r.2/\ah (λk=>k=mp) w w'
section
variable{w w' : World}{S:Nat->Prop}{g mp:Nat}{A:Option Addr}{n cc:Nat}{l:List fF}{m:Fm}
theorem BB(t:Int)(h:dg w S g mp A n cc l m)(ht:t<0) :
 Calls prog 60 #[pt g,I6 t] w (Rt (.agg (cK 3).row) (Bl w)):=by
 have EX:=(zW w (.cells #[I6 t] Jq)).alloc sI (.cells zR dv);have:=((ai.new w Jq #[I6 t]).alloc (.cells zR dv)).z 0 (I6 t);have:decide (t<0)=true:=decide_eq_true ht;clear h ht;go_enter func60,ntmps60;go_wp2_with(refine zJ (ai.dR w (.cells #[I6 t] Jq) dv zR) ?_;intro w9 X9 G9);exact zU X9 underlying70 ⟨rfl,EX.grown G9 EX.size (λk e=>by injection e;omega)⟩
theorem EI(t:Int)(h:dg w S g mp A n cc l m)(ey:∀k,S k->k<w.heap.size)(hm:iy m)(ht:0<=t)(qd:aw t) :
 Calls prog 60 #[pt g,I6 t] w (az6 S g mp (eo,{m with M:=λs=>(m.M s).map (sV t)}) w):=by
 have BY:=ai.dR w (.cells #[I6 t] Jq) dv zR;have BT:=(ai.new w Jq #[I6 t]).alloc (.cells zR dv);have EX:=(zW w (.cells #[I6 t] Jq)).alloc sI (.cells zR dv);have c0:=((ai.new w Jq #[I6 t]).alloc (.cells zR dv)).z 0 (I6 t);have:decide (t<0)=false:=decide_eq_false oM;have ZV:=(λW (hb:Bl w W)=>Jp (h.call hb));have hmw:mp<w.heap.size:=by obtain⟨f,hf⟩:=h.b.map;exact hf.map.lt
 have HGw:=And.intro h.b.blk.lt (And.intro h.b.sg h.b.sm);have H0:=h.ext (T:=λk=>S k\/k=w.heap.size+1) (λk hk=>hk.imp id (λe=>oM)) (.inl h.b.sg) (.inl h.b.sm);have HM:=hm;have nR:∀k,(S k\/k=w.heap.size+1)->k<w.heap.size+2:=λk hk=>hk.elim (λhh=>oH (ey k hh)) (λe=>oM)
 have RX:m.ks.Nodup:=by obtain⟨f,hf⟩:=h.b.map;exact hf.map.nodup
 clear h ht hm ey;go_enter func60,ntmps60;go_wp2_with(go_at_call 11;refine(ZV _ EX).mono ?_;rintro e w1 ⟨v1,rfl,ho1,hb1⟩;obtain⟨A1,n1,c1,rfl,M4,S1⟩:=ho1.shape (λ_=>rfl);have B1:=zT EX hb1;have Y1:=BY.call hb1;have T1:=BT.call hb1;have as9:=M4.symm;have KA:∀a:Addr,A1=some a->w.heap.size<=a.block:=(λa e=>by subst e;have h1:=(ho1.lt a.block rfl).1;have h2:=EX.size;omega);clear ho1 hb1 M4 c0);have Xx:(pX m.ks).length=n1:=as9;have HNd:(pX m.ks).Nodup:=Mv RX;generalize at0:pX m.ks=ids at *;have ak7:=at0;clear at0 as9 RX;have:n1<=100000:=by have h1:=H0.b.len;have h2:=y6 m.ks;have:=Xx;rw[ak7]at h2;omega
 have HMw:=hmw;clear hmw;go_loopw[14] (λis wr=>∃(k:Nat)(M' : ByteArray->Option kT),k<=n1/\is = I6 (k:Int)/\QZ wr (λk=>S k\/k=w.heap.size+1) g mp m.cfg (.slice A n cc) m.ep m.over m.ks M'/\ZW m.M M' t (ids.take k)/\ah (λk=>k=mp) w1 wr/\ai wr (w.heap.size+1) dv zR/\ai wr w.heap.size Jq #[I6 t]) (λis _=>n1-(intOf is).toNat)
 case atStart=>exact⟨0,m.M,aB6 _,rfl,(H0.call B1).b,⟨λs h=>by simp at h,λs _=>rfl⟩,ah.refl _ _,Y1,T1⟩
 case round=>
  obtain⟨k,M',hk,rfl,hB,hT,hU,hY,Mw⟩:=hrel;have HB:=hB;have HT:=hT;have HU:=hU;have HY:=hY;have zZ:=Mw;clear hB hT hU hY Mw
  by_cases hlt:k<n1
  ·have:=aB4 B1.size HU.size
   obtain⟨b,off,s,rfl,hs,fH,hcl⟩:=ag.at_ (kC S1 HU (λa e _ hh=>by have h1:=KA a e;have h2:=HMw;omega)) hlt;have q0:wr.cell? ⟨b,off+k,none⟩=some (.string s):=by have h9:=hcl 0 _ rfl;simpa[Wo]using h9
   have hin:s∈m.ks:=(y7 m.ks s).1 (ak7▸aC1 hs);have HNk:=Jr HNd hs;have fG:ids.take (k+1)=ids.take k++[s]:=by rw[aE3,hs];rfl
   have HIn:=hin;obtain⟨f,hf⟩:=HB.map;have Nw:s.size<=maxLen:=hf.map.good s hin;obtain⟨x,hx⟩:∃x,M' s=some x:=by
    cases hM:M' s with
    |none=>have h1:=(hf.map.mem s).1 hin;rw[(hf.none s).1 hM]at h1;cases h1
    |some x=>exact⟨x,rfl⟩
   have HX:=zD hx;obtain⟨C,cn,cd,D,dn,dc,hlk,hsm,qx,hA,hD,-⟩:=hf.look s;rw[hx]at hlk hsm qx;simp only[aF6]at hlk hsm qx;have hl:(Instr.lookup mj (.map (some mp)) (.string s) false).run prog wr=.ok (.agg (bl C cn cd D dn dc x.cM x.nM)) wr:=by
    have h9:=hf.map.look bZ (fh wr) (x:=s) Nw;rw[hlk]at h9;exact h9
   have vY:=hsm;have IL:=qx;have HD:=hD;have HF:=hf;have HGs:=Nw;have c4:=HB.blk.z 4 (.map (some mp));have:(k:Int)<(n1:Int):=oM
   have NH:x.dE.length<=100000:=by
    have h1:=HM.ok.ld s x ((HT.2 s HNk).symm.trans hx);omega
   have Ls:=(λW (hb:Bl wr W)=>slices_Clone C cn cd x.dE W (af vY hb) (oI vY.1 NH));have E2:=zW wr (.cells (bl C cn cd D dn dc x.cM x.nM) jq);have G2:=ai.new wr jq (bl C cn cd D dn dc x.cM x.nM);have HDf:=(λv W base (h:kH W base v x.dE) (hb:Bl wr W) (hz:wr.heap.size<=base)=>y9 v x.dE t w.heap.size W h NH ((zZ.call hb).z 0 (I6 t)) (zZ.call hb).lt (λe=>by have h1:=(h.lt _ e).1;have h2:=zZ.lt;omega));clear hs fH hcl hin hx hlk hsm qx hA hD hf Nw;go_upto_region 8 with(first
    |go_at_call 106;refine(Ls _ E2).mono ?_;rintro e w3 ⟨A3,n3,c3,rfl,O3,hb3⟩;have B3:=zT E2 hb3;have G3:=G2.call hb3;clear hb3
    |(go_at_call 128;refine(HDf _ _ _ O3 B3 E2.size).mono ?_;rintro e w4 ⟨v4,rfl,O4,U4⟩;obtain⟨A4,n4,c4_,rfl,hn4,hs4⟩:=O4.shape aA;have G4:=G3.upd U4 (λe=>by have h1:=(O3.lt _ e).1;simp at h1;omega);have g0:=G4.z 0 (.slice C cn cd);have f0:=G4.frozen 0))
   have Pt:cH w4 A4 (bT x.dE t).length c4_ (bT x.dE t):=hn4 ▸ hs4;obtain⟨W5,Bd⟩:=zE (w4.setCell ⟨wr.heap.size,0,none⟩ (.slice A4 (bT x.dE t).length c4_));rw[<-Bd];have U5:ah (λk=>k=wr.heap.size) w4 W5:=by rw[Bd];exact(ah.refl (λk=>k=wr.heap.size) w4).setCell (p:=⟨wr.heap.size,0,none⟩) (.inl rfl) _
   have G5:ai W5 wr.heap.size jq (bl A4 (bT x.dE t).length c4_ D dn dc x.cM x.nM):=by rw[Bd];exact G4.aX 0 _
   have hz3:wr.heap.size+1<=w3.heap.size:=by have h1:=E2.size;have h2:=G3.lt;omega
   have KO:∀q,(Value.slice A3 n3 c3).ownBlock=some q->wr.heap.size<q:=λq e=>by have h1:=(O3.lt q e).1;simp at h1;omega
   have B5:Bl wr W5:=((((ah.aa B3:ah (λ_=>False) wr w3).trans U4 (λq e=>.inr (aU3 (KO q e)))).trans U5 (λq e=>.inr (Nat.le_of_eq e.symm))).below (λ_ h=>h.elim) lR);have KA4:∀a:Addr,A4=some a->wr.heap.size<a.block:=λa e=>by subst e;have h1:=(O4.lt a.block rfl).1;simp at h1;omega
   have S5:=aV Pt U5 (λa e hh=>oH (KA4 a e));have:=HY.lt;have V5:Bj W5 (λk=>S k\/k=w.heap.size+1) (.agg (bl A4 (bT x.dE t).length c4_ D dn dc x.cM x.nM)) (sV t x):=⟨A4,_,c4_,D,dn,dc,rfl,S5,(af IL B5),λa e _ hh=>by have h1:=KA4 a e;have h2:=nR _ hh;omega,HD⟩;have Z5:=HB.call B5;have M5:=HF.upd (T:=λ_=>False) (ah.aa B5) (λ_ h=>h.elim) id;clear Bd U5 S5 KA4 KO hs4 g0 f0 G4 G3 G2 O3 O4 U4 B3 E2 Ls HDf Pt hl c4 q0 vY IL HD hz3;refine zr (λj=>[6].contains j) (λwS=>Bl W5 wS) ?_;have S0:=(Below.refl W5.heap.size W5).drew;refine zk 2 [0,1,2,3,4] [_,_,_,.map (some mp),_] (.q zX<|.q zX<|.q zX<|.q (zS λ_ h=>(Z5.blk.call h).z 4 (.map (some mp)))<|.e) S0 ?_;refine zk 1 [5] [_] (.c rfl rfl (zl λ_ h=>zb (G5.call h) underlying45) .nil) S0 ?_;refine aq _ _ _ _ kZ ?_;refine zO 6 (λQ2 aI=>?_);go_wp2_with(refine df fI _ rfl _ _ _ mj rfl jq bZ mp f m.ks rfl (M5.map.call (S0)) (by have:=H0.b.len;unfold maxLen;omega) s rfl HGs _ rfl ?_;intro w6 HM6 HG6;have HS6:=S0);(try refine aI _ _ ?_);(try clear aI Q2)
   refine wpAny_done kZ ?_ _;have hmw:=HMw;have U0:ah (λk=>k=mp) W5 w6:=(ah.aa HS6).grown HG6 (λk e=>by injection e with e;exact .inl e.symm);have U6:ah (λk=>k=mp) wr w6:=(ah.aa B5:ah (λk=>k=mp) wr W5).trans U0 iL;have M6:=HF.put HM6 (U6.mono (λk e=>e ▸ Z5.sm)) (V5.upd (U0.mono (λk e=>e ▸ Z5.sm)));clear HG6 HS6 HM6 M5 G5 S0 hmw;go_wp2;go_roundw
   case rel=>exact⟨k+1,yT M' s (sV t x),oM,by go_num,⟨(Z5.blk.upd U0 Z5.ne),by have h9:=M6;rw[Wv HIn]at h9;exact⟨_,h9⟩,Z5.sg,Z5.sm,Z5.ne,Z5.len,Z5.i64⟩,fG▸HT.next HNk HX.out,HU.trans U6 iL,((HY.call B5).upd U0 oM),((zZ.call B5).upd U0 oM)⟩
   case measure=>simp[intOf];omega
  ·have: ¬(k:Int)<(n1:Int):=oM
   have DJ:k=n1:=oM
   have hM:M' = λs=>(m.M s).map (sV t):=by
    funext s
    have h1:=HT;rw[aB5 (oH Xx)]at h1
    by_cases hs:s∈ids
    ·exact h1.1 s hs
    ·obtain⟨f,hf⟩:=H0.b.map
     have h2:m.M s=none:=by
      rw[hf.none];cases hfs:f s with
      |none=>rfl
      |some v=>exact absurd ((y7 m.ks s).2 ((hf.map.mem s).2 (by rw[hfs];rfl))) (ak7▸hs)
     rw[h1.2 s hs,h2];rfl
   have HM2:=hM;have:=DJ;clear hM DJ;go_wp2_with(refine zJ HY ?_;intro w9 X9 G9);have:=HGw.1;have:=HMw;have U1:ah (λk=>k=mp) w wr:=(ah.aa B1:ah (λk=>k=mp) w w1).trans HU iL;have U9:ah (λk=>k=w.heap.size+1) wr w9:=ah.bE G9;have U:ah (λk=>k=mp) w w9:=U1.trans U9 (λk e=>.inr oM);obtain⟨f,hf⟩:=HB.map;have hb:=HB;have hF:dg w9 (λk=>S k\/k=w.heap.size+1) g mp A n cc l {m with M:=λs=>(m.M s).map (sV t)}:=⟨⟨hb.blk.upd U9 oM,⟨f,by
    rw[<-HM2];exact⟨hf.map.grown G9 (by intro h;injection h;omega),hf.none,λs x hx=>by
     obtain⟨v,h1,h2⟩:=hf.some s x hx;exact⟨v,h1,h2.upd (U9.mono (λk e=>.inr e))⟩⟩⟩,hb.sg,hb.sm,hb.ne,hb.len,hb.i64⟩,H0.cuts.upd (U.mono (λk e=>e ▸ hb.sm)),H0.n⟩
   exact zU X9 underlying70 ⟨rfl,A,n,cc,l,hF.ext (λk hk=>.inl (.inl hk)) HGw.2.1 HGw.2.2,U⟩
def Rh(t:Int)(h:dg w S g mp A n cc l m)(ey:∀k,S k->k<w.heap.size)(hm:iy m)(qd:aw t) :
 Calls prog 60 #[pt g,I6 t] w (y5 S g mp (m.trim t) w):=by
 unfold Fm.trim
 by_cases ht:t<0
 ·rw[if_pos ht]
  exact(BB t h ht).mono λe w' ⟨h1,h2⟩=>⟨h1,A,n,cc,l,h.call h2,ah.aa h2⟩
 ·rw[if_neg ht]
  exact(EI t h ey hm oM qd).mono λe w' ⟨h1,A',n',c',l',h2,h3⟩=>⟨h1,A',n',c',l',h2,h3.mono λk e=>.inr e⟩
end
end
theorem sZ{S:Nat->Prop}{g mp:Nat}{A:Option Addr}{cc:Nat}{l:List fF}{m:Fm}(x:ak)(h:dg w S g mp A n cc l m)(ey:∀k,S k->k<w.heap.size)(hm:iy m)(hx:bM x)(hK:x.k=1\/x.k=6\/x.k=5\/x.k=7\/x.k=2\/x.k=3\/x.k=4)(hid:x.k=2\/x.k=3\/x.k=4\/eO x.s=true):
 Calls prog 22 #[pt g,.agg x.row] w (y5 S g mp (m.do x) w):=by
 have hgw:g<w.heap.size:=h.b.blk.lt;have hmw:mp<w.heap.size:=by obtain⟨f,hf⟩:=h.b.map;exact hf.map.lt
 have H0:=h.az3;obtain⟨R,hR⟩:=zE (m.do x);rw[<-hR];unfold Fm.do at hR;rw[if_neg oM,if_neg (by rintro⟨h1,h2⟩;rcases hid with e|e|e|e<;>first|omega|(rw[e]at h2;cases h2))]at hR
 obtain⟨k0,s0,t0,v0,h0,p0⟩:=x;dsimp only at hK hid hR;have ZV:=(λW=>iN s0 W hx.s);have BX:=(ai.new w eZ (aj k0 s0 t0 v0 h0 p0)).alloc (.cells zR dv);have BY:=ai.dR w (.cells (aj k0 s0 t0 v0 h0 p0) eZ) dv zR;have EX:=(zW w (.cells (aj k0 s0 t0 v0 h0 p0) eZ)).alloc sI (.cells zR dv);have TF:=(λW (hb:Bl w W)=>pM (H0.call hb).b.blk);have nR:=(λ(W:World)(hs:w.heap.size+1<W.heap.size)=>(show ∀k,FlX S (w.heap.size+1) k->k<W.heap.size from λk hk=>hk.elim (λe=>by have:=ey k e;omega) (λe=>by omega)));have HR:=zD hR.symm;have hSg:=h.b.sg;have hSm:=h.b.sm;clear h hR ey;rcases hK with rfl|rfl|rfl|rfl|rfl|rfl|rfl<;>simp at hid<;>(first|(have e0:cT s0=0:=(by unfold cT;rw[if_pos hid]);rw[e0]at ZV)|(generalize cT s0=IE at *))
 all_goals
  go_enter func22,ntmps22;go_wp2_with(first
  |refine zI X2 underlying65 ?_
  |go_at_call 58;refine zM (ZV _) λw1 hb1=>?_;have B1:=zT EX hb1;have X1:=BX.call hb1;have Y1:=BY.call hb1;have r0:=X1.z 0 (I6 _)
  |go_at_call 38;refine zM (TF _ B1) λw2 hb2=>?_;have B2:=zT B1 hb2;have X2:=X1.call hb2;have Y2:=Y1.call hb2;have r0:=X2.z 0 (I6 _);have r1:=X2.z 1 (.string s0);have r2:=X2.z 2 (I6 t0);have r4:=X2.z 4 (I6 h0)
  |go_at_call 59;refine(Jo _ (H0.call B2) (nR _ Y2.lt) hm hx).mono ?_;intro e w5 hh;obtain⟨rfl,A5,n5,c5_,l5,F5,U5⟩:=y5.nm hh HR.out;have Y5:=Y2.upd U5 (λe=>by rcases e with e|e<;>omega)
  |go_at_call 64;refine(Wm _ (H0.call B2) (nR _ Y2.lt) hm hx).mono ?_;intro e w5 hh;obtain⟨rfl,A5,n5,c5_,l5,F5,U5⟩:=y5.nm hh HR.out;have Y5:=Y2.upd U5 (λe=>by rcases e with e|e<;>omega)
  |go_at_call 61;refine(Mp (H0.call B2) (nR _ Y2.lt) hm).mono ?_;intro e w5 hh;obtain⟨rfl,A5,n5,c5_,l5,F5,U5⟩:=y5.nm hh HR.out;have Y5:=Y2.upd U5 (λe=>by rcases e with e|e<;>omega)
  |go_at_call 62;refine(Mr h0 (H0.call B2) (nR _ Y2.lt) hx.h).mono ?_;intro e w5 hh;obtain⟨rfl,A5,n5,c5_,l5,F5,U5⟩:=y5.nm hh HR.out;have Y5:=Y2.upd U5 (λe=>by rcases e with e|e<;>omega)
  |go_at_call 60;refine(Rh t0 (H0.call B2) (nR _ Y2.lt) hm hx.t).mono ?_;intro e w5 hh;obtain⟨rfl,A5,n5,c5_,l5,F5,U5⟩:=y5.nm hh HR.out;have Y5:=Y2.upd U5 (λe=>by rcases e with e|e<;>omega)
  |go_at_call 63;refine((Q9 _ (H0.call B2) hm.ok hx).mono (λe w' hh=>(show y5 (FlX S (w.heap.size+1)) g mp (m.look s0 h0 t0 v0,m) w2 e w' from⟨hh.1,A,n,cc,l,(H0.call B2).call hh.2,ah.aa hh.2⟩))).mono ?_;intro e w5 hh;obtain⟨rfl,A5,n5,c5_,l5,F5,U5⟩:=y5.nm hh HR.out;have Y5:=Y2.upd U5 (λe=>by rcases e with e|e<;>omega)
  |go_at_call 65;obtain⟨f,hf⟩:=(H0.call B2).b.map;refine((QY (H0.call B2).b.blk hf s0 hx.s).mono (λe w' hh=>(show y5 (FlX S (w.heap.size+1)) g mp (m.read s0,m) w2 e w' from⟨hh.1,A,n,cc,l,(H0.call B2).call hh.2,ah.aa hh.2⟩))).mono ?_;intro e w5 hh;obtain⟨rfl,A5,n5,c5_,l5,F5,U5⟩:=y5.nm hh HR.out;have Y5:=Y2.upd U5 (λe=>by rcases e with e|e<;>omega)
  |(refine zJ Y5 ?_;intro w9 X9 G9))
  refine zU X9 underlying70 ⟨rfl,A5,n5,c5_,l5,F5.fin G9 hgw hmw hSg hSm,((ah.aa B2:ah (eG g mp) w _).trans U5 iL).grown G9 (λk e=>by injection e;omega)⟩
section
def WE{P:Program}{a:Act}{o:Oper}{op:BinOp}{ty ty2:TypeId}{x y:Operand}{u v r:Value}{w:World}(ho:o.op=.binOp op ty x y ty2)(hx:a.eval x=u)(hy:a.eval y=v)(hg:(eqGuard op ty x y u v).run P w=.ok () w)(h:(binOp op ty u v).run P w=.ok r w):(execOp a.eval o).run P w=.ok (.value r) w:=by
 unfold execOp;simp only[ho,hx,hy,Sem.run_bind,hg,h,Result.andThen_ok,Sem.run_pure]
section
variable{w w' : World}{g mp:Nat}{A:Option Addr}{n cc:Nat}{l:List fF}{m:Fm}
def aa3{S:Nat->Prop}(x:ak)(h:dg w S g mp A n cc l m)(ey:∀k,S k->k<w.heap.size)(hm:iy m)(hx:bM x) :
 Calls prog 22 #[pt g,.agg x.row] w (y5 S g mp (m.do x) w):=by
 by_cases hk:x.k<1\/8<x.k
 ·exact EG x h hk
 by_cases hn:x.k=1\/x.k=6\/x.k=5\/x.k=7
 ·cases hid:eO x.s
  ·exact Ms x h hx hn hid
  ·exact sZ x h ey hm hx oM (.inr (.inr (.inr hid)))
 ·rcases(show(x.k=2\/x.k=3\/x.k=4)\/x.k=8 by omega)with e|e
  ·exact sZ x h ey hm hx oM oM
  ·exact EH x h hx e
theorem Rm(s:ByteArray)(a:aU)(h:dg w (eG g mp) g mp A n cc l m)(hm:iy m)(hs:s.size<=maxLen) :
 Calls prog 102 #[pt g,.string s,.agg (cI a)] w λe w'=>e=.returned (.bool (m.note s a).1)/\∃A n cc l,dg w' (eG g mp) g mp A n cc l (m.note s a).2/\ah (eG g mp) w w':=by
 have:g<w.heap.size:=h.b.blk.lt;have:mp<w.heap.size:=by obtain⟨f,hf⟩:=h.b.map;exact hf.map.lt
 unfold Fm.note;cases hM:m.M s with
 |none=>exact(Ez s a h.b hs hM).mono λe w' ⟨h1,h2⟩=>⟨h1,A,n,cc,l,h.call h2,ah.aa h2⟩
 |some x=>
  have:=hm.ok.ld s x hM;exact(Bq s a x h.b (λk hk=>by rcases hk with e|e<;>omega) hm.ok.py hs hM oM oM).mono λe w' ⟨h1,h2⟩=>⟨h1,A,n,cc,l,vC.at_ h hm.ks h2⟩
def iz(m:Fm)(e:Ev)(s:ByteArray):Bool×Fm:=if e.kind=2 then(decide ((m.do e.call).1=e.rep),(m.do e.call).2)else if e.kind=6 then m.note s e.ei else(true,m)
def ApR(g mp:Nat)(r:Bool×Fm)(w:World)(e:Ending)(w' : World):Prop:=e=.returned (.bool r.1)/\∃A n cc l,dg w' (eG g mp) g mp A n cc l r.2/\ah (eG g mp) w w'
def aa4{w:World}{g:Nat}{e:Ev}(h:ai w g eL e.row):w.rangeAt g 3 e.call.row.toList:=λj v hv=>by
 have h2:j<11:=sH (d9.1 hv).1
 rw[(h.cell (3+j)),<-hv];rcases(show j=0\/j=1\/j=2\/j=3\/j=4\/j=5\/j=6\/j=7\/j=8\/j=9\/j=10 by omega)with rfl|rfl|rfl|rfl|rfl|rfl|rfl|rfl|rfl|rfl|rfl<;>rfl
theorem td(e:Ev)(h:dg w (eG g mp) g mp A n cc l m)(hm:iy m)(hx:bM e.call)(hk:e.kind=2) :
 Calls prog 37 #[pt g,.agg e.row] w (ApR g mp (decide ((m.do e.call).1=e.rep),(m.do e.call).2) w):=by
 have:g<w.heap.size:=h.b.blk.lt;have:mp<w.heap.size:=by obtain⟨f,hf⟩:=h.b.map;exact hf.map.lt
 have BX:=ai.new w eL e.row;have EX:=zW w (.cells e.row eL);have HDo:=(λW (hb:Bl w W)=>aa3 e.call (h.call hb) (λk hk=>by have:=hb.size;rcases hk with e|e<;>omega) hm hx);have k0:=BX.z 0 (I6 e.kind);rw[hk]at k0;generalize m.do e.call=R at *;clear h hm hx hk;go_enter func37,ntmps37;go_upto_region 3 with fail
 have mW:¬eG g mp w.heap.size:=λe=>by rcases e with e|e<;>omega
 generalize w.alloc (.cells e.row eL)=W0 at *;clear k0;refine zr (λ_=>false) (λwS=>ah (eG g mp) W0 wS) ?_;have S0:=(ah.refl (eG g mp) W0).drew;refine zk 3 [0,1,2,4,5] [_,_,.agg e.call.row,_,.agg e.rep.row] (.c rfl rfl zPP<|.c rfl rfl zPP<|.c rfl rfl (zl λ_ h=>aF (ty:=eZ) (x:=.tmp 12) rfl rfl (run_loadAt_mid _ _ _ _ _ _ (aa4 (BX.upd h mW)) underlying65 rfl kZ))<|.c rfl rfl zPP<|.c rfl rfl (zl λ_ h=>aF (ty:=dv) (x:=.tmp 15) rfl rfl (run_loadAt_mid _ _ _ _ _ _ (Mz (BX.upd h mW)) underlying70 rfl kZ)) .nil) S0 ?_;refine zQ 3 ?_;go_wp2_with(go_at_call 22;refine(HDo _ (below_drewN EX 1)).mono ?_;rintro e5 w5 ⟨rfl,A5,n5,c5,l5,F5,Co⟩);refine .i (S0.trans Co iL) ?_;have S5:=S0.trans Co iL;refine zk 0 [6,7] [.bool (decide (R.1=e.rep)),_] (.c rfl rfl (zl λW1 _=>WE rfl rfl rfl (by first|rfl|(go_simp;done)|kernel_rfl) (ZX R.1 e.rep W1))<|.f) S5 ?_;refine zd ?_;have U:=(ah.aa EX:ah (eG g mp) w W0).trans S5 iL;go_wp2;go_ret;exact⟨rfl,A5,n5,c5,l5,F5,U⟩
theorem uP(e:Ev)(s:ByteArray)(h:dg w (eG g mp) g mp A n cc l m)(hm:iy m)(hid:eO s=true)(hkey:e.key=⟨aO s,aP s⟩)(hk:e.kind=6) :
 Calls prog 37 #[pt g,.agg e.row] w (ApR g mp (m.note s e.ei) w):=by
 have BX:=ai.new w eL e.row;have EX:=zW w (.cells e.row eL);have Ks:=(λW (hb:Bl w W)=>Rm s e.ei (h.call hb) hm (by have:=(pB hid).1;unfold maxLen;omega));have HUn:=(λW=>EK s hid W);have k0:=BX.z 0 (I6 e.kind);rw[hk]at k0;have:=BX.ar (i:=27) (v:=V6 (aO s:Nat)) (by show some (V6 (e.key.hi:Int))=_;rw[hkey]);have:=BX.ar (i:=28) (v:=V6 (aP s:Nat)) (by show some (V6 (e.key.lo:Int))=_;rw[hkey]);generalize m.note s e.ei=R at *;clear h hm hk hkey hid;go_enter func37,ntmps37;go_upto_region 6 with(go_at_call 47;refine(HUn _).mono ?_;rintro e1 w1 ⟨rfl,hb1⟩;have B1:=zT EX hb1;have X1:=BX.call hb1;clear hb1)
 have:=X1.z 29 (I6 e.ei.tick);have:=X1.z 30 (I6 e.ei.load);have:=X1.z 31 (I6 e.ei.want);have:=X1.z 32 (I6 e.ei.aQ);have:=X1.z 33 (I6 e.ei.why);go_wp2_with(go_at_call 102;refine(Ks _ B1).mono ?_;rintro e5 w5 ⟨rfl,A5,n5,c5,l5,hf5,Co⟩);go_ret;exact⟨rfl,A5,n5,c5,l5,hf5,(ah.aa B1:ah (eG g mp) w _).trans Co iL⟩
theorem uQ(e:Ev)(h:dg w (eG g mp) g mp A n cc l m)(hk:e.kind≠2)(hk6:e.kind≠6) :
 Calls prog 37 #[pt g,.agg e.row] w (ApR g mp (true,m) w):=by
 have EX:=zW w (.cells e.row eL);have H0:=h.call EX;have E0:=EX;have:=(ai.new w eL e.row).z 0 (I6 e.kind);have:(e.kind==2)=false:=sH hk
 have:(e.kind==6)=false:=sH hk6
 clear h hk hk6 EX;go_enter func37,ntmps37;go_wp2;go_ret;exact⟨rfl,A,n,cc,l,H0,ah.aa E0⟩
end
end
section
structure aa5(m:Fm)(e:Ev)(s:ByteArray):Prop where
 room:iy m
 call:e.kind=2->bM e.call
 note:e.kind=6->eO s=true/\e.key=⟨aO s,aP s⟩
def Ju(m:Fm)(l:List (Ev×ByteArray)):Fm:=l.foldl (λm p=>(iz m p.1 p.2).2) m
def zg{m:Fm}{l:List (Ev×ByteArray)}{k:Nat}{p:Ev×ByteArray}(h:l[k]? = some p):Ju m (l.take (k+1))=(iz (Ju m (l.take k)) p.1 p.2).2:=by
 unfold Ju;rw[List.take_succ,h,aU5]
 rfl
section
variable{w w' : World}{g mp:Nat}{A:Option Addr}{n cc:Nat}{l:List fF}{m:Fm}
def vE(e:Ev)(s:ByteArray)(h:dg w (eG g mp) g mp A n cc l m)(ok:aa5 m e s) :
 Calls prog 37 #[pt g,.agg e.row] w (ApR g mp (iz m e s) w):=by
 unfold iz
 by_cases h2:e.kind=2
 ·rw[if_pos h2]
  exact td e h ok.room (ok.call h2) h2
 by_cases h6:e.kind=6
 ·rw[if_neg h2,if_pos h6]
  exact uP e s h ok.room (ok.note h6).1 (ok.note h6).2 h6
 ·rw[if_neg h2,if_neg h6]
  exact uQ e h h2 h6
def dg.new{w:World}{g mp:Nat}{c:aM}(h1:ai w g Bi (fN c mp (.slice none 0 0) 0 false))(h2:bP fI w mp (λ_=>none) [])(hne:g≠mp)(hf:c.fit):dg w (eG g mp) g mp none 0 0 [] (Fm.new c):=
 ⟨⟨h1,⟨_,h2,λs=>⟨λ_=>rfl,λ_=>rfl⟩,λs x hx=>(by cases hx)⟩,.inl rfl,.inr rfl,hne,aB6 _,⟨hf.1,hf.2.2.1⟩⟩,⟨⟨rfl,aC2 _,aB6 _,λ_=>⟨rfl,rfl⟩,λa ha=>(by cases ha)⟩,λa ha=>(by cases ha),rfl,λi x k h=>(by simp at h)⟩,aB6 _⟩
theorem EM(c:aM)(A:Option Addr)(n cap:Nat)(es:List Ev)(ids:List ByteArray)(w:World)(hs:gS w A n cap es)(hf:c.fit)(hc:c.gV)(hn:n<=100000)(hl:ids.length=n)
 (a8:∀(k:Nat)(p:Ev×ByteArray),(es.zip ids)[k]? = some p->aa5 (Ju (Fm.new c) ((es.zip ids).take k)) p.1 p.2/\(iz (Ju (Fm.new c) ((es.zip ids).take k)) p.1 p.2).1=true) :
 Calls prog 98 #[.agg c.row,.slice A n cap] w (Rt (I6 (-1)) (Bl w)):=by
 have HS:=hs;have:es.length=n:=hs.1;have:=hl;have kh:=a8;have HFt:=hf;have EX:=zW w (.cells c.row 23);have mW:=(λW=>Jg c W hf hc);have HZ:∀(k:Nat)(e:Ev),es[k]? = some e->∃s,(es.zip ids)[k]? = some (e,s):=λk e he=>by
  have h1:k<ids.length:=oI (d9.1 he).1 hs.1
  exact⟨ids[k],by rw[List.getElem?_zip_eq_some];exact⟨he,aB3 h1⟩⟩
 generalize es.zip ids=zs at *;clear hs hl a8 hf hc;go_enter func98,ntmps98;go_wp2_with(first
  |refine zI (ai.new w 23 c.row) underlying23 ?_
  |(go_at_call 20;refine(mW _).mono ?_;rintro e w1 ⟨g,mp,rfl,hb1,Cv,hg1,hp1,hne1,WG⟩;have B1:=zT EX WG;have F1:=dg.new hb1 Cv hne1 HFt;have K1:=And.intro (aB4 EX.size hg1) (aB4 EX.size hp1);clear hb1 Cv hg1 hp1 hne1 WG))
 go_loopw[12] (λis wr=>∃(k:Nat)(A' : Option Addr)(n' c' : Nat)(l' : List fF),k<=n/\is = I6 (k:Int)/\dg wr (eG g mp) g mp A' n' c' l' (Ju (Fm.new c) (zs.take k))/\Bl w wr) (λis _=>n-(intOf is).toNat)
 case atStart=>exact⟨0,none,0,0,[],aB6 _,rfl,F1,B1⟩
 case round=>
  obtain⟨k,A',n',c',l',hk,rfl,xB,hb⟩:=hrel;have HF:=xB;have HB:=hb;clear xB hb
  by_cases hlt:k<n
  ·have:(k:Int)<(n:Int):=oM
   obtain⟨b,off,e,rfl,he,fH,hcl⟩:=ag.at_ (af HS HB) hlt;have mC:wr.rangeAt b (off+k*34) e.cells:=λj v hv=>by have h9:=hcl j v hv;rw[<-aD9]at h9;exact h9
   obtain⟨s,hz⟩:=HZ k e he;have fG:=zg (m:=Fm.new c) hz;obtain⟨hk1,hk2⟩:=kh k (e,s) hz;have RV:=zh (λW (hb:Bl wr W)=>by
    have h9:=vE e s (HF.call hb) hk1;unfold ApR at h9;rw[show(iz (Ju (Fm.new c) (zs.take k)) e s).1=true from hk2]at h9;exact h9)
   have hg0:w.heap.size<=g/\w.heap.size<=mp:=K1;have HK:=hg0;clear he hcl hz hk1 hk2 hg0;go_upto_region 5 with(first
    |refine wpList_load_mid rfl eL (.tmp 15) rfl b (off+k*34) rfl e.cells _ mC underlying93 rfl kZ ?_
    |(refine wpList_store_row rfl eL (.tmp 7) (.tmp 16) rfl wr.heap.size eL _ _ rfl rfl (ai.new wr eL CM) rF kZ (wQ e) ?_;intro w2 hb2 hg2))
   have E2:=zW wr (.cells CM eL) |>.grown hg2 sI (λk e=>by injection e;omega)
   have X2:ai w2 wr.heap.size eL e.row:=hb2;clear hb2 hg2 fH;go_wp2_with(first
    |refine zI X2 underlying93 ?_
    |(go_at_call 37;refine(RV _ E2).mono ?_;rintro e5 w5 ⟨rfl,A5,n5,c5,l5,F5,U5⟩))
   have dx:Bl w w5:=HB.trans ((((ah.aa E2:ah (eG g mp) wr w2).trans U5 iL).below (B:=w.heap.size) (λk e=>Or.elim e (λe=>e ▸ HK.1) (λe=>e ▸ HK.2)) HB.size));go_roundw
   case rel=>exact⟨k+1,A5,n5,c5,l5,oM,by go_num,fG▸F5,dx⟩
   case measure=>simp[intOf];omega
  ·have: ¬(k:Int)<(n:Int):=oM
   go_wp2;go_ret;exact⟨rfl,HB⟩
end
end
theorem EN(c:aM)(A:Option Addr)(n cap:Nat)(es:List Ev)(ids:List ByteArray)(w:World)(hs:gS w A n cap es)(hf:c.fit)(hc:c.gV)(hn:n<=100000)(hl:ids.length=n)
 (hRi:∀W,Bl w W->Calls prog 96 #[.slice A n cap] W (Rt (.bool true) (Bl W)))
 (hTo:∀W,Bl w W->Calls prog 97 #[.slice A n cap] W (Rt (.bool true) (Bl W)))
 (a8:∀(k:Nat)(p:Ev×ByteArray),(es.zip ids)[k]? = some p->aa5 (Ju (Fm.new c) ((es.zip ids).take k)) p.1 p.2/\(iz (Ju (Fm.new c) ((es.zip ids).take k)) p.1 p.2).1=true) :
 Calls prog 34 #[.agg c.row,.slice A n cap] w (Rt (.bool true) (Bl w)):=by
 have BX:=ai.new w 23 c.row;have EX:=zW w (.cells c.row 23);have HRi:=hRi;have HTo:=hTo;have HRe:=(λW (hb:Bl w W)=>EM c A n cap es ids W (af hs hb) hf hc hn hl a8);clear hs hRi hTo a8 hf hc hl;go_enter func34,ntmps34;go_wp2_with(first
  |go_at_call 96;refine zM (HRi _ EX) λw1 hb1=>?_;have B1:=zT EX hb1;have X1:=BX.call hb1;clear hb1
  |refine dF rF ?_;go_at_call 97;refine zM (HTo _ B1) λw2 hb2=>?_;have B2:=zT B1 hb2;have X2:=X1.call hb2;clear hb2
  |go_at_call 97;refine zM (HTo _ B1) λw2 hb2=>?_;have B2:=zT B1 hb2;have X2:=X1.call hb2;clear hb2
  |refine dF rF ?_;refine zI X2 underlying23 ?_
  |(go_at_call 98;refine zM (HRe _ B2) λw3 hb3=>?_;have B3:=zT B2 hb3;clear hb3))
 go_ret;exact⟨rfl,B3⟩
section
structure LdF(c:aM)(x:kT):Prop where
 len:x.dE.length<=c.dE.toNat
 good:∀y∈x.dE,y.good
 past:x.past.length<=c.iI.toNat
 rep:∀a∈x.past,aw a.aQ
 cM:aw x.cM.min
structure rB(c:aM)(m:Fm)(n:Nat):Prop where
 cfg:m.cfg=c
 ld:∀s x,m.M s=some x->LdF c x
 cut:∀k,some k∈m.cuts->∀s x,k.M s=some x->LdF c x
 ks:m.ks.length<=n
 cn:m.cuts.length<=n
 ep:0<=m.ep/\m.ep<=n
section
variable{c:aM}{m:Fm}{n:Nat}
def rB.new(c:aM):rB c (Fm.new c) 0:=⟨rfl,λs x h=>(by cases h),λk h=>(by cases h),aC2 _,aC2 _,by show(0:Int)<=0/\(0:Int)<=0;omega⟩
def rB.mono(h:rB c m n){k:Nat}(hk:n<=k):rB c m k:=⟨h.cfg,h.ld,h.cut,aB4 h.ks hk,aB4 h.cn hk,h.ep.1,oH h.ep.2⟩
def rB.room(h:rB c m n)(hc:c.gV)(hn:n<90000):iy m:=by
 have h1:∀x,LdF c x->x.dE.length<=256/\(∀y∈x.dE,y.good)/\x.past.length<=1000:=λx hx=>by
  obtain⟨-,-,h2,-,-,-,h3⟩:=hc;exact⟨oH hx.len,hx.good,oH hx.past⟩
 exact⟨⟨h.cfg ▸ hc,λs x hx=>h1 x (h.ld s x hx),λk hk s x hx=>h1 x (h.cut k hk s x hx),oH h.ks,h.ep.1,oH h.ep.2⟩,oH h.ks,oH h.cn⟩
def rB.put(h:rB c m n)(s:ByteArray)(hx:LdF c x):rB c (m.put s x) (n+1):=
 ⟨h.cfg,λs' y hy=>by
  change yT m.M s x s' = some y at hy;unfold yT at hy
  split at hy
  ·injection hy with hy;subst hy;exact hx
  ·exact h.ld s' y hy,h.cut,by have:=jG m.ks s;have:=h.ks;show(cE m.ks s).length<=n+1;omega,aD3 h.cn,h.ep.1,by have:=h.ep.2;show m.ep<=((n+1:Nat):Int);omega⟩
theorem rB.get(h:rB c m n)(s:ByteArray):LdF c (m.get s):=by
 unfold Fm.get;cases hx:m.M s with
 |none=>exact⟨aB6 _,λy hy=>(by cases hy),aB6 _,λy hy=>(by cases hy),(show aw 0 by unfold aw;decide)⟩
 |some x=>exact h.ld s x hx
theorem rB.do_(h:rB c m n)(hc:c.gV){x:ak}(hx:bM x):rB c (m.do x).2 (n+1):=by
 have h0:=h.mono (aC5 n);unfold Fm.do
 split
 ·exact h0
 split
 ·exact h0
 split
 ·unfold Fm.eD
  split
  ·exact h0
  split
  ·exact h0
  ·have hg:=h.get x.s
   refine h.put x.s ⟨?_,Pb _ (λy hy=>?_),hg.past,hg.rep,hg.cM⟩
   ·rw[h.cfg]
    exact xI (by obtain⟨-,h2,-⟩:=hc;omega) _
   ·rcases aD1.1 hy with hy|hy
    ·exact hg.good y hy
    ·simp at hy;subst hy;exact⟨hx.t,hx.v⟩
 split
 ·unfold Fm.trim
  split
  ·exact h0
  ·refine⟨h.cfg,λs y hy=>?_,h.cut,aD3 h.ks,aD3 h.cn,h0.ep⟩
   change(m.M s).map (sV x.t)=some y at hy;cases hm:m.M s with
   |none=>rw[hm]at hy;cases hy
   |some z=>
    rw[hm]at hy;injection hy with hy
    subst hy;have hz:=h.ld s z hm;exact⟨aB4 (aE7 _ _) hz.len,λy hy=>hz.good y (aD5.1 hy).1,hz.past,hz.rep,hz.cM⟩
 split
 ·unfold Fm.snap
  split
  ·exact h0
  ·refine⟨h.cfg,h.ld,λk hk=>?_,aD3 h.ks,?_,?_⟩
   ·rcases aD1.1 hk with hk|hk
    ·exact h.cut k hk
    ·simp at hk;subst hk;exact h.ld
   ·show(m.cuts++_).length<=n+1
    have:=h.cn;simp;omega
   ·have:=h.ep
    show 0<=m.ep+1/\m.ep+1<=((n+1:Nat):Int)
    omega
 split
 ·unfold Fm.free
  split
  ·refine⟨h.cfg,h.ld,λk hk=>?_,aD3 h.ks,?_,h0.ep⟩
   ·rcases aI1 hk with hk|hk
    ·exact h.cut k hk
    ·cases hk
   ·show(m.cuts.set _ _).length<=n+1
    rw[aF3];exact aD3 h.cn
  ·exact h0
 split
 ·exact h0
 split
 ·unfold Fm.set
  split
  ·exact h0
  split
  ·exact h0
  ·have hg:=h.get x.s
   exact h.put x.s ⟨hg.len,hg.good,hg.past,hg.rep,hx.p.1⟩
 split
 ·exact h0
 split
 ·exact h0
 ·exact⟨h.cfg,h.ld,h.cut,h0.ks,h0.cn,h0.ep⟩
theorem rB.note(h:rB c m n)(hc:c.gV)(s:ByteArray)(a:aU)(ha:aw a.aQ):rB c (m.note s a).2 (n+1):=by
 unfold Fm.note;cases hm:m.M s with
 |none=>exact h.mono (aC5 n)
 |some x=>
  have hx:=h.ld s x hm;refine h.put s ⟨hx.len,hx.good,?_,λy hy=>?_,hx.cM⟩
  rotate_left
  ·change y∈eV x.past m.cfg.iI.toNat a at hy
   unfold eV at hy;have h1:y∈x.past++[a]:=by
    split at hy
    ·exact aT4 hy
    ·exact hy
   rcases aD1.1 h1 with h1|h1
   ·exact hx.rep y h1
   ·simp at h1;subst h1;exact ha
  rw[h.cfg];exact(FP hx.past (by obtain⟨-,-,-,-,-,h5,-⟩:=hc;omega) a).1
end
end
end Go.Proofs.YtjgmjohiehbgaaaGreat
