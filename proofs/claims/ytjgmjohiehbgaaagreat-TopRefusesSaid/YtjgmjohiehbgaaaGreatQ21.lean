/- Part 21. -/
import Derived.Test.YtjgmjohiehbgaaaGreatQ19
namespace Go.Proofs.YtjgmjohiehbgaaaGreat
open Go.RowKit Go.Proofs.Tryz
set_option maxHeartbeats 20000000
set_option maxRecDepth 100000
set_option linter.all false
variable {A A2:Option Addr} {S S2:Nat->Prop} {a:Option Ld} {b:Option kT} {cc cc2 g g2 i k mp mp2 n n2:Nat} {id:ByteArray} {l:List aD} {l2:List fF} {m:Fm} {s:aL} {w:World} {x:Ld}
def aP3 {s t:ByteArray} (hs:eO s=true) (ht:eO t=true) (h1:aO s=aO t) (h2:aP s=aP t):s=t:=by
 have hc:∀i,i<20->(b9 s).getD i 0=(b9 t).getD i 0:=fun i hi=>by rw[<-Z9 s hs i hi,<-Z9 t ht i hi,h1,h2]
 have:=(pB hs).1;have:=(pB ht).1;have hz:∀u:ByteArray,∀i,u.size<=i->(b9 u).getD i 0=0:=fun u i hi=>by
  rw[aB7,aE1 (by rw[fS];exact hi)];rfl
 have hsz:s.size=t.size:=by
  rcases Nat.lt_trichotomy s.size t.size with h|h|h
  ·have:=(aa1 ht h).1;have e:=hc s.size oM;rw[hz s _ lR]at e;omega
  ·exact h
  ·have:=(aa1 hs h).1;have e:=hc t.size oM;rw[hz t _ lR]at e;omega
 have hb:R9 s=R9 t:=List.ext_getElem? fun i=>by
  by_cases hi:i<s.size
  ·rw[(aa1 hs hi).2.2,(aa1 ht (hsz ▸ hi)).2.2,hc i oM]
  ·rw[aE1 (by rw[nr];omega),aE1 (by rw[nr];omega)]
 rw[<-Ow s,<-Ow t,hb]
def aI8 (s:ByteArray):Key:=⟨aO s,aP s⟩
def aL2 {s t:ByteArray} (hs:eO s=true) (ht:eO t=true) (h:aI8 s=aI8 t):s=t:=by
 unfold aI8 at h;injection h with h1 h2
 exact aP3 hs ht h1 h2
structure SmE (room:Nat) (l:List aD):Prop where
 RP:pP l
 len:l.length<=room
 pos:∀y∈l,bU y.tick y.value=0
def aO2 (room:Nat):SmE room eF.dE:=⟨by simp[eF,pP],by simp[eF],fun y hy=>by simp[eF]at hy⟩
def aK4 (room:Nat) (l:List aD) (x:aD):xb room (l++[x])=nZ (xb room l) room x:=by
 unfold xb;rw[aU5];rfl
def aN3 {x:aD} (h:∀y∈l,y.tick<x.tick):rE l x=l++[x]:=by
 unfold rE xa rD;rw[filter_all (fun y hy=>sH (h y hy)),filter_none (fun y hy=>by have:=h y hy;simp;omega)]
theorem aN4 {room:Nat} (h:SmE room l):xb room l=l:=by
 obtain⟨h1,h2,h3⟩:=h
 induction l using su with
 |nil=>rfl
 |snoc l x ih=>
  have hp:=aH3.1 h1;have:l.length+1<=room:=sH h2
  rw[aK4,ih hp.1 oM (fun y hy=>h3 y (by simp[hy]))];unfold nZ;rw[if_pos (h3 x sI)];unfold nY;rw[aN3 (fun y hy=>hp.2.2 y hy x sI)];rw[if_neg sM]
structure LdE (x:Ld) (y:kT):Prop where
 dE:x.cL=y.dE
 past:x.past=y.past
 cM:x.cM=y.cM
 nM:x.ruled=y.nM
def aJ6:Option Ld->Option kT->Prop
 |none,none=>True
 |some x,some y=>LdE x y
 |_,_=>False
def aJ6.isSome (h:aJ6 a b):a.isSome=b.isSome:=by
 cases a<;>cases b<;>first|rfl|exact h.elim
def aJ6.cs (h:aJ6 a b):(a=none/\b=none)\/∃x y,a=some x/\b=some y/\LdE x y:=by
 cases a<;>cases b<;>first|exact h.elim|exact .inl ⟨rfl,rfl⟩|exact .inr ⟨_,_,rfl,rfl,h⟩
def aO3:Option ug->Option pV->Prop
 |none,none=>True
 |some a,some b=>a.bV=b.ep/\∀id,eO id=true->aJ6 (aJ a.dG (aI8 id)) (b.M id)
 |_,_=>False
def aO3.isSome {a:Option ug} {b:Option pV} (h:aO3 a b):a.isSome=b.isSome:=by
 cases a<;>cases b<;>first|rfl|exact h.elim
structure Eqv (s:aL) (m:Fm):Prop where
 cfg:m.cfg=s.cfg
 ld:∀id,eO id=true->aJ6 (aJ (s.str (s.home (aI8 id))).loads (aI8 id)) (m.M id)
 sm:∀id x,m.M id=some x->SmE m.cfg.dE.toNat x.dE
 ks:∀id,id∈m.ks↔(m.M id).isSome=true
 ok:∀id∈m.ks,eO id=true
 nd:m.ks.Nodup
 sub:∀i,i<s.strs.length->∀k∈(s.str i).keys,s.home k=i/\∃id,eO id=true/\k=aI8 id
 knd:∀i,i<s.strs.length->(s.str i).keys.Nodup
 aJ5:s.cuts.length=m.cuts.length
 cuts:∀i,aO3 (s.cuts.getD i none) (m.cuts.getD i none)
 ep:m.ep=s.bV
 over:m.over=s.over
abbrev EqR {α:Type} (a:α×aL) (b:α×Fm):Prop:=a.1=b.1/\Eqv a.2 b.2
def aK6 (ho:qj s n k) (hi:i<s.strs.length):(s.str i).cfg=s.cfg:=(ho.qm hi).1.cfg
def aN1 (ho:qj s n k) (a b:ByteArray):vB s.cfg a=vB s.cfg b↔s.home (aI8 a)=s.home (aI8 b):=by
 have h1:=(dW s (aI8 a) (cy ho)).1;have h2:=(dW s (aI8 b) (cy ho)).1;have e:∀u,vB s.cfg u=((s.home (aI8 u):Nat):Int):=fun u=>by
  have:=(dW s (aI8 u) (cy ho)).1;rw[ho.len]at this;exact this
 rw[e a,e b];omega
theorem Eqv.count (h:Eqv s m) (ho:qj s n k) (id:ByteArray) (hid:eO id=true):
 (s.str (s.home (aI8 id))).loads.length=sU m.cfg id m.ks:=by
 have hb:=(dW s (aI8 id) (cy ho)).2;have hp:((m.ks.filter fun o=>decide (vB m.cfg o=vB m.cfg id)).map aI8).Perm (s.str (s.home (aI8 id))).keys:=by
  refine(aU2 ?_ (h.knd _ hb)).2 fun j=>?_
  ·exact List.pairwise_map.2 (List.Pairwise.imp_of_mem (fun ha hb hne e=>hne (aL2 (h.ok _ (aD5.1 ha).1) (h.ok _ (aD5.1 hb).1) e)) (h.nd.filter _))
  ·constructor
   ·intro hj
    obtain⟨o,ho',rfl⟩:=aF2.1 hj;obtain⟨h1,h2⟩:=aD5.1 ho';have h3:s.home (aI8 o)=s.home (aI8 id):=(aN1 ho o id).1 (h.cfg▸of_decide_eq_true h2);have h4:=(h.ld o (h.ok o h1)).isSome;rw[(h.ks o).1 h1,h3]at h4;exact Decidable.of_not_not fun hn=>by rw[jV.2 hn]at h4;cases h4
   ·intro hj
    obtain⟨h1,o,h2,rfl⟩:=h.sub _ hb j hj;refine aF2.2 ⟨o,aD5.2 ⟨(h.ks o).2 ?_,decide_eq_true (h.cfg▸(aN1 ho o id).2 h1)⟩,rfl⟩;rw[<-(h.ld o h2).isSome,h1];cases hl:aJ (s.str (s.home (aI8 id))).loads (aI8 o)with
    |none=>exact absurd hj (jV.1 hl)
    |some x=>rfl
 have:=hp.length_eq;rw[aC8]at this;unfold sU;rw[this];unfold bF.keys;rw[aC8]
def aK5 (s:aL) (i:Nat) (x:bF) (k:Key):(s.et i x).home k=s.home k:=by unfold aL.home aL.et;simp
def Eqv.put (h:Eqv s m) (ho:qj s n k) (hid:eO id=true) {y:kT} (hx:LdE x y) (hy:SmE m.cfg.dE.toNat y.dE):
 Eqv (s.et (s.home (aI8 id)) ((s.str (s.home (aI8 id))).put (aI8 id) x)) (m.put id y):=by
 have hb:=(dW s (aI8 id) (cy ho)).2;have wB:((s.str (s.home (aI8 id))).put (aI8 id) x).keys=cE (s.str (s.home (aI8 id))).keys (aI8 id):=lY _ _ _;refine⟨h.cfg,fun o ho'=>?_,fun o z hz=>?_,fun o=>?_,fun o ho'=>?_,?_,fun i hi j hj=>?_,fun i hi=>?_,h.aJ5,h.cuts,h.ep,h.over⟩
 ·rw[aK5,wM]
  show aJ6 _ (yT m.M id y o)
  unfold yT
  by_cases e:o=id
  ·subst e
   rw[if_pos ⟨rfl,hb⟩,if_pos rfl]
   show aJ6 (aJ (rX _ _ _) _) _
   rw[lZ,if_pos rfl];exact hx
  ·rw[if_neg e]
   have hne:¬aI8 o=aI8 id:=fun hh=>e (aL2 ho' hid hh)
   split
   ·rename_i e2
    show aJ6 (aJ (rX _ _ _) _) _
    rw[lZ,if_neg hne,e2.1];exact h.ld o ho'
   ·exact h.ld o ho'
 ·change yT m.M id y o=some z at hz
  unfold yT at hz
  split at hz
  ·injection hz with hz;subst hz;exact hy
  ·exact h.sm o z hz
 ·show o∈cE m.ks id↔(yT m.M id y o).isSome=true
  rw[ee];unfold yT
  split
  ·rename_i e;subst e;simp
  ·rename_i e
   rw[h.ks o];simp[e]
 ·rcases(ee _ _ _).1 ho' with h1|h1
  ·exact h.ok o h1
  ·subst h1;exact hid
 ·show(cE m.ks id).Nodup
  unfold cE
  split
  ·exact h.nd
  ·rename_i e
   exact aH5.2 ⟨h.nd,sI,fun a ha b hb' e2=>by simp at hb';rw[hb']at e2;rw[e2]at ha;exact e ha⟩
 ·rw[aK5]
  have hi' : i<s.strs.length:=by simpa[aL.et]using hi
  rw[wM]at hj
  split at hj
  ·rename_i e
   rw[wB]at hj;rcases(ee _ _ _).1 hj with h1|h1
   ·rw[<-e.1];exact h.sub _ hb j h1
   ·subst h1;exact⟨e.1,id,hid,rfl⟩
  ·exact h.sub i hi' j hj
 ·have hi' : i<s.strs.length:=by simpa[aL.et]using hi
  rw[wM]
  split
  ·rw[wB]
   unfold cE
   split
   ·exact h.knd _ hb
   ·rename_i e
    exact aH5.2 ⟨h.knd _ hb,sI,fun a ha b hb' e2=>by simp at hb';rw[hb']at e2;rw[e2]at ha;exact e ha⟩
  ·exact h.knd i hi'
def Eqv.room (h:Eqv s m) (ho:qj s n k) (hid:eO id=true):
 (m.full id=true/\gH (s.str (s.home (aI8 id))) (aI8 id)=none)\/(m.full id=false/\∃x,gH (s.str (s.home (aI8 id))) (aI8 id)=some x/\LdE x (m.get id)/\SmE m.cfg.dE.toNat (m.get id).dE):=by
 have hl:=h.ld id hid;unfold gH Fm.full Fm.get;rcases hl.cs with⟨h1,h2⟩|⟨x,y,h1,h2,h3⟩
 ·simp only[h1,h2,Option.isNone_none,Bool.true_and,(aK6 ho (dW s (aI8 id) (cy ho)).2),(h.count ho id hid),h.cfg]
  by_cases hf:s.cfg.lW<=(sU s.cfg id m.ks:Int)
  ·rw[if_pos hf]
   exact .inl ⟨decide_eq_true hf,rfl⟩
  ·rw[if_neg hf]
   exact .inr ⟨decide_eq_false hf,_,rfl,⟨rfl,rfl,rfl,rfl⟩,aO2 _⟩
 ·rw[h1,h2]
  exact .inr ⟨rfl,x,rfl,h3,h.sm id y h2⟩
def aO0 {room:Nat} {x y:aD} (h:y∈nY l room x):y∈l\/y=x:=by
 have h1:∀y,y∈rE l x->y∈l\/y=x:=fun y hy=>by
  unfold rE xa rD at hy;rcases aD1.1 hy with hy|hy
  ·exact .inl (aD5.1 hy).1
  ·rcases aE6.1 hy with hy|hy
   ·exact .inr hy
   ·exact .inl (aD5.1 hy).1
 unfold nY at h
 split at h
 ·exact h1 y (aT4 h)
 ·exact h1 y h
def SmE.put {room:Nat} (h:SmE room l) (h1:1<=room) {t v:Int} (he:bU t v=0):SmE room (nY l room ⟨t,v⟩):=by
 have e:nZ l room ⟨t,v⟩=nY l room ⟨t,v⟩:=if_pos he;refine⟨e ▸ Gf h.RP room _,e ▸ Gg h.len h1 _,fun y hy=>?_⟩;rcases aO0 hy with hy|rfl
 ·exact h.pos y hy
 ·exact he
def SmE.bT {room:Nat} {l:List aD} (h:SmE room l) (t:Int):SmE room (bT l t):=
 ⟨h.RP.filter _,aB4 (aE7 _ _) h.len,fun y hy=>h.pos y (aD5.1 hy).1⟩
def Eqv.eD (h:Eqv s m) (ho:qj s n k) (hid:eO id=true) {t v:Int} (he:bU t v=0):
 EqR (s.put (s.home (aI8 id)) ((s.str (s.home (aI8 id))).eD (aI8 id) t v)) (m.eD id t v):=by
 have hb:=(dW s (aI8 id) (cy ho)).2;have hr:1<=m.cfg.dE.toNat:=by rw[h.cfg];have:=ho.py.2.1;omega
 unfold Fm.eD bF.eD aL.put;rw[if_pos he,if_neg (c:=bU t v≠0) (fun e=>e he)];rcases h.room ho hid with⟨h1,h2⟩|⟨h1,x,h2,hx,hs⟩
 ·rw[h1,h2]
  refine⟨rfl,?_⟩
  show Eqv (s.et _ (s.str _)) m
  rw[QP hb];exact h
 ·rw[h1,h2]
  refine⟨rfl,?_⟩;have e:xb m.cfg.dE.toNat ((m.get id).dE++[⟨t,v⟩])=nY (m.get id).dE m.cfg.dE.toNat ⟨t,v⟩:=by
   rw[aK4,aN4 hs];exact if_pos he
  refine h.put ho hid (y:={m.get id with dE:=xb m.cfg.dE.toNat ((m.get id).dE++[⟨t,v⟩])}) ?_ (e▸hs.put hr he);unfold Dj;rw[if_pos he];exact⟨by show nY _ _ _=xb _ _;rw[e,(aK6 ho hb),hx.dE,h.cfg],hx.past,hx.cM,hx.nM⟩
def Eqv.set (h:Eqv s m) (ho:qj s n k) (hid:eO id=true) {p:dI} (he:dy p=0):
 EqR (s.put (s.home (aI8 id)) ((s.str (s.home (aI8 id))).set (aI8 id) p)) (m.set id p):=by
 have hp:p.xJ:=by
  unfold dy at he
  split at he
  ·assumption
  ·exact absurd he dC
 unfold Fm.set bF.set aL.put;rw[if_pos he,if_neg (c:=dy p≠0) (fun e=>e he)];rcases h.room ho hid with⟨h1,h2⟩|⟨h1,x,h2,hx,hs⟩
 ·rw[h1,h2]
  refine⟨rfl,?_⟩
  show Eqv (s.et _ (s.str _)) m
  rw[QP (dW s (aI8 id) (cy ho)).2];exact h
 ·rw[h1,h2]
  refine⟨rfl,?_⟩;refine h.put ho hid (y:={m.get id with cM:=p,nM:=true}) ?_ hs;unfold Av;rw[if_pos hp];exact⟨hx.dE,hx.past,rfl,rfl⟩
def aJ8 (x:Ld) (t:Int):(nB x t).cL=bT x.cL t/\(nB x t).past=x.past/\(nB x t).cM=x.cM/\(nB x t).ruled=x.ruled:=by
 unfold nB
 split
 ·rename_i e
  refine⟨?_,rfl,rfl,rfl⟩;unfold bT at e |-;exact(aS5.2 (List.length_filter_eq_length_iff.1 e)).symm
 ·exact⟨rfl,rfl,rfl,rfl⟩
def aL3 (x:Ld) (t:Int):nB (nB x t) t=nB x t:=by
 have h1:(bT (nB x t).cL t).length=(nB x t).cL.length:=by
  rw[(aJ8 x t).1];unfold bT;rw[List.filter_filter];simp
 exact if_pos h1
theorem aM6 (t:Int) (a:bF×Int) (k j:Key):aJ (bF.j8 t a k).1.loads j=if j=k then(aJ a.1.loads j).map (nB · t)else aJ a.1.loads j:=by
 unfold bF.j8;cases h:aJ a.1.loads k with
 |none=>
  simp only
  split
  ·rename_i e;rw[e,h];rfl
  ·rfl
 |some x=>
  simp only
  split
  ·show aJ (rX a.1.loads k _) j=_
   rw[lZ]
   split
   ·rename_i e;rw[e,h];rfl
   ·rfl
  ·rename_i hg
   split
   ·rename_i e;rw[e,h,aI6,Lf hg]
   ·rfl
theorem aJ9 (t:Int) (j:Key):∀(ks:List Key) (a:bF×Int),aJ (ks.foldl (bF.j8 t) a).1.loads j=if j∈ks then(aJ a.1.loads j).map (nB · t)else aJ a.1.loads j
 |[],a=>by simp
 |k::ks,a=>by
  rw[List.foldl_cons,aJ9 t j ks,aM6]
  by_cases h1:j=k
  ·rw[if_pos h1,if_pos (c:=j∈k::ks) (by rw[h1];exact List.mem_cons_self)]
   split
   ·cases aJ a.1.loads j with
    |none=>rfl
    |some x=>simp only[aI6,aL3]
   ·rfl
  ·rw[if_neg h1]
   simp only[aE6,h1,false_or]
def aN5 (s:bF) (t:Int) (j:Key):aJ (s.trim t).loads j=(aJ s.loads j).map (nB · t):=by
 unfold bF.trim bF.j9;rw[aJ9]
 split
 ·rfl
 ·rename_i h
  rw[Ct]at h;rw[jV.2 h]
  rfl
def aJ6.trim (h:aJ6 a b) (t:Int):aJ6 (a.map (nB · t)) (b.map (sV t)):=by
 rcases h.cs with⟨rfl,rfl⟩|⟨x,y,rfl,rfl,h'⟩
 ·exact h
 obtain⟨h1,h2,h3,h4⟩:=aJ8 x t;exact⟨by rw[h1,h'.dE];rfl,h2.trans h'.past,h3.trans h'.cM,h4.trans h'.nM⟩
def Eqv.trim (h:Eqv s m) (ho:qj s n k) (t:Int):
 Eqv {s with strs:=s.strs.map fun x=>x.trim t} {m with M:=fun u=>(m.M u).map (sV t)}:=by
 have hh:∀k,({s with strs:=s.strs.map fun x=>x.trim t} : aL).home k=s.home k:=fun k=>by unfold aL.home;simp
 have hk:∀i,i<s.strs.length->(({s with strs:=s.strs.map fun x=>x.trim t} : aL).str i).keys=(s.str i).keys:=fun i hi=>by
  rw[Oa hi];exact(kg _ _ _).1
 refine⟨h.cfg,fun id hid=>?_,fun id x hx=>?_,fun id=>?_,h.ok,h.nd,fun i hi j hj=>?_,fun i hi=>?_,h.aJ5,h.cuts,h.ep,h.over⟩
 ·rw[hh,Oa (dW s (aI8 id) (cy ho)).2,aN5]
  exact(h.ld id hid).trim t
 ·obtain⟨y,hy,rfl⟩:=aS3.1 hx
  exact(h.sm id y hy).bT t
 ·rw[h.ks id]
  show _↔((m.M id).map (sV t)).isSome=true
  rw[Option.isSome_map]
 ·have hi' : i<s.strs.length:=sH hi
  rw[hk i hi']at hj;rw[hh];exact h.sub i hi' j hj
 ·have hi' : i<s.strs.length:=sH hi
  rw[hk i hi'];exact h.knd i hi'
theorem aJ2 (l:List (Key×Ld)):(vr l).Perm l:=by
 unfold vr
 induction l using su with
 |nil=>exact List.Perm.refl _
 |snoc l y ih=>
  rw[iu];unfold nP;refine(List.perm_middle.trans ?_);rw[aH8];exact(ih.cons y).trans (List.perm_append_singleton y l).symm
def aL4 {s:bF} {j:Key}: (j,x)∈s.dG↔aJ s.loads j=some x:=by
 unfold bF.dG;rw[List.mem_filterMap]
 constructor
 ·rintro⟨k,-,hk⟩
  obtain⟨y,hy,e⟩:=aS3.1 hk;injection e with e1 e2
  subst e1;subst e2;exact hy
 ·intro h
  refine⟨j,Ct.2 (aF2.2 ⟨_,tW h,rfl⟩),by rw[h];rfl⟩
theorem Eqv.dG (h:Eqv s m) (ho:qj s n k) (j:Key):aJ s.dG j=aJ (s.str (s.home j)).loads j:=by
 have h1:∀x,(j,x)∈s.strs.flatMap bF.dG->aJ (s.str (s.home j)).loads j=some x:=fun x hx=>by
  obtain⟨st,hs,hm⟩:=aT8.1 hx;obtain⟨i,hi⟩:=aD7 hs;have hl:=(d9.1 hi).1;have e:s.str i=st:=by unfold aL.str;rw[aB7,hi];rfl
  have h2:=aL4.1 hm;rw[<-e]at h2;rw[(h.sub i hl j (aF2.2 ⟨_,tW h2,rfl⟩)).1];exact h2
 cases hl:aJ (s.str (s.home j)).loads j with
 |none=>
  cases he:aJ s.dG j with
  |none=>rfl
  |some x=>
   have:=h1 x ((aJ2 _).mem_iff.1 (tW he));rw[hl]at this;cases this
 |some x=>
  have hm:(j,x)∈s.dG:=(aJ2 _).mem_iff.2 (aT8.2 ⟨_,aC1 (ho.qm (dW s j (cy ho)).2).2.1,aL4.2 hl⟩);cases he:aJ s.dG j with
  |none=>exact absurd (aF2.2 ⟨_,hm,rfl⟩) (jV.1 he)
  |some y=>
   have:=h1 y ((aJ2 _).mem_iff.1 (tW he));rw[hl]at this;exact this.symm
theorem aL5:∀(l:List (Option ug)) (r:List (Option pV)),l.length=r.length->(∀i,aO3 (l.getD i none) (r.getD i none))->(l.filter Option.isSome).length=(r.filter Option.isSome).length
 |[],[],_,_=>rfl
 |[],_::_,h,_=>by simp at h
 |_::_,[],h,_=>by simp at h
 |a::l,b::r,h,hc=>by
  have h0:=(hc 0).isSome;simp only[List.getD_cons_zero]at h0;have ih:=aL5 l r (by simpa using h) (fun i=>by simpa using hc (i+1));rw[aT9,aT9,h0]
  split
  ·rw[aC4,aC4,ih]
  ·exact ih
def Eqv.snap (h:Eqv s m) (ho:qj s n k):EqR s.snap m.snap:=by
 have hl:s.live=m.live:=aL5 _ _ h.aJ5 h.cuts;unfold aL.snap Fm.snap;rw[hl,h.ep,h.aJ5]
 split
 ·exact⟨rfl,h⟩
 ·refine⟨rfl,h.cfg,h.ld,h.sm,h.ks,h.ok,h.nd,h.sub,h.knd,by simp[h.aJ5],fun i=>?_,rfl,h.over⟩
  simp only[aB7];rcases Nat.lt_trichotomy i s.cuts.length with hi|hi|hi
  ·rw[aC9 hi,aC9 (h.aJ5 ▸ hi),<-aB7,<-aB7]
   exact h.cuts i
  ·subst hi
   rw[aC7 lR,aC7 (h.aJ5▸aC2 _),h.aJ5,aW9];refine⟨rfl,fun id hid=>?_⟩;rw[h.dG ho];exact h.ld id hid
  ·rw[aE1 sM,aE1 (by have:=h.aJ5;simp;omega)]
   exact trivial
def Eqv.dH (h:Eqv s m) (n:Int):s.dH n=m.dH n:=by
 unfold aL.dH Fm.dH;rw[h.aJ5]
 split
 ·rfl
 ·have:=(h.cuts (n-1).toNat).isSome
  cases h1:s.cuts.getD (n-1).toNat none<;>cases h2:m.cuts.getD (n-1).toNat none<;>rw[h1,h2]at this<;>first|rfl|cases this
def Eqv.free (h:Eqv s m) (n:Int):EqR (s.free n) (m.free n):=by
 unfold aL.free Fm.free;rw[h.dH]
 split
 ·refine⟨rfl,h.cfg,h.ld,h.sm,h.ks,h.ok,h.nd,h.sub,h.knd,by simp[h.aJ5],fun i=>?_,h.ep,h.over⟩
  have:=h.cuts i;simp only[aB7]at this |-;rw[aG1,aG1,h.aJ5]
  split
  ·split<;>exact trivial
  ·exact this
 ·exact⟨rfl,h⟩
theorem Eqv.look (h:Eqv s m) (n:Int) (hid:eO id=true) (to width:Int):s.look n (aI8 id) to width=m.look id n to width:=by
 unfold aL.look Fm.look;rw[h.dH]
 split
 ·rfl
 ·have hc:=h.cuts (n-1).toNat
  unfold aL.cut Fm.cut;cases h1:s.cuts.getD (n-1).toNat none with
  |none=>
   cases h2:m.cuts.getD (n-1).toNat none with
   |none=>rfl
   |some b=>rw[h1,h2]at hc;exact hc.elim
  |some a=>
   cases h2:m.cuts.getD (n-1).toNat none with
   |none=>rw[h1,h2]at hc;exact hc.elim
   |some b=>
    rw[h1,h2]at hc;simp only[aF6];rcases(hc.2 id hid).cs with⟨h3,h4⟩|⟨x,y,h3,h4,hl⟩<;>rw[h3,h4]
    simp only[hc.1,hl.dE]
def Eqv.last (h:Eqv s m) (hid:eO id=true):s.last (aI8 id)=m.read id:=by
 unfold aL.last Fm.read;rcases(h.ld id hid).cs with⟨h3,h4⟩|⟨x,y,h3,h4,hl⟩<;>rw[h3,h4]
 simp only[hl.past]
theorem Eqv.do_ (h:Eqv s m) (ho:qj s n k) (c:ak):EqR (s.do c) (m.do c):=by
 unfold aL.do Fm.do ak.err
 by_cases h1:c.k<1\/8<c.k
 ·have hE:bJ c.k c.s c.t c.v c.p=14:=if_pos h1
  rw[hE,if_pos dC,if_pos h1];exact⟨rfl,h⟩
 rw[if_neg (c:=c.k<1\/8<c.k) h1]
 by_cases h2:(c.k=1\/c.k=5\/c.k=6\/c.k=7)/\eO c.s=false
 ·have hE:bJ c.k c.s c.t c.v c.p=2:=by unfold bJ;rw[if_neg h1,if_pos h2]
  rw[hE,if_pos dC,if_pos (by obtain⟨a,b⟩:=h2;exact⟨oM,b⟩)];exact⟨rfl,h⟩
 rw[if_neg (c:=(c.k=1\/c.k=6\/c.k=5\/c.k=7)/\eO c.s=false) (fun hh=>h2 ⟨oH hh.1,hh.2⟩)];have hid:(c.k=1\/c.k=5\/c.k=6\/c.k=7)->eO c.s=true:=fun hk=>by
  cases e:eO c.s with
  |true=>rfl
  |false=>exact absurd ⟨hk,e⟩ h2
 by_cases k1:c.k=1
 ·have hE:bJ c.k c.s c.t c.v c.p=bU c.t c.v:=by unfold bJ;rw[if_neg h1,if_neg h2,if_pos k1];rfl
  simp only[hE,if_pos k1]
  by_cases he:bU c.t c.v=0
  ·rw[if_neg (c:=bU c.t c.v≠0) (fun e=>e he)]
   exact h.eD ho (hid (.inl k1)) he
  ·rw[if_pos (c:=bU c.t c.v≠0) he]
   unfold Fm.eD;rw[if_pos (c:=bU c.t c.v≠0) he];exact⟨rfl,h⟩
 simp only[if_neg k1]
 by_cases k2:c.k=2
 ·simp only[if_pos k2]
  by_cases ht:c.t<0
  ·have hE:bJ c.k c.s c.t c.v c.p=3:=by unfold bJ;rw[if_neg h1,if_neg h2,if_neg k1,if_pos ⟨k2,ht⟩]
   rw[hE,if_pos dC];unfold Fm.trim;rw[if_pos ht];exact⟨rfl,h⟩
  ·have hE:bJ c.k c.s c.t c.v c.p=0:=by unfold bJ;rw[if_neg h1,if_neg h2,if_neg k1,if_neg (fun hh=>ht hh.2),if_neg (show ¬c.k=6 by omega)]
   rw[hE,if_neg dC];unfold Fm.trim;rw[if_neg ht];exact⟨rfl,h.trim ho c.t⟩
 simp only[if_neg k2]
 by_cases k6:c.k=6
 ·have hE:bJ c.k c.s c.t c.v c.p=dy c.p:=by unfold bJ;rw[if_neg h1,if_neg h2,if_neg k1,if_neg (fun hh=>k2 hh.1),if_pos k6]
  simp only[hE,if_neg (show ¬c.k=3 by omega),if_neg (show ¬c.k=4 by omega),if_neg (show ¬c.k=5 by omega),if_pos k6]
  by_cases he:dy c.p=0
  ·rw[if_neg (c:=dy c.p≠0) (fun e=>e he)]
   exact h.set ho (hid oM) he
  ·rw[if_pos (c:=dy c.p≠0) he]
   unfold Fm.set;rw[if_pos (c:=dy c.p≠0) he];exact⟨rfl,h⟩
 have hE:bJ c.k c.s c.t c.v c.p=0:=by unfold bJ;rw[if_neg h1,if_neg h2,if_neg k1,if_neg (fun hh=>k2 hh.1),if_neg k6]
 rw[hE,if_neg dC]
 by_cases k3:c.k=3
 ·simp only[if_pos k3];exact h.snap ho
 simp only[if_neg k3]
 by_cases k4:c.k=4
 ·simp only[if_pos k4];exact h.free c.h
 simp only[if_neg k4]
 by_cases k5:c.k=5
 ·simp only[if_pos k5];exact⟨h.look c.h (hid oM) c.t c.v,h⟩
 simp only[if_neg k5,if_neg k6]
 by_cases k7:c.k=7
 ·simp only[if_pos k7];exact⟨h.last (hid oM),h⟩
 simp only[if_neg k7];unfold aL.shut;rw[h.over]
 split
 ·exact⟨rfl,h⟩
 ·exact⟨rfl,h.cfg,h.ld,h.sm,h.ks,h.ok,h.nd,h.sub,h.knd,h.aJ5,h.cuts,h.ep,rfl⟩
def aI9 {b:Prop} [Decidable b] {x y:kO×Fm} (h1:x.1.err≠0->x.2=m) (h2:y.1.err≠0->y.2=m):(if b then x else y).1.err≠0->(if b then x else y).2=m:=by
 split<;>assumption
def Fm.aM7 (m:Fm) (c:ak):(m.do c).1.err≠0->(m.do c).2=m:=
 aI9 (fun _=>rfl) (aI9 (fun _=>rfl) (aI9 (aI9 (fun _=>rfl) (aI9 (fun _=>rfl) (fun h=>absurd rfl h))) (aI9 (aI9 (fun _=>rfl) (fun h=>absurd rfl h)) (aI9 (aI9 (fun _=>rfl) (fun h=>absurd rfl h)) (aI9 (aI9 (fun h=>absurd rfl h) (fun _=>rfl)) (aI9 (fun _=>rfl) (aI9 (aI9 (fun _=>rfl) (aI9 (fun _=>rfl) (fun h=>absurd rfl h))) (aI9 (fun _=>rfl) (aI9 (fun _=>rfl) (fun h=>absurd rfl h))))))))))
def aL.aM7 (s:aL) (c:ak) (h:c.err≠0):(s.do c).1.err=c.err:=by
 unfold aL.do;rw[if_pos h]
 rfl
def aJ3 (s:bF):Prop:=(s.loads.length:Int)<=s.cfg.lW
def aL6 {s:bF} (h:aJ3 s) {k:Key} (hx:gH s k=some x) (y:Ld):aJ3 (s.put k y):=by
 unfold aJ3 at *;have hl:(s.put k y).loads.length=(cE s.keys k).length:=by
  rw[<-lY s.loads k y,aC8]
  rfl
 show((s.put k y).loads.length:Int)<=s.cfg.lW
 rw[hl];unfold cE
 split
 ·unfold bF.keys;rw[aC8];exact h
 ·rename_i hn
  unfold gH at hx;rw[jV.2 hn]at hx;simp only at hx
  split at hx
  ·cases hx
  ·unfold bF.keys;rw[aB8,aC8];simp;omega
theorem aJ3.eD {s:bF} (h:aJ3 s) (k:Key) (t v:Int):aJ3 (s.eD k t v).2:=by
 unfold bF.eD
 split
 ·cases hq:gH s k with
  |none=>exact h
  |some x=>exact aL6 h hq _
 ·exact h
theorem aJ3.set {s:bF} (h:aJ3 s) (k:Key) (p:dI):aJ3 (s.set k p).2:=by
 unfold bF.set
 split
 ·cases hq:gH s k with
  |none=>exact h
  |some x=>exact aL6 h hq _
 ·exact h
def aJ3.trim {s:bF} (h:aJ3 s) (t:Int):aJ3 (s.trim t):=by
 obtain⟨h1,h2⟩:=kg s t (eW s.keys);have h3:=congrArg List.length h1;unfold bF.keys at h3;rw[aC8,aC8]at h3
 show((s.j9 t (eW s.keys)).1.loads.length:Int)<=(s.j9 t (eW s.keys)).1.cfg.lW
 rw[h3,h2];exact h
def aJ0 (s:aL):Prop:=∀st∈s.strs,aJ3 st
def aJ0.new (c:aM) (hc:c.gV):aJ0 (aL.new c):=fun st hs=>by
 have:st=⟨c,[],0⟩:=aU8 hs;subst this;have:=hc.2.2.2.1
 show((0:Nat):Int)<=c.lW
 omega
def aJ0.et (h:aJ0 s) {x:bF} (hx:aJ3 x):aJ0 (s.et i x):=fun st hs=>by
 rcases aI1 hs with hs|rfl
 ·exact h st hs
 ·exact hx
def aJ0.do_ (h:aJ0 s) (ho:qj s n k) (c:ak):aJ0 (s.do c).2:=by
 have hm:=h _ (aC1 (ho.qm (dW s c.key (cy ho)).2).2.1);unfold aL.do
 split
 ·exact h
 split
 ·exact h.et (hm.eD _ _ _)
 split
 ·intro st hs
  obtain⟨y,hy,rfl⟩:=aF2.1 hs;exact(h y hy).trim _
 split
 ·unfold aL.snap;split<;>exact h
 split
 ·unfold aL.free;split<;>exact h
 split
 ·exact h
 split
 ·exact h.et (hm.set _ _)
 split
 ·exact h
 ·unfold aL.shut;split<;>exact h
def Eqv.new (c:aM) (hc:c.gV):Eqv (aL.new c) (Fm.new c):=by
 have hs:∀i,((aL.new c).str i).loads=[]:=fun i=>by
  unfold aL.str aL.new;rw[aB7,List.getElem?_replicate]
  split<;>rfl
 have hk:∀i,((aL.new c).str i).keys=[]:=fun i=>by unfold bF.keys;rw[hs];rfl
 refine⟨rfl,fun id hid=>?_,fun id x hx=>(by cases hx),fun id=>(by simp[Fm.new]),fun id h=>(by cases h),List.Pairwise.nil,fun i hi k h=>?_,fun i hi=>?_,rfl,fun i=>trivial,rfl,rfl⟩
 ·rw[hs];exact trivial
 ·rw[hk]at h;cases h
 ·rw[hk];exact List.Pairwise.nil
def Eqv.load (h:Eqv s m) (ho:qj s n k) (hi:i<s.strs.length) {j:Key} (hx:aJ (s.str i).loads j=some x):
 SmE s.cfg.dE.toNat x.cL/\x.past.length<=s.cfg.iI.toNat/\s.home j=i:=by
 have hm:j∈(s.str i).keys:=aF2.2 ⟨_,tW hx,rfl⟩;obtain⟨h1,id,hid,rfl⟩:=h.sub i hi j hm;have hg:=(ho.qm hi).1;have hp:=(hg.ok.wH _ x hx).Dk;rw[hg.cfg]at hp;have hl:=h.ld id hid;rw[h1,hx]at hl;rcases hl.cs with⟨h3,-⟩|⟨x',y,h3,h4,hl⟩
 ·cases h3
 ·injection h3 with h3
  subst h3;have h5:=h.sm id y h4;rw[<-hl.dE,h.cfg]at h5;exact⟨h5,hp,h1⟩
section
open Go.RowKit Go.Maps
theorem aM8 {c:bh} {b:Nat} {f:Key->Option Value} {s:bF} {ex:Key->Prop} (w:World) (h:dU w c i g b f s ex) (hl:s.keys.length<=100000):
 Calls prog 81 #[pt g] w (Rt (I6 (s.loads.length:Nat)) (Bl w)):=by
 have HK:=vh w h hl;have HN:=(show(eW s.keys).length=s.loads.length by rw[(fg _).length_eq];unfold bF.keys;rw[aC8]);clear h hl;go_enter func81,ntmps81;go_wp2_with(go_at_call 82;refine HK.mono ?_;rintro e w1 ⟨A,n,cc,rfl,ho,B1⟩;obtain⟨A',n',c',e',hn,-⟩:=ho.shape (fun _=>rfl);injection e' with _ e2 _;have fo:n=s.loads.length:=e2.trans (hn.trans HN);clear ho hn e2;subst fo);go_ret;exact⟨rfl,B1⟩
end
section
def TwS (S:Nat->Prop) (g mp:Nat):Nat->Prop:=fun k=>S k\/k=g\/k=mp
def aP2 (S:Nat->Prop) (m:Fm) (l:List fF) (w:World) (e:Ending) (w' : World):Prop:=
 ∃g mp A n cc,e=.returned (pt g)/\dg w' (TwS S g mp) g mp A n cc l m/\w.heap.size<=g/\w.heap.size<=mp/\Bl w w'
section
variable {w w' : World} {S:Nat->Prop} {g mp:Nat} {A:Option Addr} {n cc:Nat} {l:List fF} {m:Fm}
def aJ4 {f:ByteArray->Option Value} {B n7 c7:Nat} {A7:Option Addr} {W2 v6 v7:World} (H0:dg w S g mp A n cc l m) (nR:∀k,S k->k<w.heap.size) (HF0:fO w S mp f m.ks m.M) (HB:w.heap.size<=B) (E2:Bl w W2) (G2:ai W2 B Bi (fN m.cfg mp (.slice A n cc) m.ep m.over)) (S6:Bl W2 v6) (Mq:bP fI v6 W2.heap.size f m.ks) (lV:Bl v6 v7) (O7:Own v7 v6.heap.size Q0 3 fF.cells (.slice A7 n7 c7) l) :
 aP2 S m l w (.returned (pt B)) ((v7.setCell ⟨B,4,none⟩ (.map (some W2.heap.size))).setCell ⟨B,5,none⟩ (.slice A7 n7 c7)):=by
 obtain⟨W8,Br⟩:=zE ((v7.setCell ⟨B,4,none⟩ (.map (some W2.heap.size))).setCell ⟨B,5,none⟩ (.slice A7 n7 c7));rw[<-Br];have U78:ah (fun k=>k=B) v7 W8:=by rw[Br];exact((ah.refl (fun k=>k=B) v7).setCell (p:=⟨B,4,none⟩) (.inl rfl) _).setCell (p:=⟨B,5,none⟩) (.inl rfl) _
 have S7:Bl W2 v7:=zT S6 lV;have G8:ai W8 B Bi (fN m.cfg W2.heap.size (.slice A7 n7 c7) m.ep m.over):=by rw[Br];exact((G2.call S7).aX 4 _).aX 5 _
 have:=Mq.lt;have:=G2.lt;have E8:Bl w W8:=(zT E2 S7).trans (U78.below (fun k e=>e ▸ HB) (aB4 E2.size S7.size));have Mq7:=Mq.call lV;have hbk:∀a,A7=some a->v6.heap.size<=a.block:=fun a e=>by subst e;exact(O7.lt a.block rfl).1
 have S8:=aV (O7.is uN) U78 (fun a e h9=>oH (hbk a e));have hT:∀k,TwS S B W2.heap.size k->S k\/w.heap.size<=k:=fun k hk=>by
  rcases hk with hk|hk|hk
  ·exact .inl hk
  ·exact .inr (hk ▸ HB)
  ·exact .inr (hk ▸ E2.size)
 exact⟨B,W2.heap.size,A7,n7,c7,rfl,⟨⟨G8,⟨f,Mq7.block (U78.block _ Mq7.lt (by show W2.heap.size≠B;omega)),HF0.none,fun s x hx=>by
  obtain⟨v,h1,h2⟩:=HF0.some s x hx;exact⟨v,h1,(h2.ext hT).upd (ah.aa E8)⟩⟩,.inr (.inl rfl),.inr (.inr rfl),oM,H0.b.len,H0.b.i64⟩,⟨S8,fun a e hn ht=>by
  have h1:=hbk a e;have h2:=E2.size;rcases ht with ht|ht|ht
  ·have:=nR _ ht;omega
  ·omega
  ·omega,H0.cuts.len,fun i x k h1 h2=>((H0.cuts.at_ i x k h1 h2).ext hT).upd (ah.aa E8)⟩,by have:=S8.1;have:=H0.cuts.Fv.1;have:=H0.n;omega⟩,HB,E2.size,E8⟩
theorem aN6 (h:dg w S g mp A n cc l m) (ey:∀k,S k->k<w.heap.size) :
 Calls prog 21 #[pt g] w (aP2 S m l w):=by
 have HM:=(fun W (hb:Bl w W)=>pM (h.call hb).b.blk);have Ls:=(fun W (hb:Bl w W)=>Bv A n cc l W (h.call hb).cuts.Fv (aB4 h.n dC));obtain⟨f,hf0⟩:=h.b.map;have Xw:=(fun W (hb:Bl w W)=>Jl (hf0.upd (ah.aa hb:ah (fun _=>False) w W) (fun _ h=>h.elim) id).map);have H0:=h;have HF0:=hf0;have nR:=ey;clear h hf0 ey;go_enter func21,ntmps21;go_upto_region 3 with(go_at_call 38;refine zM (HM _ bR) fun w1 B1=>?_)
 go_upto_region 4 with(refine zI (H0.call B1).b.blk underlying102 ?_)
 obtain⟨B,hB⟩:=zE w1.heap.size;obtain⟨W2,hW2⟩:=zE (w1.alloc (.cells (fN m.cfg mp (.slice A n cc) m.ep m.over) Bi));have G2:ai W2 B Bi (fN m.cfg mp (.slice A n cc) m.ep m.over):=by rw[hW2,hB];exact ai.new _ _ _
 have E2:Bl w W2:=by rw[hW2];exact B1.alloc B1.size _
 have HB:w.heap.size<=B:=by rw[hB];exact B1.size
 have Z2:=H0.call E2;rw[<-hW2,<-hB];clear hW2 hB B1 HM;have HG:=(fun W (h:Bl W2 W)=>And.intro ((G2.call h).z 4 (.map (some mp))) (And.intro ((G2.call h).frozen 4) (And.intro ((G2.call h).z 5 (.slice A n cc)) ((G2.call h).frozen 5))));refine zr (fun j=>[10,11,12,13].contains j) (fun wS=>Bl W2 wS) ?_;have S0:=(Below.refl W2.heap.size W2).drew;refine zk 10 [0,1,2,3] [_,_,_,.map (some mp)] (.q zX<|.q zX<|.q zX<|.q (zS fun _ h=>(Z2.b.blk.call h).z 4 (.map (some mp))) .nil) S0<|zY 4 5 ?_ ?_
 ·
  go_wp2_with(go_at_call 56;refine(Xw _ (E2.trans ((S0).mono E2.size))).mono ?_;rintro e v6 ⟨rfl,hmq,dJ⟩);refine .i (zT S0 dJ) ?_;have S6:=zT S0 dJ;refine zQ 5 ?_;go_wp2_with fail;refine .i S6<|zQ 6 ?_;go_wp2_with fail;refine .i S6<|zQ 7 ?_;go_wp2_with fail;refine .i S6<|zk 5 [8] [.slice A n cc] (.q (zS fun _ h=>(Z2.b.blk.call h).z 5 (.slice A n cc)) .nil) S6<|zQ 9 ?_;go_wp2_with(go_at_call 57;refine(Ls _ (E2.trans ((S6).mono E2.size))).mono ?_;rintro e v7 ⟨A7,n7,c7,rfl,Ck,lV⟩;obtain⟨c4,f4,c5,f5⟩:=HG _ ((S6).trans (lV.mono (S6).size)));refine .i (zT S6 lV) ?_;have:=zT S6 lV;refine aq _ _ _ _ kZ<|wpAny_take (i:=10) (v:=_) rfl kZ kZ kZ (fun _ _ _ h=>h) (Or.inl ⟨by rfl,fun W=>by rfl⟩)<|zO 11 (fun Q2 aI=>?_);go_wp2_with(fail);(try refine aI _ _ ?_);(try clear aI Q2)
  refine wpAny_take (i:=12) (v:=_) rfl kZ kZ kZ (fun _ _ _ h=>h) (Or.inl ⟨by rfl,fun W=>by rfl⟩)<|zO 13 (fun Q2 aI=>?_);go_wp2_with(fail);(try refine aI _ _ ?_);(try clear aI Q2)
  refine wpAny_done kZ ?_ _;go_wp2;go_ret;exact aJ4 H0 nR HF0 HB E2 G2 S6 hmq lV Ck
 ·
  go_wp2_with fail;refine .i S0<|zY 4 6 ?_ ?_
  ·
   go_wp2_with(go_at_call 56;refine(Xw _ (E2.trans ((S0).mono E2.size))).mono ?_;rintro e v6 ⟨rfl,hmq,dJ⟩);refine .i (zT S0 dJ) ?_;have S6:=zT S0 dJ;refine zQ 6 ?_;go_wp2_with fail;refine .i S6<|zQ 7 ?_;go_wp2_with fail;refine .i S6<|zk 5 [8] [.slice A n cc] (.q (zS fun _ h=>(Z2.b.blk.call h).z 5 (.slice A n cc)) .nil) S6<|zQ 9 ?_;go_wp2_with(go_at_call 57;refine(Ls _ (E2.trans ((S6).mono E2.size))).mono ?_;rintro e v7 ⟨A7,n7,c7,rfl,Ck,lV⟩;obtain⟨c4,f4,c5,f5⟩:=HG _ ((S6).trans (lV.mono (S6).size)));refine .i (zT S6 lV) ?_;have:=zT S6 lV;refine aq _ _ _ _ kZ<|wpAny_take (i:=10) (v:=_) rfl kZ kZ kZ (fun _ _ _ h=>h) (Or.inl ⟨by rfl,fun W=>by rfl⟩)<|zO 11 (fun Q2 aI=>?_);go_wp2_with(fail);(try refine aI _ _ ?_);(try clear aI Q2)
   refine wpAny_take (i:=12) (v:=_) rfl kZ kZ kZ (fun _ _ _ h=>h) (Or.inl ⟨by rfl,fun W=>by rfl⟩)<|zO 13 (fun Q2 aI=>?_);go_wp2_with(fail);(try refine aI _ _ ?_);(try clear aI Q2)
   refine wpAny_done kZ ?_ _;go_wp2;go_ret;exact aJ4 H0 nR HF0 HB E2 G2 S6 hmq lV Ck
  ·
   go_wp2_with fail;refine .i S0<|zY 4 7 ?_ ?_
   ·
    go_wp2_with(go_at_call 56;refine(Xw _ (E2.trans ((S0).mono E2.size))).mono ?_;rintro e v6 ⟨rfl,hmq,dJ⟩);refine .i (zT S0 dJ) ?_;have S6:=zT S0 dJ;refine zQ 7 ?_;go_wp2_with fail;refine .i S6<|zk 5 [8] [.slice A n cc] (.q (zS fun _ h=>(Z2.b.blk.call h).z 5 (.slice A n cc)) .nil) S6<|zQ 9 ?_;go_wp2_with(go_at_call 57;refine(Ls _ (E2.trans ((S6).mono E2.size))).mono ?_;rintro e v7 ⟨A7,n7,c7,rfl,Ck,lV⟩;obtain⟨c4,f4,c5,f5⟩:=HG _ ((S6).trans (lV.mono (S6).size)));refine .i (zT S6 lV) ?_;have:=zT S6 lV;refine aq _ _ _ _ kZ<|wpAny_take (i:=10) (v:=_) rfl kZ kZ kZ (fun _ _ _ h=>h) (Or.inl ⟨by rfl,fun W=>by rfl⟩)<|zO 11 (fun Q2 aI=>?_);go_wp2_with(fail);(try refine aI _ _ ?_);(try clear aI Q2)
    refine wpAny_take (i:=12) (v:=_) rfl kZ kZ kZ (fun _ _ _ h=>h) (Or.inl ⟨by rfl,fun W=>by rfl⟩)<|zO 13 (fun Q2 aI=>?_);go_wp2_with(fail);(try refine aI _ _ ?_);(try clear aI Q2)
    refine wpAny_done kZ ?_ _;go_wp2;go_ret;exact aJ4 H0 nR HF0 HB E2 G2 S6 hmq lV Ck
   ·
    go_wp2_with fail;refine .i S0<|zk 6 [8] [.slice A n cc] (.q (zS fun _ h=>(Z2.b.blk.call h).z 5 (.slice A n cc)) .nil) S0<|zQ 4 ?_;go_wp2_with(go_at_call 56;refine(Xw _ (E2.trans ((S0).mono E2.size))).mono ?_;rintro e v6 ⟨rfl,hmq,dJ⟩);refine .i (zT S0 dJ) ?_;have S6:=zT S0 dJ;refine zQ 9 ?_;go_wp2_with(go_at_call 57;refine(Ls _ (E2.trans ((S6).mono E2.size))).mono ?_;rintro e v7 ⟨A7,n7,c7,rfl,Ck,lV⟩;obtain⟨c4,f4,c5,f5⟩:=HG _ ((S6).trans (lV.mono (S6).size)));refine .i (zT S6 lV) ?_;have:=zT S6 lV;refine aq _ _ _ _ kZ<|wpAny_take (i:=10) (v:=_) rfl kZ kZ kZ (fun _ _ _ h=>h) (Or.inl ⟨by rfl,fun W=>by rfl⟩)<|zO 11 (fun Q2 aI=>?_);go_wp2_with(fail);(try refine aI _ _ ?_);(try clear aI Q2)
    refine wpAny_take (i:=12) (v:=_) rfl kZ kZ kZ (fun _ _ _ h=>h) (Or.inl ⟨by rfl,fun W=>by rfl⟩)<|zO 13 (fun Q2 aI=>?_);go_wp2_with(fail);(try refine aI _ _ ?_);(try clear aI Q2)
    refine wpAny_done kZ ?_ _;go_wp2;go_ret;exact aJ4 H0 nR HF0 HB E2 G2 S6 hmq lV Ck
end
end
def aO4 (x:aU) :
 (∀(W:World) (op:BinOp) (o1 o2:Operand),(eqGuard op 49 o1 o2 (.agg #[I6 x.tick,I6 x.load,I6 x.want,I6 x.aQ,I6 x.why]) (.agg #[I6 x.tick,I6 x.load,I6 x.want,I6 x.aQ,I6 x.why])).run prog W=.ok () W)/\
 (∀W:World,(binOp .eql 49 (.agg #[I6 x.tick,I6 x.load,I6 x.want,I6 x.aQ,I6 x.why]) (.agg #[I6 x.tick,I6 x.load,I6 x.want,I6 x.aQ,I6 x.why])).run prog W=.ok (.bool true) W)/\
 (∀W:World,(binOp .neq 49 (.agg #[I6 x.tick,I6 x.load,I6 x.want,I6 x.aQ,I6 x.why]) (.agg #[I6 x.tick,I6 x.load,I6 x.want,I6 x.aQ,I6 x.why])).run prog W=.ok (.bool (!true)) W):=
 XD kZ kZ kZ kZ [.i64,.i64,.i64,.i64,.i64] [x.tick,x.load,x.want,x.aQ,x.why] [x.tick,x.load,x.want,x.aQ,x.why] kZ kZ kZ _ _ rfl rfl _ sI
def aO5 (x:aD) :
 (∀(W:World) (op:BinOp) (o1 o2:Operand),(eqGuard op 183 o1 o2 (.agg #[I6 x.tick,I6 x.value]) (.agg #[I6 x.tick,I6 x.value])).run prog W=.ok () W)/\
 (∀W:World,(binOp .eql 183 (.agg #[I6 x.tick,I6 x.value]) (.agg #[I6 x.tick,I6 x.value])).run prog W=.ok (.bool true) W)/\
 (∀W:World,(binOp .neq 183 (.agg #[I6 x.tick,I6 x.value]) (.agg #[I6 x.tick,I6 x.value])).run prog W=.ok (.bool (!true)) W):=
 XD kZ kZ kZ kZ [.i64,.i64] [x.tick,x.value] [x.tick,x.value] kZ kZ kZ _ _ rfl rfl _ sI
theorem aK2 (A B:Option Addr) (n ca cb:Nat) (l:List aD) (w:World) (hx:cH w A n ca l) (hy:cH w B n cb l) :
 Calls prog 247 #[.slice A n ca,.slice B n cb] w (Rt (.bool true) (Bl w)):=by
 have:n<9223372036854775807\/n=9223372036854775807:=by have:=hx.2.1;have:=hx.2.2.1;unfold maxLen at *;omega
 have HX:=hx;have HY:=hy;clear hx hy;go_enter func247,ntmps247;go_wp2;go_loopw[13] (fun i wr=>∃k:Nat,k<=n/\i = I6 k/\Bl w wr) (fun i _=>n-(intOf i).toNat)
 case atStart=>exact⟨0,aB6 _,rfl,Below.refl _ _⟩
 case round=>
  obtain⟨k,hk,rfl,aT⟩:=hrel
  by_cases hlt:k<n
  ·obtain⟨b,off,x,rfl,hx,hb,t0,t1⟩:=HX.at_ hlt
   obtain⟨b2,gY,y,rfl,hy,hb2,s0,s1⟩:=HY.at_ hlt;obtain rfl:x=y:=by rw[hx]at hy;injection hy
   have:=(aT.cell (p:=⟨b,off+k*2,none⟩) hb).trans t0;have:=(aT.cell (p:=⟨b2,gY+k*2,none⟩) hb2).trans s0;have:=(aT.cell (p:=⟨b,off+k*2+1,none⟩) hb).trans t1;have:=(aT.cell (p:=⟨b2,gY+k*2+1,none⟩) hb2).trans s1;have:(k:Int)<(n:Int):=oM
   obtain⟨q1,q2,q3⟩:=aO5 x;clear hb hb2 t0 s0 t1 s1 q2 hx hy;go_wp2;go_quiet(fail);go_wp2;go_roundw
   case rel=>exact⟨k+1,oM,by go_num,below_drewN aT nq⟩
   case measure=>simp[intOf];omega
  ·go_wp2
   go_ret;exact⟨rfl,aT⟩
theorem aK3 (A B:Option Addr) (n ca cb:Nat) (l:List aU) (w:World) (hx:dB w A n ca l) (hy:dB w B n cb l) :
 Calls prog 248 #[.slice A n ca,.slice B n cb] w (Rt (.bool true) (Bl w)):=by
 have:n<9223372036854775807\/n=9223372036854775807:=by have:=hx.2.1;have:=hx.2.2.1;unfold maxLen at *;omega
 have HX:=hx;have HY:=hy;clear hx hy;go_enter func248,ntmps248;go_wp2;go_loopw[13] (fun i wr=>∃k:Nat,k<=n/\i = I6 k/\Bl w wr) (fun i _=>n-(intOf i).toNat)
 case atStart=>exact⟨0,aB6 _,rfl,Below.refl _ _⟩
 case round=>
  obtain⟨k,hk,rfl,aT⟩:=hrel
  by_cases hlt:k<n
  ·obtain⟨b,off,x,rfl,hx,hb,t0,t1,t2,t3,t4⟩:=HX.at_ hlt
   obtain⟨b2,gY,y,rfl,hy,hb2,s0,s1,s2,s3,s4⟩:=HY.at_ hlt;obtain rfl:x=y:=by rw[hx]at hy;injection hy
   have:=(aT.cell (p:=⟨b,off+k*5,none⟩) hb).trans t0;have:=(aT.cell (p:=⟨b2,gY+k*5,none⟩) hb2).trans s0;have:=(aT.cell (p:=⟨b,off+k*5+1,none⟩) hb).trans t1;have:=(aT.cell (p:=⟨b2,gY+k*5+1,none⟩) hb2).trans s1;have:=(aT.cell (p:=⟨b,off+k*5+2,none⟩) hb).trans t2;have:=(aT.cell (p:=⟨b2,gY+k*5+2,none⟩) hb2).trans s2;have:=(aT.cell (p:=⟨b,off+k*5+3,none⟩) hb).trans t3;have:=(aT.cell (p:=⟨b2,gY+k*5+3,none⟩) hb2).trans s3;have:=(aT.cell (p:=⟨b,off+k*5+4,none⟩) hb).trans t4;have:=(aT.cell (p:=⟨b2,gY+k*5+4,none⟩) hb2).trans s4;have:(k:Int)<(n:Int):=oM
   obtain⟨q1,q2,q3⟩:=aO4 x;clear hb hb2 t0 s0 t1 s1 t2 s2 t3 s3 t4 s4 q2 hx hy;go_wp2;go_quiet(fail);go_wp2;go_roundw
   case rel=>exact⟨k+1,oM,by go_num,below_drewN aT nq⟩
   case measure=>simp[intOf];omega
  ·go_wp2
   go_ret;exact⟨rfl,aT⟩
def aO6 (x:dI) :
 (∀(W:World) (op:BinOp) (o1 o2:Operand),(eqGuard op 43 o1 o2 (.agg #[I6 x.min,I6 x.max,I6 x.target,I6 x.lz,I6 x.bp,I6 x.hold]) (.agg #[I6 x.min,I6 x.max,I6 x.target,I6 x.lz,I6 x.bp,I6 x.hold])).run prog W=.ok () W)/\
 (∀W:World,(binOp .eql 43 (.agg #[I6 x.min,I6 x.max,I6 x.target,I6 x.lz,I6 x.bp,I6 x.hold]) (.agg #[I6 x.min,I6 x.max,I6 x.target,I6 x.lz,I6 x.bp,I6 x.hold])).run prog W=.ok (.bool true) W)/\
 (∀W:World,(binOp .neq 43 (.agg #[I6 x.min,I6 x.max,I6 x.target,I6 x.lz,I6 x.bp,I6 x.hold]) (.agg #[I6 x.min,I6 x.max,I6 x.target,I6 x.lz,I6 x.bp,I6 x.hold])).run prog W=.ok (.bool (!true)) W):=
 XD kZ kZ kZ kZ [.i64,.i64,.i64,.i64,.i64,.i64] [x.min,x.max,x.target,x.lz,x.bp,x.hold] [x.min,x.max,x.target,x.lz,x.bp,x.hold] kZ kZ kZ _ _ rfl rfl _ sI
theorem aK7 (x:kT) (A B A2 B2:Option Addr) (n c m d c2 d2:Nat) (w:World) (h1:cH w A n c x.dE) (h2:cH w A2 n c2 x.dE) (h3:dB w B m d x.past) (h4:dB w B2 m d2 x.past) :
 Calls prog 196 #[.agg (bl A n c B m d x.cM x.nM),.agg (bl A2 n c2 B2 m d2 x.cM x.nM)] w (Rt (.slice none 0 0) (Bl w)):=by
 have BX:=(ai.new w jq (bl A n c B m d x.cM x.nM)).alloc (.cells (bl A2 n c2 B2 m d2 x.cM x.nM) jq);have BY:=ai.dR w (.cells (bl A n c B m d x.cM x.nM) jq) jq (bl A2 n c2 B2 m d2 x.cM x.nM);have EX:=(zW w (.cells (bl A n c B m d x.cM x.nM) jq)).alloc sI (.cells (bl A2 n c2 B2 m d2 x.cM x.nM) jq);have HS:=(fun W (hb:Bl w W)=>aK2 A A2 n c c2 x.dE W (af h1 hb) (af h2 hb));have HA:=(fun W (hb:Bl w W)=>aK3 B B2 m d d2 x.past W (af h3 hb) (af h4 hb));clear h1 h2 h3 h4;go_enter func196,ntmps196;go_upto_region 4 with(go_at_call 247;refine zM (HS _ EX) fun w1 hb1=>?_;have B1:=zT EX hb1;have X1:=BX.call hb1;have Y1:=BY.call hb1;clear hb1)
 have:=X1.z 8 (.bool x.nM);have:=Y1.z 8 (.bool x.nM);have:=X1.z 1 (.slice B m d);have:=Y1.z 1 (.slice B2 m d2);have:=X1.z 2 (I6 x.cM.min);have:=Y1.z 2 (I6 x.cM.min);have:=X1.z 3 (I6 x.cM.max);have:=Y1.z 3 (I6 x.cM.max);have:=X1.z 4 (I6 x.cM.target);have:=Y1.z 4 (I6 x.cM.target);have:=X1.z 5 (I6 x.cM.lz);have:=Y1.z 5 (I6 x.cM.lz);have:=X1.z 6 (I6 x.cM.bp);have:=Y1.z 6 (I6 x.cM.bp);have:=X1.z 7 (I6 x.cM.hold);have:=Y1.z 7 (I6 x.cM.hold);obtain⟨q1,q2,q3⟩:=aO6 x.cM;have:(x.nM != x.nM)=false:=sI
 go_wp2_with(go_at_call 248;refine zM (HA _ B1) fun w2 hb2=>?_;have B2':=(zT B1 hb2);clear hb2);go_ret;exact⟨rfl,B2'⟩
theorem aL7 {l:List fF} (s:ByteArray) (hs:s.size<=maxLen) (h1:dg w S g mp A n cc l m) (h2:dg w S2 g2 mp2 A2 n2 cc2 l2 m) (hn:(m.get s).dE.length<=100000) (hm:(m.get s).past.length<=100000):
 Calls prog 149 #[.string s,pt g,pt g2] w (Rt (.string ⟨#[]⟩) (Bl w)):=by
 have Xx:=(fun W (hb:Bl w W)=>uL (h1.call hb).b s hs hn hm);have zu:=(fun W (hb:Bl w W)=>uL (h2.call hb).b s hs hn hm);have at9:(m.M s).getD eF=m.get s:=rfl;rw[at9]at Xx zu;clear h1 h2 hn hm hs at9;generalize m.get s=x at *;generalize(m.M s).isSome=is at *;go_enter func149,ntmps149;go_upto_region 2 with(go_at_call 12;refine(Xx _ bR).mono ?_;rintro e w1 ⟨v1,rfl,⟨A1,n1,c1,B1,m1,d1,rfl,hs1,hp1,-⟩,hb1⟩;have S1:=hs1.is (fun _=>rfl);have P1:=hp1.is (fun _=>rfl);have E1:=zD hb1;clear hs1 hp1 hb1)
 obtain⟨W2,hW2⟩:=zE (w1.alloc (.cells (bl A1 n1 c1 B1 m1 d1 x.cM x.nM) jq));rw[<-hW2];have X2:ai W2 w1.heap.size jq (bl A1 n1 c1 B1 m1 d1 x.cM x.nM):=by rw[hW2];exact ai.new _ _ _
 have E2:Bl w W2:=by rw[hW2];exact E1.out.alloc E1.out.size _
 have S2_:cH W2 A1 n1 c1 x.dE:=by rw[hW2];exact af S1 ((Below.refl _ w1).alloc lR _)
 have P2:dB W2 B1 m1 d1 x.past:=by rw[hW2];exact af P1 ((Below.refl _ w1).alloc lR _)
 obtain⟨b1,hb1⟩:=zE w1.heap.size;rw[<-hb1];rw[<-hb1]at X2;clear hW2 hb1 S1 P1 E1;go_upto_region 3 with(go_at_call 12;refine(zu _ E2).mono ?_;rintro e w3 ⟨v3,rfl,⟨A3,n3,c3,B3,m3,d3,rfl,hs3,hp3,-⟩,hb3⟩;have S3:=hs3.is (fun _=>rfl);have P3:=hp3.is (fun _=>rfl);have E3:=zD hb3;clear hs3 hp3 hb3)
 obtain⟨W4,JX⟩:=zE (w3.alloc (.cells (bl A3 n3 c3 B3 m3 d3 x.cM x.nM) jq));rw[<-JX];have K4:Bl W2 W4:=by rw[JX];exact E3.out.alloc E3.out.size _
 have Y4:ai W4 w3.heap.size jq (bl A3 n3 c3 B3 m3 d3 x.cM x.nM):=by rw[JX];exact ai.new _ _ _
 have X4:=X2.call K4;have S4:cH W4 A3 n3 c3 x.dE:=by rw[JX];exact af S3 ((Below.refl _ w3).alloc lR _)
 have P4:dB W4 B3 m3 d3 x.past:=by rw[JX];exact af P3 ((Below.refl _ w3).alloc lR _)
 have E4:=zT E2 K4;have en:n3=n1:=oI S2_.1 S4.1
 have em:m3=m1:=oI P2.1 P4.1
 subst en;subst em;have HP:=aK7 x A1 B1 A3 B3 n3 c1 m3 d1 c3 d3 W4 (af S2_ K4) S4 (af P2 K4) P4;obtain⟨b3,hb3⟩:=zE w3.heap.size;rw[<-hb3];rw[<-hb3]at Y4;clear JX hb3 S3 P3 E3 K4 X2 S2_ P2 E2 S4 P4 Xx zu;cases is
 ·go_wp2_with(first
   |refine zI X4 underlying45 ?_
   |refine zI Y4 underlying45 ?_
   |(go_at_call 196;refine HP.mono ?_;rintro e w5 ⟨rfl,dx⟩;have B5:=zT E4 dx;clear dx))
  go_loopw[11,13,46] (fun o v i wr=>o=.string ⟨#[]⟩/\i = I6 0/\w5=wr) (fun o v i _=>0)
  case atStart=>exact⟨rfl,rfl,rfl⟩
  case round=>
   obtain⟨rfl,rfl,rfl⟩:=hrel;go_wp2;go_ret;exact⟨rfl,B5⟩
 ·go_wp2_with(first
   |refine zI X4 underlying45 ?_
   |refine zI Y4 underlying45 ?_
   |(go_at_call 196;refine HP.mono ?_;rintro e w5 ⟨rfl,dx⟩;have B5:=zT E4 dx;clear dx))
  go_loopw[11,13,46] (fun o v i wr=>o=.string ⟨#[]⟩/\i = I6 0/\w5=wr) (fun o v i _=>0)
  case atStart=>exact⟨rfl,rfl,rfl⟩
  case round=>
   obtain⟨rfl,rfl,rfl⟩:=hrel;go_wp2;go_ret;exact⟨rfl,B5⟩
section
open Go.RowKit Go.Maps Go.Sort Go.Shelf
def aL8:Go.Shelf.Ren:=⟨fun|194=>148|n=>n,fun|31=>39|9=>9|3=>3|4=>4|0=>0|n=>n,fun|n=>n⟩
def aL9:Go.Proofs.Lays.n194 prog aL8:={
 mixed:=kZ
 f194:=func148.trans (congrArg some kZ)
 t0:=underlying0
 a0:=Tryz.isAgg0
 z0:=Tryz.sizeOf0
 v0:=Tryz.zeroValue0
 t3:=underlying3
 a3:=Tryz.isAgg3
 z3:=Tryz.sizeOf3
 v3:=Tryz.zeroValue3
 t4:=underlying4
 a4:=Tryz.isAgg4
 z4:=Tryz.sizeOf4
 v4:=Tryz.zeroValue4
 t9:=underlying9
 a9:=Tryz.isAgg9
 z9:=Tryz.sizeOf9
 v9:=Tryz.zeroValue9
 t31:=underlying39
 a31:=Tryz.isAgg39
 z31:=Tryz.sizeOf39
 v31:=Tryz.zeroValue39}
def aO7 {base cap:Nat} {cur:Array Value} {l:List ByteArray} (hb:base<=g) (hg:w.heap[g]? = some (.cells cur ak6 (0,0))) (hn:n<=cap) (hm:cap<=maxLen) (hs:cur.size=cap*1) (hl:l.length=n) (ht:cur.toList.take n=(l.map fun s=>s.data.toList).map encStr):Own w base ak6 1 Wo (.slice (some ⟨g,0,none⟩) n cap) l:=by
 show World.ownsRow _ _ _ _ _ l.length (l.flatMap Wo)
 rw[Rb,hl];exact⟨by simp[hl],.inr ⟨g,cap,cur,rfl,hb,hg,hn,hm,hs,by rw[aW6];exact ht⟩⟩
def aK8 (v:Value) (l:List ByteArray) (base:Nat) (w:World) (h:Own w base ak6 1 Wo v l) (hb:base<=w.heap.size) (hl:l.length<=1000000) :
 Calls prog 104 #[v] w fun e w'=>e=.returned (.tuple #[])/\Own w' base ak6 1 Wo v (pX l)/\Below base w w':=by
 rcases h.2 with⟨rfl,hn⟩|⟨g,cap,cur,rfl,hbg,hg,mF,hcm,hcs,EZ⟩
 ·have hl0:l=[]:=aC0 hn
  subst hl0;refine(AnyM.slices_Sort_string_none ac7 none 0 w).mono ?_;rintro e w' ⟨rfl,rfl⟩;exact⟨rfl,by rw[show pX []=[]from by unfold pX;rw[List.map_nil,List.mergeSort_nil];rfl];exact Own.nil _ _ _ _ _,Below.refl _ _⟩
 ·have hg2:g<w.heap.size:=(aF4.1 hg).1
  rw[Rb,aW6]at EZ;have e0:(l.map fun s=>s.data.toList).length=l.length:=aC8 _;have hH:=Go.holds_of_block (ss:=l.map fun s=>s.data.toList) hg (e0▸EZ);have hC:=AnyM.slices_Sort_string ac7 g 0 cap (l.map fun s=>s.data.toList) w hH hg2 (oH e0);rw[e0]at hC;refine hC.mono ?_;rintro e w' ⟨rfl,n,os,rfl⟩;refine⟨rfl,?_,(Below.refl base w).grown (Go.grownBy_sorted _) hb (fun k e=>by cases e;exact hbg)⟩;have:=Go.ownsRow_sorted (n:=n) (os:=os) (e:=ak6) (ss:=l.map fun s=>s.data.toList) (ts:=(l.map fun s=>s.data.toList).mergeSort leB) (base:=base) (List.length_mergeSort _) hbg hg (e0▸mF) hcm hcs
  show World.ownsRow _ _ _ _ _ (pX l).length ((pX l).flatMap _)
  rw[Rb,y6];unfold pX;rw[Wp,<-e0];exact this
def aM0 (zs:List (List UInt8)):∀x∈Lib.compact zs,x∈zs:=fun x hx=>by
 unfold Lib.compact Lib.compactUpTo at hx;obtain⟨i,hi,rfl⟩:=aF2.1 hx;rw[getElem!_pos _ i (sH (aR8.1 (aD5.1 hi).1))];simp
def aM1 (zs:List (List UInt8)):(Lib.compact zs).length<=zs.length:=by
 unfold Lib.compact Lib.compactUpTo;rw[aC8];exact aB4 (aE7 _ _) sI
def aJ7 (v:Value) (l:List ByteArray) (base:Nat) (w:World) (h:Own w base ak6 1 Wo v l) (hb:base<=w.heap.size) (hl:l.length<=1000000) :
 Calls prog 148 #[v] w fun e w'=>∃v' l',e=.returned v'/\Own w' base ak6 1 Wo v' l'/\(∀s∈l',s∈l)/\l'.length<=l.length/\Below base w w':=by
 rcases h.2 with⟨rfl,hn⟩|⟨g,cap,cur,rfl,hbg,hg,mF,hcm,hcs,EZ⟩
 ·have hl0:l=[]:=aC0 hn
  subst hl0;refine(Any.slices_Compact_string_empty aL9 none 0 w).mono ?_;rintro e w' ⟨rfl,rfl⟩;exact⟨_,[],rfl,Own.nil _ _ _ _ _,fun s h=>h,aC2 _,Below.refl _ _⟩
 ·have:g<w.heap.size:=(aF4.1 hg).1
  rw[Rb,aW6]at EZ;obtain⟨zs,hz⟩:=zE (l.map fun s=>s.data.toList);have e0:zs.length=l.length:=by rw[hz];exact aC8 _
  rw[<-hz]at EZ;have hH:=Go.holds_of_block (ss:=zs) hg (e0▸EZ);have hC:=Any.slices_Compact_string aL9 g 0 cap zs w hH oM oM;rw[e0]at hC;refine hC.mono ?_;rintro e w' ⟨rfl,n,rfl⟩;have:=aM1 zs;have eg:∀W:World,grow W #[]=W:=fun W=>by unfold grow;simp
  refine⟨_,(Lib.compact zs).map fun x=>⟨x.toArray⟩,rfl,?_,fun s hs=>?_,by rw[aC8];omega,?_⟩
  ·have hR:=Go.ownsRow_sorted (n:=n) (os:=#[]) (e:=ak6) (ss:=zs) (ts:=Lib.compact zs++List.replicate (zs.length-(Lib.compact zs).length) []) (base:=base) sM hbg hg oM hcm hcs
   rw[e0,eg]at hR;rcases hR.2 with⟨h1,-⟩|⟨g',cap',cur',h1,h2,h3,h4,h5,h6,h7⟩
   ·cases h1
   ·injection h1 with h1 h8 h9
    injection h1 with h1
    injection h1 with h1
    subst h1;subst h9;rw[aW6]at h7;refine aO7 h2 h3 oM h5 h6 (aC8 _) ?_;rw[Wp];have h10:=congrArg (List.take (Lib.compact zs).length) h7;rw[aH4,aG5 oM,aG4,aG9 sI]at h10;rw[h10,aB5 sI]
  ·obtain⟨x,hx,rfl⟩:=aF2.1 hs
   have h1:=aM0 zs x hx;rw[hz]at h1;obtain⟨s,hs2,rfl⟩:=aF2.1 h1;have e9:(⟨s.data.toList.toArray⟩:ByteArray)=s:=by cases s;simp
   rw[e9];exact hs2
  ·rw[<-eg (putRow _ _ _ _ _)]
   exact(Below.refl base w).grown (Go.grownBy_sorted (os:=#[]) _) hb (fun k e=>by cases e;exact hbg)
end
def aO8:(prog.info? ak6).map (fun i=>(i.zero,i.size,i.bytes))=some (some (.string ⟨#[]⟩),1,16):=kZ
def aO9:∀x:ByteArray,∀u∈Wo x,u.oneCell' = true:=fun x u hu=>by
 simp[Wo]at hu;subst hu;rfl
theorem aK9 {l:List fF} (h1:dg w S g mp A n cc l m) (h2:dg w S2 g2 mp2 A2 n2 cc2 l2 m) (hm:∀s,(m.get s).dE.length<=100000/\(m.get s).past.length<=100000):
 Calls prog 77 #[pt g,pt g2] w (Rt (.slice none 0 0) (Bl w)):=by
 have HI1:=zD (fun W (hb:Bl w W)=>Jp (h1.call hb));have Xq:=zD (fun W (hb:Bl w W)=>Jp (h2.call hb));have HL:=zD (fun s (hs:s∈m.ks) W (hb:Bl w W)=>aL7 s (by obtain⟨f,hf⟩:=h1.b.map;exact hf.map.good s hs) (h1.call hb) (h2.call hb) (hm s).1 (hm s).2);have HN:=zD (show(pX m.ks).length<=100000 by rw[y6];exact h1.b.len);clear h1 h2 hm;obtain⟨L,hL⟩:=zE (pX m.ks);have HK:=zD (show ∀s∈L,s∈m.ks from fun s hs=>by rw[hL]at hs;exact(y7 m.ks s).1 hs);rw[<-hL]at HI1 Xq HN;clear hL;go_enter func77,ntmps77;go_upto_region 4 with(first
  |go_at_call 11;refine(Xq.out _ B1.out).mono ?_;rintro e w2 ⟨v2,rfl,mv,hb2⟩;obtain⟨A3,n3,c3,rfl,Tg,hs3⟩:=mv.shape (fun _=>rfl);have S3:=zD hs3;have N3:=zD Tg;have O2:=zD (O1.out.call hb2);have B2:=zD (zT B1.out hb2);clear mv hb2 Tg hs3
  |go_at_call 11;refine(HI1.out _ bR).mono ?_;rintro e w1 ⟨v1,rfl,ho1,hb1⟩;have O1:=zD ho1;have B1:=zD hb1;clear ho1 hb1
  |at_builtin;refine fP _ rfl (.tmp 11) (.tmp 13) 39 rfl w.heap.size ak6 _ 1 16 Wo underlying39 aO8 rF dC (fun _=>rfl) aO9 v1 L rfl O2.out A3 n3 c3 L rfl S3.out (oI N3.out HN.out) dC B2.out.size ?_;intro v4 w4 qP hb4 hg4;have O4:=zD qP;have B4:=zD (B2.out.trans hb4);clear qP hb4 hg4
  |(go_at_call 104;refine(aK8 v4 (L++L) w.heap.size _ O4.out B4.out.size (by have:=HN.out;rw[aB8];omega)).mono ?_;rintro e w5 ⟨rfl,kG,dx⟩;have O5:=zD kG;have B5:=zD (B4.out.trans dx);clear kG dx))
 have HCp:=zD (aJ7 v4 (pX (L++L)) w.heap.size w5 O5.out B5.out.size (by have:=HN.out;rw[y6,aB8];omega));go_wp2_with(go_at_call 148;refine HCp.out.mono ?_;rintro e w6 ⟨v6,l6,rfl,tA,uZ,hl6,dJ⟩;obtain⟨A6,n6,c6,rfl,Xk,hS6⟩:=tA.shape (fun _=>rfl);have S6:=zD hS6;have M6:=zD uZ;have N6:=zD (show n6<=200000 by have:=HN.out;rw[y6,aB8]at hl6;omega);have B6:=zD (B5.out.trans dJ);clear tA uZ hl6 dJ Xk hS6);clear HCp O5 B5 O4 B4 O2 B2 S3 N3 O1 B1 HI1 Xq;go_loopw[6,20] (fun o i wr=>∃k:Nat,k<=n6/\o=.slice none 0 0/\i = I6 (k:Int)/\Bl w6 wr) (fun o i _=>n6-(intOf i).toNat)
 case atStart=>exact⟨0,aB6 _,rfl,rfl,Below.refl _ _⟩
 case round=>
  obtain⟨k,hk,rfl,rfl,hb⟩:=hrel;have HB:=zD hb;clear hb;have:=N6.out
  by_cases hlt:k<n6
  ·obtain⟨b,off,s,rfl,hs,fH,hcl⟩:=ag.at_ (af S6.out HB.out) hlt
   have:wr.cell? ⟨b,off+k,none⟩=some (.string s):=by have h9:=hcl 0 _ rfl;simpa[Wo]using h9
   have hin:s∈m.ks:=HK.out s (by
    have h9:=M6.out s (aC1 hs);rw[y7,aD1]at h9;exact h9.elim id id)
   have fJ:=zD (HL.out s hin wr (zT B6.out HB.out));have:(k:Int)<(n6:Int):=oM
   clear hs fH hcl hin;go_wp2_with(go_at_call 149;refine fJ.out.mono ?_;rintro e w7 ⟨rfl,lV⟩;have B7:=zD (zT HB.out lV);clear lV);go_roundw
   case rel=>exact⟨k+1,oM,rfl,by go_num,B7.out⟩
   case measure=>simp[intOf];omega
  ·have: ¬(k:Int)<(n6:Int):=oM
   go_wp2;go_ret;exact⟨rfl,zT B6.out HB.out⟩
theorem aM2 {l:List fF} (h1:dg w S g mp A n cc l m) (h2:dg w S2 g2 mp2 A2 n2 cc2 l2 m) (hm:∀s,(m.get s).dE.length<=100000/\(m.get s).past.length<=100000):
 Calls prog 24 #[pt g,pt g2] w (Rt (.bool true) (Bl w)):=by
 have HL:=aK9 h1 h2 hm;clear h1 h2 hm;go_enter func24,ntmps24;go_wp2_with(go_at_call 77;refine HL.mono ?_;rintro e w1 ⟨rfl,B1⟩);go_ret;exact⟨rfl,B1⟩
theorem aL0 (A:Option Addr) (n c room:Nat) (l:List aD) (w:World) (hs:cH w A n c l) (hl:SmE room l) (hr:n<=1000) :
 Calls prog 86 #[.slice A n c] w (Rt (.bool true) (Bl w)):=by
 have HS:=zD hs;have HE:=zD hl;clear hs hl;go_enter func86,ntmps86;go_wp2;go_loopw[7] (fun i wr=>∃k:Nat,k<=n/\i = I6 (k:Int)/\Bl w wr) (fun i _=>n-(intOf i).toNat)
 case atStart=>exact⟨0,aB6 _,rfl,Below.refl _ _⟩
 case round=>
  obtain⟨k,hk,rfl,hb⟩:=hrel;have HB:=zD hb
  by_cases hlt:k<n
  ·obtain⟨b,off,x,rfl,hx,fH,t0,t1⟩:=HS.out.at_ hlt
   have kt0:=(hb.cell (p:=⟨b,off+k*2,none⟩) fH).trans t0;have kt1:=(hb.cell (p:=⟨b,off+k*2+1,none⟩) fH).trans t1;have:(k:Int)<(n:Int):=oM
   have HR:=zD (show ∀W,Calls prog 78 #[I6 x.tick,I6 x.value] W ((Rt (I6 0) (Bl W)))from fun W=>(dA x.tick x.value W).mono (fun e w' ⟨h1,h2⟩=>⟨by rw[h1,HE.out.pos x (aC1 hx)],h2 ▸ Below.refl _ _⟩));go_upto_region 4 with fail
   obtain⟨B,hB⟩:=zE wr.heap.size;obtain⟨W2,hW2⟩:=zE (wr.alloc (.cells #[I6 x.tick,I6 x.value] 183));have X2:=zD (show ai W2 B 183 #[I6 x.tick,I6 x.value]from by rw[hW2,hB];exact ai.new _ _ _);have B2:=zD (show Bl w W2 from by rw[hW2];exact HB.out.alloc HB.out.size _);rw[<-hW2,<-hB];clear hW2 hB kt0 kt1 t0 t1 hb;cases k with
   |zero=>
    refine zB fun S0=>?_
    refine zk 17 [0,1,2,3] [_,I6 x.tick,_,I6 x.value] (.q zX<|.q (zS fun _ h=>(X2.out.call h).z 0 (I6 x.tick))<|.q zX<|.q (zS fun _ h=>(X2.out.call h).z 1 (I6 x.value)) .nil) S0 ?_;refine zQ 4 ?_;go_wp2_with(go_at_call 78;refine zM (HR.out _) fun v5 dx=>?_);refine .i (zT S0 dx) ?_;have S5:=zT S0 dx;refine zq 11 [5,6,7,8,9] [.bool false,_,_,.bool false,_] S5 ?_;refine zk 6 [10,11,12,13,14] [undef,undef,undef,undef,undef] (.q zw<|.q zw<|.q zw<|.q zw<|.q zw .nil) S5 ?_;refine zk 1 [15,16,17,18,19] [undef,undef,undef,undef,.bool false] (.q zw<|.q zw<|.q zw<|.q zw<|.e) S5 ?_;refine zq 0 [20] [.bool false] S5 ?_;refine zd ?_;have D5:=zD (zT B2.out S5);go_wp2;go_roundw
    case rel=>exact⟨0+1,oM,by go_num,D5.out⟩
    case measure=>simp[intOf];omega
   |succ j=>
    obtain⟨b',tL,y,e1,hy,aQ9,t0,t1⟩:=HS.out.at_ (k:=j) oM;obtain⟨rfl,rfl⟩:b' = b/\tL = off:=by injection e1 with e1;injection e1 with e2 e3;exact⟨e2.symm,e3.symm⟩
    have HT:=zD (show y.tick<x.tick from List.pairwise_iff_getElem.1 HE.out.RP j (j+1) (oH (d9.1 hy).1) (oH (d9.1 hx).1) oM |> fun h=>by
     rw[(d9.1 hy).2,(d9.1 hx).2]at h;exact h)
    have Y0:=zD (show b' < w.heap.size/\w.cell? ⟨b',tL + j*2,none⟩=some (I6 y.tick)from⟨aQ9,t0⟩);have:((j+1:Nat):Int)-1=(j:Int):=oM
    have:IntKind.i64.wrap (j:Int)=(j:Int):=IntWalk.i64_in _ oM;have:(j:Int)<(n:Int):=oM
    have:(0:Int)<((j+1:Nat):Int):=oM
    have:decide (x.tick<=y.tick)=false:=decide_eq_false (oH HT.out);clear t0 t1 hy hx fH aQ9 e1;refine zB fun S0=>?_
    refine zk 17 [0,1,2,3] [_,I6 x.tick,_,I6 x.value] (.q zX<|.q (zS fun _ h=>(X2.out.call h).z 0 (I6 x.tick))<|.q zX<|.q (zS fun _ h=>(X2.out.call h).z 1 (I6 x.value)) .nil) S0 ?_;refine zQ 4 ?_;go_wp2_with(go_at_call 78;refine zM (HR.out _) fun v5 dx=>?_);refine .i (zT S0 dx) ?_;have S5:=zT S0 dx;refine zq 11 [5,6,7,8,9] [.bool false,_,_,.bool true,_] S5 ?_;refine zk 6 [10,11,12,13,14] [_,I6 x.tick,_,_,I6 (j:Int)] (.q zX<|.q (zS fun _ h=>(X2.out.call h).z 0 (I6 x.tick))<|.q zX<|.q zX<|.e) S5 ?_;refine zk 1 [15,16,17,18,19] [.pointer (some ⟨b',tL + j*2,none⟩),_,I6 y.tick,.bool false,.bool false] (.q zX<|.q zX<|.c rfl rfl (zl fun _ h=>by have c:=(zT B2.out h).cell (p:=⟨b',tL + j*2,none⟩) Y0.out.1;rw[Y0.out.2]at c;go_simp)<|.q zX<|.e) S5 ?_;refine zq 0 [20] [.bool false] S5 ?_;refine zd ?_;go_wp2;go_roundw
    case rel=>exact⟨(j+1)+1,oM,by go_num,(zT B2.out S5)⟩
    case measure=>simp[intOf];omega
  ·have: ¬(k:Int)<(n:Int):=oM
   go_wp2;go_ret;exact⟨rfl,HB.out⟩
def aK1 (n:Int):Int:=if dD n then jT n else -1
theorem aM4 (n:Int) (w:World) (hn:aw n) :
 Calls prog 52 #[I6 n] w fun e w'=>e=.returned (I6 (aK1 n))/\w=w':=by
 by_cases h:dD n=true
 ·have hr:=a7 h
  rcases hr with rfl|rfl|rfl|rfl|rfl|rfl|rfl
  all_goals
   go_enter func52,ntmps52;go_wp2;refine wp_loop_rounds 8 ?_
   repeat (rw[rounds_succ];go_wp2)
   go_ret;exact⟨rfl,rfl⟩
 ·have h' : dD n=false:=sH h
  have e:aK1 n = -1:=by unfold aK1;rw[h'];rfl
  unfold dD at h';simp at h';obtain⟨⟨⟨⟨⟨⟨n1,n2⟩,n4⟩,n8⟩,n16⟩,n32⟩,n64⟩:=h';have:(n==1)=false:=sH n1
  have:(n==2)=false:=sH n2
  have:(n==4)=false:=sH n4
  have:(n==8)=false:=sH n8
  have:(n==16)=false:=sH n16
  have:(n==32)=false:=sH n32
  have:(n==64)=false:=sH n64
  have E:=e;clear h e n1 n2 n4 n8 n16 n32 n64;go_enter func52,ntmps52;go_wp2;refine wp_loop_rounds 8 ?_
  repeat (rw[rounds_succ];go_wp2)
  go_ret;exact⟨au E.symm,rfl⟩
theorem aM5 (c:aM) (w:World) (hc:c.fit) :
 Calls prog 18 #[.agg c.row] w (Rt (.bool (decide c.gV)) (Bl w)):=by
 cases hr:dD c.str
 ·have HE:=zD (show decide c.gV=false from decide_eq_false (by unfold aM.gV;rw[hr];simp))
  have HC:=zD (fun W=>aM4 c.str W hc.1);rw[show aK1 c.str = -1 from if_neg (by rw[hr];simp)]at HC;clear hr;go_enter func18,ntmps18;go_wp2_with(go_at_call 52;refine zN (HC.out _) ?_);go_ret;exact⟨dQ HE.out.symm,gW⟩
 ·have HC:=zD (fun W=>aM4 c.str W hc.1)
  rw[show aK1 c.str=jT c.str from if_pos hr]at HC;have:=(SM c.str).1;have HE1:=zD (fun(h:c.dE<1\/256<c.dE\/c.lW<1\/256<c.lW\/c.iI<1\/64<c.iI)=>(show decide c.gV=false from decide_eq_false (by unfold aM.gV;omega)));have HE0:=zD (fun(h:1<=c.dE/\c.dE<=256/\1<=c.lW/\c.lW<=256/\1<=c.iI/\c.iI<=64)=>(show decide c.gV=true from decide_eq_true ⟨hr,h⟩));have HE2:=zD (fun(h:1<=c.dE/\c.dE<=256/\1<=c.lW/\c.lW<=256/\1<=c.iI)=>(show decide (c.iI<=64)=decide c.gV from by
   by_cases h2:c.iI<=64
   ·rw[decide_eq_true h2];exact(decide_eq_true ⟨hr,h.1,h.2.1,h.2.2.1,h.2.2.2.1,h.2.2.2.2,h2⟩).symm
   ·rw[decide_eq_false h2];exact(decide_eq_false (by unfold aM.gV;omega)).symm))
  generalize jT c.str=B at *;clear hr;go_enter func18,ntmps18;go_wp2_with(go_at_call 52;refine zN (HC.out _) ?_)
  all_goals
   go_ret;refine⟨dQ ?_,gW⟩
   first
    |exact(HE1.out oM).symm
    |exact(HE0.out oM).symm
    |exact HE2.out oM
end Go.Proofs.YtjgmjohiehbgaaaGreat
