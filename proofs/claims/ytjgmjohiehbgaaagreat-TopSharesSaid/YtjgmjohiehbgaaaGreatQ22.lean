/- Part 22. -/
import Derived.Test.YtjgmjohiehbgaaaGreatQ19
import Derived.Test.YtjgmjohiehbgaaaGreatQ21
namespace Go.Proofs.YtjgmjohiehbgaaaGreat
open Go.RowKit Go.Proofs.Tryz
set_option maxHeartbeats 20000000
set_option maxRecDepth 100000
set_option linter.all false
variable {S S':aL} {W:Gw} {a g gw i n s:Nat} {c:bh} {cf:aM} {k:Int} {l:List iM} {p:List ak} {w:World} {x:Cl}
open List (not_mem_nil)
def opAt (s:Nat) (k:Int) (l:List iM) (a:Nat):Bool:=
 let o:=l.getD a vt
 let j:=if k=1\/k=6 then 1 else 0
 decide (1<=o.kind)&&decide (o.kind<=7)&&decide (-1<=o.lock)&&decide (o.lock<=100)&&(decide (o.kind=7)==decide (a+1=l.length))
 && (decide (o.kind≠4) || !(l.take a).any fun o=>decide (o.kind=4))
 && (decide (¬(o.kind=5/\o.lock<(s:Int)))||decide ((l.getD (a+3*j+1) vt).lock≠(s:Int)+1)&&decide (a+3*j+1<l.length)&&(decide (j=0)||decide ((l.getD (a+1) vt).lock=(s:Int)+1))&&(decide (j=0)||decide (a=3)))
 && (decide (¬(o.kind=6))||decide (k=1\/k=6)&&decide (a=5))
 && (decide (¬(k=1\/k=6))||decide (l.length=2)||(decide (l.length=8)&&(decide (a≠0)||decide (o.kind=1))&&(decide (a≠2)||decide (o.kind=4))&&(decide (a≠3)||decide (o.kind=5/\o.lock<(s:Int)))&&(decide (o.kind≠4)||decide (a=2))&&(decide (o.kind≠1)||decide (a=0))))
 && (decide (l.length=2)||decide (3<=l.length))
def CG (s:Nat) (k:Int) (l:List iM):Bool:=(List.range l.length).all fun a=>opAt s k l a
theorem Zq:∀s ∈ [1,2,4,8],∀k∈List.range 9,∀h∈List.range s,∀e ∈ [0,1],CG s (k:Int) (vR true (e:Int) (h:Int) s (k:Int))=true:=by decide +kernel
structure Zr (s:Nat) (k:Int) (l:List iM) (a:Nat):Prop where
 k1:1<=(l.getD a vt).kind/\(l.getD a vt).kind<=7
 lk : -1<=(l.getD a vt).lock/\(l.getD a vt).lock<=100
 last:(l.getD a vt).kind=7↔a+1=l.length
 once:(l.getD a vt).kind=4->((l.take a).any fun o=>decide (o.kind=4))=false
 skip:(l.getD a vt).kind=5->(l.getD a vt).lock<(s:Int)->SkJ l ((s:Int)+1) a (if k=1\/k=6 then 1 else 0)/\((k=1\/k=6)->a=3)
 six:(l.getD a vt).kind=6->(k=1\/k=6)/\a=5
 one:(k=1\/k=6)->l.length=2\/l.length=8/\(a=2->(l.getD a vt).kind=4)/\(a=3->(l.getD a vt).kind=5/\(l.getD a vt).lock<(s:Int))/\((l.getD a vt).kind=4->a=2)/\((l.getD a vt).kind=1->a=0)
theorem Zs (h:opAt s k l a=true):Zr s k l a:=by
 unfold opAt at h;simp only[aF0,Bool.or_eq_true,decide_eq_true_eq,beq_iff_eq,decide_eq_decide,Bool.not_eq_true']at h;obtain⟨⟨⟨⟨⟨⟨⟨⟨⟨h1,h2⟩,h3⟩,h4⟩,h5⟩,h6⟩,h7⟩,h8⟩,h9⟩,h10⟩:=h;refine⟨⟨h1,h2⟩,⟨h3,h4⟩,h5,fun e=>?_,fun e1 e2=>?_,fun e=>?_,fun e=>?_⟩
 ·rcases h6 with h6|h6
  ·exact absurd e h6
  ·exact h6
 ·rcases h7 with h7|⟨⟨⟨h7,h11⟩,h12⟩,Vw⟩
  ·exact absurd ⟨e1,e2⟩ h7
  ·refine⟨⟨fun i hi=>?_,h7,h11⟩,fun e=>?_⟩
   ·rcases h12 with h12|h12
    ·rw[h12]at hi;omega
    ·split at hi
     ·have:i=0:=oM
      subst this;exact h12
     ·omega
   ·rcases Vw with Vw|Vw
    ·rw[if_pos e]at Vw;omega
    ·exact Vw
 ·rcases h8 with h8|h8
  ·exact absurd e h8
  ·exact h8
 ·rcases h9 with(h9|h9)|⟨⟨⟨⟨⟨h9,h11⟩,h12⟩,Vw⟩,h14⟩,h15⟩
  ·exact absurd e h9
  ·exact .inl h9
  ·refine .inr ⟨h9,fun e=>?_,fun e=>?_,fun e=>?_,fun e=>?_⟩
   ·rcases h12 with h12|h12
    ·exact absurd e h12
    ·exact h12
   ·rcases Vw with Vw|Vw
    ·exact absurd e Vw
    ·exact Vw
   ·rcases h14 with h14|h14
    ·exact absurd e h14
    ·exact h14
   ·rcases h15 with h15|h15
    ·exact absurd e h15
    ·exact h15
theorem Vx (h:CG s k l=true) (ha:a<l.length):Zr s k l a:=
 Zs (aI0.1 h a (List.mem_range.2 ha))
theorem Zt (s:Nat) (k:Int):CG s k [⟨1,0⟩,⟨7,0⟩]=true:=by
 have h:∀a ∈ [0,1],opAt s k [⟨1,0⟩,⟨7,0⟩] a=true:=by
  intro a ha;simp only[aE7,not_mem_nil,or_false]at ha;rcases ha with rfl|rfl<;>by_cases e:k=1\/k=6<;>simp[opAt,e]
 simpa[CG,List.range_succ]using h
theorem CH {s:ByteArray} {t v:Int} {p:dI} (h:bJ k s t v p=0):1<=k/\k<=8/\((k=1\/k=5\/k=6\/k=7)->eO s=true):=by
 unfold bJ at h
 split at h
 ·exact absurd h dC
 ·split at h
  ·exact absurd h dC
  ·rename_i h1 h2
   exact⟨oM,oM,fun e=>by
    cases hi:eO s with
    |true=>rfl
    |false=>exact absurd ⟨e,hi⟩ h2⟩
theorem QA {h1 h2:Int} (hk:k≠1/\k≠6/\k≠7):gI h1 s k=gI h2 s k:=by
 have a:¬(k=1\/k=6):=oM
 have b:¬k=7:=hk.2.2;unfold gI;simp only[if_neg a,if_neg b]
theorem QB (a8:cf.gV) (h8:cf.str<=8) (k:Int) (s:ByteArray) (t v:Int) (p:dI):CG cf.str.toNat k (cN cf k s t v p)=true:=by
 unfold cN;rw[decide_eq_true a8];have hs:cf.str.toNat ∈ [1,2,4,8]:=by
  have:=a7 a8.1;simp only[aE7,not_mem_nil,or_false];omega
 by_cases he:bJ k s t v p=0
 ·obtain⟨k1,k8,hid⟩:=CH he
  rw[he];have zP:0<cf.str.toNat:=by simp only[aE7,not_mem_nil,or_false]at hs;omega
  have key:∀h:Nat,h<cf.str.toNat->CG cf.str.toNat k (vR true 0 (h:Int) cf.str.toNat k)=true:=fun h hh=>by
   have h9:=Zq cf.str.toNat hs k.toNat (List.mem_range.2 oM) h (List.mem_range.2 hh) 0 sI;rw[Int.toNat_of_nonneg oM]at h9;exact h9
  by_cases hk:k=1\/k=6\/k=7
  ·have h2:=hid oM
   have hb:=xN (aO s) (aP s) cf.str;have hh:dZ cf s=((Fe (aO s) (aP s) cf.str).toNat:Int):=by
    unfold dZ;rw[if_pos h2];have:=(xN (aO s) (aP s) cf.str).2.2 a8.1;omega
   rw[hh];refine key _ ?_;have:=(xN (aO s) (aP s) cf.str).2.2 a8.1;omega
  ·have h3:=key 0 zP
   unfold vR at h3 |-;rw[QA (h2:=((0:Nat):Int)) oM];exact h3
 ·have:vR true (bJ k s t v p) (dZ cf s) cf.str.toNat k=[⟨1,0⟩,⟨7,0⟩]:=by
   unfold vR;rw[if_pos rfl,if_neg he]
   rfl
  rw[this];exact Zt _ _
theorem IM (a8:cf.gV) (h8:cf.str<=8) (c:ak) (ha:a<(cN cf c.k c.s c.t c.v c.p).length):Zr cf.str.toNat c.k (cN cf c.k c.s c.t c.v c.p) a:=Vx (QB a8 h8 _ _ _ _ _) ha
def IX (S:aL) (x:Cl) (a:Nat):Prop:=(x.call.k=1\/x.call.k=6)->(3<=a->a<=5->x.rep.err=0->bj S x.call.key)/\(4<=a->a<=5->x.rep.err=0)
abbrev Cl.steps (cf:aM) (x:Cl):List iM:=cN cf x.call.k x.call.s x.call.t x.call.v x.call.p
structure Xv (cf:aM) (p:List ak) (i:Nat) (S:aL) (x:Cl):Prop where
 task:x.task=(i:Int)
 prog:x.prog=p
 nth:x.nth<=p.length
 wants:aw x.wants
 ops:x.ops=[]\/(x.nth<p.length/\x.ops=x.steps cf/\x.at_<x.ops.length/\IX S x x.at_)
def ry (x:Cl):Nat:=x.nth+if((x.ops.take x.at_).any fun o=>decide (o.kind=4))=true then 1 else 0
theorem ai7 (h:Xv cf p i S x):ry x<=p.length:=by
 unfold ry;rcases h.ops with e|⟨h1,-⟩
 ·rw[e];simp;exact h.nth
 ·split<;>omega
theorem IX.aG (h:IX S x a) (hp:∀k,bj S k->bj S' k):IX S' x a:=fun hk=>⟨fun h1 h2 h3=>hp _ ((h hk).1 h1 h2 h3),(h hk).2⟩
theorem Xv.aG (h:Xv cf p i S x) (hp:∀k,bj S k->bj S' k):Xv cf p i S' x:=
 ⟨h.task,h.prog,h.nth,h.wants,h.ops.imp id fun⟨h1,h2,h3,h4⟩=>⟨h1,h2,h3,h4.aG hp⟩⟩
theorem pJ {n:Int} (h1 : -1<=n) (h2:n<=1000):aw n:=by unfold aw;omega
theorem Xv.ok {k:Nat} (h:Xv cf p i W.aG x) (zv:W.aG.cfg=cf) (hs:qj W.aG n k) (h8:cf.str<=8) (hi:i<32) (hp:∀c∈p,bM c) (hpl:p.length<=1000):ai6 W x:=by
 have a8:cf.gV:=zv ▸ hs.py;have hcall:bM x.call:=by
  unfold Cl.call;rw[h.prog,aC2];cases hc:p[x.nth]? with
  |none=>exact⟨dC,by unfold aw;decide,by unfold aw;decide,by unfold aw;decide,by unfold aw;decide,by unfold dI.fit iU ag9 aw;decide⟩
  |some c=>exact hp c (aB7 hc)
 have QG:(x.set W).ops=x.steps cf/\(x.set W).at_<(x.steps cf).length/\(x.set W).call=x.call:=by
  unfold Cl.set;rw[zv]
  split
  ·rename_i e
   exact⟨rfl,List.length_pos_iff.2 (uz a8 _ _ _ _ _),rfl⟩
  ·rename_i e
   rcases h.ops with e'|⟨-,h2,h3,-⟩
   ·exact absurd e' e
   ·exact⟨h2,h2 ▸ h3,rfl⟩
 obtain⟨s1,s2,s3⟩:=QG;have hop:(x.set W).op=(x.steps cf).getD (x.set W).at_ vt:=by unfold Cl.op;rw[s1]
 have ha:=IM a8 h8 x.call s2;have Ir:((cf.str.toNat:Nat):Int)=cf.str:=by have:=a7 a8.1;omega
 refine⟨h.wants,by rw[h.task];exact pJ oM oM,by have:=h.nth;omega,hcall,by rw[s1];exact s2,by rw[s1];exact aB4 (x6 _ _ _ _ _ _) dC,?_,?_,?_,zv ▸ hs.fit,zv ▸ a8⟩
 ·rw[hop];exact pJ ha.lk.1 (Int.le_trans ha.lk.2 dC)
 ·rw[hop];exact ha.k1
 ·rw[hop,s1]
  intro e1 e2 e3;have h9:=(ha.skip e1 (by rw[Ir];exact zv ▸ e2)).1;rw[Ir]at h9;refine⟨_,(by unfold ez;rw[zv];exact h9),?_⟩;have:=h9.len
  split<;>omega
structure ClM (cf:aM) (p:List ak) (i:Nat) (e u d:Nat) (W:Gw) (x:Cl) (W' : Gw) (x' : Cl):Prop where
 gw:∀d',d+ry x'<=d' + ry x->jD cf W' (e+2) (u+1) d'
 cl:Xv cf p i W'.aG x'
 uF:∀k,bj W.aG k->bj W'.aG k
 zG:W'.mo.asleep ⊆ W.mo.asleep
 dn:ry x<=ry x'
theorem IY {o:iM} (h:l.getD a vt=o) (ha:a<l.length):((l.take (a+1)).any fun o=>decide (o.kind=4))=(((l.take a).any fun o=>decide (o.kind=4))||decide (o.kind=4)):=by
 rw[aC2,aB3 ha]at h;rw[List.take_succ,aB3 ha,List.any_append];simp at h;simp[h]
theorem VC {b:Nat} (h:a<=b) (h1:((l.take a).any fun o=>decide (o.kind=4))=true):((l.take b).any fun o=>decide (o.kind=4))=true:=by
 rw[List.any_eq_true]at *;obtain⟨o,ho,h2⟩:=h1;exact⟨o,(List.take_sublist_take_left h).subset ho,h2⟩
theorem VD {y:Cl} {e u d:Nat} (hg:jD cf W e u d) (h8:cf.str<=8) (hd:d<=58) (hi:rr (i:Int)) (hn:(i:Int) ∉ W.mo.asleep) (hc:bM y.call) (ht:y.task=(i:Int)) (hpr:y.prog=p) (ap7:y.nth<p.length) (hw:aw y.wants) (QI:y.ops=y.steps cf) (hat:y.at_<y.ops.length) (zP:IX W.aG y y.at_):
 ClM cf p i e u d W y (y.act W).1 {(y.act W).2 with at_:=if(y.act W).2.ops=[]then 0 else(y.act W).2.at_+1}:=by
 obtain⟨n0,k0,hs,-,-⟩:=hg.wO;have a8:cf.gV:=hg.cfg ▸ hs.py;have ha:Zr cf.str.toNat y.call.k y.ops y.at_:=by rw[QI];exact IM a8 h8 y.call (Nat.lt_of_lt_of_eq hat (congrArg List.length QI))
 have hne:y.ops≠[]:=fun e=>by rw[e]at hat;simp at hat
 have Ir:((cf.str.toNat:Nat):Int)=cf.str:=by have:=a7 a8.1;omega
 have hop:y.op=y.ops.getD y.at_ vt:=rfl;have hg2:∀{W' : Gw} {e' u' : Nat} {d0:Nat} {x' : Cl},jD cf W' e' u' d->e'<=e+2->u'<=u+1->ry y<=ry x'->∀d',d+ry x'<=d' + ry y->jD cf W' (e+2) (u+1) d':=fun h h1 h2 h3 d' h4=>h.mono h1 h2 oM
 have jk:∀(y' : Cl),y'.ops=y.ops->y'.nth=y.nth->y'.at_=y.at_+1->ry y<=ry y':=fun y' h1 h2 h3=>by
  unfold ry;rw[h1,h2,h3,IY rfl hat];cases(List.take y.at_ y.ops).any fun o=>decide (o.kind=4)<;>simp
 have hlt:y.op.kind≠7->y.at_+1<y.ops.length:=fun h=>by
  have:=ha.last;rw[<-hop]at this;rcases aE4 (y.at_+1) y.ops.length with h2|h2
  ·exact h2
  ·exact absurd (this.2 oM) h
 have hcl:∀(y' : Cl) (S' : aL),y'.task=y.task->y'.prog=y.prog->y'.nth=y.nth->aw y'.wants->y'.ops=y.ops->y'.at_<y.ops.length->IX S' y' y'.at_->Xv cf p i S' y':=fun y' S' h1 h2 h3 h4 h5 h6 h7=>by
  have hcall:y'.call=y.call:=by unfold Cl.call;rw[h2,h3]
  exact⟨h1.trans ht,h2.trans hpr,by rw[h3];omega,h4,.inr ⟨by rw[h3];exact ap7,by rw[h5,QI];show cN _ _ _ _ _ _=cN _ _ _ _ _ _;rw[hcall],by rw[h5];exact h6,h7⟩⟩
 have Em:∀(S' : aL) (y' : Cl),(∀k,bj W.aG k->bj S' k)->y'.call=y.call->y'.rep=y.rep->(y.op.kind≠4/\(y.op.kind=5->¬(y.op.lock<cf.str/\y.rep.err≠0)))->IX S' y' (y.at_+1):=fun S' y' hp h1 h2 h3=>by
  unfold IX;rw[h1,h2];intro hk;have hpo:=(zP.aG hp) hk;rcases ha.one hk with hl|⟨hl,c2,c3,c4,c5⟩
  ·exact⟨fun h=>oM,fun h=>oM⟩
  ·refine⟨fun h4 h5 h6=>?_,fun h4 h5=>?_⟩
   ·rcases aE4 y.at_ 3 with h7|h7
    ·have:y.at_=2:=oM
     exact absurd (c2 this) h3.1
    ·exact hpo.1 h7 oM h6
   ·rcases aE4 y.at_ 4 with h7|h7
    ·have h8:y.at_=3:=oM
     obtain⟨q1,q2⟩:=c3 h8;have:=h3.2 q1;rw[Ir]at q2;exact Decidable.byContradiction fun hh=>this ⟨q2,hh⟩
    ·exact hpo.2 h7 oM
 unfold Cl.act;simp only
 by_cases e1:y.op.kind=1
 ·rw[if_pos e1]
  unfold Cl.begin;simp only;have hp:∀k,bj W.aG k->bj W.aG k:=fun _ h=>h
  have hW:jD cf (if({y with rep:=cK y.call.err} : Cl).rep.err≠0 then(W.note ((Cl.ev {y with rep:=cK y.call.err} 1))).note ((Cl.ev {y with rep:=cK y.call.err} 2))else W.note ((Cl.ev {y with rep:=cK y.call.err} 1))) (e+2) u d/\(if({y with rep:=cK y.call.err} : Cl).rep.err≠0 then(W.note ((Cl.ev {y with rep:=cK y.call.err} 1))).note ((Cl.ev {y with rep:=cK y.call.err} 2))else W.note ((Cl.ev {y with rep:=cK y.call.err} 1))).aG=W.aG/\(if({y with rep:=cK y.call.err} : Cl).rep.err≠0 then(W.note ((Cl.ev {y with rep:=cK y.call.err} 1))).note ((Cl.ev {y with rep:=cK y.call.err} 2))else W.note ((Cl.ev {y with rep:=cK y.call.err} 1))).mo=W.mo:=by
   split
   ·exact⟨(hg.note _).note _,rfl,rfl⟩
   ·exact⟨(hg.note _).mono (aC5 _) lR lR,rfl,rfl⟩
  obtain⟨w1,w2,w3⟩:=hW;rw[if_neg hne];refine⟨hg2 (d0:=0) w1 lR (aC5 _) (jk _ rfl rfl rfl),hcl _ _ rfl rfl rfl hw rfl (hlt (by rw[e1];decide)) ?_,fun k hk=>by rw[w2];exact hk,by rw[w3];exact fun _ h=>h,jk _ rfl rfl rfl⟩;intro hk;have hk:y.call.k=1\/y.call.k=6:=hk;rcases ha.one hk with hl|⟨hl,c2,c3,c4,c5⟩
  ·have:=hlt (by rw[e1];decide)
   exact⟨fun h=>by simp only at h;omega,fun h=>by simp only at h;omega⟩
  ·have:=c5 (hop ▸ e1)
   exact⟨fun h=>by simp only at h;omega,fun h=>by simp only at h;omega⟩
 rw[if_neg e1]
 by_cases e2:y.op.kind=2\/y.op.kind=3
 ·rw[if_pos e2]
  simp only;obtain⟨w1,w2,w3,w4⟩:=hg.ask y.op.lock (t:=y.task) (ht ▸ hi) (ht ▸ hn) (decide (y.op.kind=3));have hlk:aw y.op.lock:=by rw[hop];exact pJ ha.lk.1 (Int.le_trans ha.lk.2 dC)
  have hp:∀k,bj W.aG k->bj (W.ask y.op.lock y.task (decide (y.op.kind=3))).2.aG k:=fun k hk=>by rw[w3];exact hk
  have h3:y.op.kind≠4/\(y.op.kind=5->¬(y.op.lock<cf.str/\y.rep.err≠0)):=⟨oM,fun h=>oM⟩
  split
  ·(try rw[if_neg hne])
   exact⟨hg2 (d0:=0) w1 oM (aC5 _) (jk _ rfl rfl rfl),hcl _ _ rfl rfl rfl hw rfl (hlt oM) (Em _ _ hp rfl rfl h3),hp,by rw[w2];exact fun _ h=>h,jk _ rfl rfl rfl⟩
  ·(try rw[if_neg hne])
   exact⟨hg2 (d0:=0) w1 oM (aC5 _) (jk _ rfl rfl rfl),hcl _ _ rfl rfl rfl hlk rfl (hlt oM) (Em _ _ hp rfl rfl h3),hp,by rw[w2];exact fun _ h=>h,jk _ rfl rfl rfl⟩
 rw[if_neg e2]
 by_cases e4:y.op.kind=4
 ·rw[if_pos e4]
  simp only;rw[if_neg hne];obtain⟨w1,w2,w3,w4⟩:=hg.do_ hc hd;have Yw:ry ({y with rep:=(W.do y.call).1,at_:=y.at_+1} : Cl)=ry y+1:=by
   unfold ry;simp only;rw[IY rfl hat,ha.once (hop ▸ e4)];have h44:(y.ops.getD y.at_ vt).kind=4:=hop ▸ e4;rw[h44]
   rfl
  refine⟨fun d' hd'=>(w1.note _).mono oM (aC5 _) (by rw[Yw]at hd';omega),hcl _ _ rfl rfl rfl hw rfl (hlt (by rw[e4];decide)) ?_,w3,w2,by rw[Yw];omega⟩;intro hk;have hk:y.call.k=1\/y.call.k=6:=hk;rcases ha.one hk with hl|⟨hl,c2,c3,c4,c5⟩
  ·have:=hlt (by rw[e4];decide)
   exact⟨fun h=>by simp only at h;omega,fun h=>by simp only at h;omega⟩
  ·have:=c4 (hop ▸ e4)
   exact⟨fun h1 h2 h3=>w4 hk h3,fun h=>by simp only at h;omega⟩
 rw[if_neg e4]
 by_cases e5:y.op.kind=5
 ·rw[if_pos e5]
  simp only;obtain⟨w1,w2,w3,w4⟩:=hg.drop y.op.lock (t:=y.task) (ht ▸ hi) (ht ▸ hn);have hp:∀k,bj W.aG k->bj (W.drop y.op.lock y.task).aG k:=fun k hk=>by rw[w3];exact hk
  have ZA:W.aG.cfg.str=cf.str:=by rw[hg.cfg]
  rw[ZA]
  split
  ·rename_i hsk
   (try rw[if_neg hne])
   obtain⟨s1,s2⟩:=ha.skip (hop ▸ e5) (by rw[Ir];exact hop ▸ hsk.1);rw[Ir]at s1;have hj:vu y.ops (ez W) y.ops.length y.at_=y.at_+3*(if y.call.k=1\/y.call.k=6 then 1 else 0):=by
    unfold ez;rw[ZA];refine s1.skip _ ?_;have:=s1.len
    split<;>omega
   rw[hj];have hdn:ry y<=ry ({y with at_:=y.at_+3*(if y.call.k=1\/y.call.k=6 then 1 else 0)+1} : Cl):=by
    unfold ry;simp only
    split
    ·rename_i h1
     rw[VC oM h1];simp
    ·omega
   refine⟨hg2 (d0:=0) w1 oM (aC5 _) hdn,hcl _ _ rfl rfl rfl hw rfl s1.len ?_,hp,by rw[w2];exact fun _ h=>h,hdn⟩;intro hk;have hk:y.call.k=1\/y.call.k=6:=hk;have:=s2 hk;have h9:(if y.call.k=1\/y.call.k=6 then 1 else 0)=1:=if_pos hk;simp only;rw[h9];exact⟨fun h1 h2=>oM,fun h1 h2=>oM⟩
  ·rename_i hsk
   (try rw[if_neg hne])
   have h3:y.op.kind≠4/\(y.op.kind=5->¬(y.op.lock<cf.str/\y.rep.err≠0)):=⟨e4,fun _=>hsk⟩;exact⟨hg2 (d0:=0) w1 oM (aC5 _) (jk _ rfl rfl rfl),hcl _ _ rfl rfl rfl hw rfl (hlt oM) (Em _ _ hp rfl rfl h3),hp,by rw[w2];exact fun _ h=>h,jk _ rfl rfl rfl⟩
 rw[if_neg e5]
 by_cases e6:y.op.kind=6
 ·rw[if_pos e6]
  simp only;rw[if_neg hne];obtain⟨hk,h5⟩:=ha.six (hop ▸ e6);have hpo:=zP hk;obtain⟨w1,w2,w3⟩:=hg.add ⟨LQ y.call,(hpo.1 oM oM (hpo.2 oM oM))⟩;have hp:∀k,bj W.aG k->bj (W.add y.call.key).aG k:=fun k hk=>by rw[w3];exact hk
  exact⟨hg2 (d0:=0) w1 oM lR (jk _ rfl rfl rfl),hcl _ _ rfl rfl rfl hw rfl (hlt oM) (Em _ _ hp rfl rfl ⟨e4,fun h=>absurd h e5⟩),hp,w2,jk _ rfl rfl rfl⟩
 rw[if_neg e6];simp only[if_true];have hdn:ry y<=ry ({y with nth:=y.nth+1,ops:=[],at_:=0} : Cl):=by
  unfold ry;simp only[List.take_nil,List.any_nil,aG8,if_false,aH5]
  split<;>omega
 exact⟨hg2 (d0:=0) (hg.note _) oM (aC5 _) hdn,⟨ht,hpr,ap7,hw,.inl rfl⟩,fun _ h=>h,fun _ h=>h,hdn⟩
theorem IZ {e u d:Nat} (hg:jD cf W e u d) (h8:cf.str<=8) (hd:d<=58) (hi:rr (i:Int)) (hn:(i:Int) ∉ W.mo.asleep) (hp:∀c∈p,bM c) (h:Xv cf p i W.aG x) (hr:x.ready W=true):
 ClM cf p i e u d W x (x.step W).1 (x.step W).2:=by
 obtain⟨n0,k0,hs,-,-⟩:=hg.wO;have a8:cf.gV:=hg.cfg ▸ hs.py;have JL:x.nth<p.length:=by
  unfold Cl.ready Cl.over at hr;rw[h.prog]at hr;simp only[aF0,Bool.not_eq_true',decide_eq_false_iff_not]at hr;omega
 have hcall:∀y:Cl,y.prog=x.prog->y.nth=x.nth->bM y.call:=fun y h1 h2=>by
  unfold Cl.call;rw[h1,h2,h.prog,aC2,aB3 JL];exact hp _ (List.getElem_mem JL)
 unfold Cl.step;rw[if_pos hr];simp only;have Cv:aw (-1):=by unfold aw;decide
 split
 ·rename_i e0
  have h0:(cN W.aG.cfg x.call.k x.call.s x.call.t x.call.v x.call.p)≠[]:=by rw[hg.cfg];exact uz a8 _ _ _ _ _
  have hm:=VD (y:={x with ops:=cN W.aG.cfg x.call.k x.call.s x.call.t x.call.v x.call.p,at_:=0,wants:=-1}) hg h8 hd hi hn (hcall _ rfl rfl) h.task h.prog JL Cv (by show cN _ _ _ _ _ _=cN _ _ _ _ _ _;rw[hg.cfg];rfl) (List.length_pos_iff.2 h0) (fun _=>⟨fun h=>absurd (show(3:Nat)<=0 from h) dC,fun h=>absurd (show(4:Nat)<=0 from h) dC⟩);have hdn:ry ({x with ops:=cN W.aG.cfg x.call.k x.call.s x.call.t x.call.v x.call.p,at_:=0,wants:=-1} : Cl)=ry x:=by
   unfold ry;rw[e0];simp
  exact⟨fun d' hd'=>hm.gw d' (hdn▸hd'),hm.cl,hm.uF,hm.zG,hdn ▸ hm.dn⟩
 ·rename_i e0
  rcases h.ops with e1|⟨h1,h2,h3,h4⟩
  ·exact absurd e1 e0
  ·have hm:=VD (y:={x with wants:=-1}) hg h8 hd hi hn (hcall _ rfl rfl) h.task h.prog JL Cv h2 h3 h4
   exact⟨hm.gw,hm.cl,hm.uF,hm.zG,hm.dn⟩
section
structure Od (i u:Nat) (S:aL) (x:Wk):Prop where
 task:x.task=(i:Int)
 wants:aw x.wants
 key:x.key.good
 gA:IK x.gA
 done:x.done<=u
 does:x.does<=14
 uF:2<=x.does->x.does<=11->bj S x.key
theorem Od.aG {i u v:Nat} {x:Wk} (h:Od i u S x) (hp:∀k,bj S k->bj S' k) (hv:u<=v):Od i v S' x:=
 ⟨h.task,h.wants,h.key,h.gA,aB4 h.done hv,h.does,fun h1 h2=>hp _ (h.uF h1 h2)⟩
theorem Od.ok {cf:aM} {i u:Nat} {W:Gw} {x:Wk} (h:Od i u W.aG x) (zv:W.aG.cfg=cf) (hi:i<32) (hu:u<1000000):Vv W W.aG.cfg x:=
 ⟨h.wants,by rw[h.task];unfold aw;omega,h.key,h.gA,oH h.done,rfl,fun e=>QC.1 (h.uF oM oM),h.does⟩
structure WkM (cf:aM) (i e u d:Nat) (W:Gw) (W' : Gw) (x' : Wk):Prop where
 gw:jD cf W' (e+2) (u+1) d
 wk:Od i (u+1) W'.aG x'
 uF:∀k,bj W.aG k->bj W'.aG k
 zG:∀t∈W'.mo.asleep,t∈W.mo.asleep\/(t=(i:Int)/\x'.asleep=true)
section
variable {cf:aM} {i e u d:Nat} {W:Gw} {y:Wk}
theorem wP (hg:jD cf W e u d) (hi:rr (i:Int)) (hn:(i:Int) ∉ W.mo.asleep) (h:Od i u W.aG y) (lk:Int) (hlk:aw lk) (wr:Bool) (nx:Nat) (h1:nx<=14) (h2:2<=nx->nx<=11->bj W.aG y.key) :
 WkM cf i e u d W (y.ask W lk wr nx).1 (y.ask W lk wr nx).2:=by
 obtain⟨w1,w2,w3,w4⟩:=hg.ask lk (t:=y.task) (h.task ▸ hi) (h.task ▸ hn) wr;unfold Wk.ask;simp only;exact⟨w1.mono oM (aC5 _) lR,⟨h.task,(by split<;>first|exact h.wants|exact hlk),h.key,h.gA,aD6 h.done,h1,fun a b=>w3▸h2 a b⟩,fun k hk=>w3▸hk,fun t ht=>by rw[w2]at ht;exact .inl ht⟩
theorem oZ (hg:jD cf W e u d) (hi:rr (i:Int)) (hn:(i:Int) ∉ W.mo.asleep) (h:Od i u W.aG y) (lk:Int) (nx:Nat) (h1:nx<=14) (h2:2<=nx->nx<=11->bj W.aG y.key) :
 WkM cf i e u d W (y.drop W lk nx).1 (y.drop W lk nx).2:=by
 obtain⟨w1,w2,w3,w4⟩:=hg.drop lk (t:=y.task) (h.task ▸ hi) (h.task ▸ hn);unfold Wk.drop;simp only;exact⟨w1.mono oM (aC5 _) lR,⟨h.task,h.wants,h.key,h.gA,aD6 h.done,h1,fun a b=>w3▸h2 a b⟩,fun k hk=>w3▸hk,fun t ht=>by rw[w2]at ht;exact .inl ht⟩
theorem VE (hg:jD cf W e u d) (hi:rr (i:Int)) (hn:(i:Int) ∉ W.mo.asleep) (h:Od i u W.aG y):WkM cf i e u d W (y.next W).1 (y.next W).2:=by
 have ht:=hg.take;obtain⟨-,hk⟩:=hg.wq.take;unfold Wk.next;simp only
 split
 ·rename_i h1
  exact⟨(ht.note _).mono oM lR lR,⟨h.task,h.wants,(hk h1).1,h.gA,aD6 h.done,(show(2:Nat)<=14 by decide),fun _ _=>(hk h1).2⟩,fun _ h=>h,fun t ht=>.inl ht⟩
 split
 ·exact⟨ht.mono oM lR lR,⟨h.task,h.wants,h.key,h.gA,aD6 h.done,(show(12:Nat)<=14 by decide),fun _ h=>absurd (show(12:Nat)<=11 from h) dC⟩,fun _ h=>h,fun t ht=>.inl ht⟩
 ·obtain⟨s1,s2⟩:=ht.sleep (t:=y.task) (h.task ▸ hi) (h.task ▸ hn)
  exact⟨s1.mono oM lR lR,⟨h.task,h.wants,h.key,h.gA,aD6 h.done,(show(1:Nat)<=14 by decide),fun h=>absurd (show(2:Nat)<=1 from h) dC⟩,fun _ h=>h,fun t ht=>(s2 t ht).imp id fun e=>⟨e.trans h.task,rfl⟩⟩
theorem ai8 (hg:jD cf W e u d) (hd:d<=40) (k:Key):IK ((aJ (W.aG.str (W.aG.home k)).loads k).getD Ff):=by
 obtain⟨n,m,hs,h1,h2⟩:=hg.wO;obtain⟨g1,-,-⟩:=hs.qm (dW W.aG k (cy hs)).2;cases hx:aJ (W.aG.str (W.aG.home k)).loads k with
 |none=>exact⟨(Iu 0).fit,(Iu 0).good,aB6 _,aB6 _⟩
 |some x=>
  have hl:=g1.ld k x hx;have:=(g1.ok.wH k x hx).Dk;exact⟨hl.fit,hl.good,by have:=hl.len;show x.cL.length<=200;omega,by show x.past.length<=1000;obtain⟨-,-,-,-,-,-,h9⟩:=g1.ok.py;omega⟩
theorem LS (hg:jD cf W e u d) (qd:cf.str<=64) (hd:d<=40) (hi:rr (i:Int)) (hn:(i:Int) ∉ W.mo.asleep) (h:Od i u W.aG y) (ha:y.asleep=false) (JL:y.does≠13):WkM cf i e u d W (y.act W).1 (y.act W).2:=by
 obtain⟨n0,k0,hs,-,-⟩:=hg.wO;have a8:cf.gV:=hg.cfg ▸ hs.py;have hl:aw (ez W):=by
  unfold ez;rw[hg.cfg];have:=a7 a8.1;unfold aw;omega
 have hh:aw (y.home W):=by
  unfold Wk.home;have:=xN y.key.hi y.key.lo (W.aG.strs.length:Int);unfold aw;omega
 have Oe:∀x' : Wk,x'.task=y.task->x'.wants=y.wants->x'.key=y.key->IK x'.gA->x'.done=y.done->x'.does<=14->(2<=x'.does->x'.does<=11->bj W.aG y.key)->Od i (u+1) W.aG x':=fun x' h1 h2 h3 h4 h5 h6 h7=>
  ⟨h1.trans h.task,h2 ▸ h.wants,h3 ▸ h.key,h4,h5▸aD6 h.done,h6,fun a b=>h3 ▸ h7 a b⟩
 have hp:=h.uF;have:=h.does;unfold Wk.act
 split
 ·exact wP hg hi hn h _ hl true 1 dC (fun h=>absurd h dC)
 ·exact VE hg hi hn h
 ·rename_i e0;exact oZ hg hi hn h _ 3 dC (fun _ _=>hp oM oM)
 ·rename_i e0;exact wP hg hi hn h _ hh false 4 dC (fun _ _=>hp oM oM)
 ·rename_i e0
  unfold Wk.see;exact⟨(hg.note _).mono oM (aC5 _) lR,Oe _ rfl rfl rfl (ai8 hg hd y.key) rfl (show(5:Nat)<=14 by decide) (fun _ _=>hp oM oM),fun _ h=>h,fun t ht=>.inl ht⟩
 ·rename_i e0;exact oZ hg hi hn h _ 6 dC (fun _ _=>hp oM oM)
 ·rename_i e0
  have h9:Od i (u+1) W.aG y.reckon:=by
   unfold Wk.reckon
   split
   ·exact Oe _ rfl rfl rfl h.gA rfl (show(7:Nat)<=14 by decide) (fun _ _=>hp oM oM)
   ·exact Oe _ rfl rfl rfl h.gA rfl (show(10:Nat)<=14 by decide) (fun _ _=>hp oM oM)
  exact⟨hg.mono oM (aC5 _) lR,h9,fun _ h=>h,fun t ht=>.inl ht⟩
 ·rename_i e0;exact wP hg hi hn h _ hh true 8 dC (fun _ _=>hp oM oM)
 ·rename_i e0
  obtain⟨s1,s2⟩:=hg.Zz y.key y.ei;have h9:=Oe {y with does:=9} rfl rfl rfl h.gA rfl (by show 9<=14;decide) (fun _ _=>hp oM oM);unfold Wk.note;exact⟨(s1.note _).mono oM lR lR,h9.aG s2 lR,s2,fun t ht=>.inl ht⟩
 ·rename_i e0;exact oZ hg hi hn h _ 10 dC (fun _ _=>hp oM oM)
 ·rename_i e0;exact wP hg hi hn h _ hl true 11 dC (fun _ _=>hp oM oM)
 ·rename_i e0
  obtain⟨s1,s2,s3⟩:=(hg.note (y.ev 7)).give y.key;unfold Wk.give;have s3':((W.note (y.ev 7)).give y.key).aG=W.aG:=s3;exact⟨s1.mono oM lR lR,⟨h.task,h.wants,h.key,h.gA,Nat.succ_le_succ h.done,(show(14:Nat)<=14 by decide),fun _ h=>absurd (show(14:Nat)<=11 from h) dC⟩,fun k hk=>s3'▸hk,fun t ht=>.inl (s2 ht)⟩
 ·exact oZ hg hi hn h _ 13 dC (fun _ h=>absurd h dC)
 ·exact oZ hg hi hn h _ 0 dC (fun h=>absurd h dC)
theorem I1 {x:Wk} (hg:jD cf W e u d) (qd:cf.str<=64) (hd:d<=40) (hi:rr (i:Int)) (hn:(i:Int) ∉ W.mo.asleep) (h:Od i u W.aG x) (hr:x.ready W=true):WkM cf i e u d W (x.step W).1 (x.step W).2:=by
 unfold Wk.step;rw[if_pos hr];have JL:x.does≠13:=by
  unfold Wk.ready Wk.over at hr;intro e;rw[e]at hr;simp at hr
 exact LS (y:={x with wants:=-1,asleep:=false}) hg qd hd hi hn ⟨h.task,(show aw (-1) by unfold aw;decide),h.key,h.gA,h.done,h.does,h.uF⟩ rfl JL
end
end
abbrev R8:TypeId:=258
abbrev vX:TypeId:=195
abbrev uH:TypeId:=197
theorem ai9 {A:Option Addr} {cc:Nat} {ov:Value} {at_:Int} (h:mB w c g gw i A n cc ov at_ x) (hg:bD w c gw W) (hl:W.ay.length<=1000) (hw:aw x.wants) (ht:aw x.task):
 Calls prog 211 #[.iface vX (pt g)] w (Rt (.bool (!x.over&&x.ready W)) (Bl w)):=by
 have HO:=Ef h;have HR:=(fun W1 (hb:Bl w W1)=>Iz (h.call hb) (hg.call hb) hl hw ht);clear h hg hl hw ht;cases ho:x.over
 ·rw[ho]at HO
  generalize x.ready W=R at *;go_enter func211,ntmps211;go_wp2_with(first
   |go_at_call 334;refine HO.mono ?_;rintro e w1 ⟨rfl,hb1⟩
   |(go_at_call 335;refine zM (HR _ hb1) fun w2 hb2=>?_))
  go_ret;exact⟨sI,zT hb1 hb2⟩
 ·rw[ho]at HO
  generalize x.ready W=R at *;go_enter func211,ntmps211;go_wp2_with(go_at_call 334;refine HO.mono ?_;rintro e w1 ⟨rfl,hb1⟩);go_ret;exact⟨sI,hb1⟩
theorem aj0 {sp:Option Addr} {x:Wk} (h:mD w c g gw i cf sp x) (hg:bD w c gw W) (hl:W.ay.length<=1000) (h1:W.aG.cfg.str<=64) (h0 : -1<=W.aG.cfg.str) (hw:aw x.wants) (ht:aw x.task):
 Calls prog 211 #[.iface uH (pt g)] w (Rt (.bool (!x.over&&x.ready W)) (Bl w)):=by
 have HO:=NV h;have HR:=sO h hg hl h1 h0 hw ht;clear h hg hl hw ht;cases ho:x.over
 ·rw[ho]at HO
  generalize x.ready W=R at *;go_enter func211,ntmps211;go_wp2_with(first
   |go_at_call 361;refine HO.mono ?_;rintro e w1 ⟨rfl,rfl⟩
   |(go_at_call 362;refine HR.mono ?_;rintro e w2 ⟨rfl,hb2⟩))
  go_ret;exact⟨sI,hb2⟩
 ·rw[ho]at HO
  generalize x.ready W=R at *;go_enter func211,ntmps211;go_wp2_with(go_at_call 361;refine HO.mono ?_;rintro e w1 ⟨rfl,rfl⟩);go_ret;exact⟨sI,Below.refl _ _⟩
section
abbrev QJ:TypeId:=194
abbrev uI (gw:Nat) (T K:Value) (nc used:Int):Array Value:=#[pt gw,T,K,I6 nc,I6 used]
def eE (w:World) (c:bh) (gw:Nat) (E:En) (i:Nat) (v:Value):Prop:=
 (∃x g,E.cls[i]? = some x/\v=.iface vX (pt g)/\Iy w c g gw i x)\/
 (∃x g sp,E.cls.length<=i/\E.pT[i-E.cls.length]? = some x/\v=.iface uH (pt g)/\mD w c g gw i E.w.aG.cfg sp x)
structure I5 (w:World) (c:bh) (ge gw:Nat) (bt ot nt ct:Nat) (K:Value) (vs:List Value) (E:En):Prop where
 blk:ai w ge QJ (uI gw (.slice (some ⟨bt,ot,none⟩) nt ct) K (E.cls.length:Int) (E.used:Int))
 ce:c ge=some (.at_ 17)
 ts:LU w (some ⟨bt,ot,none⟩) nt ct vs
 lt:bt<w.heap.size
 cb:c bt=some (.at_ 18)
 len:vs.length=E.size
 tk:∀i v,vs[i]? = some v->eE w c gw E i v
 gw:bD w c gw E.w
 fr:∀k,w.heap.size<=k->c k=none
structure yN (E:En):Prop where
 gw:yH E.w
 cl:∀x∈E.cls,ai6 E.w x
 wk:∀x∈E.pT,Vv E.w E.w.aG.cfg x
 size:E.size<=32
 used:E.used<1000000
section
variable {T:Tag->Prop} {w w' : World} {c c' : bh} {ge gw bt ot nt ct:Nat} {K:Value} {vs:List Value} {E:En}
theorem aj1 {j:Nat} (h:i≠j): ¬sG i (.at_ (20+j)):=by
 rintro(h1|h1)
 ·exact cZ oM h1
 ·injection h1;omega
theorem pK (h1:17<=n) (h2:n<20): ¬sG i (.at_ n):=by
 rintro(h|h)
 ·exact cZ h1 h
 ·injection h;omega
theorem eE.call {v:Value} (h:eE w c gw E i v) (hb:Bl w w'):eE w' c gw E i v:=by
 rcases h with⟨x,g,h1,h2,h3⟩|⟨x,g,sp,h0,h1,h2,h3⟩
 ·exact .inl ⟨x,g,h1,h2,h3.call hb⟩
 ·exact .inr ⟨x,g,sp,h0,h1,h2,h3.call hb⟩
theorem I5.call (h:I5 w c ge gw bt ot nt ct K vs E) (hb:Bl w w'):I5 w' c ge gw bt ot nt ct K vs E:=
 ⟨h.blk.call hb,h.ce,af h.ts hb,aB8 h.lt hb.size,h.cb,h.len,fun i v hv=>(h.tk i v hv).call hb,h.gw.call hb,fun k hk=>h.fr k (aB4 hb.size hk)⟩
theorem eE.step {v:Value} {E' : En} (h:eE w c gw E i v) (hT:¬T (.at_ (20+i))) (hF:¬T .nS) (hs:ae T w w' c c') (h1:E'.cls[i]? = E.cls[i]?) (h2:E'.cls.length=E.cls.length) (h3:E.cls.length<=i->E'.pT[i-E.cls.length]? = E.pT[i-E.cls.length]?) (h4:E'.w.aG.cfg=E.w.aG.cfg):eE w' c' gw E' i v:=by
 rcases h with⟨x,g,e1,e2,e3⟩|⟨x,g,sp,e0,e1,e2,e3⟩
 ·exact .inl ⟨x,g,h1.trans e1,e2,e3.step hs hT⟩
 ·exact .inr ⟨x,g,sp,h2▸e0,h2▸(h3 e0).trans e1,e2,h4▸e3.step hs hT hF⟩
theorem ae.only {t:Tag} (hu:ah (fun k=>k=g) w w') (hg:c g=some t) (hc:∀k,w.heap.size<=k->c k=none):ae (fun t'=>t' = t) w w' c c:=
 ⟨hu.mono (fun k e=>by rw[e];exact⟨_,hg,rfl⟩),fun _ _ _=>rfl,fun k t' hk e=>by
  rcases hk with hk|⟨t0,e0,Zj⟩
  ·rw[hc k hk]at e;cases e
  ·rw[e0]at e;injection e with e;subst e;exact .inl Zj,fun k hk=>hc k (aB4 hu.size hk)⟩
def vA (t:Tag):Prop:=dL t\/∃n,17<=n/\t=.at_ n
theorem fD:¬vA .nS:=by
 rintro(h|⟨n,-,h⟩)
 ·exact aB h
 ·cases h
theorem sG.en {t:Tag} (h:sG i t):vA t:=h.imp id (fun e=>⟨20+i,oM,e⟩)
theorem I5.Og {E' : En} (h:I5 w c ge gw bt ot nt ct K vs E) (hs:ae (sG i) w w' c c') (hg:bD w' c' gw E'.w) (hcl:E'.cls.length=E.cls.length) (hwl:E'.pT.length=E.pT.length) (hcls:∀j,j≠i->E'.cls[j]? = E.cls[j]?) (ay6:∀j,j≠i->E.cls.length<=j->E'.pT[j-E.cls.length]? = E.pT[j-E.cls.length]?) (ZA:E'.w.aG.cfg=E.w.aG.cfg) (hi:∀v,vs[i]? = some v->eE w' c' gw E' i v) (hu:E'.used=E.used+1):
 I5 (w'.setCell ⟨ge,4,none⟩ (I6 ((E.used:Int)+1))) c' ge gw bt ot nt ct K vs E'/\ae vA w (w'.setCell ⟨ge,4,none⟩ (I6 ((E.used:Int)+1))) c c':=by
 have hce:=hs.keep h.blk.lt h.ce (pK oM oM);have hcb:=hs.keep h.lt h.cb (pK oM oM);have U:=(ah.refl (fun k=>k=ge) w').setCell (p:=⟨ge,4,none⟩) (.inl rfl) (I6 ((E.used:Int)+1));have S:=ae.only U hce hs.fresh;have hne:bt≠ge:=fun e=>by rw[e,hce]at hcb;cases hcb
 refine⟨⟨?_,hce,aV (aV h.ts hs.upd (fun a ha=>by cases ha;exact ae.lX (S:=fun _=>True) h.cb (pK oM oM))) U (fun a ha=>by cases ha;exact hne),aB8 (aB8 h.lt hs.upd.size) U.size,hcb,by unfold En.size at *;rw[hcl,hwl];exact h.len,fun j v hv=>?_,hg.step S (fun t ht e=>by subst e;exact cZ oM ht) (fun e=>by cases e),S.fresh⟩,(hs.mono fun t e=>e.en).trans (S.mono fun t e=>.inr ⟨17,oM,e⟩) fD⟩
 ·rw[hcl,hu,show((E.used+1:Nat):Int)=(E.used:Int)+1 by omega]
  exact(hs.blk h.blk h.ce (pK oM oM)).aX 4 _
 ·have key:eE w' c' gw E' j v:=by
   by_cases e:j=i
   ·subst e;exact hi v hv
   ·exact(h.tk j v hv).step (aj1 (fun h=>e h.symm)) (cB i) hs (hcls j e) hcl (ay6 j e) ZA
  exact key.step (fun e=>by injection e;omega) (fun e=>by cases e) S rfl rfl (fun _=>rfl) rfl
theorem yN.can (h:yN E) (hb:I5 w c ge gw bt ot nt ct K vs E):∀i v,vs[i]? = some v->∀W,Bl w W->Calls prog 211 #[v] W (Rt (.bool (E.can i)) (Bl W)):=fun i v hv W hW=>by
 rcases hb.tk i v hv with⟨x,g,e1,rfl,e3⟩|⟨x,g,sp,e0,e1,rfl,e3⟩
 ·obtain⟨A,n,cc,ov,e3⟩:=e3
  have hx:=h.cl x (aB7 e1);have h9:=ai9 (e3.call hW) (hb.gw.call hW) h.gw.loc hx.wants hx.task;unfold En.can;rw[e1];exact h9
 ·have hx:=h.wk x (aB7 e1)
  unfold En.can;rw[aF6 e0,e1];exact aj0 (e3.call hW) (hb.gw.call hW) h.gw.loc h.gw.str.2 h.gw.str.1 hx.wants hx.task
end
end
section
section
variable {w:World} {c:bh} {g gw i:Nat} {cf:aM} {sp:Option Addr} {W:Gw} {x:Wk}
theorem VL (h:mD w c g gw i cf sp x) (hg:bD w c gw W) (hk:x.key.good) (hr:dD (W.aG.strs.length:Int)=true) :
 Calls prog 368 #[pt g] w (Rt (I6 (Wk.home W x)) (Bl w)):=by
 rw[show Wk.home W x=(W.aG.home x.key:Nat)from(dW W.aG x.key hr).1];exact Eh h hg hk hr
theorem ZB (lk:Int) (wr:Bool) (n:Int) (h:mD w c g gw i cf sp x) (hg:bD w c gw W) (hc:∀k,w.heap.size<=k->c k=none) (hl:W.ay.length<=1000) (hn:aw lk) (ht:aw x.task) (hq:∀l,W.lock lk=some l->l.line.length<=1000) (rk:n=(n.toNat:Nat):=by rfl) :
 Calls prog 365 #[pt g,I6 lk,.bool wr,I6 n] w fun e w'=>e=.returned (I6 n)/\NZ c g gw i cf {x with wants:=if(W.ask lk x.task wr).1 then x.wants else lk} (W.ask lk x.task wr).2 w w':=by
 have h9:=ai5 lk wr n.toNat h hg hc hl hn ht hq;rw[<-rk]at h9;exact h9
theorem VM (lk:Int) (n:Int) (h:mD w c g gw i cf sp x) (hg:bD w c gw W) (hc:∀k,w.heap.size<=k->c k=none) (hl:W.ay.length<=1000) (hn:aw lk) (ht:aw x.task) (hq:∀l,W.lock lk=some l->l.line.length<=1000/\∀x∈l.line,aw x.task) (rk:n=(n.toNat:Nat):=by rfl) :
 Calls prog 367 #[pt g,I6 lk,I6 n] w fun e w'=>e=.returned (I6 n)/\NZ c g gw i cf x (W.drop lk x.task) w w':=by
 have h9:=Zm lk n.toNat h hg hc hl hn ht hq;rw[<-rk]at h9;exact h9
theorem Ep (x:Wk) (h:mD w c g gw i cf sp x) (hg:bD w c gw W) (hc:∀k,w.heap.size<=k->c k=none) (a8:yH W) (hx:Vv W cf x) (hr:x.ready W=true) (hd:x.does=0\/x.does=1\/x.does=2\/x.does=3\/x.does=5\/x.does=6\/x.does=7\/x.does=8\/x.does=9\/x.does=10\/x.does=11\/x.does=12\/x.does=14) :
 Calls prog 363 #[pt g] w fun e w'=>e=.returned (.tuple #[])/\NZ c g gw i cf (x.step W).2 (x.step W).1 w w':=by
 have Nu:=sO h hg a8.loc a8.str.2 a8.str.1 hx.wants hx.task;rw[hr]at Nu;have HS:x.step W=({x with wants:=-1,asleep:=false} : Wk).act W:=if_pos hr;obtain⟨tk,ds,wn,zG,ky,sw,av,dn⟩:=x;dsimp only at hd;obtain⟨R,hR⟩:=zE ((⟨tk,ds,wn,zG,ky,sw,av,dn⟩:Wk).step W);have HR:=(hR.trans HS);rw[<-hR];have hhI:aw (Wk.home W ⟨tk,ds,-1,false,ky,sw,av,dn⟩):=by rw[show Wk.home W ⟨tk,ds,-1,false,ky,sw,av,dn⟩=(W.aG.home ky:Nat)from(dW W.aG ky a8.rt).1];exact a8.ap5 ky
 have wD:aw (ez W):=by have:=a8.str;unfold ez aw;omega
 clear hR HS hr;go_enter func363,ntmps363;go_upto_region 2 with(go_at_call 362;refine Nu.mono ?_;rintro e w1 ⟨rfl,B1⟩;have H1:=(h.call B1);have k3:=H1.blk.z 3 (I6 wn);have k4:=H1.blk.z 4 (.bool zG);have f3:=H1.blk.frozen 3;have f4:=H1.blk.frozen 4)
 clear k3 k4 f3 f4;obtain⟨w2,hw2⟩:=zE ((w1.setCell ⟨g,3,none⟩ (I6 (-1))).setCell ⟨g,4,none⟩ (.bool false));have U2:=((ah.refl (fun k=>k=g) w1).setCell (p:=⟨g,3,none⟩) (.inl rfl) (I6 (-1))).setCell (p:=⟨g,4,none⟩) (.inl rfl) (.bool false);have BL2:=(H1.blk.aX 3 (I6 (-1))).aX 4 (.bool false);rw[<-hw2]at U2 BL2 |-;have H2:=(H1.put (x':=⟨tk,ds,-1,false,ky,sw,av,dn⟩) U2 BL2 rfl);have C1:=ae.aa (sG i) c hc B1;have G2:=(dm (hg.call B1) U2 H1.cg C1.fresh);have C2:=(C1.iW U2 H1.cg);clear hw2 U2 BL2 C1 H1 B1 Nu h hg hc;rcases hd with rfl|rfl|rfl|rfl|rfl|rfl|rfl|rfl|rfl|rfl|rfl|rfl|rfl
 all_goals
  have:=H2.blk.z 2 (I6 _);go_wp2_with(first
  |go_at_call 364;refine zM (NY H2 G2 a8.str.2 a8.str.1) fun w3 hb3=>?_;have C2:=(C2.trans (ae.aa (sG i) c C2.fresh hb3) (cB i));have H2:=H2.call hb3;have G2:=G2.call hb3
  |go_at_call 368;refine zM (VL H2 G2 hx.key a8.rt) fun w3 hb3=>?_;have C2:=(C2.trans (ae.aa (sG i) c C2.fresh hb3) (cB i));have H2:=H2.call hb3;have G2:=G2.call hb3
  |go_at_call 365;refine(ZB _ _ _ H2 G2 C2.fresh a8.loc (by first|exact hhI|exact wD) hx.task (fun l hl=>aB4 (a8.lin _ l hl).1 dC)).mono ?_;rintro e w4 ⟨rfl,c4,sp4,G4,H4,yE⟩;have C4:=C2.trans yE (cB i);have:=H4.blk.z 2 (I6 _);have:=H4.blk.frozen 2
  |go_at_call 367;refine(VM _ _ H2 G2 C2.fresh a8.loc (by first|exact hhI|exact wD) hx.task (fun l hl=>⟨aB4 (a8.lin _ l hl).1 dC,(a8.lin _ l hl).2⟩)).mono ?_;rintro e w4 ⟨rfl,c4,sp4,G4,H4,yE⟩;have C4:=C2.trans yE (cB i);have:=H4.blk.z 2 (I6 _);have:=H4.blk.frozen 2
  |go_at_call 366;refine(Zo H2 G2 C2.fresh a8 hx.task).mono ?_;rintro e w4 ⟨rfl,c4,sp4,G4,H4,yE⟩;have C4:=C2.trans yE (cB i);have:=H4.blk.z 2 (I6 _);have:=H4.blk.frozen 2
  |go_at_call 370;refine(LP H2 G2 C2.fresh hx.gA).mono ?_;rintro e w4 ⟨rfl,c4,sp4,G4,H4,yE⟩;have C4:=C2.trans yE (cB i);have:=H4.blk.z 2 (I6 _);have:=H4.blk.frozen 2
  |go_at_call 371;refine(Qy H2 G2 C2.fresh hx.key a8.rt (a8.stp _).choose_spec.1 (a8.stp _).choose_spec.2 (oH a8.evs)).mono ?_;rintro e w4 ⟨rfl,c4,sp4,G4,H4,yE⟩;have C4:=C2.trans yE (cB i);have:=H4.blk.z 2 (I6 _);have:=H4.blk.frozen 2
  |(go_at_call 372;refine(Vu H2 G2 C2.fresh hx.key (oH a8.evs) (oH a8.wqb) a8.zG.1 (oH a8.mol.1) hx.done).mono ?_;rintro e w4 ⟨rfl,c4,sp4,G4,H4,yE⟩;have C4:=C2.trans yE (cB i);have:=H4.blk.z 2 (I6 _);have:=H4.blk.frozen 2))
  go_end0;have U:=fun v=>(ah.refl (fun k=>k=g) w4).setCell (p:=⟨g,2,none⟩) (.inl rfl) v
  exact⟨rfl,c4,sp4,HR▸dm G4 (U _) H4.cg C4.fresh,HR▸H4.put (U _) (H4.blk.aX 2 _) rfl,C4.iW (U _) H4.cg⟩
end
end
section
theorem QP {s:aL} {i:Nat} (h:i<s.strs.length):s.et i (s.str i)=s:=by
 unfold aL.et aL.str;rw[aC2,aB3 h,aF8,List.set_getElem_self]
section
variable {w:World} {c:bh} {g gw i:Nat} {cf:aM} {sp:Option Addr} {W:Gw}
theorem QQ (x:Wk) (h:mD w c g gw i cf sp x) (hg:bD w c gw W) (hc:∀k,w.heap.size<=k->c k=none) (a8:yH W) (hx:Vv W cf x) (hr:x.ready W=true) (hd:x.does=4) :
 Calls prog 363 #[pt g] w fun e w'=>e=.returned (.tuple #[])/\NZ c g gw i cf (x.step W).2 (x.step W).1 w w':=by
 have Nu:=sO h hg a8.loc a8.str.2 a8.str.1 hx.wants hx.task;rw[hr]at Nu;have Nu:=zD Nu;have HS:=zD (show x.step W=({x with wants:=-1,asleep:=false} : Wk).act W from if_pos hr);obtain⟨tk,ds,wn,zG,ky,sw,av,dn⟩:=x;dsimp only at hd;subst hd;have H0:=zD h;have G0:=zD hg;have HC:=zD hc;have kh:=zD a8;have Fs:=zD hx;obtain⟨R,hR⟩:=zE ((⟨tk,4,wn,zG,ky,sw,av,dn⟩:Wk).step W);have HR:=zD (hR.trans HS.out);rw[<-hR];clear h hg hc a8 hx hr hR HS;go_enter func363,ntmps363;go_upto_region 2 with(go_at_call 362;refine Nu.out.mono ?_;rintro e w1 ⟨rfl,hb1⟩;have B1:=zD hb1;have H1:=zD (H0.out.call hb1);have G1:=zD (G0.out.call hb1);have k3:=H1.out.blk.z 3 (I6 wn);have k4:=H1.out.blk.z 4 (.bool zG);have f3:=H1.out.blk.frozen 3;have f4:=H1.out.blk.frozen 4;clear hb1)
 clear k3 k4 f3 f4;obtain⟨w2,hw2⟩:=zE ((w1.setCell ⟨g,3,none⟩ (I6 (-1))).setCell ⟨g,4,none⟩ (.bool false));have U2:=((ah.refl (fun k=>k=g) w1).setCell (p:=⟨g,3,none⟩) (.inl rfl) (I6 (-1))).setCell (p:=⟨g,4,none⟩) (.inl rfl) (.bool false);have BL2:=(H1.out.blk.aX 3 (I6 (-1))).aX 4 (.bool false);rw[<-hw2]at U2 BL2 |-;have H2:=zD (H1.out.put (x':=⟨tk,4,-1,false,ky,sw,av,dn⟩) U2 BL2 rfl);have C1:=ae.aa (sG i) c HC.out B1.out;have G2:=zD (dm G1.out U2 H1.out.cg C1.fresh);have C2:=zD (C1.iW U2 H1.out.cg);clear hw2 U2 BL2 C1 G1 H1 B1 G0 H0 Nu;have k2:=H2.out.blk.z 2 (I6 (4:Nat));obtain⟨gs,hs,hst,hsk⟩:=yD G2.out;obtain⟨A,m,cap,ps,gt,bt,fp,ks,hss⟩:=hs;have hb:=dW W.aG ky kh.out.rt;obtain⟨p,hp⟩:∃p,ps[W.aG.home ky]? = some p:=⟨_,aB3 (by rw[hss.strs.len];exact hb.2)⟩
 obtain⟨y,hy⟩:=Fs.out.has rfl;obtain⟨b,f,SZ⟩:=hss.strs.str _ p hp;obtain⟨pn,F,fr,e1,e2,e3⟩:=SZ.wH ky y (fun e=>e) hy;have HP:=zD hp;have nI:=zD hst;have HSk:=zD hsk;have R7:=zD hss;have HSb:=zD SZ;have HN:=zD e2;have HF3:=zD e3;have HF1:=zD e1;have HY:=zD hy;have HSf:=zD (QP hb.2);have Fp:=zD (show(W.aG.str (W.aG.home ky)).cfg=cf from by
  obtain⟨n1,k1,h1,-,-⟩:=kh.out.wO;rw[(h1.qm hb.2).1.cfg];exact Fs.out.cfg.symm)
 have HH:=zD (fun W1 (hb:Bl w2 W1)=>Eh (H2.out.call hb) (G2.out.call hb) Fs.out.key kh.out.rt);have HGt:=zD (fun W1 (hb:Bl w2 W1)=>(show Calls prog 83 #[pt p,.agg ky.row] W1 fun e w'=>e=.returned (.pointer pn)/\Bl W1 w' from by
  have h9:=mQ ky W1 (HSb.out.call hb) Fs.out.key;rw[e1]at h9;exact h9))
 clear hst hsk hss hb hp hy SZ e1 e2 e3;go_upto_region 13 with fail
 refine zr (fun j=>[17].contains j) (fun wS=>ah (fun j=>∃t,c j=some t/\dL t) w2 wS) ?_;have S0:=(ah.refl (fun j=>∃t,c j=some t/\dL t) w2).drew;refine zk 13 [0,1,2,3,4] [_,_,_,_,pt gw] (.c rfl rfl zPP<|.c rfl rfl zPP<|.c rfl rfl zPP<|.c rfl rfl zPP<|.c rfl rfl (zl fun _ h=>by have c:=(H2.out.bu h).z 0 (pt gw);go_simp) .nil) S0 ?_;refine zk 8 [6,9,10,11,12] [_,_,_,_,.agg ky.row] (.c rfl rfl zPP<|.c rfl rfl zPP<|.c rfl rfl zPP<|.c rfl rfl zPP<|.c rfl rfl (zl fun _ h=>aF (ty:=aS) (x:=.tmp 69) rfl rfl (run_loadAt_mid _ _ _ _ _ _ (jN (H2.out.bu h)) underlying83 rfl kZ)) .nil) S0 ?_;refine zQ 5 ?_;go_wp2_with(go_at_call 160;refine zN (nI.out _ bR.drew) ?_);refine .i S0 ?_;refine zQ 7 ?_;go_wp2_with(go_at_call 368;refine zM (HH.out _ bR.drew) fun w4 hb4=>?_;have B4:=zD (show Bl w2 w4 from(Below.refl w2.heap.size w2).drew.trans hb4));refine .i (S0.trans (ah.aa hb4) iL) ?_;have S4:=S0.trans (ah.aa hb4) iL;refine zQ 8 ?_;go_wp2_with(go_at_call 67;refine zN (fy (R7.out.call B4.out) _ p HP.out) ?_);refine .i S4 ?_;refine zQ 13 ?_;go_wp2_with(go_at_call 83;refine zM (HGt.out _ B4.out) fun w6 dJ=>?_;have B6:=zD (show Bl w2 w6 from zT B4.out dJ));refine .i (S4.trans (ah.aa dJ) iL) ?_;have S6:=S4.trans (ah.aa dJ) iL;refine zQ 14 ?_;go_wp2_with(go_at_call 189;refine(sB pn F _ y fr w6 (HN.out.call B6.out)).mono ?_;rintro e w7 ⟨rfl,hn7,Va,lV⟩;have Q7:=zD ((HSb.out.call B6.out).freeze HF1.out HF3.out HY.out (fun j hj=>C2.out.fresh j (aB4 B6.out.size hj)) hn7 Va lV);obtain⟨c7,hs7,ht7,hf7⟩:=Q7.out;have S7_:=zD hs7;have T7:=zD ht7;have F7:=zD hf7;have U7:=zD ht7.upd;have H7:=zD ((H2.out.call B6.out).step ht7 (km _ _) (bS _));have k7:=H7.out.blk.z 7 (.pointer sp);have f7:=H7.out.blk.frozen 7;clear hn7 Va lV Q7 hs7 ht7 hf7);refine .i (S6.trans U7.out (fun k ⟨t,e,ht⟩=>.inl ⟨t,e,.st (.st ht)⟩)) ?_;have S7:=S6.trans U7.out (fun k ⟨t,e,ht⟩=>.inl ⟨t,e,.st (.st ht)⟩);refine zQ 15 ?_;go_wp2_with fail;refine .i S7 ?_;refine zk 1 [16] [_] (.c rfl rfl zPP .nil) S7 ?_;refine aq _ _ _ _ kZ ?_;refine zO 17 (fun Q2 aI=>?_);go_wp2_with fail;(try refine aI _ _ ?_);(try clear aI Q2)
 refine wpAny_done kZ ?_ _;have T8:=zD ((ae.aa dO c C2.out.fresh B6.out).trans (T7.out.mono (T2:=dO) fun t e=>.st e) eu);have Z8:cG w7 c7 gs W.aG:=by
  have h9:=(R7.out.call B6.out).str HP.out T7.out ⟨b,f,S7_.out⟩;rw[HSf.out]at h9;exact⟨A,m,cap,ps,gt,bt,fp,ks,h9⟩
 obtain⟨g8,t8⟩:=HSk.out _ _ _ T8.out Z8 rfl;have U:=(ah.refl (fun k=>k=g) w7).setCell (p:=⟨g,7,none⟩) (.inl rfl) (.pointer pn);have BL:=H7.out.blk.aX 7 (.pointer pn);obtain⟨w9,hw9⟩:=zE (w7.setCell ⟨g,7,none⟩ (.pointer pn));rw[<-hw9]at U BL |-;have H9:=zD (show mD w9 c7 g gw i cf pn ⟨tk,4,-1,false,ky,y,av,dn⟩from⟨BL,H7.out.cg,.inr (by
  obtain⟨F9,q1,q2⟩:=F7.out;rw[Fp.out]at q1;exact⟨F9,q1.upd U (fun j hj e=>by have h5:=q2 j hj;rw[e,H7.out.cg]at h5;cases h5),q2⟩)⟩)
 have G9:=zD (dm (show bD w7 c7 gw W from g8) U H7.out.cg T7.out.fresh);have C9:=zD ((C2.out.trans t8.fM (cB i)).iW U H7.out.cg);have HR:=zD (HR.out.trans (show Wk.act W ⟨tk,4,-1,false,ky,sw,av,dn⟩=(W.note ((⟨tk,4,-1,false,ky,y,av,dn⟩:Wk).ev 5),⟨tk,5,-1,false,ky,y,av,dn⟩)from by
  show Wk.see W _=_
  unfold Wk.see;dsimp only;rw[HY.out]
  rfl))
 have Zn:=zD (show W.evs.length<100000 from by have:=kh.out.evs;omega);clear g8 t8 U BL hw9 Z8 k7 f7 k2 S0 S4 S6 S7 T8 T7 F7 U7 H7 S7_ B6 B4 HGt HH Fp HSf HY HF1 HF3 HN HSb R7 HSk nI HP hb4 dJ;go_wp2_with(go_at_call 369;refine(yG 5 rfl H9.out G9.out C9.out.fresh Zn.out).mono ?_;rintro e w10 ⟨rfl,c10,aq8,ZC,VK⟩;have G10:=zD aq8;have H10:=zD ZC;have C10:=zD (C9.out.trans VK.fM (cB i));have:=ZC.blk.z 2 (I6 (4:Nat));have:=ZC.blk.frozen 2;clear aq8 ZC VK);go_end0;have U:=(ah.refl (fun k=>k=g) w10).setCell (p:=⟨g,2,none⟩) (.inl rfl) (I6 (5:Nat));have BL:=H10.out.blk.aX 2 (I6 (5:Nat));exact⟨rfl,c10,pn,by rw[HR.out];exact dm G10.out U H10.out.cg C10.out.fresh,by rw[HR.out];exact H10.out.put U BL rfl,C10.out.iW U H10.out.cg⟩
theorem ZE (x:Wk) (h:mD w c g gw i cf sp x) (hg:bD w c gw W) (hc:∀k,w.heap.size<=k->c k=none) (a8:yH W) (hx:Vv W cf x) :
 Calls prog 363 #[pt g] w fun e w'=>e=.returned (.tuple #[])/\NZ c g gw i cf (x.step W).2 (x.step W).1 w w':=by
 cases hr:x.ready W
 ·have Nu:=sO h hg a8.loc a8.str.2 a8.str.1 hx.wants hx.task
  rw[hr]at Nu;have HS:x.step W=(W,x):=by unfold Wk.step;rw[if_neg (by rw[hr];decide)]
  rw[HS];have H0:=h;have G0:=hg;have HC:=hc;clear h hg hc a8 hx hr;go_enter func363,ntmps363;go_wp2_with(go_at_call 362;refine Nu.mono ?_;rintro e w1 ⟨rfl,hb1⟩);refine bodyPost_ret (results_none rfl _ _ _) rfl ?_;exact⟨rfl,c,sp,G0.call hb1,H0.call hb1,ae.aa (sG i) c HC hb1⟩
 ·have:=hx.does
  rcases(show(x.does=0\/x.does=1\/x.does=2\/x.does=3\/x.does=5\/x.does=6\/x.does=7\/x.does=8\/x.does=9\/x.does=10\/x.does=11\/x.does=12\/x.does=14)\/x.does=4\/x.does=13 from oM)with e|e|e
  ·exact Ep x h hg hc a8 hx hr e
  ·exact QQ x h hg hc a8 hx hr e
  ·unfold Wk.ready Wk.over at hr;rw[e]at hr;simp at hr
end
end
def CJ (x:ak):Nat:=if((x.k==1)||(x.k==6))&&(x.err==0)then 1 else 0
def o8 (l:List ak):Nat:=(l.map CJ).sum
def kA (rows:List (bq ak)):Nat:=(rows.map fun r=>o8 r.l).sum
theorem VY (x:ak):CJ x<=1:=by unfold CJ;split<;>omega
theorem yQ (l:List ak):o8 l<=l.length:=by
 induction l with
 |nil=>exact aC1 _
 |cons x l ih=>
  have:=VY x;unfold o8 at *;rw[aG2,aI1,aC4];omega
theorem L8 {l:List ak} {j:Nat} {x:ak} (h:l[j]? = some x):o8 (l.take (j+1))=o8 (l.take j)+CJ x:=by
 unfold o8;rw[aD4,h,Option.toList_some,aE8,List.sum_append];simp
theorem L9 {rows:List (bq ak)} {k:Nat} {r:bq ak} (h:rows[k]? = some r):kA (rows.take (k+1))=kA (rows.take k)+o8 r.l:=by
 unfold kA;rw[aD4,h,Option.toList_some,aE8,List.sum_append];simp
theorem yR (rows:List (bq ak)) (h:∀r∈rows,r.l.length<=20):kA rows<=20*rows.length:=by
 induction rows with
 |nil=>exact aC1 _
 |cons r rows ih=>
  have:=yQ r.l;have:=h r sI;have:=ih (fun x hx=>h x (by simp[hx]));unfold kA at *;rw[aG2,aI1,aC4];omega
theorem Jc (A:Option Addr) (len cap:Nat) (rows:List (bq ak)) (w:World) (hr:dK w 11 ak.cells A len cap rows) (hg:∀r∈rows,∀x∈r.l,x.good) (hn:len<=40) (Fg:∀r∈rows,r.n<=20) :
 Calls prog 101 #[.slice A len cap] w (Rt (I6 (kA rows:Nat)) (Bl w)):=by
 have Er:=hr;have Nv:=hr.1.1;have HG:=hg;have H20:=Fg;have hm:cap<=9223372036854775807:=by have:=hr.1.2.2.1;unfold maxLen at this;omega
 have hle:len<=cap:=hr.1.2.1;have HT:=(fun k (hk:k<=len)=>(show kA (rows.take k)<=800 from by
  have h1:=yR (rows.take k) (fun r h=>by have h2:=Fg r (aG4 h);have h3:=(hr.2 r (aG4 h)).1;omega);have h2:=List.length_take_le k rows;omega))
 clear hr hg Fg;go_enter func101,ntmps101;go_wp2;go_loopw[3,10] (fun s i wr=>∃k:Nat,k<=len/\i = I6 k/\s = I6 (kA (rows.take k):Nat)/\Bl w wr) (fun _ i _=>len-(intOf i).toNat)
 case atStart=>exact⟨0,aB6 _,rfl,rfl,Below.refl _ _⟩
 case round=>
  obtain⟨k,hk,rfl,rfl,aT⟩:=hrel;have HE:=aT;clear aT
  by_cases hlt:k<len
  ·have Fb:(k:Int)<(len:Int):=oM
   obtain⟨b,off,r,rfl,hx,fH,t0⟩:=VT (af Er.1 HE) hlt;obtain⟨RA,rn,rc,rl⟩:=r;have kv:=aB7 hx;have VU:=Er.2 _ kv;have hrn:rn<=20:=H20 _ kv;have HGr:=HG _ kv;have Nl:rl.length=rn:=(Er.2 _ kv).1;have hrc:rn<=rc:=(Er.2 _ kv).2.1;have ay9:rc<=9223372036854775807:=by have:=(Er.2 _ kv).2.2.1;unfold maxLen at this;simp only at this;omega
   have HN:=L9 hx;have HNl:=Nl;have:=HT k hk;have nh:=HT (k+1) oM;rw[HN]at nh;simp only at nh VU HGr;clear hx kv Nl;generalize kA (rows.take k)=T at *;obtain⟨wo,hwo⟩:=zE wr;rw[<-hwo]at HE t0 fH |-;clear hwo;go_wp2;go_loopw[3,16] (fun s i wr2=>∃j:Nat,j<=rn/\i = I6 j/\s = I6 (T+o8 (rl.take j):Nat)/\Bl w wr2) (fun _ i _=>rn-(intOf i).toNat)
   case atStart=>exact⟨0,aB6 _,rfl,rfl,HE⟩
   case round=>
    obtain⟨j,hj,rfl,rfl,qu⟩:=hrel;have HE2:=qu;clear qu t0;have:o8 (rl.take j)<=20:=oI (yQ (rl.take j)) (List.length_take_le j rl)
    by_cases hlt2:j<rn
    ·have:(j:Int)<(rn:Int):=oM
     obtain⟨b2,gY,x,rfl,hx2,yP,hcl⟩:=ag.at_ (af VU HE2) hlt2;obtain⟨u0,u1,u2,u3,u4,u5,u6,u7,u8,u9,u10⟩:=yO hcl;have fG:=L8 hx2;have hxg:x.s.size<=maxLen:=HGr x (aB7 hx2);have wN:=(fun W=>gu x.k x.s x.t x.v x.h x.p W hxg);have HEr:x.err=bJ x.k x.s x.t x.v x.p:=rfl;rw[<-HEr]at wN;have hs1:CJ x=if((x.k==1)||(x.k==6))&&(x.err==0)then 1 else 0:=rfl
     obtain⟨E,hE⟩:=zE x.err;rw[<-hE]at wN hs1;have HS1:=hs1;clear hs1 hE HEr;generalize o8 (rl.take j)=RT at *;generalize CJ x=sx at *;have C3:=ai.new wr 65 (aj x.k x.s x.t x.v x.h x.p);have E3:=HE2.alloc HE2.size (.cells (aj x.k x.s x.t x.v x.h x.p) 65);have:=C3.z 0 (I6 x.k);have:=C3.z 1 (.string x.s);have:=C3.z 2 (I6 x.t);have:=C3.z 3 (I6 x.v);have:=C3.z 4 (I6 x.h);have:=C3.z 5 (I6 x.p.min);have:=C3.z 6 (I6 x.p.max);have:=C3.z 7 (I6 x.p.target);have:=C3.z 8 (I6 x.p.lz);have:=C3.z 9 (I6 x.p.bp);have:=C3.z 10 (I6 x.p.hold);clear hcl hx2 hxg;cases d1:(x.k==1)<;>cases d6:(x.k==6)<;>cases d0:(E==0)<;>rw[d1,d6,d0]at HS1<;>(have hsx:=HS1;simp at hsx;subst hsx;clear HS1)
     all_goals
      go_wp2_with(go_at_call 25;refine zM (wN _) fun v2 hb2=>?_);go_roundw
      case rel=>exact⟨j+1,oM,by go_num,by rw[fG,<-aD0];go_num,by first|exact zT E3 hb2|exact E3⟩
      case measure=>simp[intOf];omega
    ·obtain rfl:j=rn:=oM
     have zZ:rl.take j=rl:=aB5 (HNl▸aC1 _);go_wp2;go_roundw
     case rel=>exact⟨k+1,oM,by go_num,by rw[HN,zZ],HE2⟩
     case measure=>simp[intOf];omega
  ·have zZ:rows.take k=rows:=aB5 (oH Nv)
   go_wp2;go_ret;exact⟨by rw[zZ];rfl,HE⟩
theorem QT (h:bD w c g W) (hl:W.ay.length<=1000):Calls prog 172 #[pt g] w fun e w'=>e=.returned (I6 ((W.ay.length:Int)+1))/\w=w':=by
 obtain⟨cs,gs,gl,ls,lv,v,va,vf,vb,vd,vz,ve,h⟩:=h;exact yB h hl
theorem V4:∀x:ak,∀u∈x.cells,u.oneCell' = true:=fun x u hu=>by
 unfold ak.cells aj at hu;simp at hu;rcases hu with rfl|rfl|rfl|rfl|rfl|rfl|rfl|rfl|rfl|rfl|rfl<;>rfl
theorem QU:(prog.info? nV).map (fun i=>(i.zero,i.size,i.bytes))=some (some (.agg (aj 0 ⟨#[]⟩ 0 0 0 ⟨0,0,0,0,0,0⟩)),11,96):=kZ
def Ol (w:World) (gw t:Nat) (p:List ak) (e:Ending) (w' : World):Prop:=∃g A n cc,e=.returned (pt g)/\w.heap.size<=g/\Bl w w'/\ai w' g vW (qp gw A n cc (.slice none 0 0) 0 (Cl.new (t:Int) p))/\Own w' w.heap.size nV 11 ak.cells (.slice A n cc) p/\(∀a,A=some a->a.block≠g)
theorem aj8 (hg:bD w c gw W) (hl:W.ay.length<=1000) (t:Nat) (ht:t<32) (A:Option Addr) (n cc:Nat) (p:List ak) (hs:ag w 11 ak.cells A n cc p) (hn:n<=1000):
 Calls prog 112 #[pt gw,I6 (t:Int),.slice A n cc] w (Ol w gw t p):=by
 have HCo:=QT hg hl;have:(((W.ay.length:Int)+1)==0)=false:=by simp;omega
 have:decide ((t:Int)<0)=false:=sI
 have:decide ((32:Int)<=(t:Int))=false:=by simp;omega
 have HS:=hs;have HN:=hn;clear hg hl hs hn;generalize(W.ay.length:Int)+1=L at *;go_enter func112,ntmps112;go_wp2_with(first
  |go_at_call 172;refine HCo.mono ?_;rintro e w1 ⟨rfl,rfl⟩
  |(refine fP _ rfl (.const (.slice none 0 0)) (.tmp 19) 58 rfl w.heap.size nV _ 11 96 ak.cells underlying58 QU rF dC (fun _=>rfl) V4 (.slice none 0 0) [] rfl (Own.nil _ _ _ _ _) A n cc p rfl HS (by have:=HN;simp;omega) dC lR ?_;intro v2 w2 O2 B2 hg2;obtain⟨A2,n2,c2,rfl,-,-⟩:=O2.shape (fun _=>rfl);clear hg2))
 go_ret;have O3:Own w2 w.heap.size nV 11 ak.cells (.slice A2 n2 c2) p:=O2;exact⟨w2.heap.size,A2,n2,c2,rfl,B2.size,B2.alloc B2.size _,ai.new w2 vW _,O3.alloc _,fun a ha e=>by
  subst ha;have:=(O3.se a.block rfl).2;omega⟩
theorem V7 (h:bD w c g W) (hl:W.ay.length<=1000):Calls prog 172 #[pt g] w fun e w'=>e=.returned (I6 ((W.ay.length:Int)+1))/\w=w':=by
 obtain⟨cs,gs,gl,ls,lv,v,va,vf,vb,vd,vz,ve,h⟩:=h;exact yB h hl
theorem aj9 (hg:bD w c gw W) (hl:W.ay.length<=1000) (hc:∀k,w.heap.size<=k->c k=none) (t:Nat) (ht:t<32):
 Calls prog 113 #[pt gw,I6 (t:Int)] w fun e w'=>∃g,e=.returned (pt g)/\w.heap.size<=g/\Bl w w'/\ai w' g Xu (sK gw none (Wk.new (t:Int))):=by
 have HCo:=V7 hg hl;have:(((W.ay.length:Int)+1)==0)=false:=by simp;omega
 have:decide ((t:Int)<0)=false:=sI
 have:decide ((32:Int)<=(t:Int))=false:=by simp;omega
 clear hg hl;generalize(W.ay.length:Int)+1=L at *;go_enter func113,ntmps113;go_wp2_with(go_at_call 172;refine HCo.mono ?_;rintro e w1 ⟨rfl,rfl⟩);go_ret;exact⟨_,rfl,aC1 _,(Below.refl _ w).alloc lR _,(ai.new w Xu (sK gw none (Wk.new (t:Int))))⟩
section
structure aa5 (m:Fm) (e:Ev) (s:ByteArray):Prop where
 room:iy m
 call:e.kind=2->bM e.call
 note:e.kind=6->eO s=true/\e.key=⟨aO s,aP s⟩
def Ju (m:Fm) (l:List (Ev×ByteArray)):Fm:=l.foldl (fun m p=>(iz m p.1 p.2).2) m
theorem zg {m:Fm} {l:List (Ev×ByteArray)} {k:Nat} {p:Ev×ByteArray} (h:l[k]? = some p):Ju m (l.take (k+1))=(iz (Ju m (l.take k)) p.1 p.2).2:=by
 unfold Ju;rw[List.take_succ,h,List.foldl_append]
 rfl
section
variable {w w' : World} {g mp:Nat} {A:Option Addr} {n cc:Nat} {l:List fF} {m:Fm}
theorem vE (e:Ev) (s:ByteArray) (h:dg w (eG g mp) g mp A n cc l m) (ok:aa5 m e s) :
 Calls prog 37 #[pt g,.agg e.row] w (ApR g mp (iz m e s) w):=by
 unfold iz
 by_cases h2:e.kind=2
 ·rw[if_pos h2]
  exact td e h ok.room (ok.call h2) h2
 by_cases h6:e.kind=6
 ·rw[if_neg h2,if_pos h6]
  exact uP e s h ok.room (ok.note h6).1 (ok.note h6).2 h6
 ·rw[if_neg h2,if_neg h6]
  exact uQ e h h2 h6
theorem dg.new {w:World} {g mp:Nat} {c:aM} (h1:ai w g Bi (fN c mp (.slice none 0 0) 0 false)) (h2:bP fI w mp (fun _=>none) []) (hne:g≠mp) (hf:c.fit):dg w (eG g mp) g mp none 0 0 [] (Fm.new c):=
 ⟨⟨h1,⟨_,h2,fun s=>⟨fun _=>rfl,fun _=>rfl⟩,fun s x hx=>(by cases hx)⟩,.inl rfl,.inr rfl,hne,aB6 _,⟨hf.1,hf.2.2.1⟩⟩,⟨⟨rfl,aC1 _,aB6 _,fun _=>⟨rfl,rfl⟩,fun a ha=>(by cases ha)⟩,fun a ha=>(by cases ha),rfl,fun i x k h=>(by simp at h)⟩,aB6 _⟩
theorem EM (c:aM) (A:Option Addr) (n cap:Nat) (es:List Ev) (ids:List ByteArray) (w:World) (hs:gS w A n cap es) (hf:c.fit) (hc:c.gV) (hn:n<=100000) (hl:ids.length=n)
 (a8:∀(k:Nat) (p:Ev×ByteArray),(es.zip ids)[k]? = some p->aa5 (Ju (Fm.new c) ((es.zip ids).take k)) p.1 p.2/\(iz (Ju (Fm.new c) ((es.zip ids).take k)) p.1 p.2).1=true) :
 Calls prog 98 #[.agg c.row,.slice A n cap] w (Rt (I6 (-1)) (Bl w)):=by
 have HS:=hs;have:es.length=n:=hs.1;have:=hl;have kh:=a8;have HFt:=hf;have EX:=zW w (.cells c.row 23);have mW:=(fun W=>Jg c W hf hc);have HZ:∀(k:Nat) (e:Ev),es[k]? = some e->∃s,(es.zip ids)[k]? = some (e,s):=fun k e he=>by
  have h1:k<ids.length:=oI (d9.1 he).1 hs.1
  exact⟨ids[k],by rw[List.getElem?_zip_eq_some];exact⟨he,aB3 h1⟩⟩
 generalize es.zip ids=zs at *;clear hs hl a8 hf hc;go_enter func98,ntmps98;go_wp2_with(first
  |refine zI (ai.new w 23 c.row) underlying23 ?_
  |(go_at_call 20;refine(mW _).mono ?_;rintro e w1 ⟨g,mp,rfl,hb1,Cv,hg1,hp1,hne1,WG⟩;have B1:=zT EX WG;have F1:=dg.new hb1 Cv hne1 HFt;have K1:=And.intro (aB4 EX.size hg1) (aB4 EX.size hp1);clear hb1 Cv hg1 hp1 hne1 WG))
 go_loopw[12] (fun is wr=>∃(k:Nat) (A' : Option Addr) (n' c' : Nat) (l' : List fF),k<=n/\is = I6 (k:Int)/\dg wr (eG g mp) g mp A' n' c' l' (Ju (Fm.new c) (zs.take k))/\Bl w wr) (fun is _=>n-(intOf is).toNat)
 case atStart=>exact⟨0,none,0,0,[],aB6 _,rfl,F1,B1⟩
 case round=>
  obtain⟨k,A',n',c',l',hk,rfl,xB,hb⟩:=hrel;have HF:=xB;have HB:=hb;clear xB hb
  by_cases hlt:k<n
  ·have:(k:Int)<(n:Int):=oM
   obtain⟨b,off,e,rfl,he,fH,hcl⟩:=ag.at_ (af HS HB) hlt;have mC:wr.rangeAt b (off+k*34) e.cells:=fun j v hv=>by have h9:=hcl j v hv;rw[<-aD0]at h9;exact h9
   obtain⟨s,hz⟩:=HZ k e he;have fG:=zg (m:=Fm.new c) hz;obtain⟨hk1,hk2⟩:=kh k (e,s) hz;have RV:=zh (fun W (hb:Bl wr W)=>by
    have h9:=vE e s (HF.call hb) hk1;unfold ApR at h9;rw[show(iz (Ju (Fm.new c) (zs.take k)) e s).1=true from hk2]at h9;exact h9)
   have hg0:w.heap.size<=g/\w.heap.size<=mp:=K1;have HK:=hg0;clear he hcl hz hk1 hk2 hg0;go_upto_region 5 with(first
    |refine wpList_load_mid rfl eL (.tmp 15) rfl b (off+k*34) rfl e.cells _ mC underlying93 rfl kZ ?_
    |(refine wpList_store_row rfl eL (.tmp 7) (.tmp 16) rfl wr.heap.size eL _ _ rfl rfl (ai.new wr eL CM) rF kZ (wQ e) ?_;intro w2 hb2 hg2))
   have E2:=zW wr (.cells CM eL) |>.grown hg2 sI (fun k e=>by injection e;omega)
   have X2:ai w2 wr.heap.size eL e.row:=hb2;clear hb2 hg2 fH;go_wp2_with(first
    |refine zI X2 underlying93 ?_
    |(go_at_call 37;refine(RV _ E2).mono ?_;rintro e5 w5 ⟨rfl,A5,n5,c5,l5,F5,U5⟩))
   have dx:Bl w w5:=HB.trans ((((ah.aa E2:ah (eG g mp) wr w2).trans U5 iL).below (B:=w.heap.size) (fun k e=>Or.elim e (fun e=>e ▸ HK.1) (fun e=>e ▸ HK.2)) HB.size));go_roundw
   case rel=>exact⟨k+1,A5,n5,c5,l5,oM,by go_num,fG▸F5,dx⟩
   case measure=>simp[intOf];omega
  ·have: ¬(k:Int)<(n:Int):=oM
   go_wp2;go_ret;exact⟨rfl,HB⟩
end
end
theorem EN (c:aM) (A:Option Addr) (n cap:Nat) (es:List Ev) (ids:List ByteArray) (w:World) (hs:gS w A n cap es) (hf:c.fit) (hc:c.gV) (hn:n<=100000) (hl:ids.length=n)
 (hRi:∀W,Bl w W->Calls prog 96 #[.slice A n cap] W (Rt (.bool true) (Bl W)))
 (hTo:∀W,Bl w W->Calls prog 97 #[.slice A n cap] W (Rt (.bool true) (Bl W)))
 (a8:∀(k:Nat) (p:Ev×ByteArray),(es.zip ids)[k]? = some p->aa5 (Ju (Fm.new c) ((es.zip ids).take k)) p.1 p.2/\(iz (Ju (Fm.new c) ((es.zip ids).take k)) p.1 p.2).1=true) :
 Calls prog 34 #[.agg c.row,.slice A n cap] w (Rt (.bool true) (Bl w)):=by
 have BX:=ai.new w 23 c.row;have EX:=zW w (.cells c.row 23);have HRi:=hRi;have HTo:=hTo;have HRe:=(fun W (hb:Bl w W)=>EM c A n cap es ids W (af hs hb) hf hc hn hl a8);clear hs hRi hTo a8 hf hc hl;go_enter func34,ntmps34;go_wp2_with(first
  |go_at_call 96;refine zM (HRi _ EX) fun w1 hb1=>?_;have B1:=zT EX hb1;have X1:=BX.call hb1;clear hb1
  |refine dF rF ?_;go_at_call 97;refine zM (HTo _ B1) fun w2 hb2=>?_;have B2:=zT B1 hb2;have X2:=X1.call hb2;clear hb2
  |go_at_call 97;refine zM (HTo _ B1) fun w2 hb2=>?_;have B2:=zT B1 hb2;have X2:=X1.call hb2;clear hb2
  |refine dF rF ?_;refine zI X2 underlying23 ?_
  |(go_at_call 98;refine zM (HRe _ B2) fun w3 hb3=>?_;have B3:=zT B2 hb3;clear hb3))
 go_ret;exact⟨rfl,B3⟩
section
structure LdF (c:aM) (x:kT):Prop where
 len:x.dE.length<=c.dE.toNat
 good:∀y∈x.dE,y.good
 past:x.past.length<=c.iI.toNat
 rep:∀a∈x.past,aw a.aQ
 cM:aw x.cM.min
structure rB (c:aM) (m:Fm) (n:Nat):Prop where
 cfg:m.cfg=c
 ld:∀s x,m.M s=some x->LdF c x
 cut:∀k,some k∈m.cuts->∀s x,k.M s=some x->LdF c x
 ks:m.ks.length<=n
 cn:m.cuts.length<=n
 ep:0<=m.ep/\m.ep<=n
section
variable {c:aM} {m:Fm} {n:Nat}
theorem rB.new (c:aM):rB c (Fm.new c) 0:=⟨rfl,fun s x h=>(by cases h),fun k h=>(by cases h),aC1 _,aC1 _,by show(0:Int)<=0/\(0:Int)<=0;omega⟩
theorem rB.mono (h:rB c m n) {k:Nat} (hk:n<=k):rB c m k:=⟨h.cfg,h.ld,h.cut,aB4 h.ks hk,aB4 h.cn hk,h.ep.1,oH h.ep.2⟩
theorem rB.room (h:rB c m n) (hc:c.gV) (hn:n<90000):iy m:=by
 have h1:∀x,LdF c x->x.dE.length<=256/\(∀y∈x.dE,y.good)/\x.past.length<=1000:=fun x hx=>by
  obtain⟨-,-,h2,-,-,-,h3⟩:=hc;exact⟨oH hx.len,hx.good,oH hx.past⟩
 exact⟨⟨h.cfg ▸ hc,fun s x hx=>h1 x (h.ld s x hx),fun k hk s x hx=>h1 x (h.cut k hk s x hx),oH h.ks,h.ep.1,oH h.ep.2⟩,oH h.ks,oH h.cn⟩
theorem rB.put (h:rB c m n) (s:ByteArray) {x:kT} (hx:LdF c x):rB c (m.put s x) (n+1):=
 ⟨h.cfg,fun s' y hy=>by
  change yT m.M s x s' = some y at hy;unfold yT at hy
  split at hy
  ·injection hy with hy;subst hy;exact hx
  ·exact h.ld s' y hy,h.cut,by have:=jG m.ks s;have:=h.ks;show(cE m.ks s).length<=n+1;omega,aD6 h.cn,h.ep.1,by have:=h.ep.2;show m.ep<=((n+1:Nat):Int);omega⟩
theorem rB.get (h:rB c m n) (s:ByteArray):LdF c (m.get s):=by
 unfold Fm.get;cases hx:m.M s with
 |none=>exact⟨aB6 _,fun y hy=>(by cases hy),aB6 _,fun y hy=>(by cases hy),(show aw 0 by unfold aw;decide)⟩
 |some x=>exact h.ld s x hx
theorem rB.do_ (h:rB c m n) (hc:c.gV) {x:ak} (hx:bM x):rB c (m.do x).2 (n+1):=by
 have h0:=h.mono (aC5 n);unfold Fm.do
 split
 ·exact h0
 split
 ·exact h0
 split
 ·unfold Fm.eD
  split
  ·exact h0
  split
  ·exact h0
  ·have hg:=h.get x.s
   refine h.put x.s ⟨?_,Pb _ (fun y hy=>?_),hg.past,hg.rep,hg.cM⟩
   ·rw[h.cfg]
    exact xI (by obtain⟨-,h2,-⟩:=hc;omega) _
   ·rcases aC9.1 hy with hy|hy
    ·exact hg.good y hy
    ·simp at hy;subst hy;exact⟨hx.t,hx.v⟩
 split
 ·unfold Fm.trim
  split
  ·exact h0
  ·refine⟨h.cfg,fun s y hy=>?_,h.cut,aD6 h.ks,aD6 h.cn,h0.ep⟩
   change(m.M s).map (sV x.t)=some y at hy;cases hm:m.M s with
   |none=>rw[hm]at hy;cases hy
   |some z=>
    rw[hm]at hy;injection hy with hy
    subst hy;have hz:=h.ld s z hm;exact⟨aB4 (aF1 _ _) hz.len,fun y hy=>hz.good y (aF9.1 hy).1,hz.past,hz.rep,hz.cM⟩
 split
 ·unfold Fm.snap
  split
  ·exact h0
  ·refine⟨h.cfg,h.ld,fun k hk=>?_,aD6 h.ks,?_,?_⟩
   ·rcases aC9.1 hk with hk|hk
    ·exact h.cut k hk
    ·simp at hk;subst hk;exact h.ld
   ·show(m.cuts++_).length<=n+1
    have:=h.cn;simp;omega
   ·have:=h.ep
    show 0<=m.ep+1/\m.ep+1<=((n+1:Nat):Int)
    omega
 split
 ·unfold Fm.free
  split
  ·refine⟨h.cfg,h.ld,fun k hk=>?_,aD6 h.ks,?_,h0.ep⟩
   ·rcases List.mem_or_eq_of_mem_set hk with hk|hk
    ·exact h.cut k hk
    ·cases hk
   ·show(m.cuts.set _ _).length<=n+1
    rw[aF2];exact aD6 h.cn
  ·exact h0
 split
 ·exact h0
 split
 ·unfold Fm.set
  split
  ·exact h0
  split
  ·exact h0
  ·have hg:=h.get x.s
   exact h.put x.s ⟨hg.len,hg.good,hg.past,hg.rep,hx.p.1⟩
 split
 ·exact h0
 split
 ·exact h0
 ·exact⟨h.cfg,h.ld,h.cut,h0.ks,h0.cn,h0.ep⟩
theorem rB.note (h:rB c m n) (hc:c.gV) (s:ByteArray) (a:aU) (ha:aw a.aQ):rB c (m.note s a).2 (n+1):=by
 unfold Fm.note;cases hm:m.M s with
 |none=>exact h.mono (aC5 n)
 |some x=>
  have hx:=h.ld s x hm;refine h.put s ⟨hx.len,hx.good,?_,fun y hy=>?_,hx.cM⟩
  rotate_left
  ·change y∈eV x.past m.cfg.iI.toNat a at hy
   unfold eV at hy;have h1:y∈x.past++[a]:=by
    split at hy
    ·exact aI7 hy
    ·exact hy
   rcases aC9.1 h1 with h1|h1
   ·exact hx.rep y h1
   ·simp at h1;subst h1;exact ha
  rw[h.cfg];exact(FP hx.past (by obtain⟨-,-,-,-,-,h5,-⟩:=hc;omega) a).1
end
end
structure EvG (e:Ev) (s:ByteArray):Prop where
 call:e.kind=2->bM e.call
 note:e.kind=6->eO s=true/\e.key=⟨aO s,aP s⟩
 ei:e.kind=6->aw e.ei.aQ
theorem rB.apply {c:aM} {m:Fm} (h:rB c m n) (hc:c.gV) {e:Ev} {s:ByteArray} (he:EvG e s):rB c (iz m e s).2 (n+1):=by
 unfold iz
 by_cases h2:e.kind=2
 ·rw[if_pos h2];exact h.do_ hc (he.call h2)
 ·rw[if_neg h2]
  split
  ·rename_i h6;exact h.note hc s e.ei (he.ei h6)
  ·exact h.mono (aC5 n)
theorem rB.st {c:aM} (hc:c.gV) {zs:List (Ev×ByteArray)} (hz:∀p∈zs,EvG p.1 p.2):∀k,rB c (Ju (Fm.new c) (zs.take k)) k
 |0=>rB.new c
 |k+1=>by
  have h:=rB.st hc hz k;cases hk:zs[k]? with
  |none=>rw[aD4,hk,Option.toList,List.append_nil];exact h.mono (aC5 k)
  |some p=>rw[zg hk];exact h.apply hc (hz p (aB7 hk))
def AfR (m:Fm) (w:World) (e:Ending) (w' : World):Prop:=∃g mp A' n' c' l',e=.returned (pt g)/\dg w' (eG g mp) g mp A' n' c' l' m/\w.heap.size<=g/\w.heap.size<=mp/\Bl w w'
theorem Jv (c:aM) (A:Option Addr) (n cap:Nat) (es:List Ev) (ids:List ByteArray) (w:World) (hs:gS w A n cap es) (hf:c.fit) (hc:c.gV) (hn:n<90000) (hl:ids.length=n) (hg:∀p∈es.zip ids,EvG p.1 p.2) :
 Calls prog 10 #[.agg c.row,.slice A n cap,I6 (n:Int)] w (AfR (Ju (Fm.new c) (es.zip ids)) w):=by
 have HS:=hs;have:es.length=n:=hs.1;have HFt:=hf;have EX:=zW w (.cells c.row 23);have mW:=(fun W=>Jg c W hf hc);have HZ:∀(k:Nat) (e:Ev),es[k]? = some e->∃s,(es.zip ids)[k]? = some (e,s):=fun k e he=>by
  have h1:k<ids.length:=oI (d9.1 he).1 hs.1
  exact⟨ids[k],by rw[List.getElem?_zip_eq_some];exact⟨he,aB3 h1⟩⟩
 have nI:=rB.st hc hg;have HZl:(es.zip ids).length=n:=by rw[List.length_zip,hl,hs.1,Nat.min_self]
 obtain⟨R,hR⟩:=zE (Ju (Fm.new c) (es.zip ids));rw[<-hR];have HR:=zD hR;have HG:=hg;have HC:=hc;generalize es.zip ids=zs at *;clear hs hl hf hc hg hR;go_enter func10,ntmps10;go_wp2_with(first
  |refine zI (ai.new w 23 c.row) underlying23 ?_
  |(go_at_call 20;refine(mW _).mono ?_;rintro e w1 ⟨g,mp,rfl,hb1,Cv,hg1,hp1,hne1,WG⟩;have B1:=zT EX WG;have F1:=dg.new hb1 Cv hne1 HFt;have K1:=And.intro (aB4 EX.size hg1) (aB4 EX.size hp1);clear hb1 Cv hg1 hp1 hne1 WG))
 go_loopw[14] (fun is wr=>∃(k:Nat) (A' : Option Addr) (n' c' : Nat) (l' : List fF),k<=n/\is = I6 (k:Int)/\dg wr (eG g mp) g mp A' n' c' l' (Ju (Fm.new c) (zs.take k))/\Bl w wr) (fun is _=>n-(intOf is).toNat)
 case atStart=>exact⟨0,none,0,0,[],aB6 _,rfl,F1,B1⟩
 case round=>
  obtain⟨k,A',n',c',l',hk,rfl,xB,hb⟩:=hrel;have HF:=xB;have HB:=hb;clear xB hb
  by_cases hlt:k<n
  ·have:(k:Int)<(n:Int):=oM
   have:decide ((n:Int)<=(k:Int))=false:=decide_eq_false oM;obtain⟨b,off,e,rfl,he,fH,hcl⟩:=ag.at_ (af HS HB) hlt;have mC:wr.rangeAt b (off+k*34) e.cells:=fun j v hv=>by have h9:=hcl j v hv;rw[<-aD0]at h9;exact h9
   obtain⟨s,hz⟩:=HZ k e he;have fG:=zg (m:=Fm.new c) hz;have hE:=HG (e,s) (aB7 hz);have hk1:aa5 (Ju (Fm.new c) (zs.take k)) e s:=⟨(nI k).room HC oM,hE.call,hE.note⟩;have RV:=zh (fun W (hb:Bl wr W)=>by
    have h9:=vE e s (HF.call hb) hk1;unfold ApR at h9;exact h9)
   have HK:=K1;generalize(iz (Ju (Fm.new c) (zs.take k)) e s).1=RB at *;clear he hcl hz hk1 hE;go_upto_region 6 with(first
    |refine wpList_load_mid rfl eL (.tmp 17) rfl b (off+k*34) rfl e.cells _ mC underlying93 rfl kZ ?_
    |(refine wpList_store_row rfl eL (.tmp 9) (.tmp 18) rfl wr.heap.size eL _ _ rfl rfl (ai.new wr eL CM) rF kZ (wQ e) ?_;intro w2 hb2 hg2))
   have E2:=zW wr (.cells CM eL) |>.grown hg2 sI (fun k e=>by injection e;omega)
   have X2:ai w2 wr.heap.size eL e.row:=hb2;clear hb2 hg2 fH;go_wp2_with(first
    |refine zI X2 underlying93 ?_
    |(go_at_call 37;refine(RV _ E2).mono ?_;rintro e5 w5 ⟨rfl,A5,n5,c5,l5,F5,U5⟩))
   have dx:Bl w w5:=HB.trans ((((ah.aa E2:ah (eG g mp) wr w2).trans U5 iL).below (B:=w.heap.size) (fun k e=>Or.elim e (fun e=>e ▸ HK.1) (fun e=>e ▸ HK.2)) HB.size));go_roundw
   case rel=>exact⟨k+1,A5,n5,c5,l5,oM,by go_num,fG▸F5,dx⟩
   case measure=>simp[intOf];omega
  ·have: ¬(k:Int)<(n:Int):=oM
   have q9:zs.take k=zs:=aB5 (oH HZl);go_wp2;go_ret;exact⟨g,mp,A',n',c',l',rfl,by have h9:=HF;rw[q9,<-HR.out]at h9;exact h9,K1.1,K1.2,HB⟩
end Go.Proofs.YtjgmjohiehbgaaaGreat
