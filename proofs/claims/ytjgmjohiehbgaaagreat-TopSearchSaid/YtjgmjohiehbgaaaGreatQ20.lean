/- Part 20. -/
import Derived.Test.YtjgmjohiehbgaaaGreatQ18
import Derived.Test.YtjgmjohiehbgaaaGreatQ19
namespace Go.Proofs.YtjgmjohiehbgaaaGreat
open Go.RowKit Go.Proofs.Tryz
set_option maxHeartbeats 20000000
set_option maxRecDepth 100000
set_option linter.all false
variable{S:aL}{W:Gw}{a i k:Nat}{cf:aM}{long n:Int}{p:List ak}{raw:List Int}{v:Value}{w w':World}{x:Cl}
def IX(S:aL)(x:Cl)(a:Nat):Prop:=(x.call.k=1\/x.call.k=6)->(3<=a->a<=5->x.rep.err=0->bj S x.call.key)/\(4<=a->a<=5->x.rep.err=0)
abbrev Cl.steps(cf:aM)(x:Cl):List iM:=cN cf x.call.k x.call.s x.call.t x.call.v x.call.p
structure Xv(cf:aM)(p:List ak)(i:Nat)(S:aL)(x:Cl):Prop where
 task:x.task=(i:Int)
 prog:x.prog=p
 nth:x.nth<=p.length
 wants:aw x.wants
 ops:x.ops=[]\/(x.nth<p.length/\x.ops=x.steps cf/\x.at_<x.ops.length/\IX S x x.at_)
def ry(x:Cl):Nat:=x.nth+if((x.ops.take x.at_).any λo=>decide (o.kind=4))=true then 1 else 0
def ai7(h:Xv cf p i S x):ry x<=p.length:=by
 unfold ry;rcases h.ops with e|⟨h1,-⟩
 ·rw[e];simp;exact h.nth
 ·split<;>omega
def IX.aG{S': aL}(h:IX S x a)(hp:∀k,bj S k->bj S' k):IX S' x a:=λhk=>⟨λh1 h2 h3=>hp _ ((h hk).1 h1 h2 h3),(h hk).2⟩
def Xv.aG{S': aL}(h:Xv cf p i S x)(hp:∀k,bj S k->bj S' k):Xv cf p i S' x:=
 ⟨h.task,h.prog,h.nth,h.wants,h.ops.imp id λ⟨h1,h2,h3,h4⟩=>⟨h1,h2,h3,h4.aG hp⟩⟩
def pJ(h1 : -1<=n)(h2:n<=1000):aw n:=by unfold aw;omega
theorem Xv.ok{n:Nat}(h:Xv cf p i W.aG x)(zv:W.aG.cfg=cf)(hs:qj W.aG n k)(h8:cf.str<=8)(hi:i<32)(hp:∀c∈p,bM c)(hpl:p.length<=1000):ai6 W x:=by
 have a8:cf.gV:=zv ▸ hs.py;have hcall:bM x.call:=by
  unfold Cl.call;rw[h.prog,aB7];cases hc:p[x.nth]? with
  |none=>exact⟨dC,by unfold aw;decide,by unfold aw;decide,by unfold aw;decide,by unfold aw;decide,by unfold dI.fit iU ag9 aw;decide⟩
  |some c=>exact hp c (aC1 hc)
 have QG:(x.set W).ops=x.steps cf/\(x.set W).at_<(x.steps cf).length/\(x.set W).call=x.call:=by
  unfold Cl.set;rw[zv]
  split
  ·rename_i e
   exact⟨rfl,aV3.2 (uz a8 _ _ _ _ _),rfl⟩
  ·rename_i e
   rcases h.ops with e'|⟨-,h2,h3,-⟩
   ·exact absurd e' e
   ·exact⟨h2,h2 ▸ h3,rfl⟩
 obtain⟨s1,s2,s3⟩:=QG;have hop:(x.set W).op=(x.steps cf).getD (x.set W).at_ vt:=by unfold Cl.op;rw[s1]
 have ha:=IM a8 h8 x.call s2;have Ir:((cf.str.toNat:Nat):Int)=cf.str:=by have:=a7 a8.1;omega
 refine⟨h.wants,by rw[h.task];exact pJ oM oM,by have:=h.nth;omega,hcall,by rw[s1];exact s2,by rw[s1];exact aB4 (x6 _ _ _ _ _ _) dC,?_,?_,?_,zv ▸ hs.fit,zv ▸ a8⟩
 ·rw[hop];exact pJ ha.lk.1 (Int.le_trans ha.lk.2 dC)
 ·rw[hop];exact ha.k1
 ·rw[hop,s1]
  intro e1 e2 e3;have h9:=(ha.skip e1 (by rw[Ir];exact zv ▸ e2)).1;rw[Ir]at h9;refine⟨_,(by unfold ez;rw[zv];exact h9),?_⟩;have:=h9.len
  split<;>omega
structure ClM(cf:aM)(p:List ak)(i:Nat)(e u d:Nat)(W:Gw)(x:Cl)(W' : Gw)(x' : Cl):Prop where
 gw:∀d',d+ry x'<=d' + ry x->jD cf W' (e+2) (u+1) d'
 cl:Xv cf p i W'.aG x'
 uF:∀k,bj W.aG k->bj W'.aG k
 zG:W'.mo.asleep ⊆ W.mo.asleep
 dn:ry x<=ry x'
def IY{l:List iM}{o:iM}(h:l.getD a vt=o)(ha:a<l.length):((l.take (a+1)).any λo=>decide (o.kind=4))=(((l.take a).any λo=>decide (o.kind=4))||decide (o.kind=4)):=by
 rw[aB7,aB3 ha]at h;rw[List.take_succ,aB3 ha,List.any_append];simp at h;simp[h]
def VC{l:List iM}{b:Nat}(h:a<=b)(h1:((l.take a).any λo=>decide (o.kind=4))=true):((l.take b).any λo=>decide (o.kind=4))=true:=by
 rw[List.any_eq_true]at *;obtain⟨o,ho,h2⟩:=h1;exact⟨o,(List.take_sublist_take_left h).subset ho,h2⟩
def VD{y:Cl}{e u d:Nat}(hg:jD cf W e u d)(h8:cf.str<=8)(hd:d<=58)(hi:rr (i:Int))(hn:(i:Int) ∉ W.mo.asleep)(hc:bM y.call)(ht:y.task=(i:Int))(hpr:y.prog=p)(ap7:y.nth<p.length)(hw:aw y.wants)(QI:y.ops=y.steps cf)(hat:y.at_<y.ops.length)(zP:IX W.aG y y.at_):
 ClM cf p i e u d W y (y.act W).1 {(y.act W).2 with at_:=if(y.act W).2.ops=[]then 0 else(y.act W).2.at_+1}:=by
 obtain⟨n0,k0,hs,-,-⟩:=hg.wO;have a8:cf.gV:=hg.cfg ▸ hs.py;have ha:Zr cf.str.toNat y.call.k y.ops y.at_:=by rw[QI];exact IM a8 h8 y.call (Nat.lt_of_lt_of_eq hat (congrArg List.length QI))
 have hne:y.ops≠[]:=λe=>by rw[e]at hat;simp at hat
 have Ir:((cf.str.toNat:Nat):Int)=cf.str:=by have:=a7 a8.1;omega
 have hop:y.op=y.ops.getD y.at_ vt:=rfl;have hg2:∀{W' : Gw} {e' u' : Nat} {d0:Nat} {x' : Cl},jD cf W' e' u' d->e'<=e+2->u'<=u+1->ry y<=ry x'->∀d',d+ry x'<=d' + ry y->jD cf W' (e+2) (u+1) d':=λh h1 h2 h3 d' h4=>h.mono h1 h2 oM
 have jk:∀(y' : Cl),y'.ops=y.ops->y'.nth=y.nth->y'.at_=y.at_+1->ry y<=ry y':=λy' h1 h2 h3=>by
  unfold ry;rw[h1,h2,h3,IY rfl hat];cases(List.take y.at_ y.ops).any λo=>decide (o.kind=4)<;>simp
 have hlt:y.op.kind≠7->y.at_+1<y.ops.length:=λh=>by
  have:=ha.last;rw[<-hop]at this;rcases aE2 (y.at_+1) y.ops.length with h2|h2
  ·exact h2
  ·exact absurd (this.2 oM) h
 have hcl:∀(y' : Cl)(S' : aL),y'.task=y.task->y'.prog=y.prog->y'.nth=y.nth->aw y'.wants->y'.ops=y.ops->y'.at_<y.ops.length->IX S' y' y'.at_->Xv cf p i S' y':=λy' S' h1 h2 h3 h4 h5 h6 h7=>by
  have hcall:y'.call=y.call:=by unfold Cl.call;rw[h2,h3]
  exact⟨h1.trans ht,h2.trans hpr,by rw[h3];omega,h4,.inr ⟨by rw[h3];exact ap7,by rw[h5,QI];show cN _ _ _ _ _ _=cN _ _ _ _ _ _;rw[hcall],by rw[h5];exact h6,h7⟩⟩
 have Em:∀(S' : aL)(y' : Cl),(∀k,bj W.aG k->bj S' k)->y'.call=y.call->y'.rep=y.rep->(y.op.kind≠4/\(y.op.kind=5->¬(y.op.lock<cf.str/\y.rep.err≠0)))->IX S' y' (y.at_+1):=λS' y' hp h1 h2 h3=>by
  unfold IX;rw[h1,h2];intro hk;have hpo:=(zP.aG hp) hk;rcases ha.one hk with hl|⟨hl,c2,c3,c4,c5⟩
  ·exact⟨λh=>oM,λh=>oM⟩
  ·refine⟨λh4 h5 h6=>?_,λh4 h5=>?_⟩
   ·rcases aE2 y.at_ 3 with h7|h7
    ·have:y.at_=2:=oM
     exact absurd (c2 this) h3.1
    ·exact hpo.1 h7 oM h6
   ·rcases aE2 y.at_ 4 with h7|h7
    ·have h8:y.at_=3:=oM
     obtain⟨q1,q2⟩:=c3 h8;have:=h3.2 q1;rw[Ir]at q2;exact Decidable.byContradiction λhh=>this ⟨q2,hh⟩
    ·exact hpo.2 h7 oM
 unfold Cl.act;simp only
 by_cases e1:y.op.kind=1
 ·rw[if_pos e1]
  unfold Cl.begin;simp only;have hp:∀k,bj W.aG k->bj W.aG k:=λ_ h=>h
  have hW:jD cf (if({y with rep:=cK y.call.err} : Cl).rep.err≠0 then(W.note ((Cl.ev {y with rep:=cK y.call.err} 1))).note ((Cl.ev {y with rep:=cK y.call.err} 2))else W.note ((Cl.ev {y with rep:=cK y.call.err} 1))) (e+2) u d/\(if({y with rep:=cK y.call.err} : Cl).rep.err≠0 then(W.note ((Cl.ev {y with rep:=cK y.call.err} 1))).note ((Cl.ev {y with rep:=cK y.call.err} 2))else W.note ((Cl.ev {y with rep:=cK y.call.err} 1))).aG=W.aG/\(if({y with rep:=cK y.call.err} : Cl).rep.err≠0 then(W.note ((Cl.ev {y with rep:=cK y.call.err} 1))).note ((Cl.ev {y with rep:=cK y.call.err} 2))else W.note ((Cl.ev {y with rep:=cK y.call.err} 1))).mo=W.mo:=by
   split
   ·exact⟨(hg.note _).note _,rfl,rfl⟩
   ·exact⟨(hg.note _).mono (aC5 _) lR lR,rfl,rfl⟩
  obtain⟨w1,w2,w3⟩:=hW;rw[if_neg hne];refine⟨hg2 (d0:=0) w1 lR (aC5 _) (jk _ rfl rfl rfl),hcl _ _ rfl rfl rfl hw rfl (hlt (by rw[e1];decide)) ?_,λk hk=>by rw[w2];exact hk,by rw[w3];exact λ_ h=>h,jk _ rfl rfl rfl⟩;intro hk;have hk:y.call.k=1\/y.call.k=6:=hk;rcases ha.one hk with hl|⟨hl,c2,c3,c4,c5⟩
  ·have:=hlt (by rw[e1];decide)
   exact⟨λh=>by simp only at h;omega,λh=>by simp only at h;omega⟩
  ·have:=c5 (hop ▸ e1)
   exact⟨λh=>by simp only at h;omega,λh=>by simp only at h;omega⟩
 rw[if_neg e1]
 by_cases e2:y.op.kind=2\/y.op.kind=3
 ·rw[if_pos e2]
  simp only;obtain⟨w1,w2,w3,w4⟩:=hg.ask y.op.lock (t:=y.task) (ht ▸ hi) (ht ▸ hn) (decide (y.op.kind=3));have hlk:aw y.op.lock:=by rw[hop];exact pJ ha.lk.1 (Int.le_trans ha.lk.2 dC)
  have hp:∀k,bj W.aG k->bj (W.ask y.op.lock y.task (decide (y.op.kind=3))).2.aG k:=λk hk=>by rw[w3];exact hk
  have h3:y.op.kind≠4/\(y.op.kind=5->¬(y.op.lock<cf.str/\y.rep.err≠0)):=⟨oM,λh=>oM⟩
  split
  ·(try rw[if_neg hne])
   exact⟨hg2 (d0:=0) w1 oM (aC5 _) (jk _ rfl rfl rfl),hcl _ _ rfl rfl rfl hw rfl (hlt oM) (Em _ _ hp rfl rfl h3),hp,by rw[w2];exact λ_ h=>h,jk _ rfl rfl rfl⟩
  ·(try rw[if_neg hne])
   exact⟨hg2 (d0:=0) w1 oM (aC5 _) (jk _ rfl rfl rfl),hcl _ _ rfl rfl rfl hlk rfl (hlt oM) (Em _ _ hp rfl rfl h3),hp,by rw[w2];exact λ_ h=>h,jk _ rfl rfl rfl⟩
 rw[if_neg e2]
 by_cases e4:y.op.kind=4
 ·rw[if_pos e4]
  simp only;rw[if_neg hne];obtain⟨w1,w2,w3,w4⟩:=hg.do_ hc hd;have Yw:ry ({y with rep:=(W.do y.call).1,at_:=y.at_+1} : Cl)=ry y+1:=by
   unfold ry;simp only;rw[IY rfl hat,ha.once (hop ▸ e4)];have h44:(y.ops.getD y.at_ vt).kind=4:=hop ▸ e4;rw[h44]
   rfl
  refine⟨λd' hd'=>(w1.note _).mono oM (aC5 _) (by rw[Yw]at hd';omega),hcl _ _ rfl rfl rfl hw rfl (hlt (by rw[e4];decide)) ?_,w3,w2,by rw[Yw];omega⟩;intro hk;have hk:y.call.k=1\/y.call.k=6:=hk;rcases ha.one hk with hl|⟨hl,c2,c3,c4,c5⟩
  ·have:=hlt (by rw[e4];decide)
   exact⟨λh=>by simp only at h;omega,λh=>by simp only at h;omega⟩
  ·have:=c4 (hop ▸ e4)
   exact⟨λh1 h2 h3=>w4 hk h3,λh=>by simp only at h;omega⟩
 rw[if_neg e4]
 by_cases e5:y.op.kind=5
 ·rw[if_pos e5]
  simp only;obtain⟨w1,w2,w3,w4⟩:=hg.drop y.op.lock (t:=y.task) (ht ▸ hi) (ht ▸ hn);have hp:∀k,bj W.aG k->bj (W.drop y.op.lock y.task).aG k:=λk hk=>by rw[w3];exact hk
  have ZA:W.aG.cfg.str=cf.str:=by rw[hg.cfg]
  rw[ZA]
  split
  ·rename_i hsk
   (try rw[if_neg hne])
   obtain⟨s1,s2⟩:=ha.skip (hop ▸ e5) (by rw[Ir];exact hop ▸ hsk.1);rw[Ir]at s1;have hj:vu y.ops (ez W) y.ops.length y.at_=y.at_+3*(if y.call.k=1\/y.call.k=6 then 1 else 0):=by
    unfold ez;rw[ZA];refine s1.skip _ ?_;have:=s1.len
    split<;>omega
   rw[hj];have hdn:ry y<=ry ({y with at_:=y.at_+3*(if y.call.k=1\/y.call.k=6 then 1 else 0)+1} : Cl):=by
    unfold ry;simp only
    split
    ·rename_i h1
     rw[VC oM h1];simp
    ·omega
   refine⟨hg2 (d0:=0) w1 oM (aC5 _) hdn,hcl _ _ rfl rfl rfl hw rfl s1.len ?_,hp,by rw[w2];exact λ_ h=>h,hdn⟩;intro hk;have hk:y.call.k=1\/y.call.k=6:=hk;have:=s2 hk;have h9:(if y.call.k=1\/y.call.k=6 then 1 else 0)=1:=if_pos hk;simp only;rw[h9];exact⟨λh1 h2=>oM,λh1 h2=>oM⟩
  ·rename_i hsk
   (try rw[if_neg hne])
   have h3:y.op.kind≠4/\(y.op.kind=5->¬(y.op.lock<cf.str/\y.rep.err≠0)):=⟨e4,λ_=>hsk⟩;exact⟨hg2 (d0:=0) w1 oM (aC5 _) (jk _ rfl rfl rfl),hcl _ _ rfl rfl rfl hw rfl (hlt oM) (Em _ _ hp rfl rfl h3),hp,by rw[w2];exact λ_ h=>h,jk _ rfl rfl rfl⟩
 rw[if_neg e5]
 by_cases e6:y.op.kind=6
 ·rw[if_pos e6]
  simp only;rw[if_neg hne];obtain⟨hk,h5⟩:=ha.six (hop ▸ e6);have hpo:=zP hk;obtain⟨w1,w2,w3⟩:=hg.add ⟨LQ y.call,(hpo.1 oM oM (hpo.2 oM oM))⟩;have hp:∀k,bj W.aG k->bj (W.add y.call.key).aG k:=λk hk=>by rw[w3];exact hk
  exact⟨hg2 (d0:=0) w1 oM lR (jk _ rfl rfl rfl),hcl _ _ rfl rfl rfl hw rfl (hlt oM) (Em _ _ hp rfl rfl ⟨e4,λh=>absurd h e5⟩),hp,w2,jk _ rfl rfl rfl⟩
 rw[if_neg e6];simp only[if_true];have hdn:ry y<=ry ({y with nth:=y.nth+1,ops:=[],at_:=0} : Cl):=by
  unfold ry;simp only[List.take_nil,List.any_nil,aG8,if_false,aH9]
  split<;>omega
 exact⟨hg2 (d0:=0) (hg.note _) oM (aC5 _) hdn,⟨ht,hpr,ap7,hw,.inl rfl⟩,λ_ h=>h,λ_ h=>h,hdn⟩
def IZ{e u d:Nat}(hg:jD cf W e u d)(h8:cf.str<=8)(hd:d<=58)(hi:rr (i:Int))(hn:(i:Int) ∉ W.mo.asleep)(hp:∀c∈p,bM c)(h:Xv cf p i W.aG x)(hr:x.ready W=true):
 ClM cf p i e u d W x (x.step W).1 (x.step W).2:=by
 obtain⟨n0,k0,hs,-,-⟩:=hg.wO;have a8:cf.gV:=hg.cfg ▸ hs.py;have JL:x.nth<p.length:=by
  unfold Cl.ready Cl.over at hr;rw[h.prog]at hr;simp only[aF5,aU7,decide_eq_false_iff_not]at hr;omega
 have hcall:∀y:Cl,y.prog=x.prog->y.nth=x.nth->bM y.call:=λy h1 h2=>by
  unfold Cl.call;rw[h1,h2,h.prog,aB7,aB3 JL];exact hp _ (List.getElem_mem JL)
 unfold Cl.step;rw[if_pos hr];simp only;have Cv:aw (-1):=by unfold aw;decide
 split
 ·rename_i e0
  have h0:(cN W.aG.cfg x.call.k x.call.s x.call.t x.call.v x.call.p)≠[]:=by rw[hg.cfg];exact uz a8 _ _ _ _ _
  have hm:=VD (y:={x with ops:=cN W.aG.cfg x.call.k x.call.s x.call.t x.call.v x.call.p,at_:=0,wants:=-1}) hg h8 hd hi hn (hcall _ rfl rfl) h.task h.prog JL Cv (by show cN _ _ _ _ _ _=cN _ _ _ _ _ _;rw[hg.cfg];rfl) (aV3.2 h0) (λ_=>⟨λh=>absurd (show(3:Nat)<=0 from h) dC,λh=>absurd (show(4:Nat)<=0 from h) dC⟩);have hdn:ry ({x with ops:=cN W.aG.cfg x.call.k x.call.s x.call.t x.call.v x.call.p,at_:=0,wants:=-1} : Cl)=ry x:=by
   unfold ry;rw[e0];simp
  exact⟨λd' hd'=>hm.gw d' (hdn▸hd'),hm.cl,hm.uF,hm.zG,hdn ▸ hm.dn⟩
 ·rename_i e0
  rcases h.ops with e1|⟨h1,h2,h3,h4⟩
  ·exact absurd e1 e0
  ·have hm:=VD (y:={x with wants:=-1}) hg h8 hd hi hn (hcall _ rfl rfl) h.task h.prog JL Cv h2 h3 h4
   exact⟨hm.gw,hm.cl,hm.uF,hm.zG,hm.dn⟩
section
def Oh{P:Prop}{w w1 w2:World}{c c2:bh}(h1:ae vA w w1 c c)(h:P/\ae vA w1 w2 c c2):P/\ae vA w w2 c c2:=⟨h.1,h1.trans h.2 fD⟩
def En.after(E:En)(p:Int):En:=(E.step p).getD E
section
variable{w w' : World}{c c' : bh}{ge gw bt ot nt ct:Nat}{K:Value}{vs:List Value}{E:En}
theorem ZF(p:Int)(h:I5 w c ge gw bt ot nt ct K vs E)(a8:yN E)(hp:aw p)(zv:∀i,E.next p=some i->(E.fW i).w.aG.cfg=E.w.aG.cfg) :
 Calls prog 89 #[pt ge,I6 p] w λe w'=>e=.returned (I6 (I4 (E.next p)))/\∃c',I5 w' c' ge gw bt ot nt ct K vs (E.after p)/\ae vA w w' c c':=by
 have ZG:nt=E.size:=by have h1:=h.ts.1;have h2:=h.len;omega
 have fG:=zD (yM (some ⟨bt,ot,none⟩) nt ct vs E.can p w h.ts (by have:=a8.size;omega) hp (a8.can h));have rk:sQ nt E.can p=E.next p:=by rw[ZG];rfl
 rw[rk]at fG;have k1:=h.blk.z 1 (.slice (some ⟨bt,ot,none⟩) nt ct);have H0:=zD h;have kh:=zD a8;have HNt:=zD ZG;have Fp:=zD zv;have HEx:=zD (show E.after p=((E.next p).map E.fW).getD E from rfl);obtain⟨Z,hZ⟩:=zE (E.after p);have HZ:=zD (hZ.trans HEx.out);rw[<-hZ];have HFn:=zD (λi (hi:E.next p=some i)=>(show E.can i=true/\i<E.size from by
  unfold En.next at hi;have h1:=List.find?_some hi;have h2:=List.mem_of_find?_eq_some hi;simp only[aF2,aR8]at h2;obtain⟨j,hj,rfl⟩:=h2;exact⟨h1,aS9 _ oM⟩))
 clear h a8 hp zv ZG rk hZ HEx;cases hn:E.next p with
 |none=>
  rw[hn]at fG HZ;have e9:=HZ.out;simp only[Option.map_none,Option.getD_none]at e9;subst e9;unfold I4 at fG |-;simp only at fG |-;clear HZ HFn Fp;go_enter func89,ntmps89;go_wp2_with(go_at_call 161;refine fG.out.mono ?_;rintro e w1 ⟨rfl,hb1⟩);go_ret;exact⟨rfl,c,H0.out.call hb1,ae.aa vA c H0.out.fr hb1⟩
 |some i=>
  rw[hn]at fG HZ;have e9:=HZ.out;simp only[aI6,aF6]at e9;subst e9;unfold I4 at fG |-;simp only at fG |-;obtain⟨Eo,hlt⟩:=HFn.out i hn;have hin:i<nt:=by have:=HNt.out;omega
  have HCg:=zD (Fp.out i hn);clear HZ HFn Fp hn;obtain⟨b',tL,v,e1,hv,fH,hcl⟩:=ag.at_ H0.out.ts hin;injection e1 with e1
  injection e1 with e1 e2 e3
  subst e1;subst e2;have t0:w.cell? ⟨bt,ot+i,none⟩=some v:=by have:=hcl 0 v rfl;simpa using this
  have HT0:=zD t0;have Qh:=zD fH;have HV:=zD hv;have:=kh.out.used;have:i<32:=by have:=kh.out.size;omega
  clear hcl t0 fH e3;rcases H0.out.tk i v hv with⟨x,g,q1,rfl,q3⟩|⟨x,g,sp,q0,q1,rfl,q3⟩
  ·obtain⟨A,n,cc,ov,q3⟩:=q3
   have hr:x.ready E.w=true:=by unfold En.can at Eo;rw[q1]at Eo;simp at Eo;exact Eo.2
   have nI:=zD (λW1 (hb:Bl w W1)=>I7 (q3.call hb) (H0.out.gw.call hb) (λk hk=>H0.out.fr k (aB4 hb.size hk)) kh.out.gw (kh.out.cl x (aC1 q1)) hr);have HQ:=zD q1;have HE:=zD (show E.fW i = {E with w:=(x.step E.w).1,cls:=E.cls.set i (x.step E.w).2,used:=E.used+1} from by unfold En.fW;rw[q1]);clear q1 q3 hv hr Eo;go_enter func89,ntmps89;go_upto_region 5 with(go_at_call 161;refine fG.out.mono ?_;rintro e w1 ⟨rfl,hb1⟩)
   have B1:=zD hb1;have H1:=zD (H0.out.call hb1);have:=(hb1.cell (p:=⟨bt,ot+i,none⟩) Qh.out).trans HT0.out;have:=H1.out.blk.z 1 (.slice (some ⟨bt,ot,none⟩) nt ct);clear hb1;go_wp2_with(go_at_call 336;refine(nI.out _ B1.out).mono ?_;rintro e w2 ⟨rfl,c2,hg2,hx2,oD⟩;have G2:=zD hg2;have X2:=zD hx2;have T2:=zD (show ae (sG i) w1 w2 c c2 from oD);have BE:=zD (oD.blk H1.out.blk H1.out.ce (pK oM oM));have:=BE.out.z 4 (I6 (E.used:Int));have:=BE.out.frozen 4;clear hg2 hx2 oD);go_ret;refine⟨rfl,c2,Oh (ae.aa vA c H0.out.fr B1.out) ?_⟩;have hil:=(d9.1 HQ.out).1;refine H1.out.Og T2.out (by rw[HE.out];exact G2.out) (by rw[HE.out];simp) (by rw[HE.out]) (λj hj=>by rw[HE.out];simp[List.getElem?_set_ne (Ne.symm hj)]) (λj hj hl=>by rw[HE.out]) HCg.out (λv hv=>?_) (by rw[HE.out]);rw[HV.out]at hv;injection hv with hv
   subst hv;exact .inl ⟨_,g,by rw[HE.out];simp[List.getElem?_set_self hil],rfl,X2.out⟩
  ·have nI:=zD (λW1 (hb:Bl w W1)=>ZE x (q3.call hb) (H0.out.gw.call hb) (λk hk=>H0.out.fr k (aB4 hb.size hk)) kh.out.gw (kh.out.wk x (aC1 q1)))
   have HQ:=zD q1;have HQ0:=zD q0;have HE:=zD (show E.fW i = {E with w:=(x.step E.w).1,pT:=E.pT.set (i-E.cls.length) (x.step E.w).2,used:=E.used+1} from by unfold En.fW;rw[aE1 q0,q1]);clear q1 q3 hv Eo q0;go_enter func89,ntmps89;go_upto_region 5 with(go_at_call 161;refine fG.out.mono ?_;rintro e w1 ⟨rfl,hb1⟩)
   have B1:=zD hb1;have H1:=zD (H0.out.call hb1);have:=(hb1.cell (p:=⟨bt,ot+i,none⟩) Qh.out).trans HT0.out;have:=H1.out.blk.z 1 (.slice (some ⟨bt,ot,none⟩) nt ct);clear hb1;go_wp2_with(go_at_call 363;refine(nI.out _ B1.out).mono ?_;rintro e w2 ⟨rfl,c2,sp2,hg2,hx2,oD⟩;have G2:=zD hg2;have X2:=zD hx2;have T2:=zD (show ae (sG i) w1 w2 c c2 from oD);have BE:=zD (oD.blk H1.out.blk H1.out.ce (pK oM oM));have:=BE.out.z 4 (I6 (E.used:Int));have:=BE.out.frozen 4;clear hg2 hx2 oD);go_ret;refine⟨rfl,c2,Oh (ae.aa vA c H0.out.fr B1.out) ?_⟩;have hil:=(d9.1 HQ.out).1;have hq0:=HQ0.out;refine H1.out.Og T2.out (by rw[HE.out];exact G2.out) (by rw[HE.out]) (by rw[HE.out];simp) (λj hj=>by rw[HE.out]) (λj hj hl=>by rw[HE.out];rw[List.getElem?_set_ne oM]) HCg.out (λv hv=>?_) (by rw[HE.out]);rw[HV.out]at hv;injection hv with hv
   subst hv;have hcg:=HCg.out;refine .inr ⟨(x.step E.w).2,g,sp2,by rw[HE.out];exact hq0,by rw[HE.out];simp[List.getElem?_set_self hil],rfl,?_⟩;rw[hcg];exact X2.out
end
end
section
def En.walk:En->List Int->Option En
 |e,[]=>some e
 |e,p::l=>match e.step p with|none=>none|some e'=>e'.walk l
theorem QR(e:En)(l:List Int)(p:Int):e.walk (l++[p])=(e.walk l).bind λe'=>e'.step p:=by
 induction l generalizing e with
 |nil=>simp only[aD4,En.walk,Option.bind_some];cases e.step p<;>rfl
 |cons q l ih=>
  simp only[aE0,En.walk];cases e.step q with
  |none=>rfl
  |some e'=>exact ih e'
theorem I8{e e' : En}{l:List Int}(h:e.walk l=some e')(m:List Int):e.run (l++m)=e'.run m:=by
 induction l generalizing e with
 |nil=>simp only[En.walk,Option.some.injEq]at h;subst h;rfl
 |cons q l ih=>
  simp only[En.walk]at h;simp only[aE0,En.run];cases hq:e.step q with
  |none=>rw[hq]at h;cases h
  |some e1=>rw[hq]at h;exact ih h
def Oi(E:En)(ps:List Int):Prop:=∀k Ek,E.walk (ps.take k)=some Ek->yN Ek/\∀p i,Ek.next p=some i->(Ek.fW i).w.aG.cfg=Ek.w.aG.cfg
def aj4{w:World}{A:Option Addr}{n c:Nat}{l:List Int}(h:dt w A n c l)(hk:k<n): ∃b off x,A=some ⟨b,off,none⟩/\l[k]? = some x/\b<w.heap.size/\w.cell? ⟨b,off+k,none⟩=some (I6 x):=by
 obtain⟨b,off,x,h1,h2,h3,h4⟩:=ag.at_ h hk;exact⟨b,off,x,h1,h2,h3,sH (h4 0 _ rfl)⟩
section
variable{w w' : World}{c c' : bh}{ge gw bt ot nt ct:Nat}{K:Value}{vs:List Value}{E:En}
theorem aj5(A:Option Addr)(n cap:Nat)(ps:List Int)(h:I5 w c ge gw bt ot nt ct K vs E)(hs:dt w A n cap ps)(hA:∀a,A=some a->0<n->c a.block=none)(hp:∀x∈ps,aw x)(hn:n<=1000000)(a8:Oi E ps) :
 Calls prog 44 #[pt ge,.slice A n cap] w λe w'=>(∃m:Int,e=.returned (I6 m))/\∃c',I5 w' c' ge gw bt ot nt ct K vs (E.run ps)/\ae vA w w' c c':=by
 have H0:=zD h;have HS:=zD hs;have HA:=zD hA;have HP:=zD hp;have kh:=zD a8;have HL:=zD hs.1;have hm:cap<=9223372036854775807:=by have:=hs.2.2.1;unfold maxLen at this;omega
 have:n<=cap:=hs.2.1;clear h hs hA hp a8;go_enter func44,ntmps44;go_wp2;go_loopw[5,10] (λu i wr=>∃(k:Nat)(Ek:En)(cr:bh),k<=n/\i = I6 k/\u = I6 k/\E.walk (ps.take k)=some Ek/\I5 wr cr ge gw bt ot nt ct K vs Ek/\ae vA w wr c cr) (λ_ i _=>n-(intOf i).toNat)
 case atStart=>exact⟨0,E,c,aB6 _,rfl,rfl,rfl,H0.out,ae.refl _ _ _ H0.out.fr⟩
 case round=>
  obtain⟨k,Ek,cr,hk,rfl,rfl,hw,hb,ht⟩:=hrel;have HW:=zD hw;have HB:=zD hb;have HT:=zD ht;clear hw hb ht
  by_cases hlt:k<n
  ·have:(k:Int)<(n:Int):=oM
   obtain⟨b,off,x,rfl,hx,fH,t0⟩:=aj4 (aV HS.out HT.out.upd (λa ha=>λ⟨t,e,_⟩=>by rw[HA.out a ha oM]at e;cases e)) hlt;have:=zD hx;have a8:=kh.out k Ek HW.out;have nI:=zD (ZF x HB.out a8.1 (HP.out x (aC1 hx)) (λi hi=>a8.2 x i hi));have fG:=zD (show E.walk (ps.take (k+1))=Ek.step x from by rw[aE3,hx,aT2,QR,HW.out];rfl);have HSe:=zD (show Ek.after x=((Ek.next x).map Ek.fW).getD Ek from rfl);have R7:=zD (show Ek.step x=(Ek.next x).map Ek.fW from rfl);have NI:=zD (show E.run ps=Ek.run (ps.drop k)from by have h9:=I8 HW.out (ps.drop k);rwa [aF0]at h9)
   have HDr:=zD (show ps.drop k=x::ps.drop (k+1)from by
    obtain⟨h1,h2⟩:=(d9.1 hx);rw[aH2 h1,h2])
   clear hx fH a8;cases rk:Ek.next x with
   |none=>
    rw[rk]at nI HSe R7;unfold I4 at nI;have hae:Ek.after x=Ek:=HSe.out;rw[hae]at nI;simp only at nI;go_wp2_with(go_at_call 89;refine nI.out.mono ?_;rintro e w2 ⟨rfl,c2,hb2,oD⟩;have B2:=zD hb2;have T2:=zD (HT.out.trans oD fD);clear hb2 oD);go_ret;refine⟨⟨_,rfl⟩,c2,?_,T2.out⟩;have h9:E.run ps=Ek:=by
     rw[NI.out,HDr.out];unfold En.run;rw[R7.out]
     rfl
    rw[h9];exact B2.out
   |some i=>
    rw[rk]at nI HSe R7;unfold I4 at nI;simp only at nI;have:decide ((i:Int)<0)=false:=sI
    go_wp2_with(go_at_call 89;refine nI.out.mono ?_;rintro e w2 ⟨rfl,c2,hb2,oD⟩;have B2:=zD hb2;have T2:=zD (HT.out.trans oD fD);clear hb2 oD);go_roundw
    case rel=>exact⟨k+1,Ek.after x,c2,oM,by go_num,by go_num,by rw[fG.out,R7.out,HSe.out];rfl,B2.out,T2.out⟩
    case measure=>simp[intOf];omega
  ·have:k=n:=oM
   go_wp2;go_ret;refine⟨⟨_,rfl⟩,cr,?_,HT.out⟩;have h9:E.run ps=Ek:=by
    have h8:=I8 HW.out [];rw[aW3,aB5 (oH HL.out)]at h8;exact h8
   rw[h9];exact HB.out
end
end
section
def ZH(l:List Cl):Nat:=(l.map ry).sum
theorem Oj:∀{l:List Cl} {i:Nat} {x y:Cl},l[i]? = some x->ZH (l.set i y)+ry x=ZH l+ry y
 |[],i,x,y,h=>by simp at h
 |z::l,0,x,y,h=>by simp at h;subst h;unfold ZH;simp;omega
 |z::l,i+1,x,y,h=>by
  have:=Oj (l:=l) (i:=i) (y:=y) (by simpa using h);unfold ZH at *;simp only[aU1,aH1,aS2];omega
theorem LY{b:Nat} : ∀{l:List Cl},(∀x∈l,ry x<=b)->ZH l<=b*l.length
 |[],_=>aB6 _
 |x::l,h=>by
  have:=LY (b:=b) (l:=l) λy hy=>h y (aH6 _ hy)
  have:=h x sI;unfold ZH at *;simp only[aH1,aS2,aC4,Nat.mul_add,aW6];omega
structure fZ(cf:aM)(ps:List (List ak))(n:Nat):Prop where
 fit:cf.fit
 py:cf.gV
 str:cf.str<=8
 len:ps.length<=5
 pT:n<=4
 row:∀p∈ps,p.length<=8/\∀c∈p,bM c
structure pU(cf:aM)(ps:List (List ak))(n:Nat)(E:En):Prop where
 gw:jD cf E.w (2*E.used) E.used (ZH E.cls)
 len:E.cls.length=ps.length
 VN:E.pT.length=n
 cl:∀i x,E.cls[i]? = some x->Xv cf (ps.getD i []) i E.w.aG x
 wk:∀j x,E.pT[j]? = some x->Od (ps.length+j) E.used E.w.aG x
 zG:∀t∈E.w.mo.asleep,∃j x,E.pT[j]? = some x/\t=((ps.length+j:Nat):Int)/\x.asleep=true
section
variable{cf:aM}{ps:List (List ak)}{n:Nat}{E:En}
theorem fZ.at_(h:fZ cf ps n)(i:Nat):(ps.getD i []).length<=8/\∀c∈ps.getD i [],bM c:=by
 rw[aB7];cases hp:ps[i]? with
 |none=>exact⟨aB6 _,λc hc=>by simp at hc⟩
 |some p=>exact h.row p (aC1 hp)
def pU.dn(h:pU cf ps n E)(hs:fZ cf ps n):ZH E.cls<=40:=by
 have:=LY (b:=8) (l:=E.cls) λx hx=>by
  obtain⟨i,hi⟩:=aD7 hx;exact aB4 (ai7 (h.cl i x hi)) (hs.at_ i).1
 have:=h.len;have:=hs.len;have:8*E.cls.length<=8*5:=Nat.mul_le_mul_left 8 oM;omega
def pU.VP(h:pU cf ps n E)(hi:E.cls[i]? = some x):i<ps.length:=by
 rw[<-h.len];exact(d9.1 hi).1
def pU.VQ(h:pU cf ps n E){j:Nat}{x:Wk}(hj:E.pT[j]? = some x):j<n:=by
 rw[<-h.VN];exact(d9.1 hj).1
def pU.line(h:pU cf ps n E)(t:Int):E.w.held (ez E.w) t=dh E.w.mo.lk t:=by
 obtain⟨n0,k0,hs,-,-⟩:=h.gw.wO;have a8:cf.gV:=h.gw.cfg ▸ hs.py;have:=a7 a8.1;have:=h.gw.loc;unfold Gw.held Gw.lock ez;rw[h.gw.cfg];rw[if_neg oM,if_pos oM]
def pU.awake(h:pU cf ps n E)(hs:fZ cf ps n){j:Nat}{x:Wk}(hj:E.pT[j]? = some x)(hr:x.ready E.w=true):((ps.length+j:Nat):Int) ∉ E.w.mo.asleep:=by
 intro hm;obtain⟨j',x',h1,h2,h3⟩:=h.zG _ hm;have hjj:j' = j:=oM
 subst hjj;rw[hj]at h1;injection h1 with h1
 subst h1;unfold Wk.ready at hr;rw[h.line,(h.wk _ _ hj).task,(h.gw.mo.off _ hm).1,h3]at hr
 split at hr<;>simp at hr
theorem pU.step(h:pU cf ps n E)(hs:fZ cf ps n)(hc:E.can i=true):pU cf ps n (E.fW i)/\(E.fW i).used=E.used+1:=by
 have:=h.dn hs;unfold En.can at hc;unfold En.fW;cases hx:E.cls[i]? with
 |some x=>
  rw[hx]at hc;simp only[aF5,aU7]at hc;simp only;have:=h.VP hx;have:=hs.len;have hn:(i:Int) ∉ E.w.mo.asleep:=λhm=>by
   obtain⟨j,y,-,h2,-⟩:=h.zG _ hm;omega
  have hm:=IZ h.gw hs.str oM ⟨oM,oM⟩ hn (hs.at_ i).2 (h.cl i x hx) hc.2;generalize x.step E.w=r at hm;have:=Oj (y:=r.2) hx;refine⟨⟨hm.gw _ (by simp only;omega),by simp;exact h.len,h.VN,λk y hy=>?_,λk y hy=>(h.wk k y hy).aG hm.uF (aC5 _),λt ht=>h.zG t (hm.zG ht)⟩,(by first|trivial|rfl)⟩;simp only[aG1]at hy
  split at hy
  ·rename_i e
   subst e
   split at hy
   ·injection hy with hy;subst hy;exact hm.cl
   ·cases hy
  ·exact(h.cl k y hy).aG hm.uF
 |none=>
  rw[hx]at hc;simp only at hc |-;cases hw:E.pT[i-E.cls.length]? with
  |none=>rw[hw]at hc;simp at hc
  |some x=>
   rw[hw]at hc;simp only[aF5,aU7]at hc;simp only;have hj:=h.VQ hw;have:=hs.len;have:=hs.pT;have hm:=I1 h.gw (by have:=hs.str;omega) oM (i:=ps.length+(i-E.cls.length)) ⟨oM,oM⟩ (h.awake hs hw hc.2) (h.wk _ x hw) hc.2;generalize x.step E.w=r at hm;refine⟨⟨hm.gw,h.len,by simp;exact h.VN,λk y hy=>(h.cl k y hy).aG hm.uF,λk y hy=>?_,λt ht=>?_⟩,(by first|trivial|rfl)⟩
   ·simp only[aG1]at hy
    split at hy
    ·rename_i e
     subst e
     split at hy
     ·injection hy with hy;subst hy;exact hm.wk
     ·cases hy
    ·exact(h.wk k y hy).aG hm.uF (aC5 _)
   ·have hlt:i-E.cls.length<E.pT.length:=by rw[h.VN];exact hj
    rcases hm.zG t ht with ht|⟨ht,ha⟩
    ·obtain⟨j,y,h1,h2,h3⟩:=h.zG t ht
     by_cases e:j=i-E.cls.length
     ·exfalso
      subst e;exact h.awake hs hw hc.2 (h2 ▸ ht)
     ·exact⟨j,y,by simp only[aG1];rw[if_neg (Ne.symm e)];exact h1,h2,h3⟩
    ·exact⟨i-E.cls.length,r.2,by simp[hlt],ht,ha⟩
def pU.ok(h:pU cf ps n E)(hs:fZ cf ps n)(hu:E.used<=9000):yN E:=by
 obtain⟨n0,k0,hk,k1,k2⟩:=h.gw.wO;have:=a7 hs.py.1;have:=h.dn hs;have:=hs.len;have:=hs.pT;have:=h.len;have:=h.VN;have hI:∀t,rr t->aw t:=λt ht=>pJ (by have:=ht.1;omega) (by have:=ht.2;omega)
 have hw:=h.gw.wq;refine⟨⟨by rw[h.gw.loc];omega,by rw[h.gw.cfg];omega,λk l hl=>?_,⟨λx hx=>hI _ (h.gw.mo.Fq x hx),aB4 h.gw.mo.len dC⟩,⟨aB4 h.gw.mo.lk.len dC,λx hx=>hI _ (h.gw.mo.lk.Fq x hx)⟩,by have:=h.gw.evs;omega,by have:=hw.fb;omega,by have:=hw.fb;omega,by have:=hw.dl;omega,by have:=hw.zl;omega,hw.fd,cy hk,⟨n0,k0,hk,oM,oM⟩⟩,λx hx=>?_,λx hx=>?_,by unfold En.size;omega,oM⟩
 ·have hl:=h.gw.LR hl
  exact⟨aB4 hl.len dC,λx hx=>hI _ (hl.Fq x hx)⟩
 ·obtain⟨i,hi⟩:=aD7 hx
  have:=h.VP hi;exact(h.cl i x hi).ok h.gw.cfg hk hs.str oM (hs.at_ i).2 (by have:=(hs.at_ i).1;omega)
 ·obtain⟨j,hj⟩:=aD7 hx
  have:=h.VQ hj;exact(h.wk j x hj).ok h.gw.cfg oM oM
def sR{p:Int}(h:E.next p=some i):E.can i=true:=by
 unfold En.next at h;exact List.find?_some h
theorem pU.walk(hs:fZ cf ps n):∀(l:List Int)(E:En),pU cf ps n E->∀E',E.walk l=some E'->pU cf ps n E'/\E'.used=E.used+l.length
 |[],E,h,E',he=>by injection he with he;subst he;exact⟨h,rfl⟩
 |p::l,E,h,E',he=>by
  unfold En.walk En.step at he;cases hn:E.next p with
  |none=>rw[hn]at he;cases he
  |some i=>
   rw[hn]at he;simp only[aI6]at he;obtain⟨h1,h2⟩:=h.step hs (sR hn);obtain⟨h3,h4⟩:=pU.walk hs l _ h1 _ he;exact⟨h3,by rw[h4,h2,aC4];omega⟩
theorem pU.run(hs:fZ cf ps n):∀(l:List Int)(E:En),pU cf ps n E->pU cf ps n (E.run l)/\(E.run l).used<=E.used+l.length
 |[],E,h=>⟨h,aC2 _⟩
 |p::l,E,h=>by
  unfold En.run En.step;cases hn:E.next p with
  |none=>exact⟨h,Nat.le_add_right _ _⟩
  |some i=>
   simp only[aI6];obtain⟨h1,h2⟩:=h.step hs (sR hn);obtain⟨h3,h4⟩:=pU.run hs l _ h1;exact⟨h3,by rw[aC4];omega⟩
theorem pU.new(hs:fZ cf ps n):pU cf ps n (En.new cf ps n):=by
 have hr:=a7 hs.py.1;have h0:(0:Int)<=cf.str+1:=oM
 have hcl:∀(i:Nat)(x:Cl),(En.new cf ps n).cls[i]? = some x->x=Cl.new i (ps.getD i []):=λi x hx=>by
  unfold En.new at hx;simp only[List.getElem?_mapIdx]at hx;cases hp:ps[i]? with
  |none=>rw[hp]at hx;cases hx
  |some p=>
   rw[hp]at hx;injection hx with hx
   rw[<-hx,aB7,hp]
   rfl
 have hz:ZH (En.new cf ps n).cls=0:=by
  have:=LY (b:=0) (l:=(En.new cf ps n).cls) λx hx=>by
   obtain⟨i,hi⟩:=aD7 hx;rw[hcl i x hi];unfold ry Cl.new;simp
  omega
 have hnone:∀k,¬k∈([]:List Key):=λk hk=>by cases hk
 refine⟨⟨rfl,by unfold En.new Gw.new;simp,λl hl=>?_,⟨ad4,aV7,λt ht=>(by cases ht),λt ht=>(by cases ht)⟩,aB6 _,⟨aB6 _,aB6 _,aB6 _,λk hk=>(by cases hk),aV7,λk hk=>(by cases hk),λk hk=>(by cases hk)⟩,⟨0,0,qj.new hs.fit hs.py,aB6 _,aB6 _⟩⟩,by unfold En.new;simp,by unfold En.new;simp,λi x hx=>?_,λj x hx=>?_,λt ht=>(by cases ht)⟩
 ·have:=List.mem_replicate.1 hl
  rw[this.2];exact ad4
 ·rw[hcl i x hx]
  exact⟨rfl,rfl,aB6 _,(show aw (-1) by unfold aw;decide),.inl rfl⟩
 ·unfold En.new at hx
  simp only[List.getElem?_map]at hx;cases hj:(List.range n)[j]? with
  |none=>rw[hj]at hx;cases hx
  |some j'=>
   rw[hj]at hx;injection hx with hx
   have:j' = j:=by
    obtain⟨h1,h2⟩:=d9.1 hj
    simpa using h2.symm
   subst this;rw[<-hx];exact⟨rfl,(show aw (-1) by unfold aw;decide),(show nO.good by unfold Key.good nO;decide),⟨(Iu 0).fit,(Iu 0).good,aB6 _,aB6 _⟩,aB6 _,(show(0:Nat)<=14 by decide),λh=>absurd (show(2:Nat)<=0 from h) dC⟩
def VR(hs:fZ cf ps n)(l:List Int)(hl:l.length<=9000):Oi (En.new cf ps n) l/\yN ((En.new cf ps n).run l):=by
 have h0:=pU.new hs;refine⟨λk Ek hk=>?_,?_⟩
 ·obtain⟨h1,h2⟩:=pU.walk hs _ _ h0 _ hk
  have:(l.take k).length<=l.length:=(by rw[aC3];omega);refine⟨h1.ok hs (by rw[h2];show 0+_<=9000;omega),λp i hn=>?_⟩;rw[(h1.step hs (sR hn)).1.gw.cfg,h1.gw.cfg]
 ·obtain⟨h1,h2⟩:=pU.run hs l _ h0
  exact h1.ok hs (aB4 h2 (by show 0+_<=9000;omega))
end
end
section
def opn(ov:Nat->Bool)(k:Nat):Nat:=((List.range k).filter λi=>!ov i).length
def aj6(ov:Nat->Bool)(k:Nat):opn ov k<=k:=by
 unfold opn;have:=aE7 (λi=>!ov i) (List.range k)
 simpa using this
def Jd(ov:Nat->Bool)(k:Nat):opn ov (k+1)=opn ov k+(if ov k then 0 else 1):=by
 unfold opn;rw[List.range_succ,aT1,aB8];cases h:ov k<;>simp[h]
theorem Ma(A:Option Addr)(n c:Nat)(vs:List Value)(ov:Nat->Bool)(w:World)(hs:LU w A n c vs)(hn:n<=64)
 (hc:∀i v,vs[i]? = some v->∃g,v=.iface vX (pt g)/\∀W,Bl w W->Calls prog 334 #[pt g] W (Rt (.bool (ov i)) (Bl W))) :
 Calls prog 175 #[.slice A n c] w (Rt (I6 (opn ov n:Nat)) (Bl w)):=by
 have HS:=hs;have HC:=hc;have hm:c<=9223372036854775807:=by have:=hs.2.2.1;unfold maxLen at this;omega
 have hle:n<=c:=hs.2.1;clear hs hc;go_enter func175,ntmps175;go_wp2;go_loopw[3,8] (λu i wr=>∃k:Nat,k<=n/\i = I6 k/\u = I6 (opn ov k:Nat)/\Bl w wr) (λ_ i _=>n-(intOf i).toNat)
 case atStart=>exact⟨0,aB6 _,rfl,rfl,Below.refl _ _⟩
 case round=>
  obtain⟨k,hk,rfl,rfl,aT⟩:=hrel;have qg:=aT;have hop:=aj6 ov k;clear aT
  by_cases hlt:k<n
  ·have Fb:(k:Int)<(n:Int):=oM
   obtain⟨b,off,v,rfl,hv,hb,hcl⟩:=ag.at_ (af HS qg) hlt;have t0:wr.cell? ⟨b,off+k,none⟩=some v:=sH (hcl 0 v rfl)
   obtain⟨g,rfl,h9⟩:=HC k v hv;have HO:=h9 wr qg;have fG:=Jd ov k;clear hcl hv hb h9;generalize opn ov k=O at *;cases ho:ov k
   ·rw[ho]at HO fG
    go_wp2_with(go_at_call 334;refine HO.mono ?_;rintro e w4 ⟨rfl,hb4⟩);go_roundw
    case rel=>exact⟨k+1,oM,by go_num,by rw[fG];simp,zT qg hb4⟩
    case measure=>simp[intOf];omega
   ·rw[ho]at HO fG
    go_wp2_with(go_at_call 334;refine HO.mono ?_;rintro e w4 ⟨rfl,hb4⟩);go_roundw
    case rel=>exact⟨k+1,oM,by go_num,by rw[fG];simp,zT qg hb4⟩
    case measure=>simp[intOf];omega
  ·have DJ:k=n:=oM
   subst DJ;go_wp2;go_ret;exact⟨rfl,qg⟩
section
variable{w w' : World}{c c' : bh}{ge gw bt ot nt ct:Nat}{K:Value}{vs:List Value}{E:En}
theorem VZ(E:En):E.j6=opn (λi=>(E.cls[i]?.map Cl.over).getD true) E.cls.length:=by
 have key:∀k,k<=E.cls.length->((E.cls.take k).filter λc=>!c.over).length=opn (λi=>(E.cls[i]?.map Cl.over).getD true) k:=by
  intro k
  induction k with
  |zero=>intro _;rfl
  |succ k ih=>
   intro hk;have hx:E.cls[k]? = some E.cls[k]:=aB3 oM;rw[Jd,aE3,hx,aT2,aT1,aB8,ih oM]
   congr 1
   simp only[aI6,aF6];generalize E.cls[k]=y
   by_cases h:y.over=true
   ·simp[h]
   ·simp[h]
 have h9:=key E.cls.length lR;rw[aW7]at h9;exact h9
theorem ZI(h:I5 w c ge gw bt ot nt ct K vs E)(a8:yN E) :
 Calls prog 118 #[pt ge] w (Rt (.bool E.rest) (Bl w)):=by
 have ZG:nt=E.size:=oI h.ts.1 h.len
 have fG:=yM (some ⟨bt,ot,none⟩) nt ct vs E.can 0 w h.ts (oH a8.size) (by unfold aw;omega) (a8.can h);have rk:sQ nt E.can 0=E.next 0:=by rw[ZG];rfl
 rw[rk]at fG;have:=h.blk.z 1 (.slice (some ⟨bt,ot,none⟩) nt ct);have HR:E.rest=(E.next 0).isNone:=rfl;rw[HR];clear h a8 ZG rk HR;cases hn:E.next 0 with
 |none=>
  rw[hn]at fG;unfold I4 at fG;simp only at fG;go_enter func118,ntmps118;go_wp2_with(go_at_call 161;refine fG.mono ?_;rintro e w1 ⟨rfl,hb1⟩);go_ret;exact⟨rfl,hb1⟩
 |some i=>
  rw[hn]at fG;unfold I4 at fG;simp only at fG;have:decide ((i:Int)<0)=false:=sI
  go_enter func118,ntmps118;go_wp2_with(go_at_call 161;refine fG.mono ?_;rintro e w1 ⟨rfl,hb1⟩);go_ret;exact⟨rfl,hb1⟩
theorem ZJ(h:I5 w c ge gw bt ot nt ct K vs E)(a8:yN E) :
 Calls prog 115 #[pt ge] w (Rt (I6 (E.j6:Nat)) (Bl w)):=by
 have ZG:nt=E.size:=by have h1:=h.ts.1;have h2:=h.len;omega
 have mF:E.cls.length<=nt:=by rw[ZG];unfold En.size;omega
 have HO:=zh (λW (hb:Bl w W)=>Ma (some ⟨bt,ot,none⟩) E.cls.length ct (vs.take E.cls.length) (λi=>(E.cls[i]?.map Cl.over).getD true) W (La (af h.ts hb) mF) (oH a8.size) (λi v hv=>by
  have hi:i<E.cls.length:=by have:=(d9.1 hv).1;simp at this;omega
  rw[List.getElem?_take_of_lt hi]at hv;rcases h.tk i v hv with⟨x,g,q1,rfl,A,n,cc,ov,q3⟩|⟨x,g,sp,q0,-⟩
  ·refine⟨g,rfl,λW2 hb2=>?_⟩
   rw[q1];exact Ef (q3.call (zT hb hb2))
  ·omega))
 rw[<-VZ]at HO;have HB:=h.blk;have hct:nt<=ct:=h.ts.2.1;have hcm:ct<=9223372036854775807:=by have:=h.ts.2.2.1;unfold maxLen at this;omega
 clear h a8 ZG;generalize E.j6=O at *;generalize E.cls.length=nc at *;go_enter func115,ntmps115;go_upto_region 3 with fail
 refine zB λS0=>?_
 refine zk 6 [0,1,2,3,4] [_,_,_,.slice (some ⟨bt,ot,none⟩) nt ct,_] (.q zX<|.q zX<|.q zX<|.q (zS λ_ h=>(HB.call h).z 1 (.slice (some ⟨bt,ot,none⟩) nt ct))<|.e) S0 ?_;refine zk 2 [5,6,7,8] [_,_,I6 (nc:Int),.slice (some ⟨bt,ot,none⟩) nc ct] (.q zX<|.q zX<|.c rfl rfl (zl λ_ h=>by have c:=(HB.call h).z 3 (I6 (nc:Int));go_simp)<|.c rfl rfl (zl λ_ _=>by first|(go_simp;done)|(go_simp;intro h3;omega)) .nil) S0 ?_;refine zQ 9 ?_;go_wp2_with(go_at_call 175;refine zM (HO _ S0) λw2 hb2=>?_);refine .i (zT S0 hb2) ?_;have S2:=zT S0 hb2;refine zq 0 [10] [I6 (O:Int)] S2 ?_;refine zd ?_;have U:=S2;clear S0 S2 hb2;go_wp2;go_ret;exact⟨rfl,U⟩
end
end
section
abbrev outT:TypeId:=31
abbrev iX:Array Value:=#[.slice none 0 0,I6 0,I6 0,.slice none 0 0,.bool false]
def ar0(w:World)(E:En)(e:Ending)(w' : World):Prop:=∃A n c A2 n2 c2,e=.returned (.agg #[.slice A n c,I6 (E.used:Int),I6 (E.j6:Int),.slice A2 n2 c2,.bool E.rest])/\Own w' w.heap.size eL 34 Ev.cells (.slice A n c) E.w.evs/\Bl w w'
section
variable{w w' : World}{c c' : bh}{ge gw bt ot nt ct:Nat}{K:Value}{vs:List Value}{E:En}
def Mc{g:Nat}(h:bD w c g W)(hl:W.wq.fi.f.length+W.wq.fi.b.length<=100000):
 Calls prog 117 #[.pointer (some ⟨g,10,none⟩)] w λe w'=>(∃A n c,e=.returned (.slice A n c))/\Bl w w':=by
 obtain⟨cs,gs,gl,ls,lv,v,va,vf,vb,vd,vz,ve,h⟩:=h;exact Mb g 10 zz cs vf vb vd vz W.wq w h.wq hl
theorem Md(h:I5 w c ge gw bt ot nt ct K vs E)(a8:yN E) :
 Calls prog 45 #[pt ge] w (ar0 w E):=by
 have EX:=zW w (.cells iX outT);have BX:=ai.new w outT iX;have H0:=h.call EX;have HGe:¬ge=w.heap.size:=oH h.blk.lt
 have Zn:=(λW1 (hb:Bl w W1)=>Qu (h.gw.call hb) (oH a8.gw.evs));have Ue:=(λW1 (hb:Bl w W1)=>ZJ (h.call hb) a8);have HRe:=(λW1 (hb:Bl w W1)=>ZI (h.call hb) a8);have HQu:=(λW1 (hb:Bl w W1)=>iV (h.gw.call hb));have HWa:=(λW1 (hb:Bl w W1)=>Mc (h.gw.call hb) (oI a8.gw.wqf a8.gw.wqb));clear h a8;obtain⟨us,hus⟩:∃us:Int,us=(E.used:Int):=⟨_,rfl⟩
 obtain⟨op,hop⟩:∃op:Int,op=(E.j6:Int):=⟨_,rfl⟩
 have Uf:=(λ(w' : World)(A:Option Addr)(n c2:Nat)(A2:Option Addr)(n2 c3:Nat)(h1:Own w' w.heap.size eL 34 Ev.cells (.slice A n c2) E.w.evs)(h2:Bl w w')=>(show ar0 w E (.returned (.agg #[.slice A n c2,I6 us,I6 op,.slice A2 n2 c3,.bool E.rest])) w' from by rw[hus,hop];exact⟨A,n,c2,A2,n2,c3,rfl,h1,h2⟩));rw[<-hop]at Ue;have PD:ai (w.alloc (.cells iX outT)) ge QJ (uI gw (.slice (some ⟨bt,ot,none⟩) nt ct) K (E.cls.length:Int) us):=by rw[hus];exact H0.blk
 generalize E.rest=rs at *;generalize E.w.evs=evs at *;clear H0 hus hop;go_enter func45,ntmps45;go_upto_region 3 with fail
 obtain⟨W0,hW0⟩:=zE (w.alloc (.cells iX outT));obtain⟨gx,hgx⟩:=zE w.heap.size;have OS:W0.heap.size=gx+1:=by rw[hW0,hgx];simp
 rw[<-hW0]at BX EX PD |-;rw[<-hgx]at BX HGe |-;have mL:=zD hgx;clear hW0 hgx;refine zr (λ_=>false) (λwS=>ah (λk=>k=gx) W0 wS) ?_;have S0:=(ah.refl (λk=>k=gx) W0).drew;refine zk 16 [0,1,2,3,5] [_,_,_,pt gw,_] (.q zX<|.q zX<|.q zX<|.q (zS λ_ h=>(PD.upd h HGe).z 0 (pt gw))<|.e) S0 ?_;refine zk 11 [6,7,8,9,11] [_,_,I6 us,_,_] (.q zX<|.q zX<|.q (zS λ_ h=>(PD.upd h HGe).z 4 (I6 us))<|.q zX<|.e) S0 ?_;refine zk 7 [12,13,14,17] [_,_,pt gw,_] (.q zX<|.q zX<|.q (zS λ_ h=>(PD.upd h HGe).z 0 (pt gw))<|.e) S0 ?_;refine zQ 4 ?_;go_wp2_with(go_at_call 114;refine(Zn _ (EX.trans ((Below.refl W0.heap.size W0).drew.mono EX.size))).mono ?_;rintro e w3 ⟨A3,n3,c3,rfl,kJ,hb3⟩;have B3:Bl W0 w3:=(Below.refl W0.heap.size W0).drew.trans hb3;have O3:Own w3 W0.heap.size eL 34 Ev.cells (.slice A3 n3 c3) evs:=kJ;clear kJ);refine .i (S0.trans (ah.aa hb3) iL) ?_;have S3:=S0.trans (ah.aa hb3) iL;refine zQ 10 ?_;go_wp2_with(go_at_call 115;refine zM (Ue _ (zT EX B3)) λw4 hb4=>?_;have B4:=zT B3 hb4;have O4:=O3.call hb4);refine .i (S3.trans (ah.aa hb4) iL) ?_;have S4:=S3.trans (ah.aa hb4) iL;refine zQ 15 ?_;go_wp2_with(go_at_call 116;refine zN (HQu _ (zT EX B4)) ?_);refine .i S4 ?_;refine zQ 16 ?_;go_wp2_with(go_at_call 117;refine(HWa _ (zT EX B4)).mono ?_;rintro e w6 ⟨⟨A6,n6,c6,rfl⟩,dJ⟩;have B6:=zT B4 dJ;have O6:=O4.call dJ);refine .i (S4.trans (ah.aa dJ) iL) ?_;have S6:=S4.trans (ah.aa dJ) iL;refine zQ 18 ?_;go_wp2_with(go_at_call 118;refine zM (HRe _ (zT EX B6)) λw7 lV=>?_;have B7:=zT B6 lV;have O7:=O6.call lV);refine .i (S6.trans (ah.aa lV) iL) ?_;have S7:=S6.trans (ah.aa lV) iL;refine zq 1 [19] [.agg (#[.slice A3 n3 c3,I6 us,I6 op,.slice A6 n6 c6,.bool rs])] S7 ?_;refine zQ 20 ?_;go_wp2_with(refine zJ (BX.call B7) ?_;intro w9 b8 dM);refine .i ((S7).grown dM (λk e=>by injection e with e;exact .inl e.symm)) ?_;have:=(S7).grown dM (λk e=>by injection e with e;exact .inl e.symm);refine zd ?_;go_wp2;refine zU b8 underlying31 ?_;have:=OS;have:=mL.out;have B9:Bl w w9:=(zT EX B7).trans (ah.below (ah.bE dM) (λk hk=>oH hk) (oI EX.size B7.size));refine Uf _ _ _ _ _ _ _ ?_ B9;exact(O7.upd (ah.bE dM) (λk hk e=>oH (O7.se k hk).1)).mono (oH EX.size)
end
end
section
abbrev Je(w:World)(base:Nat)(e:TypeId)(v:Value)(vs:List Value):Prop:=aK w base e 1 VF v vs
structure kB(w:World)(c:bh)(ge gw base:Nat)(T K:Value)(vs ks:List Value)(m:Nat)(E:En):Prop where
 blk:ai w ge QJ (uI gw T K (E.cls.length:Int) 0)
 no:c ge=none
 gb:base<=ge
 ts:Je w base R8 T vs
 tn:∀j,T.ownBlock=some j->c j=none/\j≠ge
 ks:Je w base uH K ks
 kn:∀j,K.ownBlock=some j->c j=none/\j≠ge
 tk':∀j,T.ownBlock=some j->K.ownBlock≠some j
 len:vs.length=m
 tk:∀i v,vs[i]? = some v->eE w c gw E i v
 gw:bD w c gw E.w
 fr:∀k,w.heap.size<=k->c k=none
section
variable{S:Nat->Prop}{T' : Tag->Prop}{w w' w2:World}{c c' : bh}{ge gw base:Nat}{T K:Value}{vs ks:List Value}{m:Nat}{E:En}
def eE.off(h:eE w c gw E i v)(hu:ah S w w')(hS:∀k,S k->c k=none):eE w' c gw E i v:=by
 rcases h with⟨x,g,e1,e2,A,n,cc,ov,e3⟩|⟨x,g,sp,e0,e1,e2,e3⟩
 ·exact .inl ⟨x,g,e1,e2,A,n,cc,ov,e3.off hu hS⟩
 ·exact .inr ⟨x,g,sp,e0,e1,e2,e3.off hu hS⟩
def Om{e:TypeId}(h:Je w base e T vs)(hs:ae T' w w' c c')(hn:∀j,T.ownBlock=some j->c j=none/\j≠ge):Je w' base e T vs/\∀j,T.ownBlock=some j->c' j=none/\j≠ge:=
 ⟨h.upd hs.upd (λk hk ⟨t,e,_⟩=>by rw[(hn k hk).1]at e;cases e),λj hj=>⟨(hs.old j (h.lt j hj).2 (λt e=>by rw[(hn j hj).1]at e;cases e)).trans (hn j hj).1,(hn j hj).2⟩⟩
def kB.step(h:kB w c ge gw base T K vs ks m E)(hs:ae T' w w' c c')(hT:∀i,i<m->¬T' (.at_ (20+i)))(hF:¬T' .nS)(hG:∀t,dL t->¬T' t):kB w' c' ge gw base T K vs ks m E:=by
 obtain⟨t1,t2⟩:=Om h.ts hs h.tn;obtain⟨k1,k2⟩:=Om h.ks hs h.kn;have hn:¬∃t,c ge=some t/\T' t:=λ⟨t,e,_⟩=>by rw[h.no]at e;cases e
 exact⟨h.blk.upd hs.upd hn,(hs.old ge h.blk.lt (λt e=>by rw[h.no]at e;cases e)).trans h.no,h.gb,t1,t2,k1,k2,h.tk',h.len,λi v hv=>(h.tk i v hv).step (hT i (oI (d9.1 hv).1 h.len)) hF hs rfl rfl (λ_=>rfl) rfl,h.gw.step hs hG hF,hs.fresh⟩
def kB.call(h:kB w c ge gw base T K vs ks m E)(hb:Bl w w'):kB w' c ge gw base T K vs ks m E:=
 ⟨h.blk.call hb,h.no,h.gb,h.ts.call hb,h.tn,h.ks.call hb,h.kn,h.tk',h.len,λi v hv=>(h.tk i v hv).call hb,h.gw.call hb,λk hk=>h.fr k (aB4 hb.size hk)⟩
def kB.ak0{e:Ending}(h:kB w c ge gw base T K vs ks m E)(hc:Ol w gw m p e w')(hx:E.cls[m]? = some (Cl.new (m:Int) p)): ∃c' g,e=.returned (pt g)/\kB w' c' ge gw base T K vs ks m E/\eE w' c' gw E m (.iface vX (pt g))/\ae vA w w' c c':=by
 obtain⟨g,A,n,cc,rfl,hg,hb,hB,hO,hne⟩:=hc;have hs:ae (λt=>t=.at_ (20+m)) w w' c (ft (λk=>k=g\/∃a,A=some a/\a.block=k) (.at_ (20+m)) c):=
  ae.grow (T:=λt=>t=.at_ (20+m)) (S:=λ_=>False) (ah.aa hb) (λk h=>h.elim) rfl _ (λk hk=>by
   rcases hk with rfl|⟨a,rfl,rfl⟩
   ·exact .inr hg
   ·exact .inr (hO.se a.block rfl).1) (λk hk=>by
   rcases hk with rfl|⟨a,rfl,rfl⟩
   ·exact hB.lt
   ·exact(hO.se a.block rfl).2) h.fr
 refine⟨_,g,rfl,h.step hs (λi hi e=>by injection e;omega) (λe=>by cases e) (λt ht e=>by subst e;exact cZ oM ht),.inl ⟨_,g,hx,rfl,A,n,cc,.slice none 0 0,?_⟩,hs.mono λt e=>.inr ⟨20+m,oM,e⟩⟩;obtain⟨A2,n2,c2,e2,hs2⟩:∃A2 n2 c2,(Value.slice A n cc)=.slice A2 n2 c2/\ag w' 11 ak.cells A2 n2 c2 p:=by
  obtain⟨A2,c2,e2,hs2⟩:=hO.slice (λ_=>rfl);exact⟨A2,_,c2,e2,hs2⟩
 injection e2 with a1 a2 a3
 subst a1;subst a2;subst a3;exact⟨hB,hs2,λa ha=>(hO.se a.block (by rw[ha];rfl)).2,.inl ⟨rfl,rfl⟩,bw (.inl rfl),λa ha=>bw (.inr ⟨a,ha,rfl⟩),λk hk=>by simp[Value.ownBlock]at hk,hne,λk hk=>by simp[Value.ownBlock]at hk⟩
def kB.worker{g:Nat}(h:kB w c ge gw base T K vs ks m E)(hg:w.heap.size<=g)(hb:Bl w w')(hB:ai w' g Xu (sK gw none (Wk.new (m:Int))))(h0:E.cls.length<=m)(hx:E.pT[m-E.cls.length]? = some (Wk.new (m:Int))):∃c',kB w' c' ge gw base T K vs ks m E/\eE w' c' gw E m (.iface uH (pt g))/\ae vA w w' c c':=by
 have hs:ae (λt=>t=.at_ (20+m)) w w' c (ft (λk=>k=g) (.at_ (20+m)) c):=
  ae.grow (T:=λt=>t=.at_ (20+m)) (S:=λ_=>False) (ah.aa hb) (λk h=>h.elim) rfl _ (λk hk=>.inr (hk▸hg)) (λk hk=>hk▸hB.lt) h.fr
 exact⟨_,h.step hs (λi hi e=>by injection e;omega) (λe=>by cases e) (λt ht e=>by subst e;exact cZ oM ht),.inr ⟨_,g,none,h0,hx,rfl,hB,bw rfl,.inl ⟨rfl,rfl⟩⟩,hs.mono λt e=>.inr ⟨20+m,oM,e⟩⟩
def kB.push{T2:Value}(h:kB w c ge gw base T K vs ks m E)(hv:eE w c gw E m v)(ho:Je w2 base R8 T2 (vs++[v]))(hu:ah (λk=>T.ownBlock=some k) w w2)(hw:T2.ownBlock=T.ownBlock\/∃g,T2.ownBlock=some g/\w.heap.size<=g):
 kB (w2.setCell ⟨ge,1,none⟩ T2) c ge gw base T2 K (vs++[v]) ks (m+1) E/\ah (λk=>k=ge\/T.ownBlock=some k) w (w2.setCell ⟨ge,1,none⟩ T2):=by
 have hnT:¬T.ownBlock=some ge:=λe=>(h.tn ge e).2 rfl
 have U:=(ah.refl (λk=>k=ge) w2).setCell (p:=⟨ge,1,none⟩) (.inl rfl) T2;have UU:ah (λk=>k=ge\/T.ownBlock=some k) w (w2.setCell ⟨ge,1,none⟩ T2):=(hu.mono (λk e=>.inr e)).trans U (λk e=>.inl (.inl e));have hS:∀k,(k=ge\/T.ownBlock=some k)->c k=none:=λk hk=>by
  rcases hk with rfl|hk
  ·exact h.no
  ·exact(h.tn k hk).1
 have t2:∀j,T2.ownBlock=some j->c j=none/\j≠ge:=λj hj=>by
  rcases hw with e|⟨g,e,hg⟩
  ·rw[e]at hj;exact h.tn j hj
  ·rw[e]at hj;injection hj with hj;subst hj
   exact⟨h.fr _ hg,λe=>oH h.blk.lt⟩
 have f2:∀k,(w2.setCell ⟨ge,1,none⟩ T2).heap.size<=k->c k=none:=λk hk=>h.fr k (aB4 UU.size hk)
 refine⟨⟨(h.blk.upd hu hnT).aX 1 T2,h.no,h.gb,ho.upd U (λk hk e=>(t2 k hk).2 e),t2,h.ks.upd UU (λk hk e=>by
  rcases e with e|e
  ·exact(h.kn k hk).2 e
  ·exact h.tk' k e hk),h.kn,λj hj hk=>?_,by rw[aB8,h.len];rfl,λi u ZM=>?_,h.gw.off UU hS,f2⟩,UU⟩
 ·rcases hw with e|⟨g,e,hg⟩
  ·rw[e]at hj;exact h.tk' j hj hk
  ·rw[e]at hj;injection hj with hj;subst hj
   have:=(h.ks.lt _ hk).2;omega
 ·rcases aE2 i vs.length with hi|hi
  ·rw[aC9 hi]at ZM
   exact(h.tk i u ZM).off UU hS
  ·have hi2:i=m:=by have h1:=(d9.1 ZM).1;have:=h.len;simp at h1;omega
   subst hi2;rw[<-h.len,aC7 lR,aW9]at ZM;injection ZM with ZM
   subst ZM;exact hv.off UU hS
def kB.ar1{K2:Value}(h:kB w c ge gw base T K vs ks m E)(ho:Je w2 base uH K2 (ks++[v]))(hu:ah (λk=>K.ownBlock=some k) w w2)(hw:K2.ownBlock=K.ownBlock\/∃g,K2.ownBlock=some g/\w.heap.size<=g):
 kB (w2.setCell ⟨ge,2,none⟩ K2) c ge gw base T K2 vs (ks++[v]) m E/\ah (λk=>k=ge\/K.ownBlock=some k) w (w2.setCell ⟨ge,2,none⟩ K2):=by
 have hnT:¬K.ownBlock=some ge:=λe=>(h.kn ge e).2 rfl
 have U:=(ah.refl (λk=>k=ge) w2).setCell (p:=⟨ge,2,none⟩) (.inl rfl) K2;have UU:ah (λk=>k=ge\/K.ownBlock=some k) w (w2.setCell ⟨ge,2,none⟩ K2):=(hu.mono (λk e=>.inr e)).trans U (λk e=>.inl (.inl e));have hS:∀k,(k=ge\/K.ownBlock=some k)->c k=none:=λk hk=>by
  rcases hk with rfl|hk
  ·exact h.no
  ·exact(h.kn k hk).1
 have t2:∀j,K2.ownBlock=some j->c j=none/\j≠ge:=λj hj=>by
  rcases hw with e|⟨g,e,hg⟩
  ·rw[e]at hj;exact h.kn j hj
  ·rw[e]at hj;injection hj with hj;subst hj
   exact⟨h.fr _ hg,λe=>oH h.blk.lt⟩
 have f2:∀k,(w2.setCell ⟨ge,2,none⟩ K2).heap.size<=k->c k=none:=λk hk=>h.fr k (aB4 UU.size hk)
 refine⟨⟨(h.blk.upd hu hnT).aX 2 K2,h.no,h.gb,h.ts.upd UU (λk hk e=>by
  rcases e with e|e
  ·exact(h.tn k hk).2 e
  ·exact h.tk' k hk e),h.tn,ho.upd U (λk hk e=>(t2 k hk).2 e),t2,λj hj hk=>?_,h.len,λi u ZM=>(h.tk i u ZM).off UU hS,h.gw.off UU hS,f2⟩,UU⟩
 rcases hw with e|⟨g,e,hg⟩
 ·rw[e]at hk;exact h.tk' j hj hk
 ·rw[e]at hk;injection hk with hk;subst hk
  have:=(h.ts.lt _ hj).2;omega
def eE.ext(h:eE w c gw E i v)(he:nQ c c'):eE w c' gw E i v:=by
 rcases h with⟨x,g,e1,e2,A,n,cc,ov,e3⟩|⟨x,g,sp,e0,e1,e2,e3⟩
 ·exact .inl ⟨x,g,e1,e2,A,n,cc,ov,e3.ext he⟩
 ·exact .inr ⟨x,g,sp,e0,e1,e2,e3.blk,he _ _ e3.cg,e3.gA.imp id (λq=>q.ext he)⟩
def kB.done{w0:World}{c0:bh}(h:kB w c ge gw base T K vs ks m E)(hm:m=E.size)(h1:1<=m)(hu:E.used=0)(hs:ae vA w0 w c0 c)(hb:w0.heap.size<=base):∃c' bt ot nt ct,I5 w c' ge gw bt ot nt ct K vs E/\ae vA w0 w c0 c':=by
 obtain⟨A,n,cap,e9,hn,gU⟩:=h.ts.shape (λ_=>rfl);have hblk:∃bt ot,A=some ⟨bt,ot,none⟩:=by
  rcases h.ts with⟨e1,e2⟩|⟨g,off,yf,cur,e1,-⟩
  ·have:=h.len;rw[e2]at this;simp at this;omega
  ·rw[e1]at e9;injection e9 with e9;exact⟨g,off,e9.symm⟩
 obtain⟨bt,ot,rfl⟩:=hblk;subst e9;have hbn:=h.tn bt rfl;have hbl:=h.ts.lt bt rfl;have:=h.blk.lt;obtain⟨c',hc'⟩:∃c' : bh,c' = λk=>open Classical in if k=bt then some (.at_ 18)else if k=ge then some (.at_ 17)else c k:=⟨_,rfl⟩
 have q1:c' bt=some (.at_ 18):=by rw[hc'];simp
 have q2:c' ge=some (.at_ 17):=by rw[hc'];simp[Ne.symm hbn.2]
 have q3:∀k,k≠bt->k≠ge->c' k=c k:=λk h1 h2=>by rw[hc'];simp[h1,h2]
 have hx:nQ c c':=λk t e=>by
  rw[q3 k (λh=>by rw[h,hbn.1]at e;cases e) (λh2=>by rw[h2,h.no]at e;cases e)];exact e
 have hf:∀k,w.heap.size<=k->c' k=none:=λk hk=>by rw[q3 k oM oM];exact h.fr k hk
 refine⟨c',bt,ot,n,cap,⟨hu▸h.blk,q2,gU,hbl.2,q1,h.len▸hm,λi v hv=>(h.tk i v hv).ext hx,h.gw.ext hx,hf⟩,hs.upd,λk hk hn=>?_,λk t hk e=>?_,hf⟩
 ·rw[q3 k oM (oH h.gb)]
  exact hs.old k hk hn
 ·by_cases e1:k=bt
  ·rw[e1,q1]at e;injection e with e;exact .inl (.inr ⟨18,oM,e.symm⟩)
  ·by_cases e2:k=ge
   ·rw[e2,q2]at e;injection e with e;exact .inl (.inr ⟨17,oM,e.symm⟩)
   ·rw[q3 k e1 e2]at e
    exact hs.new k t hk e
end
end
abbrev Es:={v:Value // v.oneCell' = true}
abbrev Jf(x:Es):List Value:=[x.1]
def one_one:∀x:Es,∀u∈Jf x,u.oneCell' = true:=λx u hu=>by simp at hu;rw[hu];exact x.2
def ni{b:Nat}{e:TypeId}{tl:List Es}: aK w b e 1 Jf v tl↔Je w b e v (tl.map Subtype.val):=by
 unfold Je aK;rw[aC8,List.flatMap_map,List.map_eq_nil_iff]
def Oo:(prog.info? R8).map (λi=>(i.zero,i.size,i.bytes))=some (some .nilIface,1,16):=kZ
def V8:(prog.info? uH).map (λi=>(i.zero,i.size,i.bytes))=some (some (.pointer none),1,8):=kZ
def Ol.below{gw t:Nat}{e:Ending}(h:Ol w gw t p e w'):Bl w w':=by obtain⟨g,A,n,cc,-,-,hb,-⟩:=h;exact hb
abbrev QV:bh:=λ_=>none
def ae.Et{T:Tag->Prop}{c' : bh}(h:ae T w w' QV c'):Bl w w':=
 ah.below h.upd (λk ⟨t,e,_⟩=>by cases e) lR
def ae.ar2{c c' : bh}(h:ae dL w w' c c'):ae vA w w' c c':=h.mono λt e=>.inl e
def Me(cf:aM)(ps:List (List ak))(n:Nat)(h:ps[k]? = some p):(En.new cf ps n).cls[k]? = some (Cl.new (k:Int) p):=by
 unfold En.new;simp[List.getElem?_mapIdx,h]
def Mf(cf:aM)(ps:List (List ak))(n:Nat)(h:k<n):(En.new cf ps n).pT[k]? = some (Wk.new ((ps.length+k:Nat):Int)):=by
 unfold En.new;simp[h]
def Mg(cf:aM)(ps:List (List ak))(n:Nat):(En.new cf ps n).cls.length=ps.length/\(En.new cf ps n).pT.length=n:=by
 unfold En.new;simp
abbrev qw:TypeId:=23
theorem ak1(cf:aM)(A:Option Addr)(len cap:Nat)(rows:List (bq ak))(wk:Nat)(w:World)(hr:dK w 11 ak.cells A len cap rows)(hf:cf.fit)(a8:cf.gV)(rz:ix cf rows (wk:Int)=0)(hn:len+wk<=32)(h1:1<=len+wk)(hcl:∀r∈rows,r.n<=1000) :
 Calls prog 43 #[.agg cf.row,.slice A len cap,I6 (wk:Int)] w λe w'=>∃ge,e=.returned (.tuple #[pt ge,I6 0])/\∃c' gw bt ot nt ct K vs,I5 w' c' ge gw bt ot nt ct K vs (En.new cf (rows.map bq.l) wk)/\ae vA w w' QV c':=by
 have Er:=hr;have Nv:=hr.1.1;have HF:=hf;have kh:=a8;have Ls:=hcl;have hm:cap<=9223372036854775807:=by have:=hr.1.2.2.1;unfold maxLen at this;omega
 have:len<=cap:=hr.1.2.1;have V9:(Gw.new cf).ay.length<=1000:=by
  have:=a7 a8.1;unfold Gw.new;simp;omega
 have Fj:=V9;have BX:=ai.new w qw cf.row;have EX:=zW w (.cells cf.row qw);have wN:Calls prog 99 #[.agg cf.row,.slice A len cap,I6 (wk:Int)] (w.alloc (.cells cf.row qw)) λe w'=>e=.returned (I6 0)/\Below (w.alloc (.cells cf.row qw)).heap.size (w.alloc (.cells cf.row qw)) w':=by
  have h9:=o7 cf A len cap rows (wk:Int) _ (hr.keep EX).1 hf oM;rw[rz]at h9;exact h9
 obtain⟨E,hE⟩:=zE (En.new cf (rows.map bq.l) wk);have HEw:E.w=Gw.new cf:=by rw[hE];rfl
 have HEl:E.cls.length=len/\E.pT.length=wk/\E.size=len+wk/\E.used=0:=by
  have h9:=Mg cf (rows.map bq.l) wk;rw[<-hE,aC8,hr.1.1]at h9;exact⟨h9.1,h9.2,by unfold En.size;rw[h9.1,h9.2],by rw[hE];rfl⟩
 have HEc:=(λ(k:Nat)(r:bq ak)(h:rows[k]? = some r)=>(show E.cls[k]? = some (Cl.new (k:Int) r.l)from by rw[hE];exact Me cf _ wk (by rw[List.getElem?_map,h];rfl)));have HEk:=(λ(k:Nat)(h:k<wk)=>(show E.pT[k]? = some (Wk.new ((len+k:Nat):Int))from by
  have h9:=Mf cf (rows.map bq.l) wk h;rw[<-hE,aC8,hr.1.1]at h9;exact h9))
 rw[<-hE];clear hr hf a8 hcl V9 rz hE;go_enter func43,ntmps43;go_wp2_with(first
  |refine zI BX underlying23 ?_
  |go_at_call 99;refine wN.mono ?_;rintro e w1 ⟨rfl,hb1⟩;have BX:=BX.call hb1;have B1:=zT EX hb1;clear hb1
  |(go_at_call 111;refine(LF cf QV w1 HF kh (λ_ _=>rfl)).mono ?_;rintro e w2 ⟨gw,rfl,c2,G2,T2⟩))
 have ND:=zW w2 (.cells (uI gw (.slice none 0 0) (.slice none 0 0) (len:Int) 0) QJ);have BE:=ai.new w2 QJ (uI gw (.slice none 0 0) (.slice none 0 0) (len:Int) 0);obtain⟨w5,wK⟩:=zE (w2.alloc (.cells (uI gw (.slice none 0 0) (.slice none 0 0) (len:Int) 0) QJ));obtain⟨ge,hge⟩:=zE w2.heap.size;have hno:∀k,(Value.slice none 0 0).ownBlock≠some k:=λk e=>by simp[Value.ownBlock]at e
 have C2:=(ae.aa vA QV (λ_ _=>rfl) B1).trans T2.ar2 fD;have hgb:w.heap.size<=ge:=by rw[hge];exact C2.upd.size
 rw[<-wK]at ND BE |-;rw[<-hge]at BE |-;have N0:kB w5 c2 ge gw w.heap.size (.slice none 0 0) (.slice none 0 0) ([]:List Value) [] 0 E:=⟨by rw[HEl.1];exact BE,T2.fresh ge (by rw[hge];exact aC2 _),hgb,aK.nil _ _ _ _ _,λj hj=>absurd hj (hno j),aK.nil _ _ _ _ _,λj hj=>absurd hj (hno j),λj hj=>absurd hj (hno j),rfl,λi v hv=>by simp at hv,by rw[HEw];exact G2.call ND,λk hk=>T2.fresh k (aB4 ND.size hk)⟩;have C5:=C2.trans (ae.aa vA c2 T2.fresh ND) fD;clear wK hge ND BE C2 G2 T2 B1 EX BX wN;have Fj:E.w.ay.length<=1000:=by rw[HEw];exact Fj
 go_loopw[35] (λi wr=>∃(k nt ct:Nat)(At:Option Addr)(tl:List Es)(cr:bh),k<=len/\i = I6 k/\kB wr cr ge gw w.heap.size (.slice At nt ct) (.slice none 0 0) (tl.map Subtype.val) [] k E/\ae vA w wr QV cr) (λi _=>len-(intOf i).toNat)
 case atStart=>exact⟨0,0,0,none,[],c2,aB6 _,rfl,N0,C5⟩
 case round=>
  obtain⟨k,nt,ct,At,tl,cr,hk,rfl,hni,hcs⟩:=hrel;have HI:=hni;have HS:=hcs;clear hni hcs
  by_cases hlt:k<len
  ·have:(k:Int)<(len:Int):=oM
   have qg:=HS.Et;obtain⟨b,off,r,rfl,hx,fH,t0⟩:=LZ (af Er.1 qg) hlt;obtain⟨rA,rn,rc,rl⟩:=r;have kv:=aC1 hx;have HRo:=af (Er.2 _ kv) qg;have NI:=Ls _ kv;have HX:=HEc k _ hx;have:=ni.2 HI.ts;have HTl:tl.length<1000000:=by have h9:=HI.len;rw[aC8]at h9;omega
   have HGt:¬(Value.slice At nt ct).ownBlock=some ge:=λe=>(HI.tn ge e).2 rfl
   have HTb:=(λj (hj:(Value.slice At nt ct).ownBlock=some j)=>HI.ts.lt j hj);simp only at HRo NI HX;clear kv hx fH;go_upto_region 9 with fail
   clear t0;refine zr (λj=>[14].contains j) (λwS=>ah (λj=>(Value.slice At nt ct).ownBlock=some j) wr wS) ?_;have S0:=(ah.refl (λj=>(Value.slice At nt ct).ownBlock=some j) wr).drew;refine zk 10 [0,1,2,3,4] [_,_,_,_,.slice At nt ct] (.q zX<|.q zX<|.q zX<|.q zX<|.c rfl rfl (zl λ_ h=>by have:=(HI.blk.upd h HGt).z 1 (.slice At nt ct);go_simp) .nil) S0 ?_;refine zq 7 [5,6,7] [_,_,_] S0 ?_;refine zQ 8 ?_;go_wp2_with(go_at_call 112;refine(aj8 (HI.gw.call bR.drew) Fj k oM rA rn rc rl (af HRo bR.drew) NI).mono ?_;rintro e w3 hc3;have hb3:=hc3.below;obtain⟨c3,g3,rfl,n3,q3,s3⟩:=(HI.call bR.drew).ak0 hc3 HX;have N3:=n3;have Q3:=q3;have S3_:=s3;clear n3 q3 s3 hc3);refine .i (S0.trans (ah.aa hb3) iL) ?_;have S3:=S0.trans (ah.aa hb3) iL;refine zq 5 [9] [.iface vX (pt g3)] S3 ?_;refine zQ 10 ?_;go_wp2_with(fail);refine .i (S3.alloc (.cells #[.iface vX (pt g3)] R8)) ?_;have S4:=S3.alloc (.cells #[.iface vX (pt g3)] R8);refine zQ 11 ?_;go_wp2_with(refine cX _ rfl (.tmp 44) (.tmp 50) 191 rfl w.heap.size R8 _ 1 16 Jf underlying191 Oo rF dC (λ_=>rfl) one_one (.slice At nt ct) tl rfl ((ni.2 N3.ts).alloc _) ⟨w3.heap.size,0,none⟩ 1 ⟨.iface vX (pt g3),rfl⟩ rfl (br (α:=Es) (vs:=[.iface vX (pt g3)]) (ai.new w3 R8 _) rfl) HTl dC (by have:=qg.size;have h9:=hb3.size;simp at h9 |-;omega) ?_;intro v' w4 qP ki hw4;obtain⟨A4,n4,c4,rfl,-,-⟩:=qP.shape (λ_=>rfl);have O4:=qP;have U4:=ki;have W4:=hw4;have BG4:=(N3.blk.call ((Below.refl w3.heap.size w3).alloc lR _)).upd ki HGt;have:=BG4.z 1 (.slice At nt ct);have:=BG4.frozen 1;clear qP ki hw4);refine .i (S4.trans U4 iL) ?_;have S5:=S4.trans U4 iL;refine zQ 12 ?_;go_wp2_with fail;refine .i S5 ?_;refine zq 1 [13] [_] S5 ?_;refine aq _ _ _ _ kZ ?_;refine zO 14 (λQ2 aI=>?_);go_wp2_with fail;(try refine aI _ _ ?_);(try clear aI Q2)
   refine wpAny_done kZ ?_ _;have NN:=N3.call (zW w3 (.cells #[.iface vX (pt g3)] R8));have TT:=Q3.call (zW w3 (.cells #[.iface vX (pt g3)] R8));have O5:=ni.1 O4;go_wp2;go_roundw
   case rel=>
    obtain⟨p1,p2⟩:=NN.push TT (by have h9:=O5;rw[aG4]at h9;exact h9) U4 (W4.imp id (λe=>⟨_,e,aC2 _⟩));refine⟨k+1,n4,c4,A4,tl++[⟨.iface vX (pt g3),rfl⟩],c3,by omega,by go_num,by rw[aG4];exact p1,?_⟩;refine(((HS.trans (ae.aa vA cr HI.fr bR.drew) fD).trans S3_ fD).trans (ae.aa vA c3 N3.fr ((Below.refl w3.heap.size w3).alloc lR _)) fD).own p2 (λj hj=>?_);rcases hj with rfl|hj
    ·exact hgb
    ·exact(HTb j hj).1
   case measure=>simp[intOf];omega
  ·have DJ:k=len:=oM
   subst DJ;go_wp2;go_loopw[56] (λi wr=>∃(q nt ct:Nat)(At:Option Addr)(tl:List Es)(nk ck:Nat)(Ak:Option Addr)(kl:List Es)(cr:bh),q<=wk/\i = I6 q/\kB wr cr ge gw w.heap.size (.slice At nt ct) (.slice Ak nk ck) (tl.map Subtype.val) (kl.map Subtype.val) (k+q) E/\kl.length<=q/\ae vA w wr QV cr) (λi _=>wk-(intOf i).toNat)
   case atStart=>exact⟨0,nt,ct,At,tl,0,0,none,[],cr,aB6 _,rfl,HI,aC2 _,HS⟩
   case round=>
    obtain⟨q,nt,ct,At,tl,nk,ck,Ak,kl,cr,hq,rfl,hni,zt,hcs⟩:=hrel;have HI:=hni;have HS:=hcs;have Qn:=zt;clear hni hcs zt
    by_cases hlt:q<wk
    ·have:(q:Int)<(wk:Int):=oM
     have HTl:tl.length<1000000:=by have h9:=HI.len;rw[aC8]at h9;omega
     have az0:kl.length<1000000:=by have:=Qn;omega
     have qg:=HS.Et;have HX:=HEk q hlt;have nR:Calls prog 113 #[pt gw,I6 ((k:Int)+(q:Int))] wr λe w'=>∃g,e=.returned (pt g)/\wr.heap.size<=g/\Bl wr w'/\ai w' g Xu (sK gw none (Wk.new ((k+q:Nat):Int))):=by
      rw[show(k:Int)+(q:Int)=((k+q:Nat):Int) by omega];exact aj9 HI.gw Fj HI.fr (k+q) oM
     go_upto_region 15 with(go_at_call 113;refine nR.mono ?_;rintro e w3 ⟨g3,rfl,hg3,hb3,xC⟩)
     obtain⟨c3,n3,q3,s3⟩:=HI.worker hg3 hb3 xC (by rw[HEl.1];omega) (by rw[HEl.1,Nat.add_sub_cancel_left];exact HX);have N3:=n3;have Q3:=q3;have S3:=HS.trans s3 fD;clear n3 q3 s3 nR hg3 xC;have HGk:¬(Value.slice Ak nk ck).ownBlock=some ge:=λe=>(N3.kn ge e).2 rfl
     have HKb:=(λj (hj:(Value.slice Ak nk ck).ownBlock=some j)=>N3.ks.lt j hj);have k2:=N3.blk.z 2 (.slice Ak nk ck);have:=aB4 qg.size hb3.size;have:=hb3;clear hb3;go_upto_region 16 with(refine cX _ rfl (.tmp 69) (.tmp 71) 192 rfl w.heap.size uH _ 1 8 Jf underlying192 V8 rF dC (λ_=>rfl) one_one (.slice Ak nk ck) kl rfl ((ni.2 N3.ks).alloc _) ⟨w3.heap.size,0,none⟩ 1 ⟨pt g3,rfl⟩ rfl (br (α:=Es) (vs:=[pt g3]) (ai.new w3 uH _) rfl) az0 dC sM ?_;intro v' w4 qP ki hw4;obtain⟨A4,n4,c4,rfl,-,-⟩:=qP.shape (λ_=>rfl);have O4:=qP;have U4:=ki;have W4:=hw4;have BG4:=(N3.blk.call ((Below.refl w3.heap.size w3).alloc lR _)).upd ki HGk;have k2:=BG4.z 2 (.slice Ak nk ck);have f2:=BG4.frozen 2;clear qP ki hw4)
     have AL3:=zW w3 (.cells #[pt g3] uH);obtain⟨n6,u6⟩:=(N3.call AL3).ar1 (v:=pt g3) (by have h9:=ni.1 O4;rw[aG4]at h9;exact h9) U4 (W4.imp id (λe=>⟨_,e,aC2 _⟩));have S6:=(S3.trans (ae.aa vA c3 N3.fr AL3) fD).own u6 (λj hj=>by
      rcases hj with rfl|hj
      ·exact hgb
      ·exact(HKb j hj).1)
     have HU6:=u6.size;have Q6:=(Q3.call AL3).off u6 (λj hj=>by
      rcases hj with rfl|hj
      ·exact N3.no
      ·exact(N3.kn j hj).1)
     obtain⟨w6,Nx⟩:=zE (w4.setCell ⟨ge,2,none⟩ (.slice A4 n4 c4));rw[<-Nx]at n6 S6 Q6 HU6 |-;have N6:=n6;have:w.heap.size<=w6.heap.size:=S6.upd.size;clear n6 u6 Nx k2 f2 BG4 U4 W4 O4 AL3;have HGt:¬(Value.slice At nt ct).ownBlock=some ge:=λe=>(N6.tn ge e).2 rfl
     have HTb:=(λj (hj:(Value.slice At nt ct).ownBlock=some j)=>N6.ts.lt j hj);have:=N6.blk.z 1 (.slice At nt ct);go_upto_region 17 with(refine cX _ rfl (.tmp 79) (.tmp 82) 191 rfl w.heap.size R8 _ 1 16 Jf underlying191 Oo rF dC (λ_=>rfl) one_one (.slice At nt ct) tl rfl ((ni.2 N6.ts).alloc _) ⟨w6.heap.size,0,none⟩ 1 ⟨.iface uH (pt g3),rfl⟩ rfl (br (α:=Es) (vs:=[.iface uH (pt g3)]) (ai.new w6 R8 _) rfl) HTl dC sM ?_;intro v' w7 Ck Va hw7;obtain⟨A7,n7,c7,rfl,-,-⟩:=Ck.shape (λ_=>rfl);have O7:=Ck;have U7:=Va;have W7:=hw7;have BG7:=(N6.blk.call ((Below.refl w6.heap.size w6).alloc lR _)).upd Va HGt;have:=BG7.z 1 (.slice At nt ct);have:=BG7.frozen 1;clear Ck Va hw7)
     have AL6:=zW w6 (.cells #[.iface uH (pt g3)] R8);obtain⟨n8,u8⟩:=(N6.call AL6).push (Q6.call AL6) (by have h9:=ni.1 O7;rw[aG4]at h9;exact h9) U7 (W7.imp id (λe=>⟨_,e,aC2 _⟩));have S8:=(S6.trans (ae.aa vA c3 N6.fr AL6) fD).own u8 (λj hj=>by
      rcases hj with rfl|hj
      ·exact hgb
      ·exact(HTb j hj).1)
     have N8:=n8;clear n8 u8 AL6;go_wp2;go_roundw
     case rel=>exact⟨q+1,n7,c7,A7,tl++[⟨.iface uH (pt g3),rfl⟩],n4,c4,A4,kl++[⟨pt g3,rfl⟩],c3,by omega,by go_num,by rw[aG4,aG4];exact N8,by have:=Qn;rw[aB8,aS8];omega,S8⟩
     case measure=>simp[intOf];omega
    ·have hqn:q=wk:=oM
     subst hqn;go_wp2;go_ret2;obtain⟨cz,bt,ot,nz,cz2,hz,tz⟩:=HI.done (by rw[HEl.2.2.1]) oM HEl.2.2.2 HS lR;exact⟨ge,rfl,cz,gw,bt,ot,nz,cz2,_,_,hz,tz⟩
abbrev Mh(E:En)(A:Option Addr)(n c:Nat)(A2:Option Addr)(n2 c2:Nat):Array Value:=#[.slice A n c,I6 (E.used:Int),I6 (E.j6:Int),.slice A2 n2 c2,.bool E.rest]
def ar3(w:World)(E:En)(e:Ending)(w' : World):Prop:=∃A n c A2 n2 c2,e=.returned (.tuple #[.agg (Mh E A n c A2 n2 c2),I6 0])/\Own w' w.heap.size eL 34 Ev.cells (.slice A n c) E.w.evs/\Bl w w'
theorem QW(cf:aM)(A:Option Addr)(len cap:Nat)(rows:List (bq ak))(wk:Nat)(pA:Option Addr)(pn pc:Nat)(ps:List Int)(w:World)(hr:dK w 11 ak.cells A len cap rows)(hf:cf.fit)(a8:cf.gV)(rz:ix cf rows (wk:Int)=0)(hn:len+wk<=32)(h1:1<=len+wk)(hcl:∀r∈rows,r.n<=1000)
 (hs:dt w pA pn pc ps) (hp:∀x∈ps,aw x) (RS:pn<=1000000) (Wa:Oi (En.new cf (rows.map bq.l) wk) ps) (hend:yN ((En.new cf (rows.map bq.l) wk).run ps)) :
 Calls prog 14 #[.agg cf.row,.slice A len cap,I6 (wk:Int),.slice pA pn pc] w (ar3 w ((En.new cf (rows.map bq.l) wk).run ps)):=by
 obtain⟨W0,hW0⟩:=zE ((w.alloc (.cells cf.row qw)).alloc (.cells iX outT));have EX:=(zW w (.cells cf.row qw)).alloc sI (.cells iX outT);have BX:=(ai.new w qw cf.row).alloc (.cells iX outT);have BY:=ai.dR w (.cells cf.row qw) outT iX;have hsz:W0.heap.size=w.heap.size+2:=by rw[hW0];simp
 rw[<-hW0]at EX BX BY;have HW0:=zD hW0;have HBX:=BX;have HBY:=BY;have HEX:=EX;have OS:=hsz;have nR:=ak1 cf A len cap rows wk W0 (hr.keep EX) hf a8 rz hn h1 hcl;have HS:dt W0 pA pn pc ps:=af hs EX;have HP:=hp;have HRu:=Wa;have ar4:=hend;obtain⟨E,hE⟩:=zE (En.new cf (rows.map bq.l) wk);rw[<-hE]at nR HRu ar4 |-;clear hr hf a8 rz hcl hs hp Wa hend hE BX BY EX hsz hW0;go_enter func14,ntmps14;go_upto_region 1 with fail
 rw[<-HW0.out];go_wp2_with(first
  |refine zI HBX underlying23 ?_
  |go_at_call 43;(refine nR.mono ?_;rintro e w1 ⟨ge,rfl,c1,gw,bt,ot,nt,ct,K,vs,H1,T1⟩;have B1:=T1.Et)
  |go_at_call 44;refine(aj5 pA pn pc ps H1 (af HS B1) (λa ha h0=>(T1.old a.block ((HS.2.2.2.2 a ha).2 h0).1 (λt e=>by cases e)).trans rfl) HP RS HRu).mono ?_;rintro e w2 ⟨⟨m,rfl⟩,c2,H2,oD⟩;have B2:=(T1.trans oD fD).Et;clear oD
  |go_at_call 45;refine(Md H2 ar4).mono ?_;rintro e w3 ⟨A3,n3,c3,A4,n4,c4,rfl,O3,hb3⟩;have B3:=zT B2 hb3;clear hb3
  |(refine zJ (HBY.call B3) ?_;intro w9 X9 G9))
 refine bodyPost_ret (az rfl _ _ (w.heap.size+1) _ _ _ rfl X9 underlying31 rfl kZ) rfl ?_;have:=OS;have:=B2.size;have U9:=ah.bE G9;refine⟨A3,n3,c3,A4,n4,c4,rfl,(O3.upd U9 (λk hk e=>oH (O3.se k hk).1)).mono oM,(HEX.trans (B3.mono HEX.size)).trans (ah.below U9 (λk hk=>oM) (oH B3.size))⟩
def jo(cf:aM)(rows:List (bq ak))(wk:Nat):Nat:=gh cf rows+16*kA rows+6*wk
theorem Mi(cf:aM)(A:Option Addr)(len cap:Nat)(rows:List (bq ak))(wk:Nat)(w:World)(hr:dK w 11 ak.cells A len cap rows)(hg:∀r∈rows,∀x∈r.l,x.good)(hf:cf.fit)(rz:ix cf rows (wk:Int)=0)(hn:len<=32)(Fg:∀r∈rows,r.n<=20)(hwk:wk<=32) :
 Calls prog 36 #[.agg cf.row,.slice A len cap,I6 (wk:Int)] w (Rt (.tuple #[I6 (jo cf rows wk:Nat),I6 0]) (Bl w)):=by
 have BX:=ai.new w qw cf.row;have EX:=zW w (.cells cf.row qw);have wN:Calls prog 99 #[.agg cf.row,.slice A len cap,I6 (wk:Int)] (w.alloc (.cells cf.row qw)) λe w'=>e=.returned (I6 0)/\Below (w.alloc (.cells cf.row qw)).heap.size (w.alloc (.cells cf.row qw)) w':=by
  have h9:=o7 cf A len cap rows (wk:Int) _ (hr.keep EX).1 hf oM;rw[rz]at h9;exact h9
 have nI:=(λW (hb:Bl w W)=>Jb cf A len cap rows W (hr.keep hb) hg hf oM Fg);have HSi:=(λW (hb:Bl w W)=>Jc A len cap rows W (hr.keep hb) hg oM Fg);have:=hr.1.1;have Mj:∀r∈rows,r.l.length<=20:=λr h=>by have:=Fg r h;have:=(hr.2 r h).1;omega
 have:=uK cf rows Mj;have:=yR rows Mj;have HM:jo cf rows wk=gh cf rows+16*kA rows+6*wk:=rfl;rw[HM];clear hr hg hf rz Fg Mj HM;generalize gh cf rows=a at *;generalize kA rows=b at *;go_enter func36,ntmps36;go_wp2_with(first
  |refine zI BX underlying23 ?_
  |go_at_call 99;refine wN.mono ?_;rintro e w1 ⟨rfl,hb1⟩;have BX:=BX.call hb1;have B1:=zT EX hb1;clear hb1
  |go_at_call 100;refine zM (nI _ B1) λw2 hb2=>?_;have B2:=zT B1 hb2;clear hb2
  |(go_at_call 101;refine zM (HSi _ B2) λw3 hb3=>?_;have B3:=zT B2 hb3;clear hb3))
 go_ret2;exact⟨by go_num,B3⟩
def Mk(hn:1<=n/\n<=32): ∀x∈mX n long,aw x:=by
 intro x hx;unfold mX at hx;simp only[aF2,aR8]at hx;obtain⟨i,-,rfl⟩:=hx;have:=pG (p:=(i:Int)) (n:=n) oM;unfold aw;omega
theorem Ml(hn:1<=n/\n<=32)(k:Nat):(∀x∈(cQ n raw k).1,aw x)/\∀x∈(cQ n raw k).2,aw x:=by
 have hl:∀left:List Int,(∀x∈left,aw x)->∀x∈fE n left,aw x:=λleft h x hx=>by
  unfold fE at hx
  split at hx
  ·exact Mk hn x hx
  ·exact h x hx
 induction k with
 |zero=>exact⟨λx hx=>by simp[cQ]at hx,λx hx=>by simp[cQ]at hx⟩
 |succ k ih=>
  refine⟨λx hx=>?_,λx hx=>?_⟩
  ·simp only[cQ,aD1,aD8]at hx
   rcases hx with hx|rfl
   ·exact ih.1 x hx
   ·rw[aB7]
    cases h9:(fE n (cQ n raw k).2)[uf n raw k (cQ n raw k).2]? with
    |none=>simp[aw]
    |some y=>exact hl _ ih.2 y (aC1 h9)
  ·simp only[cQ]at hx
   exact hl _ ih.2 x (List.mem_of_mem_eraseIdx hx)
def Mm(hn:1<=n/\n<=32): ∀x∈gL n long raw,aw x:=(Ml hn _).1
def ra(hn:1<=n/\n<=32):(gL n long raw).length=sr long:=(qW hn raw _).1
theorem sS(cf:aM)(A:Option Addr)(len cap:Nat)(rows:List (bq ak))(wk:Nat)(rA:Option Addr)(rn rc:Nat)(raw:List Int)(w:World)(hr:dK w 11 ak.cells A len cap rows)(hg:∀r∈rows,∀x∈r.l,x.good)(hf:cf.fit)(a8:cf.gV)(rz:ix cf rows (wk:Int)=0)(hn:len+wk<=32)(h1:1<=len+wk)(Fg:∀r∈rows,r.n<=20)
 (hs:dt w rA rn rc raw) (hp:∀x∈raw,aw x) (Wa:Oi (En.new cf (rows.map bq.l) wk) (gL ((len+wk:Nat):Int) ((jo cf rows wk:Nat)+1) raw)) (hend:yN ((En.new cf (rows.map bq.l) wk).run (gL ((len+wk:Nat):Int) ((jo cf rows wk:Nat)+1) raw))) :
 Calls prog 9 #[.agg cf.row,.slice A len cap,I6 (wk:Int),.slice rA rn rc] w (ar3 w ((En.new cf (rows.map bq.l) wk).run (gL ((len+wk:Nat):Int) ((jo cf rows wk:Nat)+1) raw))):=by
 have ar5:∀r∈rows,r.n<=1000:=λr h=>aB4 (Fg r h) dC
 have hlen:=hr.1.1;have Mj:∀r∈rows,r.l.length<=20:=λr h=>by have:=Fg r h;have h3:=(hr.2 r h).1;omega
 have:jo cf rows wk<=99000:=by
  have:=uK cf rows Mj;have hs:=yR rows Mj;unfold jo;omega
 obtain⟨W0,hW0⟩:=zE ((w.alloc (.cells cf.row qw)).alloc (.cells iX outT));have EX:=(zW w (.cells cf.row qw)).alloc sI (.cells iX outT);have BX:=(ai.new w qw cf.row).alloc (.cells iX outT);have BY:=ai.dR w (.cells cf.row qw) outT iX;have hsz:W0.heap.size=w.heap.size+2:=by rw[hW0];simp
 rw[<-hW0]at EX BX BY;have HW0:=zD hW0;have HBX:=BX;have HBY:=BY;have HEX:=EX;have OS:=hsz;have HMo:=Mi cf A len cap rows wk W0 (hr.keep EX) hg hf rz oM Fg oM;obtain⟨ps,Tr⟩:=zE (gL ((len+wk:Nat):Int) ((jo cf rows wk:Nat)+1) raw);have HWv:=(λW (hb:Bl W0 W)=>(show Calls prog 29 #[I6 ((len:Int)+(wk:Int)),I6 ((jo cf rows wk:Nat)+1:Int),.slice rA rn rc] W (KZ W ps)from by
  rw[Tr,show(len:Int)+(wk:Int)=((len+wk:Nat):Int) by omega];exact Hv _ _ rA rn rc raw W oM oM (by unfold aw;omega) (af (af hs EX) hb) hp))
 have NI:=(λW pA pn pc (hb:Bl W0 W) (h9:dt W pA pn pc ps)=>QW cf A len cap rows wk pA pn pc ps W ((hr.keep EX).keep hb) hf a8 rz hn h1 ar5 h9 (by rw[Tr];exact Mm oM) (by have h8:=h9.1;rw[Tr,ra oM]at h8;unfold sr at h8;omega) (by rw[Tr];exact Wa) (by rw[Tr];exact hend));obtain⟨E,hE⟩:=zE ((En.new cf (rows.map bq.l) wk).run ps);rw[<-hE]at NI;rw[<-Tr,<-hE];clear hr hg hf a8 rz Fg hs hp Wa hend hW0 BX BY EX hsz ar5 Mj Tr hE hlen;generalize jo cf rows wk=M at *;go_enter func9,ntmps9;go_upto_region 1 with fail
 rw[<-HW0.out];go_upto_region 4 with(first
  |refine zI HBX underlying23 ?_
  |(go_at_call 36;refine HMo.mono ?_;rintro e w1 ⟨rfl,B1⟩))
 have vP:=HBX.call B1;have BY1:=HBY.call B1;have rk:¬w.heap.size=w.heap.size+1:=oM
 have:=rk;clear rk;obtain⟨gc,hgc⟩:=zE w.heap.size;obtain⟨gx,hgx⟩:=zE (w.heap.size+1);have HGs:W0.heap.size=gx+1/\w.heap.size<=gx:=by have:=OS;omega
 rw[<-hgx]at BY1 |-;rw[<-hgc]at vP |-;have HNg:¬gc=gx:=oM
 clear hgc hgx;refine zr (λ_=>false) (λwS=>ah (λk=>k=gx) w1 wS) ?_;have S0:=(ah.refl (λk=>k=gx) w1).drew;refine zk 11 [0,1,2,3,4] [_,_,_,_,I6 (len:Int)] (.c rfl rfl (zl λ_ h=>zb (vP.upd h HNg) underlying23)<|.q zX<|.q zX<|.q zX<|.e) S0 ?_;refine zk 6 [5,6,7,8,9] [_,I6 ((len:Int)+(wk:Int)),_,I6 ((M:Int)+1),_] (.q zX<|.c rfl rfl (zl λ_ _=>by have:IntKind.i64.wrap ((len:Int)+(wk:Int))=(len:Int)+(wk:Int):=(by rw[IntKind.wrap_i64];omega);go_simp)<|.q zX<|.c rfl rfl (zl λ_ _=>by have:IntKind.i64.wrap ((M:Int)+1)=(M:Int)+1:=(by rw[IntKind.wrap_i64];omega);go_simp)<|.e) S0 ?_;refine zQ 10 ?_;go_wp2_with(go_at_call 29;refine(HWv _ (B1.trans ((Below.refl w1.heap.size w1).drew.mono B1.size))).mono ?_;rintro e w2 ⟨A2,n2,c2,rfl,mv,hb2⟩;have O2:=mv.is (λ_=>rfl);have B2:Bl W0 w2:=B1.trans (((Below.refl w1.heap.size w1).drew.trans hb2).mono B1.size);have Y2:Bl w1 w2:=(Below.refl w1.heap.size w1).drew.trans hb2;clear mv);refine .i (S0.trans (ah.aa hb2) iL) ?_;have S2:=S0.trans (ah.aa hb2) iL;refine zQ 11 ?_;go_wp2_with(go_at_call 14;(refine(NI _ _ _ _ B2 O2).mono ?_;rintro e w3 ⟨A3,n3,c3,A4,n4,c4,rfl,O3,hb3⟩;have Y3:Bl w1 w3:=zT Y2 hb3));refine .i (S2.trans (ah.aa hb3) iL) ?_;have S3:=S2.trans (ah.aa hb3) iL;refine zq 2 [12,13] [.agg (Mh E A3 n3 c3 A4 n4 c4),I6 0] S3 ?_;refine zQ 14 ?_;go_wp2_with(refine zJ (BY1.call Y3) ?_;intro w9 b8 dM);refine .i ((S3).grown dM (λk e=>by injection e with e;exact .inl e.symm)) ?_;have S9:=(S3).grown dM (λk e=>by injection e with e;exact .inl e.symm);refine zq 0 [15] [I6 0] S9 ?_;refine zd ?_;go_wp2;refine bodyPost_ret (az rfl _ _ gx _ _ _ rfl b8 underlying31 rfl kZ) rfl ?_;have:=HGs;have hb3:=O3.se;have:=Y2.size;have h1s:=B1.size;have h3:=HEX.size;have:=Y3.size;have U9:=ah.bE dM;refine⟨A3,n3,c3,A4,n4,c4,rfl,(O3.upd U9 (λk hk e=>by have:=(hb3 k hk).1;omega)).mono oM,(HEX.trans ((B1.trans (Y3.mono h1s)).mono h3)).trans (ah.below U9 (λk hk=>by omega) oM)⟩
structure EvG(e:Ev)(s:ByteArray):Prop where
 call:e.kind=2->bM e.call
 note:e.kind=6->eO s=true/\e.key=⟨aO s,aP s⟩
 ei:e.kind=6->aw e.ei.aQ
def rB.apply{c:aM}{m:Fm}{n:Nat}(h:rB c m n)(hc:c.gV){e:Ev}{s:ByteArray}(he:EvG e s):rB c (iz m e s).2 (n+1):=by
 unfold iz
 by_cases h2:e.kind=2
 ·rw[if_pos h2];exact h.do_ hc (he.call h2)
 ·rw[if_neg h2]
  split
  ·rename_i h6;exact h.note hc s e.ei (he.ei h6)
  ·exact h.mono (aC5 n)
theorem rB.st{c:aM}(hc:c.gV){zs:List (Ev×ByteArray)}(hz:∀p∈zs,EvG p.1 p.2):∀k,rB c (Ju (Fm.new c) (zs.take k)) k
 |0=>rB.new c
 |k+1=>by
  have h:=rB.st hc hz k;cases hk:zs[k]? with
  |none=>rw[aE3,hk,Option.toList,aW3];exact h.mono (aC5 k)
  |some p=>rw[zg hk];exact h.apply hc (hz p (aC1 hk))
def uR:aM:=⟨2,4,4,2⟩
def at5:dI:=⟨1,10,100,100,5,3⟩
def Rn:ByteArray:=⟨#[97]⟩
def rj:List ak:=[⟨6,Rn,0,0,0,at5⟩,⟨1,Rn,1,250,0,ag9⟩]
def awN:Nat:=ku uR rj+16*o8 rj+6
def Fw:En:=(En.new uR [rj] 1).run (gL 2 ((awN:Int)+1) [])
def zm:Key:=⟨aO Rn,aP Rn⟩
def wu(n:Int):Bool:=decide (-9223372036854775808<=n/\n<=9223372036854775807)
def eH(h:wu n=true):aw n:=by
 have:=of_decide_eq_true h;unfold aw;omega
def at6(p:dI):Bool:=wu p.min&&wu p.max&&wu p.target&&wu p.lz&&wu p.bp&&wu p.hold
def Oy(c:ak):Bool:=decide (c.s.size<=100)&&(wu c.t&&wu c.v&&wu c.h&&wu c.k&&at6 c.p)
def Jw{c:ak}(h:Oy c=true):bM c:=by
 simp only[Oy,at6,aF5,decide_eq_true_eq]at h;obtain⟨h0,⟨⟨⟨h1,h2⟩,h3⟩,h4⟩,⟨⟨⟨⟨⟨p1,p2⟩,p3⟩,p4⟩,p5⟩,p6⟩⟩:=h;exact⟨by unfold maxLen;omega,eH h1,eH h2,eH h3,eH h4,⟨eH p1,eH p2,eH p3,eH p4,eH p5,eH p6⟩⟩
def evB(e:Ev)(s:ByteArray):Bool:=(decide (e.kind≠2)||Oy e.call)&&(decide (e.kind≠6)||(eO s&&decide (e.key=⟨aO s,aP s⟩)&&wu e.ei.aQ))
def al3{e:Ev}{s:ByteArray}(h:evB e s=true):EvG e s:=by
 simp only[evB,aF5,Bool.or_eq_true,decide_eq_true_eq]at h;exact⟨λh2=>Jw (h.1.resolve_left (λhh=>hh h2)),λh6=>(h.2.resolve_left (λhh=>hh h6)).1,λh6=>eH (h.2.resolve_left (λhh=>hh h6)).2⟩
def Ro:Fm->List (Ev×ByteArray)->Bool
 |_,[]=>true
 |m,p::l=>evB p.1 p.2&&(iz m p.1 p.2).1&&Ro (iz m p.1 p.2).2 l
theorem aa8{m:Fm}{l:List (Ev×ByteArray)}(h:Ro m l=true):∀{k:Nat} {p:Ev×ByteArray},l[k]? = some p->EvG p.1 p.2/\(iz (Ju m (l.take k)) p.1 p.2).1=true:=by
 induction l generalizing m with
 |nil=>intro k p hp;simp at hp
 |cons q l ih=>
  simp only[Ro,aF5]at h;intro k p hp;cases k with
  |zero=>simp at hp;subst hp;exact⟨al3 h.1.1,h.1.2⟩
  |succ k=>exact ih h.2 (k:=k) (p:=p) (sH hp)
def Oz:List ByteArray:=Fw.w.evs.map λ_=>Rn
def ae0:Bool:=Fw.rest&&decide (((kU Fw.w.evs zm).map (·.aQ))=some 3)&&Mn (λ_=>Jm) Fw.w.evs&&za (λ_=>none) Fw.w.evs&&Ro (Fm.new uR) (Fw.w.evs.zip Oz)&&decide (Fw.w.evs.length<=1000)
def Jy:ae0=true:=by decide +kernel
theorem WJ:Fw.rest=true/\(∃a,kU Fw.w.evs zm=some a/\a.aQ=3)/\Mn (λ_=>Jm) Fw.w.evs=true/\za (λ_=>none) Fw.w.evs=true/\Ro (Fm.new uR) (Fw.w.evs.zip Oz)=true/\Fw.w.evs.length<=1000:=by
 have h:=Jy;simp only[ae0,aF5,decide_eq_true_eq]at h;obtain⟨⟨⟨⟨⟨h1,h2⟩,h3⟩,h4⟩,h5⟩,h6⟩:=h;refine⟨h1,?_,h3,h4,h5,h6⟩;cases hl:kU Fw.w.evs zm with
 |none=>rw[hl]at h2;cases h2
 |some a=>rw[hl]at h2;injection h2 with h2;exact⟨a,rfl,h2⟩
def Jz:uR.gV:=by decide +kernel
def MF:uR.fit:=⟨eH dC,eH dC,eH dC,eH dC⟩
def JA:∀c∈rj,bM c:=λc hc=>Jw (by
 have h:rj.all Oy=true:=by decide +kernel
 exact aI7.1 h c hc)
def WK:fZ uR [rj] 1:=⟨MF,Jz,dC,dC,dC,λp hp=>by simp at hp;subst hp;exact⟨dC,JA⟩⟩
abbrev poT:TypeId:=43
theorem Rp(w:World):Calls prog 31 #[] w (Rt (.agg #[I6 1,I6 10,I6 100,I6 100,I6 5,I6 3]) (Bl w)):=by
 go_enter func31,ntmps31;go_wp2;exact zU (ai.new w poT _) underlying43 ⟨rfl,gW⟩
structure AwF(es:List Ev)(a:aU):Prop where
 last:kU es zm=some a
 aQ:a.aQ=3
 tr:Mn (λ_=>Jm) es=true
 tl:za (λ_=>none) es=true
 ap:∃ids:List ByteArray,ids.length=es.length/\Ro (Fm.new uR) (es.zip ids)=true
 len:es.length<=1000
def Rq:∃(es:List Ev)(a:aU)(u o:Int),AwF es a/\∀(w:World)(A A2:Option Addr),dK w 11 ak.cells A 1 1 [⟨A2,2,2,rj⟩]->
 Calls prog 9 #[.agg #[I6 2,I6 4,I6 4,I6 2],.slice A 1 1,I6 1,.slice none 0 0] w λe w'=>∃A n c A2 n2 c2,e=.returned (.tuple #[.agg #[.slice A n c,I6 u,I6 o,.slice A2 n2 c2,.bool true],I6 0])/\gS w' A n c es/\Bl w w':=by
 obtain⟨h1,⟨a,h2,h3⟩,h4,h5,h6,h7⟩:=WJ;refine⟨Fw.w.evs,a,Fw.used,Fw.j6,⟨h2,h3,h4,h5,⟨Oz,by unfold Oz;rw[aC8],h6⟩,h7⟩,λw A A2 hr=>?_⟩;have hN:jo uR [⟨A2,2,2,rj⟩] 1=awN:=by
  unfold jo gh kA awN;simp
 have hE:(En.new uR (([⟨A2,2,2,rj⟩]:List (bq ak)).map bq.l) 1).run (gL ((1+1:Nat):Int) ((jo uR [⟨A2,2,2,rj⟩] 1:Nat)+1) [])=Fw:=by
  rw[hN];rfl
 have hw:(gL ((1+1:Nat):Int) ((awN:Nat)+1) []).length<=9000:=by
  rw[ra oM];have h9:awN<=1000:=by decide +kernel
  unfold sr;omega
 have Wa:=VR WK _ hw;have h9:=sS uR A 1 1 [⟨A2,2,2,rj⟩] 1 none 0 0 [] w hr (λr hr x hx=>by simp at hr;subst hr;exact(JA x hx).s) MF Jz rF oM oM (λr hr=>by simp at hr;subst hr;show(2:Nat)<=20;decide) (OI _ _ _) (λx hx=>by cases hx) (hN▸Wa.1) (hN▸Wa.2)
 rw[hE]at h9;refine h9.mono ?_;rintro e w' ⟨A,n,c,A2,n2,c2,rfl,ho,hb⟩;exact⟨A,n,c,A2,n2,c2,by unfold Mh;rw[h1],ho.is (λ_=>rfl),hb⟩
def aa9(W:World):Calls prog 32 #[.string ⟨#[97]⟩] W (Rt (.tuple #[.agg zm.row,I6 0]) (Bl W)):=fT Rn W dC
def Rs(A:Option Addr)(n cap:Nat)(es:List Ev)(a:aU)(w:World)(h:AwF es a)(hs:gS w A n cap es) :
 Calls prog 34 #[.agg #[I6 2,I6 4,I6 4,I6 2],.slice A n cap] w (Rt (.bool true) (Bl w)):=by
 obtain⟨ids,hl,hap⟩:=h.ap;have:n<=1000:=by have h1:=hs.1;have:=h.len;omega
 have hz:=λ(k:Nat)(p:Ev×ByteArray)(hp:(es.zip ids)[k]? = some p)=>aa8 hap hp
 have hg:∀p∈es.zip ids,EvG p.1 p.2:=λp hp=>by
  obtain⟨k,hk⟩:=aD7 hp;exact(hz k p hk).1
 exact EN uR A n cap es ids w hs MF Jz oM (hl▸hs.1)
  (λW hb=>Jn A n cap es W (af hs hb) oM h.tr) (λW hb=>MB A n cap es W (af hs hb) oM h.tl)
  (λk p hk=>⟨⟨(rB.st Jz hg k).room Jz (by
   have h1:=(d9.1 hk).1;rw[List.length_zip]at h1;have:=h.len;omega),(hz k p hk).1.call,(hz k p hk).1.note⟩,(hz k p hk).2⟩)
theorem Ru(w:World):Calls prog 7 #[] w (Rt (.bool true) (Bl w)):=by
 obtain⟨es,a,u,o,hF,hFi⟩:=Rq;have:=hF;have HFi:=hFi;have hrp:=hF.aQ;have HLa:=zh (λA n c W (hs:gS W A n c es)=>by
  have h9:=EO zm A n c es W hs;rw[hF.last]at h9;simp only[aF6,Option.isSome_some]at h9;rw[show cI a=#[I6 a.tick,I6 a.load,I6 a.want,I6 3,I6 a.why]from by rw[<-hrp]]at h9;exact h9)
 have Ee:=(λA n c W (hs:gS W A n c es)=>Rs A n c es a W hF hs);have HPk:=aa9;have Er:(rj.flatMap ak.cells).toArray=#[I6 6,.string ⟨#[97]⟩,I6 0,I6 0,I6 0,I6 1,I6 10,I6 100,I6 100,I6 5,I6 3,I6 1,.string ⟨#[97]⟩,I6 1,I6 250,I6 0,I6 0,I6 0,I6 0,I6 0,I6 0,I6 0]:=rfl;clear hF hFi hrp;generalize zm=K at *;go_enter func7,ntmps7;go_upto_region 3 with(go_at_call 31;refine zM (Rp _) λw1 hb1=>?_)
 have B0:=(ai.new w qw #[I6 2,I6 4,I6 4,I6 2]).call hb1;have E0:=(zW w (.cells #[I6 2,I6 4,I6 4,I6 2] qw)).trans (hb1.mono sI);obtain⟨W2,hW2⟩:=zE ((w1.alloc (.cells #[I6 6,.string ⟨#[97]⟩,I6 0,I6 0,I6 0,I6 1,I6 10,I6 100,I6 100,I6 5,I6 3,I6 1,.string ⟨#[97]⟩,I6 1,I6 250,I6 0,I6 0,I6 0,I6 0,I6 0,I6 0,I6 0] 65)).alloc (.cells #[.slice (some ⟨w1.heap.size,0,none⟩) 2 2] 58));rw[<-hW2];have hr:dK W2 11 ak.cells (some ⟨w1.heap.size+1,0,none⟩) 1 1 [⟨some ⟨w1.heap.size,0,none⟩,2,2,rj⟩]:=by
  rw[hW2,<-Er];refine⟨lS (l:=[(⟨some ⟨w1.heap.size,0,none⟩,2,2,rj⟩:bq ak)]) (λ_=>rfl) (ai.dR w1 _ _ _) rfl (by unfold maxLen;simp),λr hr=>?_⟩;simp at hr;subst hr;exact lS (l:=rj) Qc ((ai.new w1 _ _).alloc _) rfl dC
 have B2:ai W2 w.heap.size qw #[I6 2,I6 4,I6 4,I6 2]:=by rw[hW2];exact(B0.alloc _).alloc _
 have E2:Bl w W2:=by rw[hW2];exact(E0.alloc E0.size _).alloc (aB4 E0.size sI) _
 have HR:=hr;clear hW2 hr B0 E0 hb1 Er;go_upto_region 6 with(first
  |refine zI B2 underlying23 ?_
  |go_at_call 9;refine(HFi _ _ _ HR).mono ?_;rintro e w3 ⟨A3,n3,c3,A4,n4,c4,rfl,S3,hb3⟩;have E3:=zT E2 hb3;have B3:=B2.call hb3;clear hb3
  |go_at_call 32;refine zM (HPk _) λw4 hb4=>?_;have C4:Bl w3 w4:=((Below.refl w3.heap.size w3).alloc lR _).trans (hb4.mono sI);have O4:=(ai.new w3 outT #[.slice A3 n3 c3,I6 u,I6 o,.slice A4 n4 c4,.bool true]).call hb4;have o0:=(O4.alloc (.cells K.row aS)).z 0 (.slice A3 n3 c3);have K5:=ai.new w4 aS K.row;have C5:=C4.alloc C4.size (.cells K.row aS);have O5:=O4.alloc (.cells K.row aS);clear hb4
  |refine zI K5 underlying83 ?_
  |(go_at_call 33;refine zM (HLa _ _ _ _ (af S3 C5)) λw6 dJ=>?_;have C6:=zT C5 dJ;have O6:=O5.call dJ;clear dJ o0))
 obtain⟨W7,Fu⟩:=zE (w6.alloc (.cells #[I6 a.tick,I6 a.load,I6 a.want,I6 3,I6 a.why] 49));rw[<-Fu];have C7:Bl w3 W7:=by rw[Fu];exact C6.alloc C6.size _
 have O7:ai W7 w3.heap.size outT #[.slice A3 n3 c3,I6 u,I6 o,.slice A4 n4 c4,.bool true]:=by rw[Fu];exact O6.alloc _
 have:W7.cell? ⟨w6.heap.size,3,none⟩=some (I6 3):=by rw[Fu];exact(ai.new w6 _ _).ar (i:=3) rfl
 have:=O7.z 0 (.slice A3 n3 c3);have:=O7.z 4 (.bool true);have B7:=B3.call C7;clear Fu;go_wp2_with(first
  |refine dF rF ?_;refine zI B7 underlying23 ?_
  |(go_at_call 34;refine zM (Ee _ _ _ _ (af S3 C7)) λw8 sf=>?_;have E8:=E3.trans ((zT C7 sf).mono E3.size);clear sf))
 go_ret;exact⟨rfl,E8⟩
section
def WL(k:Key):Prop:=∃s:ByteArray,eO s=true/\k=⟨aO s,aP s⟩
structure EvK(e:Ev):Prop where
 call:e.kind=2->bM e.call
 note:e.kind=6->WL e.key
 ei:e.kind=6->aw e.ei.aQ
def ab0{p:dI}{l:List aD}(past:List aU)(h:Uc p l=0):aw (Xn p l past).aQ:=by
 unfold Uc at h
 split at h
 ·cases h
 rename_i hk
 split at h
 ·cases h
 rename_i hl;have hk2:p.xJ:=sH hk
 rw[(Ud (past:=past) hk2 hl).1];have key:∀n,0<=eR p n/\eR p n<=1073741824:=λn=>by
  have:=hk2.1;have:=hk2.2.2.1;have:=hk2.2.2.2.1;unfold eR CT;rw[if_pos hk2]
  split
  ·omega
  ·split<;>omega
 have:=key;have h5:∀n,aw (eR p n):=λn=>by have:=key n;unfold aw;omega
 exact h5 _
structure gX(W W' : Gw):Prop where
 aG:∀k,bj W'.aG k->bj W.aG k\/WL k
 evs:∀e∈W'.evs,e∈W.evs\/EvK e
def gX.refl(W:Gw):gX W W:=⟨λ_ h=>.inl h,λ_ h=>.inl h⟩
def gX.same{W': Gw}(h1:W'.aG=W.aG)(h2:W'.evs=W.evs):gX W W':=⟨λk hk=>.inl (h1 ▸ hk),λe he=>.inl (h2 ▸ he)⟩
def kV(W:Gw)(n:Int)(l:Lk):(W.ed n l).aG=W.aG/\(W.ed n l).evs=W.evs:=by unfold Gw.ed;split<;>exact⟨rfl,rfl⟩
def gX.add(W:Gw)(k:Key):gX W (W.add k):=by unfold Gw.add;split<;>exact gX.same rfl rfl
def JD:bM iU:=by
 refine⟨aB6 _,?_,?_,?_,?_,⟨?_,?_,?_,?_,?_,?_⟩⟩<;>(show aw 0;unfold aw;decide)
def WN(x:Wk):Prop:=(x.does=7\/x.does=8)->aw x.ei.aQ
def JE{x:Wk}(h:WN x):WN (x.step W).2:=by
 unfold Wk.step
 split
 ·have h2:WN {x with wants:=-1,asleep:=false}:=h
  generalize({x with wants:=-1,asleep:=false} : Wk)=y at *;unfold Wk.act
  split
  ·exact λhh=>absurd hh (by show ¬((1:Nat)=7\/(1:Nat)=8);decide)
  ·unfold Wk.next
   simp only
   split
   ·exact λhh=>absurd hh (by show ¬((2:Nat)=7\/(2:Nat)=8);decide)
   split
   ·exact λhh=>absurd hh (by show ¬((12:Nat)=7\/(12:Nat)=8);decide)
   ·exact λhh=>absurd hh (by show ¬((1:Nat)=7\/(1:Nat)=8);decide)
  ·exact λhh=>absurd hh (by show ¬((3:Nat)=7\/(3:Nat)=8);decide)
  ·exact λhh=>absurd hh (by show ¬((4:Nat)=7\/(4:Nat)=8);decide)
  ·exact λhh=>absurd hh (by show ¬((5:Nat)=7\/(5:Nat)=8);decide)
  ·exact λhh=>absurd hh (by show ¬((6:Nat)=7\/(6:Nat)=8);decide)
  ·unfold Wk.reckon
   split
   ·rename_i hr
    exact λ_=>ab0 _ hr.2
   ·exact λhh=>absurd hh (by show ¬((10:Nat)=7\/(10:Nat)=8);decide)
  ·rename_i h7
   exact λ_=>h2 (.inl h7)
  ·exact λhh=>absurd hh (by show ¬((9:Nat)=7\/(9:Nat)=8);decide)
  ·exact λhh=>absurd hh (by show ¬((10:Nat)=7\/(10:Nat)=8);decide)
  ·exact λhh=>absurd hh (by show ¬((11:Nat)=7\/(11:Nat)=8);decide)
  ·exact λhh=>absurd hh (by show ¬((14:Nat)=7\/(14:Nat)=8);decide)
  ·exact λhh=>absurd hh (by show ¬((13:Nat)=7\/(13:Nat)=8);decide)
  ·exact λhh=>absurd hh (by show ¬((0:Nat)=7\/(0:Nat)=8);decide)
 ·exact h
structure OB(E:En):Prop where
 aG:∀k,bj E.w.aG k->WL k
 evs:∀e∈E.w.evs,EvK e
 wk:∀x∈E.pT,WN x
section
variable{cf:aM}{ps:List (List ak)}{n:Nat}{E:En}
def OB.new:OB (En.new cf ps n):=by
 refine⟨λk hk=>?_,λe he=>(by unfold En.new Gw.new at he;cases he),λx hx=>?_⟩
 rotate_left
 ·unfold En.new at hx
  simp only[aF2]at hx;obtain⟨i,-,rfl⟩:=hx;exact λhh=>absurd hh (by show ¬((0:Nat)=7\/(0:Nat)=8);decide)
 unfold bj at hk;unfold En.new Gw.new aL.new aL.str at hk;simp only[aB7]at hk;rw[List.getElem?_replicate]at hk
 split at hk<;>cases hk
end
end
section
open Go.ChangeShapes Go.WideShapes Go.ChangeAt Go.RowKit
def al4:∀vs:List Value,lQ [.int .i64,.str,.int .i64,.int .i64,.int .i64,.int .i64,.int .i64,.int .i64,.int .i64,.int .i64,.int .i64] vs->∃x:ak,x.cells=vs/\bM x:=by
 rintro _ ⟨_,_,rfl,⟨k,rfl,wk⟩,_,_,rfl,⟨s,rfl,hs⟩,_,_,rfl,⟨t,rfl,wt⟩,_,_,rfl,⟨v,rfl,wv⟩,_,_,rfl,⟨h,rfl,wh⟩,_,_,rfl,⟨p0,rfl,w0⟩,_,_,rfl,⟨p1,rfl,w1⟩,_,_,rfl,⟨p2,rfl,w2⟩,_,_,rfl,⟨p3,rfl,w3⟩,_,_,rfl,⟨p4,rfl,w4⟩,_,_,rfl,⟨p5,rfl,w5⟩,h0⟩;cases h0;exact⟨⟨k,s,t,v,h,⟨p0,p1,p2,p3,p4,p5⟩⟩,rfl,hs,dw wt,dw wv,dw wh,dw wk,dw w0,dw w1,dw w2,dw w3,dw w4,dw w5⟩
section
variable{cf:aM}{A:Option Addr}{len cap:Nat}{rows:List (bq ak)}{wk:Nat}{rA:Option Addr}{rn rc:Nat}{raw:List Int}{w:World}
end
end
end Go.Proofs.YtjgmjohiehbgaaaGreat
