/- Part 11. -/
import Derived.Test.YtjgmjohiehbgaaaGreatQ6
import Derived.Test.YtjgmjohiehbgaaaGreatQ10
namespace Go.Proofs.YtjgmjohiehbgaaaGreat
open Go.RowKit Go.Proofs.Tryz
set_option maxHeartbeats 20000000
set_option maxRecDepth 100000
set_option linter.all false
variable{F S:Nat->Prop}{T:Tag->Prop}{a:Act}{b g i j m n:Nat}{c c':bh}{cf:aM}{f:Key->Option Value}{fr:Bool}{k:Key}{ks:List Key}{l:List (Key×Ld)}{p:Option Addr}{s:bF}{w w' wr:World}{x y:Ld}{α:Type}
structure kO where
 err:Int
 bV:Int
 RX:Int
 stat:Stat
 ei:aU
deriving DecidableEq
abbrev kO.row(r:kO):Array Value:=#[I6 r.err,I6 r.bV,I6 r.RX,I6 r.stat.count,I6 r.stat.sum,I6 r.stat.least,I6 r.stat.most,I6 r.stat.qV,I6 r.ei.tick,I6 r.ei.load,I6 r.ei.want,I6 r.ei.aQ,I6 r.ei.why]
def mh:Stat:=⟨0,0,0,0,0⟩
def eo:kO:=⟨0,0,0,mh,eU⟩
def cK(e:Int):kO:=⟨e,0,0,mh,eU⟩
structure ug where
 bV:Int
 dG:List (Key×Ld)
structure aL where
 cfg:aM
 strs:List bF
 cuts:List (Option ug)
 bV:Int
 over:Bool
def bF.j8(t:Int)(a:bF×Int)(k:Key):bF×Int:=match aJ a.1.loads k with
 |some x=>if iJ x t > 0 then(a.1.put k (nB x t),a.2+iJ x t)else a
 |none=>a
def bF.j9(s:bF)(t:Int)(ks:List Key):bF×Int:=ks.foldl (bF.j8 t) (s,0)
def bF.trim(s:bF)(t:Int):bF:=(s.j9 t (eW s.keys)).1
def bF.dG(s:bF):List (Key×Ld):=(eW s.keys).filterMap λk=>(aJ s.loads k).map λx=>(k,x)
def pS(x y:Key×Ld):Bool:=!xD y.1 x.1
def vr(l:List (Key×Ld)):List (Key×Ld):=bL pS l
def aL.new(c:aM):aL:=⟨c,List.replicate c.str.toNat ⟨c,[],0⟩,[],0,false⟩
def aL.home(s:aL)(k:Key):Nat:=(Fe k.hi k.lo (s.strs.length:Int)).toNat
def aL.et(s:aL)(i:Nat)(x:bF):aL:={s with strs:=s.strs.set i x}
def ao7:bF:=⟨⟨0,0,0,0⟩,[],0⟩
def aL.str(s:aL)(i:Nat):bF:=s.strs.getD i ao7
def aL.live(s:aL):Nat:=(s.cuts.filter Option.isSome).length
def aL.dG(s:aL):List (Key×Ld):=vr (s.strs.flatMap bF.dG)
def aL.snap(s:aL):kO×aL:=
 if 64<=s.live then(cK 6,s)
 else({eo with bV:=s.bV+1,RX:=s.cuts.length+1},{s with bV:=s.bV+1,cuts:=s.cuts++[some ⟨s.bV+1,s.dG⟩]})
def aL.dH(s:aL)(n:Int):Int:=if n<1\/(s.cuts.length:Int)<n then 5 else match s.cuts.getD (n-1).toNat none with|none=>8|some _=>0
def aL.cut(s:aL)(n:Int):ug:=(s.cuts.getD (n-1).toNat none).getD ⟨0,[]⟩
def aL.free(s:aL)(n:Int):kO×aL:=if s.dH n=0 then(eo,{s with cuts:=s.cuts.set (n-1).toNat none})else(cK (s.dH n),s)
def aL.look(s:aL)(n:Int)(k:Key)(to width:Int):kO:=
 if s.dH n≠0 then cK (s.dH n)else match aJ (s.cut n).dG k with
 |none=>cK 5
 |some x=>{eo with bV:=(s.cut n).bV,stat:=iR (iQ x.cL (iT to width) to)}
def yh(l:List aU):kO:=match l.getLast? with|none=>eo|some a=>{eo with ei:=a}
def aL.last(s:aL)(k:Key):kO:=match aJ (s.str (s.home k)).loads k with
 |none=>cK 5
 |some x=>yh x.past
def aL.shut(s:aL):Int×aL:=if s.over then(9,s)else(0,{s with over:=true})
def aL.put(s:aL)(i:Nat)(r:Int×bF):kO×aL:=(cK r.1,s.et i r.2)
def ak.key(c:ak):Key:=⟨aO c.s,aP c.s⟩
def ak.err(c:ak):Int:=bJ c.k c.s c.t c.v c.p
def aL.do(s:aL)(c:ak):kO×aL:=
 if c.err≠0 then(cK c.err,s)
 else if c.k=1 then s.put (s.home c.key) ((s.str (s.home c.key)).eD c.key c.t c.v)
 else if c.k=2 then(eo,{s with strs:=s.strs.map λx=>x.trim c.t})
 else if c.k=3 then s.snap
 else if c.k=4 then s.free c.h
 else if c.k=5 then(s.look c.h c.key c.t c.v,s)
 else if c.k=6 then s.put (s.home c.key) ((s.str (s.home c.key)).set c.key c.p)
 else if c.k=7 then(s.last c.key,s)
 else(cK s.shut.1,s.shut.2)
structure Ev where
 kind:Int
 task:Int
 nth:Int
 call:ak
 rep:kO
 key:Key
 ei:aU
def ag9:dI:=⟨0,0,0,0,0,0⟩
def iU:ak:=⟨0,ByteArray.empty,0,0,0,ag9⟩
structure Gw where
 aG:aL
 ay:List Lk
 mo:Mo
 wq:Wq
 evs:List Ev
def lk0:Lk:=⟨0#32,0#32,[]⟩
def Gw.new(c:aM):Gw:=⟨aL.new c,List.replicate (c.str+1).toNat lk0,⟨lk0,[]⟩,⟨⟨[],[]⟩,[],[],false⟩,[]⟩
def Gw.lock(w:Gw)(n:Int):Option Lk:=if n<0\/(w.ay.length:Int)<n then none else if n=w.ay.length then some w.mo.lk else w.ay[n.toNat]?
def Gw.ed(w:Gw)(n:Int)(l:Lk):Gw:=if n=w.ay.length then {w with mo:={w.mo with lk:=l}} else {w with ay:=w.ay.set n.toNat l}
def Gw.held(w:Gw)(n t:Int):Int:=match w.lock n with|none=>0|some l=>dh l t
def Gw.ask(w:Gw)(n t:Int)(wr:Bool):Bool×Gw:=match w.lock n with|none=>(false,w)|some l=>((oK l t wr).1.1,w.ed n (oK l t wr).2)
def Gw.drop(w:Gw)(n t:Int):Gw:=match w.lock n with|none=>w|some l=>w.ed n (mb l t).2
def Gw.add(w:Gw)(k:Key):Gw:=if(Ax w.wq k).1 then {w with wq:=(Ax w.wq k).2,mo:=iP w.mo} else {w with wq:=(Ax w.wq k).2}
def Gw.give(w:Gw)(k:Key):Gw:=if(oG w.wq k).1.1 then {w with wq:=(oG w.wq k).2,mo:=iP w.mo} else {w with wq:=(oG w.wq k).2}
def Gw.note(w:Gw)(e:Ev):Gw:={w with evs:=w.evs++[e]}
def Gw.shut(w:Gw):kO×Gw:=if w.aG.over then(cK 9,w)else(eo,{w with aG:={w.aG with over:=true},wq:={w.wq with over:=true},mo:=j5 w.mo})
def Gw.do(w:Gw)(c:ak):kO×Gw:=if c.k=8 then w.shut else((w.aG.do c).1,{w with aG:=(w.aG.do c).2})
structure Cl where
 prog:List ak
 ops:List iM
 task:Int
 nth:Nat
 at_:Nat
 wants:Int
 rep:kO
def Cl.new(t:Int)(p:List ak):Cl:=⟨p,[],t,0,0,-1,eo⟩
def Cl.over(c:Cl):Bool:=decide (c.prog.length<=c.nth)
def Cl.ready(w:Gw)(c:Cl):Bool:=!c.over&&(decide (c.wants<0)||decide (w.held c.wants c.task≠0))
def Cl.call(c:Cl):ak:=c.prog.getD c.nth iU
def Cl.ev(c:Cl)(kind:Int):Ev:=⟨kind,c.task,c.nth,if kind=3 then iU else c.call,if kind=1 then eo else c.rep,nO,eU⟩
def vt:iM:=⟨7,0⟩
def Cl.op(c:Cl):iM:=c.ops.getD c.at_ vt
def vu(ops:List iM)(line:Int):Nat->Nat->Nat
 |0,a=>a
 |f+1,a=>if(ops.getD (a+1) vt).lock=line then vu ops line f (a+3)else a
def Cl.begin(w:Gw)(c:Cl):Gw×Cl:=
 let c1:={c with rep:=cK c.call.err}
 let w1:=w.note (c1.ev 1)
 (if c1.rep.err≠0 then w1.note (c1.ev 2)else w1,c1)
def ez(w:Gw):Int:=w.aG.cfg.str+1
def Cl.act(w:Gw)(c:Cl):Gw×Cl:=
 let o:=c.op
 if o.kind=1 then c.begin w
 else if o.kind=2\/o.kind=3 then
  let r:=w.ask o.lock c.task (decide (o.kind=3))
  (r.2,if r.1 then c else {c with wants:=o.lock})
 else if o.kind=4 then
  let r:=w.do c.call
  let c1:={c with rep:=r.1}
  (r.2.note (c1.ev 2),c1)
 else if o.kind=5 then
  (w.drop o.lock c.task,if o.lock<w.aG.cfg.str/\c.rep.err≠0 then {c with at_:=vu c.ops (ez w) c.ops.length c.at_} else c)
 else if o.kind=6 then(w.add c.call.key,c)
 else(w.note (c.ev 3),{c with nth:=c.nth+1,ops:=[]})
def Cl.step(w:Gw)(c:Cl):Gw×Cl:=
 if c.ready w then
  let c1:=if c.ops=[]then {c with ops:=cN w.aG.cfg c.call.k c.call.s c.call.t c.call.v c.call.p,at_:=0,wants:=-1} else {c with wants:=-1}
  let r:=c1.act w
  (r.1,{r.2 with at_:=if r.2.ops=[]then 0 else r.2.at_+1})
 else(w,c)
structure Wk where
 task:Int
 does:Nat
 wants:Int
 asleep:Bool
 key:Key
 gA:Ld
 ei:aU
 done:Nat
def Wk.new(t:Int):Wk:=⟨t,0,-1,false,nO,Ff,eU,0⟩
def Wk.over(x:Wk):Bool:=decide (x.does=13)
def Wk.ready(w:Gw)(x:Wk):Bool:=
 if x.over then false else if x.asleep then decide (w.held (ez w) x.task≠0)else decide (x.wants<0)||decide (w.held x.wants x.task≠0)
def Wk.ev(x:Wk)(kind:Int):Ev:=⟨kind,x.task,0,iU,eo,x.key,if kind=6 then x.ei else eU⟩
def Wk.home(w:Gw)(x:Wk):Int:=Fe x.key.hi x.key.lo (w.aG.strs.length:Int)
def Wk.ask(w:Gw)(x:Wk)(lock:Int)(wr:Bool)(next:Nat):Gw×Wk:=
 let r:=w.ask lock x.task wr
 (r.2,{x with does:=next,wants:=if r.1 then x.wants else lock})
def Wk.drop(w:Gw)(x:Wk)(lock:Int)(next:Nat):Gw×Wk:=(w.drop lock x.task,{x with does:=next})
def Wk.next(w:Gw)(x:Wk):Gw×Wk:=
 let r:=gG w.wq
 let w1:={w with wq:=r.2}
 if r.1.2 then
  let x1:={x with key:=r.1.1,does:=2}
  (w1.note (x1.ev 4),x1)
 else if w1.wq.over&&decide (w1.wq.fi.all=[])then(w1,{x with does:=12})
 else({w1 with mo:=lK w1.mo x.task},{x with asleep:=true,does:=1})
def Wk.reckon(x:Wk):Wk:=if x.gA.ruled=true/\Uc x.gA.cM x.gA.cL=0 then {x with ei:=Xn x.gA.cM x.gA.cL x.gA.past,does:=7} else {x with does:=10}
def Wk.see(w:Gw)(x:Wk):Gw×Wk:=
 let i:=w.aG.home x.key
 (w.note (x.ev 5),{x with gA:=(aJ (w.aG.str i).loads x.key).getD Ff,does:=5})
def Wk.note(w:Gw)(x:Wk):Gw×Wk:=
 let i:=w.aG.home x.key
 let w1:={w with aG:=w.aG.et i ((w.aG.str i).note x.key x.ei).2}
 (w1.note (x.ev 6),{x with does:=9})
def Wk.give(w:Gw)(x:Wk):Gw×Wk:=((w.note (x.ev 7)).give x.key,{x with done:=x.done+1,does:=14})
def Wk.act(w:Gw)(x:Wk):Gw×Wk:=
 match x.does with
 |0=>x.ask w (ez w) true 1
 |1=>x.next w
 |2=>x.drop w (ez w) 3
 |3=>x.ask w (x.home w) false 4
 |4=>x.see w
 |5=>x.drop w (x.home w) 6
 |6=>(w,x.reckon)
 |7=>x.ask w (x.home w) true 8
 |8=>x.note w
 |9=>x.drop w (x.home w) 10
 |10=>x.ask w (ez w) true 11
 |11=>x.give w
 |12=>x.drop w (ez w) 13
 |_=>x.drop w (ez w) 0
def Wk.step(w:Gw)(x:Wk):Gw×Wk:=if x.ready w then {x with wants:=-1,asleep:=false}.act w else(w,x)
structure En where
 w:Gw
 cls:List Cl
 pT:List Wk
 used:Nat
def En.new(c:aM)(ps:List (List ak))(n:Nat):En:=
 ⟨Gw.new c,ps.mapIdx λ(i:Nat) p=>Cl.new i p,(List.range n).map λ(i:Nat)=>Wk.new (ps.length+i:Nat),0⟩
def En.size(e:En):Nat:=e.cls.length+e.pT.length
def En.can(e:En)(i:Nat):Bool:=match e.cls[i]? with
 |some c=>!c.over&&c.ready e.w
 |none=>match e.pT[i-e.cls.length]? with
  |some x=>!x.over&&x.ready e.w
  |none=>false
def En.next(e:En)(p:Int):Option Nat:=((List.range e.size).map λ(i:Nat)=>((cO p e.size).toNat+i) % e.size).find? λi=>e.can i
def En.fW(e:En)(i:Nat):En:=match e.cls[i]? with
 |some c=>{e with w:=(c.step e.w).1,cls:=e.cls.set i (c.step e.w).2,used:=e.used+1}
 |none=>match e.pT[i-e.cls.length]? with
  |some x=>{e with w:=(x.step e.w).1,pT:=e.pT.set (i-e.cls.length) (x.step e.w).2,used:=e.used+1}
  |none=>e
def En.step(e:En)(p:Int):Option En:=(e.next p).map e.fW
def En.run(e:En):List Int->En
 |[]=>e
 |p::l=>match e.step p with|none=>e|some e'=>e'.run l
def En.j6(e:En):Nat:=(e.cls.filter λc=>!c.over).length
def En.rest(e:En):Bool:=(e.next 0).isNone
section
open Go.RowKit Go.Maps
def Hw{β:Type}(l:List (Key×β))(k:Key)(x:β):(rX l k x).length<=l.length+1:=by
 unfold rX;split<;>simp
def fL.put(h:fL s n)(k:Key)(hx:lD s.cfg x (n+1)):fL (s.put k x) (n+1):=by
 refine⟨h.fit,h.py,?_,?_,?_,λk' y hy=>?_⟩
 ·show 0<=s.fK+1;have:=h.v0;omega
 ·show s.fK+1<=((n+1:Nat):Int);have:=h.v1;omega
 ·show(rX s.loads k x).length<=n+1;have:=Hw s.loads k x;have:=h.len;omega
 ·change aJ (rX s.loads k x) k' = some y at hy
  rw[lZ]at hy
  by_cases e:k' = k
  ·rw[if_pos e]at hy;injection hy with hy;subst hy;exact hx
  ·rw[if_neg e]at hy;exact(h.wH k' y hy).mono (aC5 n)
def fL.mono(h:fL s n)(hm:n<=m):fL s m:=⟨h.fit,h.py,h.v0,oH h.v1,oH h.len,λk x hx=>(h.wH k x hx).mono hm⟩
def oP(h:aJ s.loads k=some x):(s.put k y).keys=s.keys:=by
 have hm:k∈s.keys:=Classical.byContradiction λhn=>by rw[jV.2 hn]at h;cases h
 show(rX s.loads k y).map Prod.fst=_
 rw[lY];unfold cE;rw[if_pos hm]
def Qd{c:aM}(hc:c.gV)(h:lD c x n)(t:Int):lD c (nB x t) (n+1):=
 h.next hc ⟨1,t,0,⟨0,0,0,0,0,0⟩,⟨0,0,0,0,0⟩⟩
theorem yi(t:Int)(a:bF×Int)(k:Key):(bF.j8 t a k).1.keys=a.1.keys/\(bF.j8 t a k).1.cfg=a.1.cfg:=by
 unfold bF.j8;cases h:aJ a.1.loads k with
 |none=>exact⟨rfl,rfl⟩
 |some x=>
  simp only
  split
  ·exact⟨oP h,rfl⟩
  ·exact⟨rfl,rfl⟩
theorem Hy{t:Int}{a:bF×Int}(h:fL a.1 n)(k:Key):fL (bF.j8 t a k).1 (n+1):=by
 unfold bF.j8;cases hx:aJ a.1.loads k with
 |none=>exact h.mono (aC5 n)
 |some x=>
  simp only
  split
  ·exact h.put k (Qd h.py (h.wH k x hx) t)
  ·exact h.mono (aC5 n)
theorem kg(s:bF)(t:Int)(ks:List Key):(s.j9 t ks).1.keys=s.keys/\(s.j9 t ks).1.cfg=s.cfg:=by
 unfold bF.j9
 suffices h:∀a:bF×Int,(ks.foldl (bF.j8 t) a).1.keys=a.1.keys/\(ks.foldl (bF.j8 t) a).1.cfg=a.1.cfg from h (s,0)
 induction ks with
 |nil=>exact λa=>⟨rfl,rfl⟩
 |cons k ks ih=>
  intro a;obtain⟨h1,h2⟩:=ih (bF.j8 t a k);obtain⟨h3,h4⟩:=yi t a k;exact⟨h1.trans h3,h2.trans h4⟩
theorem Uk(h:fL s n)(t:Int)(ks:List Key):fL (s.j9 t ks).1 (n+ks.length):=by
 unfold bF.j9
 suffices hh:∀(m:Nat)(a:bF×Int),fL a.1 m->fL (ks.foldl (bF.j8 t) a).1 (m+ks.length)from hh n (s,0) h
 induction ks with
 |nil=>exact λm a h=>h
 |cons k ks ih=>
  intro m a h;have:=ih (m+1) _ (Hy (t:=t) h k);rw[aC4,show m+(ks.length+1)=m+1+ks.length by omega];exact this
def Le(s:bF)(t:Int){k:Nat}{x:Key}(h:ks[k]? = some x):s.j9 t (ks.take (k+1))=bF.j8 t (s.j9 t (ks.take k)) x:=by
 unfold bF.j9;rw[aE3,h,aU5]
 rfl
def Lf{t:Int}(h:¬iJ x t > 0):nB x t=x:=by
 have:(bT x.cL t).length<=x.cL.length:=by unfold bT;exact aE7 _ _
 unfold iJ at h;exact if_pos oM
def bP.upd{P:Program}{k:TypeId}{E:mK P k α}{f:α->Option Value}{ks:List α}(h:bP E w b f ks)(hu:ah S w w')(hn:¬S b):bP E w' b f ks:=h.block (hu.block b h.lt hn)
def Ct{x:Key}: x∈eW ks↔x∈ks:=(fg ks).mem_iff
theorem vv(h:k∈s.keys): ∃x,aJ s.loads k=some x:=by
 cases hx:aJ s.loads k with
 |none=>exact absurd h (jV.1 hx)
 |some x=>exact⟨x,rfl⟩
def Pu.still{p': Option Addr}(h:Pu p F cf x fr y w p' w')(e:y=x):Bl w w':=by
 rcases h with⟨F',-,-,h3⟩|⟨-,-,-,h4⟩
 ·rw[e]at h3;omega
 ·exact h4
end
section
open Go.RowKit Go.Maps
structure TrI(w wr:World)(c cr:bh)(i g:Nat)(s:bF)(A:Option Addr)(n cc:Nat)(l:List Key):Prop where
 st:dN wr cr i g s
 step:ae (jx i) w wr c cr
 ks:aK wr w.heap.size aS 2 Key.cells (.slice A n cc) l
 no:∀k,(Value.slice A n cc).ownBlock=some k->cr k=none
def TrI.next{cr: bh}{s': bF}{A:Option Addr}{cc:Nat}{l:List Key}(h:TrI w wr c cr i g s A n cc l)(hs:ae (jx i) wr w' cr c')(h' : dN w' c' i g s'):TrI w w' c c' i g s' A n cc l:=by
 have hno:∀k,(Value.slice A n cc).ownBlock=some k->∀t,cr k=some t->¬jx i t:=λk hk t e=>by rw[h.no k hk]at e;cases e
 exact⟨h',h.step.trans hs (bS i),h.ks.upd hs.upd (λk hk ⟨t,e,ht⟩=>hno k hk t e ht),λk hk=>(hs.old k (h.ks.lt k hk).2 (hno k hk)).trans (h.no k hk)⟩
theorem Hz(t:Int)(w:World)(h:dN w c i g s)(hc:∀k,w.heap.size<=k->c k=none)(ho:fL s n)(hn:n<=40000):
 Calls prog 70 #[pt g,I6 t] w λe w'=>∃c' z,e=.returned (I6 z)/\dN w' c' i g (s.trim t)/\ae (jx i) w w' c c':=by
 have HS:=zD h;obtain⟨b0,f0,h0⟩:=h;have hlen:=ho.len;have HK:=zD (vh w h0 (by unfold bF.keys;rw[aC8];omega));have HC:=zD hc;have HO:=zD ho;have tB:=zD hn;have:=zD h0.good;obtain⟨ks,wB⟩:=zE (eW s.keys);have HE:=zD (show s.trim t=(s.j9 t ks).1 from by rw[wB];rfl);have HM:=zD (show ∀x∈ks,x∈s.keys from λx hx=>by rw[wB]at hx;exact Ct.1 hx);have qf:=zD (show ks.length<=n from by rw[wB,(fg _).length_eq];unfold bF.keys;rw[aC8];exact hlen);rw[HE.out];rw[<-wB]at HK;clear h0 hc ho hn hlen wB;go_enter func70,ntmps70;go_wp2_with(go_at_call 82;refine HK.out.mono ?_;rintro e w1 ⟨A,m,cc,rfl,hko,hb⟩;have K1:=zD hko;have B1:=zD hb;clear hko hb);obtain⟨A',m',cc',hv,hm,-⟩:=K1.out.shape cW;injection hv with e1 e2 e3
 subst e1;subst e2;subst e3;have HMl:=zD hm;have:m<=100000:=by have:=qf.out;have:=tB.out;omega
 clear hm;have H1:=zD (show TrI w w1 c c i g (s.j9 t (ks.take 0)).1 A m cc ks from⟨HS.out.call B1.out,ae.aa (jx i) c HC.out B1.out,K1.out,λk hk=>HC.out k (K1.out.lt k hk).1⟩);clear HS K1 B1 HK;go_loopw[13,5] (λv nT wr=>∃(k:Nat)(z:Int)(cr:bh),k<=m/\v = I6 k/\nT = I6 z/\TrI w wr c cr i g (s.j9 t (ks.take k)).1 A m cc ks) (λv _ _=>m-(intOf v).toNat)
 case atStart=>exact⟨0,0,c,aB6 _,rfl,rfl,H1.out⟩
 case round=>
  obtain⟨k,z,cr,hk,rfl,rfl,hin⟩:=hrel;have HI:=zD hin;clear hin
  by_cases hlt:k<m
  ·obtain⟨_,_,_,hv2,-,gU⟩:=HI.out.ks.shape cW
   injection hv2 with e1 e2 e3
   subst e1;subst e2;subst e3;obtain⟨bk,off,x,rfl,hx,hb,t0,t1⟩:=gF.at_ gU hlt;have:(k:Int)<(m:Int):=oM
   have:=zD hx;obtain⟨st,hst⟩:=zE ((s.j9 t (ks.take k)).1);obtain⟨z0,hz0⟩:=zE ((s.j9 t (ks.take k)).2);have hkm:=aC1 hx;have ah0:st.keys=s.keys:=by rw[hst];exact(kg s t _).1
   have ax1:st.cfg=s.cfg:=by rw[hst];exact(kg s t _).2
   have kh:=zD (show fL st (n+n)from by rw[hst];exact(Uk HO.out t (ks.take k)).mono (by have:=qf.out;have h2:(ks.take k).length<=ks.length:=(by rw[aC3];omega);omega));obtain⟨y,hy⟩:=vv (s:=st) (k:=x) (by rw[ah0];exact HM.out x hkm);have fG:=zD (show(s.j9 t (ks.take (k+1))).1=(if iJ y t > 0 then st.put x (nB y t)else st)from by
    rw[Le s t hx];unfold bF.j8;rw[<-hst,hy];simp only;split<;>simp[*])
   have Xq:=zD HI.out.st;rw[<-hst]at Xq;obtain⟨b,f,hs0⟩:=Xq.out;have HKg:=zD (hs0.good x (by rw[ah0];exact HM.out x hkm));obtain⟨p,F,fr,e1,e2,e3⟩:=hs0.wH x y (λe=>e) hy;have Xo:=zD e1;have N0:=zD (e2.call (zW wr (.cells x.row aS)));have F0:=zD e3;have Z0:=zD (hs0.call (zW wr (.cells x.row aS)));have BX:=zD (ai.new wr aS x.row);have HF:=HI.out.step.fresh;have CX:=zD (ae.aa (jx i) cr HF (zW wr (.cells x.row aS)));have NX:=zD (show cr wr.heap.size=none from HF _ lR);have NG:=zD (show ¬F g/\¬F b from⟨λh=>by have h1:=e3 g h;rw[hs0.cg]at h1;cases fr<;>(injection h1 with h1;cases h1),λh=>by have h1:=e3 b h;rw[hs0.cb]at h1;cases fr<;>(injection h1 with h1;cases h1)⟩)
   have HV:=zD (show 0<=y.fK/\y.fK<=100000 from⟨(kh.out.wH x y hy).v0,by have h1:=(kh.out.wH x y hy).v1;have h2:=tB.out;omega⟩);have HSr:=zD (kh.out.wH x y hy).RP;have:=zD hy;clear hx hst hz0 hkm ah0 ax1 hy Xq hs0 e1 e2 e3 HF gU;go_upto_region 5 with fail
   clear t0 t1;obtain⟨gx,hgx⟩:=zE wr.heap.size;obtain⟨W1,hW1⟩:=zE (wr.alloc (.cells x.row aS));rw[<-hW1]at N0 Z0 BX CX |-;rw[<-hgx]at BX NX |-;have:=zD hgx;clear hgx hW1;refine zr (λ_=>false) (λwS=>ah (F) W1 wS) ?_;have S0:=(ah.refl (F) W1).drew;refine zk 8 [0,1,2,3,4] [_,_,_,.map (some b),_] (.q zX<|.q zX<|.q zX<|.q (zS λ_ h=>(Z0.out.blk.upd h NG.out.1).z 0 (.map (some b)))<|.c rfl rfl (zl λ_ hW1=>zb (BX.out.upd hW1 (λh=>by have h1:=F0.out gx h;rw[NX.out]at h1;cases h1)) underlying83) .nil) S0 ?_;refine zq 7 [6] [_] S0 ?_;refine zQ 5 ?_;go_wp2_with(refine ik ll _ rfl _ _ zx rfl 158 fu _ (mP _) b f st.keys rfl (Z0.out.map.upd (S0) NG.out.2) x rfl HKg.out ?_;simp only[Xo.out,aF6]);refine .i S0 ?_;refine zQ 7 ?_;go_wp2_with(go_at_call 139;refine(Pv p F st.cfg y fr t _ (N0.out.call (below_drewN bR 1)) HSr.out HV.out).mono ?_;rintro e w4 ⟨p4,rfl,hr⟩;obtain⟨F4,fr4,c4,k1,k2,k3⟩:=hr.GC F0.out (λj hj=>CX.out.fresh j hj);have P4:=zD k1;have F4':=zD k2;have T4:=zD (k3.mono (T2:=jx i) (λt e=>.inr ⟨x,e⟩));have Z4:=zD ((Z0.out.call (below_drewN bR 1)).step (ex':=λj=>j=x) k3 (λe=>by cases e) (λe=>by cases e) (λj e=>by injection e) (λ_ e=>e.elim));have R4:=zD hr;have U4:=zD (show ah F W1.drew w4 from by {rcases hr with⟨F7,h1,h2,h3⟩|⟨h1,h2,h3,h4⟩;exact h2.1;exact ah.aa h4});clear hr k1 k2 k3);refine .i (S0.trans U4.out iL) ?_;have S4:=S0.trans U4.out iL;refine zq 0 [8,9,10,11,12] [.tuple #[.pointer p4,I6 (iJ y t)],.pointer p4,I6 (iJ y t),.pointer p4,I6 (iJ y t)] S4 ?_;refine zd ?_;clear S0 S4;have CX1:=zD (CX.out.trans (ae.aa (jx i) cr CX.out.fresh (below_drewN bR 1)) (bS i))
   by_cases hg:iJ y t > 0
   ·have ax2:=zD (fG.out.trans (if_pos hg))
    have:=hg;have tC:=(BX.out.call (below_drewN bR 1)).upd T4.out.upd (λh=>by obtain⟨t,e,_⟩:=h;rw[NX.out]at e;cases e);have:=tC.z 0 (V6 x.hi);have:=tC.z 1 (V6 x.lo);clear tC;go_wp2_with(first
     |(go_at_call 138;refine(kN x p4 F4 (nB y t) fr4 _ Z4.out HKg.out P4.out F4'.out T4.out.fresh ⟨kh.out.v0,(by have:=kh.out.v1;have:=tB.out;omega)⟩ (by have:=kh.out.len;have:=tB.out;unfold bF.keys;rw[aC8];omega)).mono ?_;rintro e w5 ⟨rfl,ks5,kt⟩;have Z5:=zD ks5;have T5:=zD kt;clear ks5 kt))
    go_roundw
    case rel=>exact⟨k+1,_,c4,oM,by go_num,rfl,by rw[ax2.out];exact HI.out.next (((CX1.out.trans T4.out (bS i)).trans T5.out (bS i))) ⟨b,_,Z5.out⟩⟩
    case measure=>simp[intOf];omega
   ·have ax2:=zD (fG.out.trans (if_neg hg))
    have B4:=zD (R4.out.still (Lf hg));go_wp2;go_roundw
    case rel=>exact⟨k+1,_,cr,oM,by go_num,rfl,by rw[ax2.out];exact HI.out.next ((CX1.out.trans (ae.aa (jx i) cr CX1.out.fresh B4.out) (bS i))) ⟨b,f,(Z0.out.call (below_drewN bR 1)).call B4.out⟩⟩
    case measure=>simp[intOf];omega
  ·have hE:ks.take k=ks:=aB5 (by have:=HMl.out;omega)
   rw[hE]at HI;clear hE;go_wp2;go_ret;exact⟨cr,_,rfl,HI.out.st,HI.out.step⟩
end
section
open Go.RowKit Go.Maps
def AU{t:TypeId}{cs:Array Value}{v:Value}(h:ai w g t cs)(hv:cs[i]? = some v):Bl w (w.setCell ⟨g,i,none⟩ v):=by
 refine⟨rfl,rfl,rfl,by simp[World.setCell],λk hk=>?_⟩
 by_cases e:k=g
 ·subst e
  have h1:ai (w.setCell ⟨k,i,none⟩ v) k t (cs.setIfInBounds i v):=h.aX i v;have h2:cs.setIfInBounds i v=cs:=by
   apply Array.ext sI;intro j hj1 hj2;rw[Array.getElem_setIfInBounds]
   split
   ·rename_i e;subst e
    rw[aC6 hj2]at hv;exact(Option.some.inj hv).symm
   ·rfl
  rw[h2]at h1;exact h1.trans h.symm
 ·exact Below.heap_setCell w ⟨g,i,none⟩ v k e
theorem sB(p:Option Addr)(F:Nat->Prop)(c:aM)(x:Ld)(fr:Bool)(w:World)(h:aR w p F c x fr) :
 Calls prog 189 #[.pointer p] w (λe w'=>e=.returned (.pointer p)/\aR w' p F c x true/\ah F w w'/\(fr=true->Bl w w')):=by
 have HM:=fq p F c x fr w h;obtain⟨g,gs,ph,rfl,hb,hF,hr⟩:=h.row;have:=hb.z 10 (.bool fr);have:=hb.frozen 10;have HR:=hr;have HB:=hb;clear h hb hr hF;go_enter func189,ntmps189;go_wp2_with(go_at_call 153;refine HM.mono ?_;rintro e w1 ⟨rfl,rfl⟩);go_ret;obtain⟨k1,k2⟩:=HR x true _ (show ai (w.setCell ⟨g,10,none⟩ (.bool true)) g XY (tU x (pt gs) (.pointer ph) true)from HB.aX 10 _) ((ah.refl (λk=>k=g) w).setCell (p:=⟨g,10,none⟩) (.inl rfl) _) rfl rfl;exact⟨rfl,k1,k2,λhf=>AU HB (by subst hf;rfl)⟩
structure bo where
 key:Key
 ptr:Option Addr
def bo.cells(e:bo):List Value:=[V6 e.key.hi,V6 e.key.lo,.pointer e.ptr]
abbrev bo.row(e:bo):Array Value:=#[V6 e.key.hi,V6 e.key.lo,.pointer e.ptr]
abbrev kP:TypeId:=310
def gN:∀e:bo,e.cells.length=3:=λ_=>rfl
def DC:∀e:bo,∀u∈e.cells,u.oneCell' = true:=λe u hu=>by simp[bo.cells]at hu;rcases hu with rfl|rfl|rfl<;>rfl
def yj:(prog.info? kP).map (λi=>(i.zero,i.size,i.bytes))=some (some (.agg #[V6 0,V6 0,.pointer none]),3,24):=kZ
def eA(w:World)(c:bh)(cf:aM)(p:Option Addr)(x:Ld):Prop:=∃F,aR w p F cf x true/\∀j,F j->c j=some .nS
def eA.step(h:eA w c cf p x)(hs:ae T w w' c c')(hT:¬T .nS):eA w' c' cf p x:=by
 obtain⟨F,h1,h2⟩:=h;exact⟨F,hs.node h1 h2 hT⟩
def eA.call(h:eA w c cf p x)(hb:Bl w w'):eA w' c cf p x:=by
 obtain⟨F,h1,h2⟩:=h;exact⟨F,h1.call hb,h2⟩
inductive aW(w:World)(c:bh)(cf:aM):List bo->List (Key×Ld)->Prop
 |nil:aW w c cf [] []
 |cons {e:bo} {x:Ld} {es:List bo} {l:List (Key×Ld)} : eA w c cf e.ptr x->aW w c cf es l->aW w c cf (e::es) ((e.key,x)::l)
theorem aW.snoc{es:List bo}(h:aW w c cf es l){e:bo}(he:eA w c cf e.ptr x):aW w c cf (es++[e]) (l++[(e.key,x)]):=by
 induction h with
 |nil=>exact .cons he .nil
 |cons h1 h2 ih=>exact .cons h1 ih
theorem aW.app{es es2:List bo}{l2:List (Key×Ld)}(h:aW w c cf es l)(h2:aW w c cf es2 l2):aW w c cf (es++es2) (l++l2):=by
 induction h with
 |nil=>exact h2
 |cons h1 _ ih=>exact .cons h1 ih
theorem aW.step{es:List bo}(h:aW w c cf es l)(hs:ae T w w' c c')(hT:¬T .nS):aW w' c' cf es l:=by
 induction h with
 |nil=>exact .nil
 |cons h1 _ ih=>exact .cons (h1.step hs hT) ih
theorem aW.call{es:List bo}(h:aW w c cf es l)(hb:Bl w w'):aW w' c cf es l:=by
 induction h with
 |nil=>exact .nil
 |cons h1 _ ih=>exact .cons (h1.call hb) ih
theorem aW.len{es:List bo}(h:aW w c cf es l):es.length=l.length:=by
 induction h with
 |nil=>rfl
 |cons _ _ ih=>simp[ih]
def dU.fill(h:dU w c i g b f s (λj=>j=k))(h1:f k=some (.pointer p))(hn:aR w p F s.cfg x fr)(hF:∀j,F j->c j=some (rY i k fr))(hx:aJ s.loads k=some x):dU w c i g b f s (λ_=>False):=
 ⟨h.blk,h.map,h.ne,h.cg,h.cb,λk' y _ hy=>by
  by_cases e:k' = k
  ·subst e
   rw[hx]at hy;injection hy with hy;subst hy
   exact⟨p,F,fr,h1,hn,hF⟩
  ·exact h.wH k' y e hy⟩
def dU.freeze(h:dU w c i g b f s (λ_=>False))(h1:f k=some (.pointer p))(hF:∀j,F j->c j=some (rY i k fr))(hx:aJ s.loads k=some x)(hc:∀k,w.heap.size<=k->c k=none)(hn:aR w' p F s.cfg x true)(hu:ah F w w')(hb:fr=true->Bl w w'): ∃c',dU w' c' i g b f s (λ_=>False)/\ae (jx i) w w' c c'/\eA w' c' s.cfg p x:=by
 cases fr
 ·have hs:ae (λt=>t=.nd i k) w w' c (ft F .nS c):=by
   refine⟨hu.mono λj hj=>⟨_,hF j hj,rfl⟩,λj hj hn=>aC (λhf=>hn _ (hF j hf) rfl),λj t hj e=>?_,λj hj=>?_⟩
   ·by_cases hf:F j
    ·rw[bw hf]at e;injection e with e;exact .inr e.symm
    ·rw[aC hf]at e
     rcases hj with hj|⟨t',e',Fx⟩
     ·rw[hc j hj]at e;cases e
     ·rw[e']at e;injection e with e;subst e;exact .inl Fx
   ·rw[aC (λhf=>oH (hn.lt j hf))]
    exact hc j (aB4 hu.size hj)
  have h2:=h.step (ex':=λj=>j=k) hs (λe=>by cases e) (λe=>by cases e) (λj e=>by injection e) (λ_ e=>e.elim);exact⟨_,h2.fill (fr:=true) h1 hn (λj hj=>bw hj) hx,hs.mono λt e=>.inr ⟨k,e⟩,F,hn,λj hj=>bw hj⟩
 ·have hb:=hb rfl
  exact⟨c,h.call hb,ae.aa _ c hc hb,F,hn,hF⟩
end
section
open Go.RowKit Go.Maps
structure Ul(w wr:World)(cr:bh)(cf:aM)(v:Value)(es:List bo)(l:List (Key×Ld)):Prop where
 own:aK wr w.heap.size kP 3 bo.cells v es
 dG:aW wr cr cf es l
 no:∀k,v.ownBlock=some k->cr k=none
def Ul.step{cr: bh}{v:Value}{es:List bo}(h:Ul w wr cr cf v es l)(hs:ae T wr w' cr c')(hT:¬T .nS):Ul w w' c' cf v es l:=by
 have hno:∀k,v.ownBlock=some k->∀t,cr k=some t->¬T t:=λk hk t e=>by rw[h.no k hk]at e;cases e
 exact⟨h.own.upd hs.upd (λk hk ⟨t,e,ht⟩=>hno k hk t e ht),h.dG.step hs hT,λk hk=>(hs.old k (h.own.lt k hk).2 (hno k hk)).trans (h.no k hk)⟩
def FrP(c:bh)(i g:Nat)(s:bF)(w:World)(e:Ending)(w' : World):Prop:=∃c' A n cc es,e=.returned (.slice A n cc)/\Ul w w' c' s.cfg (.slice A n cc) es s.dG/\dN w' c' i g s/\ae (jx i) w w' c c'
def qX(s:bF)(ks:List Key):List (Key×Ld):=ks.filterMap λk=>(aJ s.loads k).map λx=>(k,x)
def Ia(s:bF){k:Nat}{x:Key}(h:ks[k]? = some x)(hy:aJ s.loads x=some y):qX s (ks.take (k+1))=qX s (ks.take k)++[(x,y)]:=by
 unfold qX;rw[aE3,h,List.filterMap_append];simp[hy]
def ym(s:bF)(ks:List Key):(qX s ks).length<=ks.length:=List.length_filterMap_le _ _
def dU.off{ex:Key->Prop}(h:dU w c i g b f s ex)(hu:ah S w w')(hS:∀k,S k->c k=none):dU w' c i g b f s ex:=by
 have hn:∀k t,c k=some t->¬S k:=λk t e hs=>by rw[hS k hs]at e;cases e
 refine⟨h.blk.upd hu (hn g _ h.cg),h.map.upd hu (hn b _ h.cb),h.ne,h.cg,h.cb,λk x hk hx=>?_⟩;obtain⟨p,F,fr,e1,e2,e3⟩:=h.wH k x hk hx;exact⟨p,F,fr,e1,e2.upd hu (λj hj=>hn j _ (e3 j hj)),e3⟩
def dN.off(h:dN w c i g s)(hu:ah S w w')(hS:∀k,S k->c k=none):dN w' c i g s:=by
 obtain⟨b,f,h⟩:=h;exact⟨b,f,h.off hu hS⟩
def eA.off(h:eA w c cf p x)(hu:ah S w w')(hS:∀k,S k->c k=none):eA w' c cf p x:=by
 obtain⟨F,h1,h2⟩:=h;exact⟨F,h1.upd hu (λj hj hs=>by have e:=h2 j hj;rw[hS j hs]at e;cases e),h2⟩
theorem aW.off{es:List bo}(h:aW w c cf es l)(hu:ah S w w')(hS:∀k,S k->c k=none):aW w' c cf es l:=by
 induction h with
 |nil=>exact .nil
 |cons h1 _ ih=>exact .cons (h1.off hu hS) ih
def ae.own{w1 w2:World}{c1:bh}(h:ae T w w1 c c1)(hu:ah S w1 w2)(hS:∀k,S k->w.heap.size<=k):ae T w w2 c c1:=
 ⟨h.upd.trans hu (λk hk=>.inr (hS k hk)),h.old,h.new,λk hk=>h.fresh k (aB4 hu.size hk)⟩
theorem AV(w:World)(h:dN w c i g s)(hc:∀k,w.heap.size<=k->c k=none)(hlen:s.loads.length<=n)(hn:n<=100000):
 Calls prog 140 #[pt g] w (FrP c i g s w):=by
 have HS:=zD h;obtain⟨b0,f0,h0⟩:=h;have HK:=zD (vh w h0 (by unfold bF.keys;rw[aC8];omega));have HC:=zD hc;have tB:=zD hn;obtain⟨ks,wB⟩:=zE (eW s.keys);have HE:=zD (show s.dG=qX s ks from by rw[wB];rfl);have HM:=zD (show ∀x∈ks,x∈s.keys from λx hx=>by rw[wB]at hx;exact Ct.1 hx);have qf:=zD (show ks.length<=n from by rw[wB,(fg _).length_eq];unfold bF.keys;rw[aC8];exact hlen);rw[<-wB]at HK;clear h0 hc hn hlen wB;go_enter func140,ntmps140;go_wp2_with(go_at_call 82;refine HK.out.mono ?_;rintro e w1 ⟨A,m,cc,rfl,hko,hb⟩;have K1:=zD hko;have B1:=zD hb;clear hko hb);obtain⟨A',m',cc',hv,hm,-⟩:=K1.out.shape cW;injection hv with e1 e2 e3
 subst e1;subst e2;subst e3;have HMl:=zD hm;have:m<=100000:=by have:=qf.out;have:=tB.out;omega
 clear hm;have H1:=zD (show TrI w w1 c c i g s A m cc ks from⟨HS.out.call B1.out,ae.aa (jx i) c HC.out B1.out,K1.out,λk hk=>HC.out k (K1.out.lt k hk).1⟩);clear HS K1 B1 HK;go_loopw[9,3] (λv vo wr=>∃(k:Nat)(cr:bh)(es:List bo)(A2:Option Addr)(n2 c2:Nat),k<=m/\v = I6 k/\vo=.slice A2 n2 c2/\TrI w wr c cr i g s A m cc ks/\Ul w wr cr s.cfg (.slice A2 n2 c2) es (qX s (ks.take k))) (λv _ _=>m-(intOf v).toNat)
 case atStart=>exact⟨0,c,[],none,0,0,aB6 _,rfl,rfl,H1.out,aK.nil _ _ _ _ _,.nil,λk hk=>by simp[Value.ownBlock]at hk⟩
 case round=>
  obtain⟨k,cr,es,A2,n2,c2,hk,rfl,rfl,hin,hen⟩:=hrel;have HI:=zD hin;have HN:=zD hen;clear hin hen
  by_cases hlt:k<m
  ·obtain⟨_,_,_,hv2,-,gU⟩:=HI.out.ks.shape cW
   injection hv2 with e1 e2 e3
   subst e1;subst e2;subst e3;obtain⟨bk,off,x,rfl,hx,hb,t0,t1⟩:=gF.at_ gU hlt;have:(k:Int)<(m:Int):=oM
   have:=zD hx;have hkm:=aC1 hx;obtain⟨y,hy⟩:=vv (s:=s) (k:=x) (HM.out x hkm);have fG:=zD (Ia s hx hy);obtain⟨b,f,hs0⟩:=HI.out.st;have HKg:=zD (hs0.good x (HM.out x hkm));obtain⟨p,F,fr,e1,e2,e3⟩:=hs0.wH x y (λe=>e) hy;have Xo:=zD e1;have EX:=zW wr (.cells x.row aS);have N0:=zD (e2.call EX);have F0:=zD e3;have Z0:=zD (hs0.call EX);have BX:=zD (ai.new wr aS x.row);have HF:=HI.out.step.fresh;have CX:=zD (ae.aa (jx i) cr HF EX);have HI1:=zD (HI.out.next CX.out ⟨b,f,Z0.out⟩);have HN1:=zD (HN.out.step CX.out (bS i));have NX:=zD (show cr wr.heap.size=none from HF _ lR);have NG:=zD (show ¬F g/\¬F b from⟨λh=>by have h1:=e3 g h;rw[hs0.cg]at h1;cases fr<;>(injection h1 with h1;cases h1),λh=>by have h1:=e3 b h;rw[hs0.cb]at h1;cases fr<;>(injection h1 with h1;cases h1)⟩)
   have HFo:=zD (show ∀j,(Value.slice A2 n2 c2).ownBlock=some j->¬F j from λj hj hf=>by have h1:=e3 j hf;rw[HN.out.no j hj]at h1;cases h1);have Xp:=zD (show es.length<1000000 from by
    have h1:=HN.out.dG.len;have h2:=ym s (ks.take k);have:(ks.take k).length<=k:=aV4 _ _;omega)
   have Ks:=zD (show(∀j,(Value.slice A2 n2 c2).ownBlock=some j->j<wr.heap.size/\j≠g/\j≠b)from λj hj=>⟨(HN.out.own.lt j hj).2,λe=>by {have h1:=hs0.cg;rw[<-e,HN.out.no j hj]at h1;cases h1},λe=>by {have h1:=hs0.cb;rw[<-e,HN.out.no j hj]at h1;cases h1}⟩);have HY:=zD hy;clear hx hkm hy hs0 e1 e2 e3 HF gU EX HI;go_upto_region 5 with fail
   clear t0 t1;obtain⟨gx,hgx⟩:=zE wr.heap.size;obtain⟨W1,hW1⟩:=zE (wr.alloc (.cells x.row aS));have OS:=zD (show w.heap.size<=W1.heap.size/\gx<W1.heap.size from by have:=HI1.out.step.upd.size;have:=BX.out.lt;rw[hW1,hgx];exact⟨‹_›,‹_›⟩);rw[<-hW1]at N0 Z0 BX CX HI1 HN1 |-;rw[<-hgx]at BX NX Ks |-;have:=zD hgx;clear hgx hW1;refine zr (λ_=>false) (λwS=>ah (λj=>F j\/(Value.slice A2 n2 c2).ownBlock=some j) W1 wS) ?_;have S0:=(ah.refl (λj=>F j\/(Value.slice A2 n2 c2).ownBlock=some j) W1).drew;refine zk 8 [0,1,2,3,4] [_,_,_,_,_] (.q zX<|.c rfl rfl (zl λ_ hW1=>zb (BX.out.upd hW1 (λh=>by rcases h with h|h;(have h1:=F0.out gx h;rw[NX.out]at h1;cases h1);(have:=(Ks.out gx h).1;omega))) underlying83)<|.q zX<|.q zX<|.e) S0 ?_
   refine zk 6 [5,6] [.map (some b),_] (.q (zS λ_ hW1=>(Z0.out.blk.upd hW1 (λh=>by rcases h with h|h;exact NG.out.1 h;exact(Ks.out g h).2.1 rfl)).z 0 (.map (some b)))<|.c rfl rfl (zl λ_ hW1=>zb (BX.out.upd hW1 (λh=>by rcases h with h|h;(have h1:=F0.out gx h;rw[NX.out]at h1;cases h1);(have:=(Ks.out gx h).1;omega))) underlying83) .nil) S0 ?_
   refine zQ 7 ?_;go_wp2_with(refine ik ll _ rfl _ _ zx rfl 158 fu _ (mP _) b f s.keys rfl (Z0.out.map.upd (S0) (λh=>by rcases h with h|h;exact NG.out.2 h;exact(Ks.out b h).2.2 rfl)) x rfl HKg.out ?_;simp only[Xo.out,aF6]);refine .i S0 ?_;refine zQ 8 ?_;go_wp2_with(go_at_call 189;refine(sB p F s.cfg y fr _ (N0.out.call (below_drewN bR 1))).mono ?_;rintro e w4 ⟨rfl,hn4,ki,hb4⟩;have Q4:=zD ((Z0.out.call (below_drewN bR 1)).freeze Xo.out F0.out HY.out (λj hj=>CX.out.fresh j hj) hn4 ki hb4);have U4:=zD ki;clear hn4 ki hb4);refine .i (S0.trans U4.out (λk hk=>.inl (.inl hk))) ?_;have S4:=S0.trans U4.out (λk hk=>.inl (.inl hk));refine zq 3 [9] [_] S4 ?_;refine zQ 10 ?_;have nG:=iA (S:=S4) (#[V6 x.hi,V6 x.lo,.pointer p]) 310;obtain⟨G,hG,bG,lG⟩:=nG;go_wp2_with fail;refine .i (S4.alloc _) ?_
   (try simp only[hG])
   clear hG;have SG:=S4.alloc (.cells (#[V6 x.hi,V6 x.lo,.pointer p]) 310);refine zQ 11 ?_;go_wp2_with(refine cX _ rfl (.tmp 13) (.tmp 23) 228 rfl w.heap.size kP _ 3 24 bo.cells underlying228 yj rF dC gN DC (.slice A2 n2 c2) es rfl (((HN1.out.own.cD 1).upd U4.out (λj hj=>HFo.out j hj)).alloc _) ⟨G,0,none⟩ 1 ⟨x,p⟩ rfl (br (α:=bo) (vs:=bo.cells ⟨x,p⟩) bG rfl) Xp.out dC (by have:=OS.out.1;have h2:=U4.out.size;simp;simp at h2;omega) ?_;intro v' w5 kG Co wK;obtain⟨A3,n3,c3,rfl,-,-⟩:=kG.shape gN;have O5:=zD kG;have U5:=zD Co;have W5:=zD wK;clear kG Co wK);refine .i (SG.trans U5.out (λk hk=>.inl (.inr hk))) ?_;have S5:=SG.trans U5.out (λk hk=>.inl (.inr hk));refine zq 0 [12] [_] S5 ?_;refine zd ?_;go_wp2;obtain⟨c4,k1,k2,k3⟩:=Q4.out;have X1:=ae.aa (jx i) cr CX.out.fresh (below_drewN (Below.refl W1.heap.size W1) 1);have HI4:=(HI1.out.next X1 ⟨b,f,Z0.out.call (below_drewN bR 1)⟩).next k2 ⟨b,f,k1⟩;have HN4:=(HN1.out.step X1 (bS i)).step k2 (bS i);have UX:ah (λj=>(Value.slice A2 n2 c2).ownBlock=some j) w4 w5:=(ah.aa ((Below.refl _ w4).alloc lR _)).trans U5.out iL;have DD:∀j,(Value.slice A2 n2 c2).ownBlock=some j->c4 j=none:=HN4.no
   have hb2:∀j,(Value.slice A2 n2 c2).ownBlock=some j->w.heap.size<=j:=λj hj=>(HN4.own.lt j hj).1
   have hkk:∀j,(Value.slice (some ⟨bk,off,none⟩) m cc).ownBlock=some j->¬(Value.slice A2 n2 c2).ownBlock=some j:=HI4.ks.wJ HN4.own dC
   have hf5:=k2.fresh;go_roundw
   case rel=>
    refine⟨k+1,c4,es++[⟨x,p⟩],_,_,_,oM,by go_num,rfl,⟨HI4.st.off UX DD,HI4.step.own UX hb2,HI4.ks.upd UX hkk,HI4.no⟩,O5.out,by rw[fG.out];exact(HN4.dG.off UX DD).snoc (k3.off UX DD),λj hj=>?_⟩;rcases W5.out with e|e
    ·rw[e]at hj;exact DD j hj
    ·rw[e]at hj;injection hj with hj;exact hf5 j (by rw[<-hj];simp)
   case measure=>simp[intOf];omega
  ·have hE:ks.take k=ks:=aB5 (by have:=HMl.out;omega)
   rw[hE]at HN;clear hE;go_wp2;go_ret;exact⟨cr,_,_,_,es,rfl,by rw[HE.out];exact HN.out,HI.out.st,HI.out.step⟩
end
section
abbrev Lg(w:World)(A:Option Addr)(len cap:Nat)(l:List bo):Prop:=ag w 3 bo.cells A len cap l
def bI(w:World)(g:Nat)(l:List bo):Prop:=∃cs,ai w g kP cs/\l.length*3<=cs.size/\cs.toList.take (l.length*3)=l.flatMap bo.cells
def Um(T Y:List α)(o n:Nat)(hY:Y.length=3)(h1:o+3<=n)(h2:n<=T.length):(T.take o++(Y++T.drop (o+3))).take n=(T.take n).take o++(Y++(T.take n).drop (o+3)):=by
 rw[aS0,aC3,aG5 oM,aB5 (l:=T.take o) sM,aS0,aB5 (l:=Y) oM,hY,aH4,aG5 oM,aV6,Nat.sub_sub]
section
variable{w w' : World}{g i:Nat}{l:List bo}{x y:bo}
def bI.lt(h:bI w g l):g<w.heap.size:=by obtain⟨cs,hb,-⟩:=h;exact hb.lt
def bI.range(h:bI w g l)(hi:l[i]? = some x):w.rangeAt g (i*3) x.cells:=by
 obtain⟨cs,hb,hs,ht⟩:=h;intro j v hv;have hj:j<3:=(d9.1 hv).1;have h1:=ic (size:=3) gN l i j x hi hj;have:=(d9.1 hi).1;rw[<-ht,aE4,if_pos oM]at h1;exact(hb.cell _).trans (by rw[<-aG0,h1];exact hv)
def bI.there(h:bI w g l)(hi:i<l.length):w.there g (i*3) 3:=by
 obtain⟨cs,hb,hs,ht⟩:=h;exact λj hj=>⟨by rw[hb.cell,aC6 oM];rfl,hb.frozen _⟩
def bI.load(h:bI w g l)(hi:l[i]? = some x):(Instr.loadAt kP (.pointer (some ⟨g,i*3,none⟩))).run prog w=.ok (.agg x.row) w:=
 run_loadAt_mid w g (i*3) kP x.cells _ (h.range hi) underlying310 rfl kZ
def bI.set(h:bI w g l)(hi:i<l.length)(y:bo):bI (w.setCells g (i*3) y.cells) g (l.set i y)/\w.grownBy (w.setCells g (i*3) y.cells) (some g):=by
 obtain⟨cs,hb,hs,ht⟩:=h;have iD:i*3+y.cells.length<=cs.size:=by rw[gN];omega
 obtain⟨h1,h2⟩:=hb.setCells iD;refine⟨⟨_,h1,by rw[dz iD,aF3];exact hs,?_⟩,h2⟩;rw[aF3];have e1:(vI cs (i*3) y.cells).toList=cs.toList.take (i*3)++(y.cells++cs.toList.drop (i*3+3)):=rfl;rw[e1,aI2,if_pos hi,aH0,aE8,<-jE gN,<-jF gN,<-ht,Um cs.toList y.cells (i*3) (l.length*3) rfl oM (sH hs),aD6]
def bI.upd(h:bI w g l)(hu:ah S w w')(hg:¬S g):bI w' g l:=by
 obtain⟨cs,hb,h2⟩:=h;exact⟨cs,hb.upd hu hg,h2⟩
def bI.call(h:bI w g l)(hb:Bl w w'):bI w' g l:=by
 obtain⟨cs,hb1,h2⟩:=h;exact⟨cs,hb1.call hb,h2⟩
end
def bI.ld{w:World}{g i o:Nat}{l:List bo}{y:bo}{ops:Array Oper}{rest:List Oper}{op:Oper}{Q:Exit->Act->World->Prop}(h:bI w g l)(hi:l[i]? = some y)(hgd:op.guard=none)(x:Operand)(ho:op.op=.load kP x)(hx:a.eval x=.pointer (some ⟨g,o,none⟩))(he:o=i*3)(H:wpList prog ops Q rest (a.put op.dst (.agg y.row)) w):wpList prog ops Q (op::rest) a w:=by
 subst he;exact wpList_load_mid hgd kP x ho g (i*3) hx y.cells _ (h.range hi) underlying310 rfl kZ H
theorem aN{o:Oper}{x i:Operand}{g c k:Nat}{w:World}(ho:o.op=.indexAddr 228 x i)(hx:a.eval x=.slice (some ⟨g,0,none⟩) n c)(hi:a.eval i = I6 (k:Int))(hk:k<n):(execOp a.eval o).run prog w=.ok (.value (.pointer (some ⟨g,k*3,none⟩))) w:=by
 unfold execOp;have:(0:Int)<=(k:Int):=oM
 have:(k:Int)<(n:Int):=oM
 simp only[ho,hx,hi];go_simp
def bI.store{w:World}{g i o:Nat}{l:List bo}{ops:Array Oper}{rest:List Oper}{op:Oper}{Q:Exit->Act->World->Prop}(h:bI w g l)(hi:i<l.length)(y:bo)(hgd:op.guard=none)(x z:Operand)(ho:op.op=.store kP x z)(hx:a.eval x=.pointer (some ⟨g,o,none⟩))(he:o=i*3)(hy:a.eval z=.agg y.row)(H:∀w',bI w' g (l.set i y)->ah (λk=>k=g) w w'->wpList prog ops Q rest (a.put op.dst undef) w'):wpList prog ops Q (op::rest) a w:=by
 subst he;obtain⟨h1,h2⟩:=h.set hi y;exact wpList_store_mid hgd kP x z ho g (i*3) y.row hx hy (h.there hi) kZ (by simp[Value.oneCell']) (H _ h1 ((ah.refl _ w).grown h2 (λk e=>by cases e;exact .inl rfl)))
def kj(w:World)(g:Nat)(l:List bo)(e:Ending)(w' : World):Prop:=e=.returned (.tuple #[])/\bI w' g l/\ah (λk=>k=g) w w'
def Nz(P M Q:List α)(x y:α):((P++x::(M++y::Q)).set P.length y).set (P.length+1+M.length) x=P++y::(M++x::Q):=by
 rw[aW4 _ _ lR,aW9,aW1,aW4 _ _ oM,show P.length+1+M.length-P.length=M.length+1 by omega,aU1,aW4 _ _ lR,aW9,aW1]
def uh(P M Q:List α)(x y:α):(P++x::(M++y::Q))[P.length]? = some x:=sI
def ui(P M Q:List α)(x y:α):(P++x::(M++y::Q))[P.length+1+M.length]? = some y:=by
 rw[aC7 oM,show P.length+1+M.length-P.length=M.length+1 by omega,List.getElem?_cons_succ,aC7 lR,aW9];rfl
end
def AX(A U B V C:List bo)(i:Nat):List bo:=A++(V.take i++U.drop i)++B++(U.take i++V.drop i)++C
def Un{A U B V C:List bo}{x y:bo}(hu:U[i]? = some x)(hv:V[i]? = some y)(hl:U.length=V.length):
 (AX A U B V C i)[A.length+i]? = some x/\(AX A U B V C i)[A.length+U.length+B.length+i]? = some y/\((AX A U B V C i).set (A.length+i) y).set (A.length+U.length+B.length+i) x=AX A U B V C (i+1):=by
 have hi:=(d9.1 hu).1;have Yw:U.drop i=x::U.drop (i+1):=by rw[aH2 hi,(d9.1 hu).2]
 have hd2:V.drop i=y::V.drop (i+1):=by rw[aH2 oM,(d9.1 hv).2]
 have e0:AX A U B V C i=(A++V.take i)++x::((U.drop (i+1)++B++U.take i)++y::(V.drop (i+1)++C)):=by
  unfold AX;rw[Yw,hd2];simp
 have e1:AX A U B V C (i+1)=(A++V.take i)++y::((U.drop (i+1)++B++U.take i)++x::(V.drop (i+1)++C)):=by
  unfold AX;rw[ie hu,ie hv];simp
 have l1:A.length+i=(A++V.take i).length:=by simp;omega
 have l2:A.length+U.length+B.length+i=(A++V.take i).length+1+(U.drop (i+1)++B++U.take i).length:=by simp;omega
 rw[e0,e1,l2,l1];exact⟨uh _ _ _ _ _,ui _ _ _ _ _,Nz _ _ _ _ _⟩
def YG(A U B V C:List bo)(i:Nat)(hl:U.length=V.length):(AX A U B V C i).length=A.length+U.length+B.length+V.length+C.length:=by
 unfold AX;simp;omega
theorem uj(g n c:Nat)(A U B V C:List bo)(fv:Value)(w:World)(hl:U.length=V.length)(hn:A.length+U.length+B.length+V.length+C.length=n)(hm:n<=100000)(h:bI w g (A++U++B++V++C)) :
 Calls prog 316 #[.slice (some ⟨g,0,none⟩) n c,.int .i64 A.length,.int .i64 ((A.length+U.length+B.length:Nat):Int),.int .i64 U.length,fv] w (kj w g (A++V++B++U++C)):=by
 obtain⟨a,ha⟩:∃a,a=A.length:=⟨_,rfl⟩
 obtain⟨k,hk⟩:∃k,k=U.length:=⟨_,rfl⟩
 obtain⟨b,hb⟩:∃b,b=a+k+B.length:=⟨_,rfl⟩
 have hbn:b+k<=n:=oM
 have hak:a+k<=b:=oM
 have H0:=zD (show bI w g (AX A U B V C 0)from by unfold AX;simpa using h)
 have HE:=zD (show AX A U B V C k=A++V++B++U++C from by unfold AX;rw[hk,aW7,List.drop_length,hl,aW7,List.drop_length];simp)
 have HN:=zD (λ(i:Nat)(x y:bo)(hu:U[i]? = some x)(hv:V[i]? = some y)=>(show(AX A U B V C i)[a+i]? = some x/\(AX A U B V C i)[b+i]? = some y/\((AX A U B V C i).set (a+i) y).set (b+i) x=AX A U B V C (i+1)from by subst ha hk hb;exact Un hu hv hl))
 have HX:=zD (λ(i:Nat)(hi:i<k)=>(show ∃x y,U[i]? = some x/\V[i]? = some y from⟨_,_,aB3 (oM),aB3 (oM)⟩))
 have HL:=zD (λi=>(YG A U B V C i hl).trans hn)
 rw[<-ha,<-hk,<-hb]
 clear h hn ha hk hb hl
 go_enter func316,ntmps316
 go_wp2
 go_loopw[10] (λi wr=>∃j:Nat,j<=k/\i=.int .i64 j/\bI wr g (AX A U B V C j)/\ah (λk=>k=g) w wr) (λi _=>k-(intOf i).toNat)
 case atStart=>exact⟨0,aB6 _,rfl,H0.out,ah.refl _ _⟩
 case round=>
  obtain⟨j,hj,rfl,hin,zy⟩:=hrel
  have HI:=zD hin
  have HU:=zD zy
  clear hin zy
  by_cases hlt:j<k
  ·obtain⟨x,y,hx,hy⟩:=HX.out j hlt
   obtain⟨q1,q2,q3⟩:=HN.out j x y hx hy
   have M1:=zD q1
   have M2:=zD q2
   have M3:=zD q3
   have hz1:IntKind.i64.wrap ((a:Int)+(j:Int))=((a+j:Nat):Int):=by rw[IntKind.wrap_i64];omega
   have hz2:IntKind.i64.wrap ((b:Int)+(j:Int))=((b+j:Nat):Int):=by rw[IntKind.wrap_i64];omega
   have MP:((a+j:Nat):Int)<(n:Int):=oM
   have hi2:((b+j:Nat):Int)<(n:Int):=oM
   clear q1 q2 q3 hx hy
   focus(go_upto_region 3 with fail)
   refine zr (λ_=>false) (λwS=>ah (λk=>k=g) wr wS) ?_
   have S0:=(ah.refl (λk=>k=g) wr).drew
   refine zq 19 [0,1,2,3,4] [_,_,_,.int .i64 ((a+j:Nat):Int),_] S0 ?_
   refine zq 14 [5,6,7,8,9] [_,_,.int .i64 ((b+j:Nat):Int),_,_] S0 ?_
   refine zk 9 [10,11,12,14,15] [_,.int .i64 ((b+j:Nat):Int),.pointer (some ⟨g,(b+j)*3,none⟩),_,_] (.c rfl rfl zp<|.c rfl rfl zp<|.c rfl rfl (zl λ_ _=>aN rfl rfl rfl (oM))<|.q zX<|.e) S0 ?_
   refine zk 6 [16,17,18] [_,.int .i64 ((a+j:Nat):Int),.pointer (some ⟨g,(a+j)*3,none⟩)] (.c rfl rfl zp<|.c rfl rfl zp<|.c rfl rfl (zl λ_ _=>aN rfl rfl rfl (oM)) .nil) S0 ?_
   refine FN (i:=13) (j:=19) (kZ) rfl (by rfl) rfl (by rfl) (λQ2 aI=>?_) (λQ2 aI=>?_)
   ·
    go_wp2_with(refine bI.ld (w:=wr.drew) HI.out M2.out rfl (.tmp 28) rfl rfl rfl ?_)
    refine aI _ _ (λ_=>S0) ?_
    clear aI Q2
    refine zo 19 (λQ2 aI=>?_);go_wp2_with(refine bI.ld (w:=wr.drew) HI.out M1.out rfl (.tmp 34) rfl rfl rfl ?_);refine aI _ _ (λ_=>S0) ?_;clear aI Q2
    refine zk 3 [20] [.pointer (some ⟨g,(a+j)*3,none⟩)] (.c rfl rfl (zl λ_ _=>aN rfl rfl rfl (oM)) .nil) S0 ?_
    refine zo 21 (λQ2 aI=>?_);go_wp2_with(refine bI.store (w:=wr.drew) HI.out (i:=a+j) (by rw[HL.out];omega) y rfl (.tmp 36) (.tmp 29) rfl rfl rfl rfl ?_;intro w5 h5 u5);refine aI _ _ (λ_=>S0.trans u5 (λk hk=>.inl hk)) ?_;clear aI Q2
    have S5:=S0.trans u5 (λk hk=>.inl hk)
    refine zk 1 [22] [.pointer (some ⟨g,(b+j)*3,none⟩)] (.c rfl rfl (zl λ_ _=>aN rfl rfl rfl (oM)) .nil) S5 ?_
    refine zo 23 (λQ2 aI=>?_);go_wp2_with(refine bI.store h5 (i:=b+j) (by rw[aF3,HL.out];omega) x rfl (.tmp 37) (.tmp 35) rfl rfl rfl rfl ?_;intro w6 h6 u6);refine aI _ _ (λ_=>S5.trans u6 (λk hk=>.inl hk)) ?_;clear aI Q2
    have S6:=S5.trans u6 (λk hk=>.inl hk)
    refine eQ (kZ) ?_ _
    have X6:=zD (show bI w6 g (AX A U B V C (j+1))from by rw[<-M3.out];exact h6)
    have U6:=zD (HU.out.trans S6 (λk hk=>.inl hk))
    clear h5 h6 u5 u6 S0 S5 S6
    go_wp2
    go_roundw
    case rel=>exact⟨j+1,oM,by go_num,X6.out,U6.out⟩
    case measure=>simp[intOf];omega
   ·
    go_wp2_with(refine bI.ld (w:=wr.drew) HI.out M1.out rfl (.tmp 34) rfl rfl rfl ?_)
    refine aI _ _ (λ_=>S0) ?_
    clear aI Q2
    refine zo 13 (λQ2 aI=>?_);go_wp2_with(refine bI.ld (w:=wr.drew) HI.out M2.out rfl (.tmp 28) rfl rfl rfl ?_);refine aI _ _ (λ_=>S0) ?_;clear aI Q2
    refine zk 3 [20] [.pointer (some ⟨g,(a+j)*3,none⟩)] (.c rfl rfl (zl λ_ _=>aN rfl rfl rfl (oM)) .nil) S0 ?_
    refine zo 21 (λQ2 aI=>?_);go_wp2_with(refine bI.store (w:=wr.drew) HI.out (i:=a+j) (by rw[HL.out];omega) y rfl (.tmp 36) (.tmp 29) rfl rfl rfl rfl ?_;intro w5 h5 u5);refine aI _ _ (λ_=>S0.trans u5 (λk hk=>.inl hk)) ?_;clear aI Q2
    have S5:=S0.trans u5 (λk hk=>.inl hk)
    refine zk 1 [22] [.pointer (some ⟨g,(b+j)*3,none⟩)] (.c rfl rfl (zl λ_ _=>aN rfl rfl rfl (oM)) .nil) S5 ?_
    refine zo 23 (λQ2 aI=>?_);go_wp2_with(refine bI.store h5 (i:=b+j) (by rw[aF3,HL.out];omega) x rfl (.tmp 37) (.tmp 35) rfl rfl rfl rfl ?_;intro w6 h6 u6);refine aI _ _ (λ_=>S5.trans u6 (λk hk=>.inl hk)) ?_;clear aI Q2
    have S6:=S5.trans u6 (λk hk=>.inl hk)
    refine eQ (kZ) ?_ _
    have X6:=zD (show bI w6 g (AX A U B V C (j+1))from by rw[<-M3.out];exact h6)
    have U6:=zD (HU.out.trans S6 (λk hk=>.inl hk))
    clear h5 h6 u5 u6 S0 S5 S6
    go_wp2
    go_roundw
    case rel=>exact⟨j+1,oM,by go_num,X6.out,U6.out⟩
    case measure=>simp[intOf];omega
  ·obtain rfl:j=k:=oM
   go_wp2
   go_returns
   exact⟨rfl,by rw[<-HE.out];exact HI.out,HU.out⟩
def gO(g n c a b k:Nat)(A U B V C L:List bo)(fv:Value)(w:World)(ha:a=A.length)(hk:k=U.length)(hb:b=a+k+B.length)(hl:U.length=V.length)(hn:A.length+U.length+B.length+V.length+C.length=n)(hm:n<=100000)
 (hL:A++V++B++U++C=L) (h:bI w g (A++U++B++V++C)) :
 Calls prog 316 #[.slice (some ⟨g,0,none⟩) n c,I6 a,I6 b,I6 k,fv] w (kj w g L):=by
 subst ha hk hb hL;exact uj g n c A U B V C fv w hl hn hm h
structure Ib(w wr:World)(g n m:Nat)(G:List bo)(p i j:Nat)(P U V S:List bo):Prop where
 lp:p=P.length
 lu:i=U.length
 lv:j=V.length
 pu:0<i
 pv:0<j
 hm:m=p+i
 hn:p+i+j+S.length=n
 hG:P++V++U++S=G
 arr:bI wr g (P++U++V++S)
 upd:ah (λk=>k=g) w wr
def Ib.gt{G:List bo}{p:Nat}{P U V S:List bo}(h:Ib w wr g n m G p i j P U V S)(hij:j<i)(hn:n<=100000)(c:Nat)(fv:Value):
 ∃U1 U2,(∀W,ah (λk=>k=g) wr W->bI W g (P++V++U2++U1++S)->Ib w W g n m G (p+j) (i-j) j (P++V) U2 U1 S)/\Calls prog 316 #[.slice (some ⟨g,0,none⟩) n c,I6 p,I6 m,I6 j,fv] wr (kj wr g (P++V++U2++U1++S)):=by
 obtain⟨lp,lu,lv,pu,pv,hm,fo,hG,arr,upd⟩:=h;have e:U.take j++U.drop j=U:=aF0 j U;have l1:(U.take j).length=j:=by rw[aC3];omega
 have l2:(U.drop j).length=i-j:=by rw[aD2];omega
 generalize U.take j=U1 at *;generalize U.drop j=U2 at *;subst e;refine⟨U1,U2,λW hu ha=>⟨by simp;omega,l2.symm,l1.symm,oM,pv,oM,oM,by rw[<-hG];simp,ha,upd.trans hu iL⟩,?_⟩;exact gO g n c p m j P U1 U2 V S _ fv wr lp l1.symm oM oM oM hn rfl (sH arr)
def Ib.le{G:List bo}{p:Nat}{P U V S:List bo}(h:Ib w wr g n m G p i j P U V S)(hij:i<j)(hn:n<=100000)(c:Nat)(fv:Value):
 ∃V1 V2,(∀W,ah (λk=>k=g) wr W->bI W g (P++V2++V1++U++S)->Ib w W g n m G p i (j-i) P V2 V1 (U++S))/\Calls prog 316 #[.slice (some ⟨g,0,none⟩) n c,I6 p,I6 ((m+j-i:Nat):Int),I6 i,fv] wr (kj wr g (P++V2++V1++U++S)):=by
 obtain⟨lp,lu,lv,pu,pv,hm,fo,hG,arr,upd⟩:=h;have e:V.take (j-i)++V.drop (j-i)=V:=aF0 _ V;have l1:(V.take (j-i)).length=j-i:=by rw[aC3];omega
 have l2:(V.drop (j-i)).length=i:=by rw[aD2];omega
 generalize V.take (j-i)=V1 at *;generalize V.drop (j-i)=V2 at *;subst e;refine⟨V1,V2,λW hu ha=>⟨lp,l2.symm,l1.symm,pu,oM,hm,by simp;omega,by rw[<-hG];simp,sH ha,upd.trans hu iL⟩,?_⟩;exact gO g n c p (m+j-i) i P U V1 V2 S _ fv wr lp lu oM oM oM hn rfl (sH arr)
theorem AY(g n c a m b:Nat)(P U V Q G:List bo)(fv:Value)(w:World)(ha:a=P.length)(hm:m=a+U.length)(hb:b=m+V.length)(hn:b+Q.length=n)(fo:n<=100000)(hU:0<U.length)(hV:0<V.length)(hG:P++V++U++Q=G)(h:bI w g (P++U++V++Q)) :
 Calls prog 315 #[.slice (some ⟨g,0,none⟩) n c,I6 a,I6 m,I6 b,fv] w (kj w g G):=by
 obtain⟨u,hu⟩:=zE U.length;obtain⟨v,hv⟩:=zE V.length;have R0:Ib w w g n m G a u v P U V Q:=⟨ha,hu,hv,oM,oM,oM,oM,hG,h,ah.refl _ _⟩;have z1:IntKind.i64.wrap ((m:Int)-(a:Int))=(u:Int):=by rw[IntKind.wrap_i64];omega
 have z2:IntKind.i64.wrap ((b:Int)-(m:Int))=(v:Int):=by rw[IntKind.wrap_i64];omega
 have:m<=n:=oM
 clear ha hm hb hn hU hV hG h hu hv;go_enter func315,ntmps315;go_wp2;clear z1 z2;go_loopw[10,11] (λi j wr=>∃(p x y:Nat)(P U V S:List bo),i = I6 x/\j = I6 y/\Ib w wr g n m G p x y P U V S) (λi j _=>(intOf i).toNat+(intOf j).toNat)
 case atStart=>exact⟨_,_,_,_,_,_,_,rfl,rfl,R0⟩
 case round=>
  obtain⟨p,i,j,P,U,V,S,rfl,rfl,hin⟩:=hrel;have HI:=hin;have h1:=hin.pu;have h2:=hin.pv;have h3:=hin.hm;have h4:=hin.hn;have:IntKind.i64.wrap ((m:Int)-(i:Int))=(p:Int):=by rw[IntKind.wrap_i64];omega
  by_cases he:i=j
  ·subst he
   have:((i:Int) != (i:Int))=false:=sI
   have HC:=gO g n c p m i P U [] V S G fv wr hin.lp hin.lu sM (by have:=hin.lu;have:=hin.lv;omega) (by have:=hin.lu;have:=hin.lv;have:=hin.lp;simp;omega) fo (by rw[<-hin.hG];simp) (by simpa using hin.arr);clear hin h1 h2 h3 h4;go_wp2_with fail
   with_reducible (refine Calls.mono HC ?_)
   rintro e w4 ⟨rfl,Cu,ki⟩;have A4:=Cu;have U4:=HI.upd.trans ki iL;clear Cu ki;go_wp2;go_returns;exact⟨rfl,A4,U4⟩
  ·have:((i:Int) != (j:Int))=true:=by simp;omega
   by_cases hlt:j<i
   ·obtain⟨U1,U2,jk,hc⟩:=hin.gt hlt fo c fv
    have HN:=jk;have HC:=hc;have:decide ((j:Int)<(i:Int))=true:=by simp;omega
    have:IntKind.i64.wrap ((i:Int)-(j:Int))=((i-j:Nat):Int):=by rw[IntKind.wrap_i64];omega
    clear hin hc jk he h3 h4;go_wp2_with fail
    with_reducible (refine Calls.mono HC ?_)
    rintro e w4 ⟨rfl,Cu,ki⟩;have R4:=HN w4 ki Cu;clear Cu ki;go_wp2;go_roundw
    case rel=>exact⟨_,_,_,_,_,_,_,by first|rfl|go_num,rfl,R4⟩
    case measure=>simp[intOf];omega
   ·obtain⟨V1,V2,jk,hc⟩:=hin.le oM fo c fv
    rw[show((m+j-i:Nat):Int)=(m:Int)+(j:Int)-(i:Int) by omega]at hc;have:j<=100000:=oM
    have:i<=100000:=oM
    have HN:=jk;have HC:=hc;have:decide ((j:Int)<(i:Int))=false:=by simp;omega
    have:IntKind.i64.wrap ((j:Int)-(i:Int))=((j-i:Nat):Int):=by rw[IntKind.wrap_i64];omega
    clear hin hc jk he h3 h4;go_wp2_with fail
    with_reducible (refine Calls.mono HC ?_)
    rintro e w4 ⟨rfl,Cu,ki⟩;have R4:=HN w4 ki Cu;clear Cu ki;go_wp2;go_roundw
    case rel=>exact⟨_,_,_,_,_,_,_,rfl,by first|rfl|go_num,R4⟩
    case measure=>simp[intOf];omega
def cY(x y:bo):Bool:=!xD y.key x.key
def Uo(x y:bo):Int:=jR x.key y.key
def NC(x y:bo):decide (Uo x y<0) = !cY y x:=by
 have h:decide (Uo x y<0)=ltOf jR x.key y.key:=rfl;rw[h,pw];unfold cY;simp
def wL(x y:bo):cY x y=true\/cY y x=true:=by unfold cY xD;simp;omega
def iw(x y z:bo)(h1:cY x y=true)(h2:cY y z=true):cY x z=true:=by unfold cY xD at *;simp at *;omega
def Qe(x:bo):cY x x=true:=by unfold cY xD;simp
abbrev ia:Value:=.func (.func 285) #[] #[]
def ax3(w:World)(x y:bo)(e:Ending)(w' : World):Prop:=e=.returned (I6 (Uo x y))/\Bl w w'
theorem NF(x y:bo)(w:World):Calls prog 285 #[.agg x.row,.agg y.row] w (ax3 w x y):=by
 have HC:=zD (λW=>tN x.key y.key W)
 go_enter func285,ntmps285
 go_wp2_with(go_at_call 152;refine(HC.out _).mono ?_;rintro e w1 ⟨rfl,rfl⟩)
 go_ret
 exact⟨rfl,by go_grown⟩
theorem mY(f:Nat->Bool):∀(d lo hi:Nat),hi=lo+d->(∀c c',lo<=c->c<=c'->c' < hi->f c' = true->f c=true)->∃K,lo<=K/\K<=hi/\∀c,lo<=c->c<hi->f c=decide (c<K)
 |0,lo,hi,h,_=>⟨lo,aC2 _,by omega,λc h1 h2=>by omega⟩
 |d+1,lo,hi,h,hm=>by
  obtain⟨K,h1,h2,h3⟩:=mY f d lo (lo+d) rfl (λc c' p1 p2 p3 p4=>hm c c' p1 p2 oM p4);cases hf:f (lo+d)
  ·refine⟨K,h1,by omega,λc p1 p2=>?_⟩
   by_cases e:c=lo+d
   ·subst e;rw[hf];symm;simpa using h2
   ·exact h3 c p1 oM
  ·refine⟨lo+d+1,by omega,by omega,λc p1 p2=>?_⟩
   rw[hm c (lo+d) p1 oM oM hf];symm;simp;omega
def Up(x:bo):cY x x=true:=Qe x
def oQ{X:List bo}(h:ja cY X){x y:bo}(hij:i<=j)(hx:X[i]? = some x)(hy:X[j]? = some y):cY x y=true:=by
 by_cases e:i=j
 ·subst e;rw[hx]at hy;cases hy;exact Up x
 ·obtain⟨h1,rfl⟩:=d9.1 hx
  obtain⟨h2,rfl⟩:=d9.1 hy;exact List.pairwise_iff_getElem.1 h i j h1 h2 oM
def Lh(x:bo)(Y:List bo)(m b:Nat)(hb:b=m+Y.length)(hY:ja cY Y) :
 ∃K,m<=K/\K<=b/\(∀c,m<=c->c<b->∃y,Y[c-m]? = some y/\cY x y = !decide (c<K))/\mg cY [x] Y=Y.take (K-m)++x::Y.drop (K-m):=by
 obtain⟨K,h1,h2,h3⟩:=mY (λc=>!((Y[c-m]?).elim true λy=>cY x y)) Y.length m b hb (λc c' p1 p2 p3 p4=>by
  obtain⟨y,hy⟩:∃y,Y[c-m]? = some y:=⟨_,aB3 oM⟩
  obtain⟨y',hy'⟩:∃y,Y[c'-m]? = some y:=⟨_,aB3 oM⟩
  simp only[hy,hy',Option.elim]at p4 |-;simp only[aU7]at p4 |-;cases h:cY x y
  ·rfl
  ·rw[iw _ _ _ h (oQ hY oM hy hy')]at p4;cases p4)
 have key:∀c,m<=c->c<b->∃y,Y[c-m]? = some y/\cY x y = !decide (c<K):=λc p1 p2=>by
  have hy:Y[c-m]? = some (Y[c-m]'oM):=aB3 oM;have:=h3 c p1 p2;simp only[hy,Option.elim]at this;exact⟨_,hy,by rw[<-this];simp⟩
 refine⟨K,h1,h2,key,?_⟩
 conv=>lhs;rw[<-aF0 (K-m) Y]
 refine ag8 cY (λy hy=>?_) (λy hy=>?_)
 ·obtain⟨i,hi⟩:=aD7 hy
  rw[aE4]at hi
  split at hi
  ·obtain⟨y',h4,h5⟩:=key (m+i) oM oM
   rw[show m+i-m=i by omega,hi]at h4;cases h4;rw[h5];simp;omega
  ·cases hi
 ·obtain⟨i,hi⟩:=aD7 hy
  rw[aE5]at hi;have:=(d9.1 hi).1;obtain⟨y',h4,h5⟩:=key (K+i) oM oM;rw[show K+i-m=K-m+i by omega,hi]at h4;cases h4;rw[h5];simp
def Ic(y:bo)(X:List bo)(a m:Nat)(hm:m=a+X.length)(hX:ja cY X) :
 ∃K,a<=K/\K<=m/\(∀c,a<=c->c<m->∃x,X[c-a]? = some x/\cY x y=decide (c<K))/\mg cY X [y]=X.take (K-a)++y::X.drop (K-a):=by
 obtain⟨K,h1,h2,h3⟩:=mY (λc=>(X[c-a]?).elim true λx=>cY x y) X.length a m hm (λc c' p1 p2 p3 p4=>by
  obtain⟨x,hx⟩:∃x,X[c-a]? = some x:=⟨_,aB3 oM⟩
  obtain⟨x',hx'⟩:∃x,X[c'-a]? = some x:=⟨_,aB3 oM⟩
  simp only[hx,hx',Option.elim]at p4 |-;exact iw _ _ _ (oQ hX oM hx hx') p4)
 have key:∀c,a<=c->c<m->∃x,X[c-a]? = some x/\cY x y=decide (c<K):=λc p1 p2=>by
  have hx:X[c-a]? = some (X[c-a]'oM):=aB3 oM;have:=h3 c p1 p2;simp only[hx,Option.elim]at this;exact⟨_,hx,this⟩
 refine⟨K,h1,h2,key,?_⟩
 conv=>lhs;rw[<-aF0 (K-a) X]
 refine YE cY (λx hx=>?_) (λx hx=>?_)
 ·obtain⟨i,hi⟩:=aD7 hx
  rw[aE4]at hi
  split at hi
  ·obtain⟨x',h4,h5⟩:=key (a+i) oM oM
   rw[show a+i-a=i by omega,hi]at h4;cases h4;rw[h5];simp;omega
  ·cases hi
 ·obtain⟨i,hi⟩:=aD7 hx
  rw[aE5]at hi;have:=(d9.1 hi).1;obtain⟨x',h4,h5⟩:=key (K+i) oM oM;rw[show K+i-a=K-a+i by omega,hi]at h4;cases h4;rw[h5];simp
def Qf(X Y:List bo)(a m b mid n lo hi:Nat)(hX:m=a+X.length)(hY:b=m+Y.length)(h1:a<m)(h2:m<b)(Ie:mid=(a+b) / 2)(hn:n=mid+m)
 (hbr:(mid<m/\lo=n-b/\hi=mid)\/(m<=mid/\lo=a/\hi=m)) (sX:ja cY X) (sY:ja cY Y) :
 ∃K,(lo<=K/\K<=hi/\a<=K/\K<=m/\K<=mid/\n<=b+K)/\(∀c,lo<=c->c<hi->∃x y,X[c-a]? = some x/\Y[n-1-c-m]? = some y/\cY x y=decide (c<K))/\
  ∃X1 X2 Y1 Y2,X=X1++X2/\Y=Y1++Y2/\X1.length=K-a/\X2.length=m-K/\Y1.length=mid-K/\Y2.length=b+K-n/\mg cY X Y=mg cY X1 Y1++mg cY X2 Y2:=by
 have hb1:a<=lo:=oM
 have hb2:hi<=m:=oM
 have hb3:hi<=mid:=oM
 have hb4:n<=b+lo:=oM
 have hlh:lo<=hi:=oM
 obtain⟨K,k1,k2,k3⟩:=mY (λc=>(X[c-a]?).elim true λx=>(Y[n-1-c-m]?).elim true λy=>cY x y) (hi-lo) lo hi oM (λc c' p1 p2 p3 p4=>by
  have hx:X[c-a]? = some (X[c-a]'oM):=aB3 oM;have hx' : X[c'-a]? = some (X[c'-a]'oM):=aB3 oM;have hy:Y[n-1-c-m]? = some (Y[n-1-c-m]'oM):=aB3 oM;have hy' : Y[n-1-c'-m]? = some (Y[n-1-c'-m]'oM):=aB3 oM;simp only[hx,hx',hy,hy',Option.elim]at p4 |-;exact iw _ _ _ (iw _ _ _ (oQ sX oM hx hx') p4) (oQ sY oM hy' hy))
 have key:∀c,lo<=c->c<hi->∃x y,X[c-a]? = some x/\Y[n-1-c-m]? = some y/\cY x y=decide (c<K):=λc p1 p2=>by
  have hx:X[c-a]? = some (X[c-a]'oM):=aB3 oM;have hy:Y[n-1-c-m]? = some (Y[n-1-c-m]'oM):=aB3 oM;have:=k3 c p1 p2;simp only[hx,hy,Option.elim]at this;exact⟨_,_,hx,hy,this⟩
 refine⟨K,⟨k1,k2,oM,oM,oM,oM⟩,key,X.take (K-a),X.drop (K-a),Y.take (mid-K),Y.drop (mid-K),(aF0 _ _).symm,(aF0 _ _).symm,by rw[aC3];omega,by rw[aD2];omega,by rw[aC3];omega,by rw[aD2];omega,?_⟩
 conv=>lhs;rw[<-aF0 (K-a) X,<-aF0 (mid-K) Y]
 refine gM cY _ _ (λx hx y hy=>?_) (λx hx y hy=>?_)
 ·obtain⟨i,MP⟩:=aD7 hx
  obtain⟨j,hj1⟩:=aD7 hy;rw[aE5]at MP;rw[aE4]at hj1;have hil:=(d9.1 MP).1
  split at hj1
  ·have xi:=(d9.1 hj1).1
   obtain⟨x',y',h4,h5,h6⟩:=key K k1 oM;cases hg:cY x y
   ·rfl
   ·have t1:=oQ sX (show K-a<=K-a+i by omega) h4 MP
    have t2:=oQ sY (show j<=n-1-K-m by omega) hj1 h5;have:=iw _ _ _ (iw _ _ _ t1 hg) t2;rw[h6]at this;simp at this
  ·cases hj1
 ·obtain⟨i,MP⟩:=aD7 hx
  obtain⟨j,hj1⟩:=aD7 hy;rw[aE4]at MP;rw[aE5]at hj1;have:=(d9.1 hj1).1
  split at MP
  ·obtain⟨x',y',h4,h5,h6⟩:=key (K-1) oM oM
   have t1:=oQ sX (show i<=K-1-a by omega) MP h4;have t2:=oQ sY (show n-1-(K-1)-m<=mid-K+j by omega) h5 hj1;have h7:cY x' y' = true:=by rw[h6];simp;omega
   exact iw _ _ _ (iw _ _ _ t1 h7) t2
  ·cases MP
def uk(x y:bo):∃C:Int,decide (C<0) = !cY y x/\∀W,Calls prog 285 #[.agg x.row,.agg y.row] W (Rt (I6 C) (Bl W)):=
 ⟨Uo x y,NC x y,λW=>NF x y W⟩
def nJ(P Y:List bo)(x:bo)(R:List bo)(t:Nat):List bo:=P++Y.take t++x::(Y.drop t++R)
def Uq{P Y R:List bo}{x y:bo}{t:Nat}(hy:Y[t]? = some y):(nJ P Y x R t)[P.length+t]? = some x/\(nJ P Y x R t)[P.length+t+1]? = some y/\((nJ P Y x R t).set (P.length+t) y).set (P.length+t+1) x=nJ P Y x R (t+1):=by
 have ht:=(d9.1 hy).1;have hd:Y.drop t=y::Y.drop (t+1):=by rw[aH2 ht,(d9.1 hy).2]
 have e0:nJ P Y x R t=(P++Y.take t)++x::([]++y::(Y.drop (t+1)++R)):=by unfold nJ;rw[hd];simp
 have e1:nJ P Y x R (t+1)=(P++Y.take t)++y::([]++x::(Y.drop (t+1)++R)):=by unfold nJ;rw[ie hy];simp
 have l1:P.length+t=(P++Y.take t).length:=by simp;omega
 rw[e0,e1,l1];exact⟨uh _ _ _ _ _,by have:=ui (P++Y.take t) [] (Y.drop (t+1)++R) x y;simpa using this,Nz _ [] _ _ _⟩
theorem yn(g n c a m b:Nat)(P Q:List bo)(x:bo)(Y:List bo)(w:World)(ha:a=P.length)(hm:m=a+1)(hb:b=m+Y.length)(hY:0<Y.length)(hn:b+Q.length=n)(fo:n<=100000)(sY:ja cY Y)(h:bI w g (P++[x]++Y++Q)) :
 Calls prog 312 #[.slice (some ⟨g,0,none⟩) n c,.int .i64 a,.int .i64 m,.int .i64 b,ia] w (kj w g (P++mg cY [x] Y++Q)):=by
 obtain⟨K,k1,k2,k3,k4⟩:=Lh x Y m b hb sY
 have hbn:b<=n:=by omega
 have hmb:m<b:=by omega
 have H0:=zD h
 have HX:=zD (show(P++[x]++Y++Q)[a]? = some x from by rw[ha];simp)
 have HY:=zD (λ(k:Nat)(p1:m<=k)(p2:k<b)=>(show ∃y,(P++[x]++Y++Q)[k]? = some y/\cY x y = !decide (k<K)from by
  obtain⟨y,q1,q2⟩:=k3 k p1 p2
  refine⟨y,?_,q2⟩
  rw[aD0,aC7 (by simp;omega),aC9 (by simp;omega),<-q1]
  congr 1;simp;omega))
 have HL:=zD (show(P++[x]++Y++Q).length=n from by simp;omega)
 have HS0:=zD (show P++[x]++Y++Q=nJ P (Y.take (K-m)) x (Y.drop (K-m)++Q) 0 from by unfold nJ;rw[List.take_zero,aW3,List.drop_zero,<-aD0 (Y.take (K-m)),aF0];simp)
 have Fa:(Y.take (K-m)).length=K-m:=by rw[aC3];omega
 have HSE:=zD (show nJ P (Y.take (K-m)) x (Y.drop (K-m)++Q) (K-m)=P++mg cY [x] Y++Q from by unfold nJ;rw[k4,aB5 (by omega),aG3 (by omega)];simp)
 have HSN:=zD (λ(t:Nat)(p:t<K-m)=>(show ∃y,(nJ P (Y.take (K-m)) x (Y.drop (K-m)++Q) t)[a+t]? = some x/\(nJ P (Y.take (K-m)) x (Y.drop (K-m)++Q) t)[a+t+1]? = some y/\((nJ P (Y.take (K-m)) x (Y.drop (K-m)++Q) t).set (a+t) y).set (a+t+1) x=nJ P (Y.take (K-m)) x (Y.drop (K-m)++Q) (t+1)from by
  rw[ha];exact⟨_,Uq (aB3 (by omega))⟩))
 have YH:=zD (λt=>(show(nJ P (Y.take (K-m)) x (Y.drop (K-m)++Q) t).length=n from by unfold nJ;simp;omega))
 have Cv:IntKind.i64.wrap ((m:Int)-(a:Int))=1:=by rw[IntKind.wrap_i64];omega
 have Yw:((1:Int)==1)=true:=rfl
 have HM:=zD hm
 generalize nJ P (Y.take (K-m)) x (Y.drop (K-m)++Q)=sh at *
 generalize P++[x]++Y++Q=L0 at *
 generalize P++mg cY [x] Y++Q=L1 at *
 have ha5:a<=100000:=by omega
 have ham:a<m:=by omega
 have eg:∀args W,(callFunc 285 args).run prog W=.ok (.enter 285 args) W:=λ_ _=>by rfl
 clear ha hb hn h k3 k4 Fa hY sY
 clear hm
 go_enter func312,ntmps312
 go_wp2
 go_loopw[10,11] (λvi vj wr=>∃(i j:Nat),vi=.int .i64 i/\vj=.int .i64 j/\m<=i/\i<=K/\K<=j/\j<=b/\bI wr g L0/\ah (λk=>k=g) w wr) (λvi vj _=>(intOf vj).toNat-(intOf vi).toNat)
 case atStart=>exact⟨m,b,rfl,rfl,aC2 _,k1,k2,aC2 _,H0.out,ah.refl _ _⟩
 case round=>
  obtain⟨i,j,rfl,rfl,hmi,Fl,Fo,hjb,mZ,zy⟩:=hrel
  have HA:=zD mZ
  have HU:=zD zy
  clear mZ zy
  by_cases hij:i<j
  ·obtain⟨h,hh⟩:∃h,h=(i+j) / 2:=⟨_,rfl⟩
   have hz:((i:Int)+(j:Int)) / 2=(h:Int):=by omega
   have hi5:i<=100000:=by omega
   have hj5:j<=100000:=by omega
   have hh1:i<=h:=by omega
   have hh2:h<j:=by omega
   obtain⟨y,hy,hge⟩:=HY.out h (by omega) (by omega)
   have HYy:=zD hy
   obtain⟨C,hC,hcm⟩:=uk y x
   have HC:=zD hcm
   rw[hge]at hC
   clear hy hcm hge hh
   by_cases hhK:h<K
   ·rw[decide_eq_true hhK]at hC
    focus(go_upto_region 5 with fail)
    refine zr (λ_=>false) (λwS=>Below wr.heap.size wr wS) ?_
    have S0:=(Below.refl wr.heap.size wr).drew
    refine zk 6 [0,1,2,3,4] [ia,_,_,.pointer (some ⟨g,h*3,none⟩),.agg y.row] (.c rfl rfl zPP<|.c rfl rfl zPP<|.c rfl rfl zPP<|.c rfl rfl (zl λ_ _=>aN rfl rfl rfl (by omega))<|.c rfl rfl (zl λ_ h=>aF (ty:=kP) (x:=.tmp 43) rfl rfl (bI.load (HA.out.call h) HYy.out)) .nil) S0 ?_
    refine zk 2 [5,6,7,8] [_,_,.pointer (some ⟨g,a*3,none⟩),.agg x.row] (.c rfl rfl zPP<|.c rfl rfl zPP<|.c rfl rfl (zl λ_ _=>aN rfl rfl rfl (by omega))<|.c rfl rfl (zl λ_ h=>aF (ty:=kP) (x:=.tmp 47) rfl rfl (bI.load (HA.out.call h) HX.out)) .nil) S0 ?_
    refine zo 9 (λQ2 aI=>?_);go_wp2_with(go_at_fn 285;refine(HC.out _).mono ?_;rintro e v9 ⟨rfl,b8⟩);refine aI _ _ (λ_=>S0.trans (b8.mono S0.size)) ?_;clear aI Q2
    have S9:=S0.trans (b8.mono S0.size)
    refine zk 0 [10] [.bool true] .f S9 ?_
    refine eQ (by kernel_rfl) ?_ _
    have J:=zD (HA.out.call S9)
    have U:=zD (HU.out.call S9)
    clear b8 S9 S0 HC hC
    go_wp2
    go_roundw
    case rel=>exact⟨h+1,j,by first|rfl|go_num,rfl,by omega,by omega,by omega,by omega,J.out,U.out⟩
    case measure=>first|(simp[intOf];done)|(simp[intOf];omega)
   ·rw[decide_eq_false hhK]at hC
    focus(go_upto_region 5 with fail)
    refine zr (λ_=>false) (λwS=>Below wr.heap.size wr wS) ?_
    have S0:=(Below.refl wr.heap.size wr).drew
    refine zk 6 [0,1,2,3,4] [ia,_,_,.pointer (some ⟨g,h*3,none⟩),.agg y.row] (.c rfl rfl zPP<|.c rfl rfl zPP<|.c rfl rfl zPP<|.c rfl rfl (zl λ_ _=>aN rfl rfl rfl (by omega))<|.c rfl rfl (zl λ_ h=>aF (ty:=kP) (x:=.tmp 43) rfl rfl (bI.load (HA.out.call h) HYy.out)) .nil) S0 ?_
    refine zk 2 [5,6,7,8] [_,_,.pointer (some ⟨g,a*3,none⟩),.agg x.row] (.c rfl rfl zPP<|.c rfl rfl zPP<|.c rfl rfl (zl λ_ _=>aN rfl rfl rfl (by omega))<|.c rfl rfl (zl λ_ h=>aF (ty:=kP) (x:=.tmp 47) rfl rfl (bI.load (HA.out.call h) HX.out)) .nil) S0 ?_
    refine zo 9 (λQ2 aI=>?_);go_wp2_with(go_at_fn 285;refine(HC.out _).mono ?_;rintro e v9 ⟨rfl,b8⟩);refine aI _ _ (λ_=>S0.trans (b8.mono S0.size)) ?_;clear aI Q2
    have S9:=S0.trans (b8.mono S0.size)
    refine zk 0 [10] [.bool false] .f S9 ?_
    refine eQ (by kernel_rfl) ?_ _
    have J:=zD (HA.out.call S9)
    have U:=zD (HU.out.call S9)
    clear b8 S9 S0 HC hC
    go_wp2
    go_roundw
    case rel=>exact⟨i,h,rfl,by first|rfl|go_num,by omega,by omega,by omega,by omega,J.out,U.out⟩
    case measure=>first|(simp[intOf];done)|(simp[intOf];omega)
  ·obtain rfl:i=K:=by omega
   obtain rfl:i=j:=by omega
   have hK5:i<=100000:=by omega
   have A0:=zD (show bI wr g (sh 0)from by rw[<-HS0.out];exact HA.out)
   clear hij
   go_wp2
   go_loopw[13] (λvk wr=>∃(k t:Nat),vk=.int .i64 k/\k=a+t/\t<=i-m/\bI wr g (sh t)/\ah (λk=>k=g) w wr) (λvk _=>i-(intOf vk).toNat)
   case atStart=>exact⟨a,0,rfl,rfl,aB6 _,A0.out,HU.out⟩
   case round=>
    obtain⟨k,t,rfl,hkt,ht,mZ,zy⟩:=hrel
    have HKt:=zD hkt
    have HB:=zD mZ
    have HV:=zD zy
    clear mZ zy
    have MP:IntKind.i64.wrap ((i:Int)-1)=(i:Int)-1:=by rw[IntKind.wrap_i64];omega
    by_cases Fb:k<i-1
    ·obtain⟨y,s1,s2,s3⟩:=HSN.out t (by have:=HM.out;omega)
     rw[<-hkt]at s1 s2 s3
     have M1:=zD s1
     have M2:=zD s2
     have M3:=zD s3
     have hz1:IntKind.i64.wrap ((k:Int)+1)=((k+1:Nat):Int):=by rw[IntKind.wrap_i64];omega
     have hkz:(k:Int)<(i:Int)-1:=by omega
     have hk5:k+1<n:=by omega
     clear s1 s2 s3 hkt
     focus(go_upto_region 11 with fail)
     refine zr (λ_=>false) (λwS=>ah (λk=>k=g) wr wS) ?_
     have S0:=(ah.refl (λk=>k=g) wr).drew
     refine zk 13 [0,1,2,3,4] [_,_,_,_,.int .i64 ((k+1:Nat):Int)] (.q zK<|.q zK<|.q zK<|.q zK<|.f) S0 ?_
     refine zk 8 [5,6,7,8,10] [_,_,.int .i64 ((k+1:Nat):Int),.pointer (some ⟨g,(k+1)*3,none⟩),_] (.c rfl rfl zPP<|.c rfl rfl zPP<|.c rfl rfl zPP<|.c rfl rfl (zl λ_ _=>aN rfl rfl rfl (by omega))<|.f) S0 ?_
     refine zk 6 [11,12] [_,.pointer (some ⟨g,k*3,none⟩)] (.c rfl rfl zPP<|.c rfl rfl (zl λ_ _=>aN rfl rfl rfl (by omega)) .nil) S0 ?_
     refine FN (i:=9) (j:=13) (by kernel_rfl) rfl (by rfl) rfl (by rfl) (λQ2 aI=>?_) (λQ2 aI=>?_)
     ·
      go_wp2_with(refine bI.ld (w:=wr.drew) HB.out M2.out rfl (.tmp 69) rfl rfl rfl ?_)
      refine aI _ _ (λ_=>S0) ?_
      clear aI Q2
      refine zo 13 (λQ2 aI=>?_);go_wp2_with(refine bI.ld (w:=wr.drew) HB.out M1.out rfl (.tmp 73) rfl rfl rfl ?_);refine aI _ _ (λ_=>S0) ?_;clear aI Q2
      refine zk 3 [14] [.pointer (some ⟨g,k*3,none⟩)] (.c rfl rfl (zl λ_ _=>aN rfl rfl rfl (by omega)) .nil) S0 ?_
      refine zo 15 (λQ2 aI=>?_);go_wp2_with(refine bI.store (w:=wr.drew) HB.out (i:=k) (by rw[YH.out];omega) y rfl (.tmp 75) (.tmp 70) rfl rfl rfl rfl ?_;intro w5 h5 u5);refine aI _ _ (λ_=>S0.trans u5 (λk hk=>.inl hk)) ?_;clear aI Q2
      have S5:=S0.trans u5 (λk hk=>.inl hk)
      refine zk 1 [16] [.pointer (some ⟨g,(k+1)*3,none⟩)] (.c rfl rfl (zl λ_ _=>aN rfl rfl rfl (by omega)) .nil) S5 ?_
      refine zo 17 (λQ2 aI=>?_);go_wp2_with(refine bI.store h5 (i:=k+1) (by rw[aF3,YH.out];omega) x rfl (.tmp 76) (.tmp 74) rfl rfl rfl rfl ?_;intro w6 h6 u6);refine aI _ _ (λ_=>S5.trans u6 (λk hk=>.inl hk)) ?_;clear aI Q2
      have S6:=S5.trans u6 (λk hk=>.inl hk)
      refine eQ (by kernel_rfl) ?_ _
      have X6:=zD (show bI w6 g (sh (t+1))from by rw[<-M3.out];exact h6)
      have U6:=zD (HV.out.trans S6 (λk hk=>.inl hk))
      clear h5 h6 u5 u6 S0 S5 S6
      go_wp2
      go_roundw
      case rel=>exact⟨k+1,t+1,by first|rfl|go_num,by have:=HKt.out;omega,by have:=HKt.out;have:=HM.out;omega,X6.out,U6.out⟩
      case measure=>first|(simp[intOf];done)|(simp[intOf];omega)
     ·
      go_wp2_with(refine bI.ld (w:=wr.drew) HB.out M1.out rfl (.tmp 73) rfl rfl rfl ?_)
      refine aI _ _ (λ_=>S0) ?_
      clear aI Q2
      refine zo 9 (λQ2 aI=>?_);go_wp2_with(refine bI.ld (w:=wr.drew) HB.out M2.out rfl (.tmp 69) rfl rfl rfl ?_);refine aI _ _ (λ_=>S0) ?_;clear aI Q2
      refine zk 3 [14] [.pointer (some ⟨g,k*3,none⟩)] (.c rfl rfl (zl λ_ _=>aN rfl rfl rfl (by omega)) .nil) S0 ?_
      refine zo 15 (λQ2 aI=>?_);go_wp2_with(refine bI.store (w:=wr.drew) HB.out (i:=k) (by rw[YH.out];omega) y rfl (.tmp 75) (.tmp 70) rfl rfl rfl rfl ?_;intro w5 h5 u5);refine aI _ _ (λ_=>S0.trans u5 (λk hk=>.inl hk)) ?_;clear aI Q2
      have S5:=S0.trans u5 (λk hk=>.inl hk)
      refine zk 1 [16] [.pointer (some ⟨g,(k+1)*3,none⟩)] (.c rfl rfl (zl λ_ _=>aN rfl rfl rfl (by omega)) .nil) S5 ?_
      refine zo 17 (λQ2 aI=>?_);go_wp2_with(refine bI.store h5 (i:=k+1) (by rw[aF3,YH.out];omega) x rfl (.tmp 76) (.tmp 74) rfl rfl rfl rfl ?_;intro w6 h6 u6);refine aI _ _ (λ_=>S5.trans u6 (λk hk=>.inl hk)) ?_;clear aI Q2
      have S6:=S5.trans u6 (λk hk=>.inl hk)
      refine eQ (by kernel_rfl) ?_ _
      have X6:=zD (show bI w6 g (sh (t+1))from by rw[<-M3.out];exact h6)
      have U6:=zD (HV.out.trans S6 (λk hk=>.inl hk))
      clear h5 h6 u5 u6 S0 S5 S6
      go_wp2
      go_roundw
      case rel=>exact⟨k+1,t+1,by first|rfl|go_num,by have:=HKt.out;omega,by have:=HKt.out;have:=HM.out;omega,X6.out,U6.out⟩
      case measure=>first|(simp[intOf];done)|(simp[intOf];omega)
    ·obtain rfl:t=i-m:=by have:=HM.out;omega
     have hkz:(i:Int)-1<=(k:Int):=by omega
     have HE:=zD (show bI wr g L1 from by rw[<-HSE.out];exact HB.out)
     clear hkt
     go_wp2
     go_returns
     exact⟨rfl,HE.out,HV.out⟩
def Ur{P Y R:List bo}{x y:bo}{t:Nat}(hy:Y[t]? = some y):(nJ P Y x R (t+1))[P.length+t]? = some y/\(nJ P Y x R (t+1))[P.length+t+1]? = some x/\((nJ P Y x R (t+1)).set (P.length+t+1) y).set (P.length+t) x=nJ P Y x R t:=by
 have ht:=(d9.1 hy).1;have hd:Y.drop t=y::Y.drop (t+1):=by rw[aH2 ht,(d9.1 hy).2]
 have e0:nJ P Y x R t=(P++Y.take t)++x::([]++y::(Y.drop (t+1)++R)):=by unfold nJ;rw[hd];simp
 have e1:nJ P Y x R (t+1)=(P++Y.take t)++y::([]++x::(Y.drop (t+1)++R)):=by unfold nJ;rw[ie hy];simp
 have l1:P.length+t=(P++Y.take t).length:=by simp;omega
 rw[e0,e1,l1,List.set_comm _ _ oM];exact⟨uh _ _ _ _ _,by have:=ui (P++Y.take t) [] (Y.drop (t+1)++R) y x;simpa using this,Nz _ [] _ _ _⟩
theorem vT(g n c a m b:Nat)(P Q:List bo)(y:bo)(X:List bo)(w:World)(ha:a=P.length)(hm:m=a+X.length)(hb:b=m+1)(hX:1<X.length)(hn:b+Q.length=n)(fo:n<=100000)(sX:ja cY X)(h:bI w g (P++X++[y]++Q)) :
 Calls prog 312 #[.slice (some ⟨g,0,none⟩) n c,.int .i64 a,.int .i64 m,.int .i64 b,ia] w (kj w g (P++mg cY X [y]++Q)):=by
 obtain⟨K,k1,k2,k3,k4⟩:=Ic y X a m hm sX
 have hbn:b<=n:=by omega
 have H0:=zD h
 have HX:=zD (show(P++X++[y]++Q)[m]? = some y from by rw[show m=(P++X).length by simp;omega];simp)
 have HY:=zD (λ(k:Nat)(p1:a<=k)(p2:k<m)=>(show ∃x,(P++X++[y]++Q)[k]? = some x/\cY x y=decide (k<K)from by
  obtain⟨x,q1,q2⟩:=k3 k p1 p2
  refine⟨x,?_,q2⟩
  rw[aD0,aC9 (by simp;omega),aC7 (by omega),<-q1,ha]))
 have HL:=zD (show(P++X++[y]++Q).length=n from by simp;omega)
 have hxl:(X.drop (K-a)).length=m-K:=by rw[aD2];omega
 have hx2:(X.take (K-a)).length=K-a:=by rw[aC3];omega
 have HS0:=zD (show P++X++[y]++Q=nJ (P++X.take (K-a)) (X.drop (K-a)) y Q (m-K)from by unfold nJ;rw[aB5 (l:=X.drop (K-a)) (by omega),aG3 (l:=X.drop (K-a)) (by omega),aD0 P (X.take (K-a)),aF0];simp)
 have HSE:=zD (show nJ (P++X.take (K-a)) (X.drop (K-a)) y Q 0=P++mg cY X [y]++Q from by unfold nJ;rw[k4];simp)
 have HSN:=zD (λ(t:Nat)(p:t<m-K)=>(show ∃z,(nJ (P++X.take (K-a)) (X.drop (K-a)) y Q (t+1))[K+t]? = some z/\(nJ (P++X.take (K-a)) (X.drop (K-a)) y Q (t+1))[K+t+1]? = some y/\((nJ (P++X.take (K-a)) (X.drop (K-a)) y Q (t+1)).set (K+t+1) z).set (K+t) y=nJ (P++X.take (K-a)) (X.drop (K-a)) y Q t from by
  rw[show K=(P++X.take (K-a)).length by rw[aB8];omega]
  rw[show(P++X.take (K-a)).length-a=K-a by rw[aB8];omega]
  exact⟨_,Ur (aB3 (by omega))⟩))
 have YH:=zD (λt=>(show(nJ (P++X.take (K-a)) (X.drop (K-a)) y Q t).length=n from by unfold nJ;simp;omega))
 have Cv:IntKind.i64.wrap ((b:Int)-(m:Int))=1:=by rw[IntKind.wrap_i64];omega
 have hm0:((m:Int)-(a:Int)==1)=false:=by simp;omega
 have Yw:((1:Int)==1)=true:=rfl
 have HM:=zD hb
 generalize nJ (P++X.take (K-a)) (X.drop (K-a)) y Q=sh at *
 generalize P++X++[y]++Q=L0 at *
 generalize P++mg cY X [y]++Q=L1 at *
 have ha5:a<=100000:=by omega
 have ham:a<m:=by omega
 have hmn:m<n:=by omega
 have eg:∀args W,(callFunc 285 args).run prog W=.ok (.enter 285 args) W:=λ_ _=>by rfl
 clear hn h k3 k4 hxl hx2 hX sX ha
 clear hm hb
 go_enter func312,ntmps312
 go_wp2
 go_loopw[14,15] (λvi vj wr=>∃(i j:Nat),vi=.int .i64 i/\vj=.int .i64 j/\a<=i/\i<=K/\K<=j/\j<=m/\bI wr g L0/\ah (λk=>k=g) w wr) (λvi vj _=>(intOf vj).toNat-(intOf vi).toNat)
 case atStart=>exact⟨a,m,rfl,rfl,aC2 _,k1,k2,aC2 _,H0.out,ah.refl _ _⟩
 case round=>
  obtain⟨i,j,rfl,rfl,hmi,Fl,Fo,hjb,mZ,zy⟩:=hrel
  have HA:=zD mZ
  have HU:=zD zy
  clear mZ zy
  by_cases hij:i<j
  ·obtain⟨h,hh⟩:∃h,h=(i+j) / 2:=⟨_,rfl⟩
   have hz:((i:Int)+(j:Int)) / 2=(h:Int):=by omega
   have hi5:i<=100000:=by omega
   have hj5:j<=100000:=by omega
   have hh1:i<=h:=by omega
   have hh2:h<j:=by omega
   obtain⟨x,hy,hge⟩:=HY.out h (by omega) (by omega)
   have HYy:=zD hy
   obtain⟨C,hC,hcm⟩:=uk y x
   have HC:=zD hcm
   rw[hge]at hC
   clear hy hcm hge hh
   by_cases hhK:h<K
   ·rw[decide_eq_true hhK]at hC
    focus(go_upto_region 17 with fail)
    refine zr (λ_=>false) (λwS=>Below wr.heap.size wr wS) ?_
    have S0:=(Below.refl wr.heap.size wr).drew
    refine zk 7 [0,1,2,3,4] [ia,_,_,.pointer (some ⟨g,m*3,none⟩),.agg y.row] (.c rfl rfl zPP<|.c rfl rfl zPP<|.c rfl rfl zPP<|.c rfl rfl (zl λ_ _=>aN rfl rfl rfl (by omega))<|.c rfl rfl (zl λ_ h=>aF (ty:=kP) (x:=.tmp 95) rfl rfl (bI.load (HA.out.call h) HX.out)) .nil) S0 ?_
    refine zk 3 [5,6,7,8] [_,_,.pointer (some ⟨g,h*3,none⟩),.agg x.row] (.c rfl rfl zPP<|.c rfl rfl zPP<|.c rfl rfl (zl λ_ _=>aN rfl rfl rfl (by omega))<|.c rfl rfl (zl λ_ h=>aF (ty:=kP) (x:=.tmp 99) rfl rfl (bI.load (HA.out.call h) HYy.out)) .nil) S0 ?_
    refine zo 9 (λQ2 aI=>?_);go_wp2_with(go_at_fn 285;refine(HC.out _).mono ?_;rintro e v9 ⟨rfl,b8⟩);refine aI _ _ (λ_=>S0.trans (b8.mono S0.size)) ?_;clear aI Q2
    have S9:=S0.trans (b8.mono S0.size)
    refine zk 0 [10,11] [.bool false,.bool true] (.q zK<|.f) S9 ?_
    refine eQ (by kernel_rfl) ?_ _
    have J:=zD (HA.out.call S9)
    have U:=zD (HU.out.call S9)
    clear b8 S9 S0 HC hC
    go_wp2
    go_roundw
    case rel=>exact⟨h+1,j,by first|rfl|go_num,rfl,by omega,by omega,by omega,by omega,J.out,U.out⟩
    case measure=>first|(simp[intOf];done)|(simp[intOf];omega)
   ·rw[decide_eq_false hhK]at hC
    focus(go_upto_region 17 with fail)
    refine zr (λ_=>false) (λwS=>Below wr.heap.size wr wS) ?_
    have S0:=(Below.refl wr.heap.size wr).drew
    refine zk 7 [0,1,2,3,4] [ia,_,_,.pointer (some ⟨g,m*3,none⟩),.agg y.row] (.c rfl rfl zPP<|.c rfl rfl zPP<|.c rfl rfl zPP<|.c rfl rfl (zl λ_ _=>aN rfl rfl rfl (by omega))<|.c rfl rfl (zl λ_ h=>aF (ty:=kP) (x:=.tmp 95) rfl rfl (bI.load (HA.out.call h) HX.out)) .nil) S0 ?_
    refine zk 3 [5,6,7,8] [_,_,.pointer (some ⟨g,h*3,none⟩),.agg x.row] (.c rfl rfl zPP<|.c rfl rfl zPP<|.c rfl rfl (zl λ_ _=>aN rfl rfl rfl (by omega))<|.c rfl rfl (zl λ_ h=>aF (ty:=kP) (x:=.tmp 99) rfl rfl (bI.load (HA.out.call h) HYy.out)) .nil) S0 ?_
    refine zo 9 (λQ2 aI=>?_);go_wp2_with(go_at_fn 285;refine(HC.out _).mono ?_;rintro e v9 ⟨rfl,b8⟩);refine aI _ _ (λ_=>S0.trans (b8.mono S0.size)) ?_;clear aI Q2
    have S9:=S0.trans (b8.mono S0.size)
    refine zk 0 [10,11] [.bool true,.bool false] (.q zK<|.f) S9 ?_
    refine eQ (by kernel_rfl) ?_ _
    have J:=zD (HA.out.call S9)
    have U:=zD (HU.out.call S9)
    clear b8 S9 S0 HC hC
    go_wp2
    go_roundw
    case rel=>exact⟨i,h,rfl,by first|rfl|go_num,by omega,by omega,by omega,by omega,J.out,U.out⟩
    case measure=>first|(simp[intOf];done)|(simp[intOf];omega)
  ·obtain rfl:i=K:=by omega
   obtain rfl:i=j:=by omega
   have hK5:i<=100000:=by omega
   have A0:=zD (show bI wr g (sh (m-i))from by rw[<-HS0.out];exact HA.out)
   clear hij
   go_wp2
   go_loopw[17] (λvk wr=>∃(k t:Nat),vk=.int .i64 k/\k=i+t/\t<=m-i/\bI wr g (sh t)/\ah (λk=>k=g) w wr) (λvk _=>(intOf vk).toNat)
   case atStart=>exact⟨m,m-i,rfl,by omega,aC2 _,A0.out,HU.out⟩
   case round=>
    obtain⟨k1,t1,rfl,hkt,ht,mZ,zy⟩:=hrel
    have HKt:=zD hkt
    have HB:=zD mZ
    have HV:=zD zy
    clear mZ zy
    by_cases Fb:i<k1
    ·obtain⟨t,rfl⟩:∃t,t1=t+1:=⟨t1-1,by omega⟩
     obtain⟨k,rfl⟩:∃k,k1=k+1:=⟨k1-1,by omega⟩
     obtain⟨z,s1,s2,s3⟩:=HSN.out t (by omega)
     rw[show i+t=k by omega]at s1 s2 s3
     have M1:=zD s1
     have M2:=zD s2
     have M3:=zD s3
     have hz1:IntKind.i64.wrap (k:Int)=(k:Int):=by rw[IntKind.wrap_i64];omega
     have hkz:(i:Int)<(k:Int)+1:=by omega
     have hk5:k+1<n:=by omega
     clear s1 s2 s3 hkt
     focus(go_upto_region 23 with fail)
     refine zr (λ_=>false) (λwS=>ah (λk=>k=g) wr wS) ?_
     have S0:=(ah.refl (λk=>k=g) wr).drew
     refine zk 13 [0,1,2,3,4] [_,_,_,_,.int .i64 (k:Int)] (.q zK<|.q zK<|.q zK<|.q zK<|.f) S0 ?_
     refine zk 8 [5,6,7,8,10] [_,_,.int .i64 (k:Int),.pointer (some ⟨g,k*3,none⟩),_] (.c rfl rfl zPP<|.c rfl rfl zPP<|.c rfl rfl zPP<|.c rfl rfl (zl λ_ _=>aN rfl rfl rfl (by omega))<|.f) S0 ?_
     refine zk 6 [11,12] [_,.pointer (some ⟨g,(k+1)*3,none⟩)] (.c rfl rfl zPP<|.c rfl rfl (zl λ_ _=>aN rfl rfl rfl (by omega)) .nil) S0 ?_
     refine FN (i:=9) (j:=13) (by kernel_rfl) rfl (by rfl) rfl (by rfl) (λQ2 aI=>?_) (λQ2 aI=>?_)
     ·
      go_wp2_with(refine bI.ld (w:=wr.drew) HB.out M1.out rfl (.tmp 121) rfl rfl rfl ?_)
      refine aI _ _ (λ_=>S0) ?_
      clear aI Q2
      refine zo 13 (λQ2 aI=>?_);go_wp2_with(refine bI.ld (w:=wr.drew) HB.out M2.out rfl (.tmp 125) rfl rfl rfl ?_);refine aI _ _ (λ_=>S0) ?_;clear aI Q2
      refine zk 3 [14] [.pointer (some ⟨g,(k+1)*3,none⟩)] (.c rfl rfl (zl λ_ _=>aN rfl rfl rfl (by omega)) .nil) S0 ?_
      refine zo 15 (λQ2 aI=>?_);go_wp2_with(refine bI.store (w:=wr.drew) HB.out (i:=k+1) (by rw[YH.out];omega) z rfl (.tmp 127) (.tmp 122) rfl rfl rfl rfl ?_;intro w5 h5 u5);refine aI _ _ (λ_=>S0.trans u5 (λk hk=>.inl hk)) ?_;clear aI Q2
      have S5:=S0.trans u5 (λk hk=>.inl hk)
      refine zk 1 [16] [.pointer (some ⟨g,k*3,none⟩)] (.c rfl rfl (zl λ_ _=>aN rfl rfl rfl (by omega)) .nil) S5 ?_
      refine zo 17 (λQ2 aI=>?_);go_wp2_with(refine bI.store h5 (i:=k) (by rw[aF3,YH.out];omega) y rfl (.tmp 128) (.tmp 126) rfl rfl rfl rfl ?_;intro w6 h6 u6);refine aI _ _ (λ_=>S5.trans u6 (λk hk=>.inl hk)) ?_;clear aI Q2
      have S6:=S5.trans u6 (λk hk=>.inl hk)
      refine eQ (by kernel_rfl) ?_ _
      have X6:=zD (show bI w6 g (sh t)from by rw[<-M3.out];exact h6)
      have U6:=zD (HV.out.trans S6 (λk hk=>.inl hk))
      clear h5 h6 u5 u6 S0 S5 S6
      go_wp2
      go_roundw
      case rel=>exact⟨k,t,by first|rfl|go_num,by have:=HKt.out;omega,by omega,X6.out,U6.out⟩
      case measure=>first|(simp[intOf];done)|(simp[intOf];omega)
     ·
      go_wp2_with(refine bI.ld (w:=wr.drew) HB.out M2.out rfl (.tmp 125) rfl rfl rfl ?_)
      refine aI _ _ (λ_=>S0) ?_
      clear aI Q2
      refine zo 9 (λQ2 aI=>?_);go_wp2_with(refine bI.ld (w:=wr.drew) HB.out M1.out rfl (.tmp 121) rfl rfl rfl ?_);refine aI _ _ (λ_=>S0) ?_;clear aI Q2
      refine zk 3 [14] [.pointer (some ⟨g,(k+1)*3,none⟩)] (.c rfl rfl (zl λ_ _=>aN rfl rfl rfl (by omega)) .nil) S0 ?_
      refine zo 15 (λQ2 aI=>?_);go_wp2_with(refine bI.store (w:=wr.drew) HB.out (i:=k+1) (by rw[YH.out];omega) z rfl (.tmp 127) (.tmp 122) rfl rfl rfl rfl ?_;intro w5 h5 u5);refine aI _ _ (λ_=>S0.trans u5 (λk hk=>.inl hk)) ?_;clear aI Q2
      have S5:=S0.trans u5 (λk hk=>.inl hk)
      refine zk 1 [16] [.pointer (some ⟨g,k*3,none⟩)] (.c rfl rfl (zl λ_ _=>aN rfl rfl rfl (by omega)) .nil) S5 ?_
      refine zo 17 (λQ2 aI=>?_);go_wp2_with(refine bI.store h5 (i:=k) (by rw[aF3,YH.out];omega) y rfl (.tmp 128) (.tmp 126) rfl rfl rfl rfl ?_;intro w6 h6 u6);refine aI _ _ (λ_=>S5.trans u6 (λk hk=>.inl hk)) ?_;clear aI Q2
      have S6:=S5.trans u6 (λk hk=>.inl hk)
      refine eQ (by kernel_rfl) ?_ _
      have X6:=zD (show bI w6 g (sh t)from by rw[<-M3.out];exact h6)
      have U6:=zD (HV.out.trans S6 (λk hk=>.inl hk))
      clear h5 h6 u5 u6 S0 S5 S6
      go_wp2
      go_roundw
      case rel=>exact⟨k,t,by first|rfl|go_num,by have:=HKt.out;omega,by omega,X6.out,U6.out⟩
      case measure=>first|(simp[intOf];done)|(simp[intOf];omega)
    ·obtain rfl:t1=0:=by omega
     have hkz:(k1:Int)<=(i:Int):=by omega
     have HE:=zD (show bI wr g L1 from by rw[<-HSE.out];exact HB.out)
     clear hkt
     go_wp2
     go_returns
     exact⟨rfl,HE.out,HV.out⟩
def ah1(N:Nat):Prop:=∀(g n c a m b:Nat)(P X Y Q:List bo)(w:World),b-a<=N->a=P.length->m=a+X.length->b=m+Y.length->0<X.length->0<Y.length->b+Q.length=n->n<=100000->ja cY X->ja cY Y->bI w g (P++X++Y++Q)->
 Calls prog 312 #[.slice (some ⟨g,0,none⟩) n c,I6 a,I6 m,I6 b,ia] w (kj w g (P++mg cY X Y++Q))
def um{l:List α}(h:l.length=0):l=[]:=aC0 h
def Us(N:Nat)(IH:ah1 N)(g n c a m b mid K e:Nat)(P Q X1 X2 Y1 Y2:List bo)(hN:b-a<=N+1)(ha:a=P.length)(h1:a<=K)(h2:K<=m)(h3:K<=mid)(h4:e<=b)(he:e+K=mid+m)(hmb:m<b)(ham:a<m)(Ie:mid=(a+b) / 2)(hab:a+2<=b)
 (lX1:X1.length=K-a) (lX2:X2.length=m-K) (lY1:Y1.length=mid-K) (lY2:Y2.length=b-e) (hn:b+Q.length=n) (fo:n<=100000) (s1:ja cY X1) (s2:ja cY X2) (s3:ja cY Y1) (s4:ja cY Y2) :
 ∃L2 L3:List bo,(∀W,K<m->K<mid->bI W g (P++X1++X2++Y1++(Y2++Q))->Calls prog 315 #[.slice (some ⟨g,0,none⟩) n c,I6 K,I6 m,I6 e,ia] W (kj W g L2))/\(¬(K<m/\K<mid)->P++X1++X2++Y1++(Y2++Q)=L2)/\
  (∀W,a<K->K<mid->bI W g L2->Calls prog 312 #[.slice (some ⟨g,0,none⟩) n c,I6 a,I6 K,I6 mid,ia] W (kj W g L3))/\(¬(a<K/\K<mid)->L2=L3)/\
  (∀W,K<m->e<b->bI W g L3->Calls prog 312 #[.slice (some ⟨g,0,none⟩) n c,I6 mid,I6 e,I6 b,ia] W (kj W g (P++mg cY X1 Y1++mg cY X2 Y2++Q)))/\(¬(K<m/\e<b)->L3=P++mg cY X1 Y1++mg cY X2 Y2++Q):=by
 refine⟨P++X1++Y1++(X2++Y2++Q),P++mg cY X1 Y1++(X2++Y2++Q),λW p1 p2 hA=>?_,λhq=>?_,λW p1 p2 hA=>?_,λhq=>?_,λW p1 p2 hA=>?_,λhq=>?_⟩
 ·refine AY g n c K m e (P++X1) X2 Y1 (Y2++Q) _ ia W (by rw[aB8];omega) oM oM (by rw[aB8];omega) fo oM oM ?_ hA
  simp
 ·by_cases hk:K<m
  ·rw[um (l:=Y1) oM];simp
  ·rw[um (l:=X2) oM];simp
 ·exact IH g n c a K mid P X1 Y1 (X2++Y2++Q) W oM ha oM oM oM oM (by rw[aB8,aB8];omega) fo s1 s3 hA
 ·by_cases hk:a<K
  ·rw[um (l:=Y1) oM,j7];simp
  ·rw[um (l:=X1) oM,ir];simp
 ·have RY:=Lc cY X1 Y1
  have:=IH g n c mid e b (P++mg cY X1 Y1) X2 Y2 Q W oM (by rw[aB8];omega) oM oM oM oM hn fo s2 s4 (sH hA)
  simpa using this
 ·by_cases hk:K<m
  ·rw[um (l:=Y2) oM,j7];simp
  ·rw[um (l:=X2) oM,ir];simp
abbrev eL:TypeId:=93
def Ev.cells(e:Ev):List Value:=[I6 e.kind,I6 e.task,I6 e.nth]++(aj e.call.k e.call.s e.call.t e.call.v e.call.h e.call.p).toList++e.rep.row.toList++e.key.cells++e.ei.cells
def yA:∀e:Ev,e.cells.length=34:=λ_=>rfl
def DU:∀e:Ev,∀u∈e.cells,u.oneCell' = true:=λe u hu=>by
 unfold Ev.cells Key.cells aU.cells at hu;simp at hu;rcases hu with rfl|rfl|rfl|rfl|rfl|rfl|rfl|rfl|rfl|rfl|rfl|rfl|rfl|rfl|rfl|rfl|rfl|rfl|rfl|rfl|rfl|rfl|rfl|rfl|rfl|rfl|rfl|rfl|rfl|rfl|rfl|rfl|rfl|rfl<;>rfl
abbrev Ev.row(e:Ev):Array Value:=#[I6 e.kind,I6 e.task,I6 e.nth,I6 e.call.k,.string e.call.s,I6 e.call.t,I6 e.call.v,I6 e.call.h,I6 e.call.p.min,I6 e.call.p.max,I6 e.call.p.target,I6 e.call.p.lz,I6 e.call.p.bp,I6 e.call.p.hold,I6 e.rep.err,I6 e.rep.bV,I6 e.rep.RX,I6 e.rep.stat.count,I6 e.rep.stat.sum,I6 e.rep.stat.least,I6 e.rep.stat.most,I6 e.rep.stat.qV,I6 e.rep.ei.tick,I6 e.rep.ei.load,I6 e.rep.ei.want,I6 e.rep.ei.aQ,I6 e.rep.ei.why,V6 e.key.hi,V6 e.key.lo,I6 e.ei.tick,I6 e.ei.load,I6 e.ei.want,I6 e.ei.aQ,I6 e.ei.why]
def ev0:Ev:=⟨0,0,0,iU,eo,nO,eU⟩
abbrev Bg:TypeId:=28
def Ix:(prog.info? eL).map (λi=>(i.zero,i.size,i.bytes))=some (some (.agg ev0.row),34,280):=kZ
abbrev gS(w:World)(A:Option Addr)(len cap:Nat)(l:List Ev):Prop:=ag w 34 Ev.cells A len cap l
def CJ(x:ak):Nat:=if((x.k==1)||(x.k==6))&&(x.err==0)then 1 else 0
def o8(l:List ak):Nat:=(l.map CJ).sum
def kA(rows:List (bq ak)):Nat:=(rows.map λr=>o8 r.l).sum
def VY(x:ak):CJ x<=1:=by unfold CJ;split<;>omega
theorem yQ(l:List ak):o8 l<=l.length:=by
 induction l with
 |nil=>exact aC2 _
 |cons x l ih=>
  have:=VY x;unfold o8 at *;rw[aH1,aS2,aC4];omega
def L8{l:List ak}{x:ak}(h:l[j]? = some x):o8 (l.take (j+1))=o8 (l.take j)+CJ x:=by
 unfold o8;rw[aE3,h,aT2,aG4,List.sum_append];simp
def L9{rows:List (bq ak)}{k:Nat}{r:bq ak}(h:rows[k]? = some r):kA (rows.take (k+1))=kA (rows.take k)+o8 r.l:=by
 unfold kA;rw[aE3,h,aT2,aG4,List.sum_append];simp
theorem yR(rows:List (bq ak))(h:∀r∈rows,r.l.length<=20):kA rows<=20*rows.length:=by
 induction rows with
 |nil=>exact aC2 _
 |cons r rows ih=>
  have:=yQ r.l;have:=h r sI;have:=ih (λx hx=>h x (by simp[hx]));unfold kA at *;rw[aH1,aS2,aC4];omega
theorem Jc(A:Option Addr)(len cap:Nat)(rows:List (bq ak))(w:World)(hr:dK w 11 ak.cells A len cap rows)(hg:∀r∈rows,∀x∈r.l,x.good)(hn:len<=40)(Fg:∀r∈rows,r.n<=20) :
 Calls prog 101 #[.slice A len cap] w (Rt (I6 (kA rows:Nat)) (Bl w)):=by
 have Er:=hr;have Nv:=hr.1.1;have HG:=hg;have H20:=Fg;have hm:cap<=9223372036854775807:=by have:=hr.1.2.2.1;unfold maxLen at this;omega
 have hle:len<=cap:=hr.1.2.1;have HT:=(λk (hk:k<=len)=>(show kA (rows.take k)<=800 from by
  have h1:=yR (rows.take k) (λr h=>by have h2:=Fg r (aI0 h);have h3:=(hr.2 r (aI0 h)).1;omega);have h2:=aV4 k rows;omega))
 clear hr hg Fg;go_enter func101,ntmps101;go_wp2;go_loopw[3,10] (λs i wr=>∃k:Nat,k<=len/\i = I6 k/\s = I6 (kA (rows.take k):Nat)/\Bl w wr) (λ_ i _=>len-(intOf i).toNat)
 case atStart=>exact⟨0,aB6 _,rfl,rfl,Below.refl _ _⟩
 case round=>
  obtain⟨k,hk,rfl,rfl,aT⟩:=hrel;have HE:=aT;clear aT
  by_cases hlt:k<len
  ·have Fb:(k:Int)<(len:Int):=oM
   obtain⟨b,off,r,rfl,hx,fH,t0⟩:=VT (af Er.1 HE) hlt;obtain⟨RA,rn,rc,rl⟩:=r;have kv:=aC1 hx;have VU:=Er.2 _ kv;have hrn:rn<=20:=H20 _ kv;have HGr:=HG _ kv;have Nl:rl.length=rn:=(Er.2 _ kv).1;have hrc:rn<=rc:=(Er.2 _ kv).2.1;have ay9:rc<=9223372036854775807:=by have:=(Er.2 _ kv).2.2.1;unfold maxLen at this;simp only at this;omega
   have HN:=L9 hx;have HNl:=Nl;have:=HT k hk;have nh:=HT (k+1) oM;rw[HN]at nh;simp only at nh VU HGr;clear hx kv Nl;generalize kA (rows.take k)=T at *;obtain⟨wo,hwo⟩:=zE wr;rw[<-hwo]at HE t0 fH |-;clear hwo;go_wp2;go_loopw[3,16] (λs i wr2=>∃j:Nat,j<=rn/\i = I6 j/\s = I6 (T+o8 (rl.take j):Nat)/\Bl w wr2) (λ_ i _=>rn-(intOf i).toNat)
   case atStart=>exact⟨0,aB6 _,rfl,rfl,HE⟩
   case round=>
    obtain⟨j,hj,rfl,rfl,qu⟩:=hrel;have HE2:=qu;clear qu t0;have:o8 (rl.take j)<=20:=oI (yQ (rl.take j)) (aV4 j rl)
    by_cases hlt2:j<rn
    ·have:(j:Int)<(rn:Int):=oM
     obtain⟨b2,gY,x,rfl,hx2,yP,hcl⟩:=ag.at_ (af VU HE2) hlt2;obtain⟨u0,u1,u2,u3,u4,u5,u6,u7,u8,u9,u10⟩:=yO hcl;have fG:=L8 hx2;have hxg:x.s.size<=maxLen:=HGr x (aC1 hx2);have wN:=(λW=>gu x.k x.s x.t x.v x.h x.p W hxg);have HEr:x.err=bJ x.k x.s x.t x.v x.p:=rfl;rw[<-HEr]at wN;have hs1:CJ x=if((x.k==1)||(x.k==6))&&(x.err==0)then 1 else 0:=rfl
     obtain⟨E,hE⟩:=zE x.err;rw[<-hE]at wN hs1;have HS1:=hs1;clear hs1 hE HEr;generalize o8 (rl.take j)=RT at *;generalize CJ x=sx at *;have C3:=ai.new wr 65 (aj x.k x.s x.t x.v x.h x.p);have E3:=HE2.alloc HE2.size (.cells (aj x.k x.s x.t x.v x.h x.p) 65);have:=C3.z 0 (I6 x.k);have:=C3.z 1 (.string x.s);have:=C3.z 2 (I6 x.t);have:=C3.z 3 (I6 x.v);have:=C3.z 4 (I6 x.h);have:=C3.z 5 (I6 x.p.min);have:=C3.z 6 (I6 x.p.max);have:=C3.z 7 (I6 x.p.target);have:=C3.z 8 (I6 x.p.lz);have:=C3.z 9 (I6 x.p.bp);have:=C3.z 10 (I6 x.p.hold);clear hcl hx2 hxg;cases d1:(x.k==1)<;>cases d6:(x.k==6)<;>cases d0:(E==0)<;>rw[d1,d6,d0]at HS1<;>(have hsx:=HS1;simp at hsx;subst hsx;clear HS1)
     all_goals
      go_wp2_with(go_at_call 25;refine zM (wN _) λv2 hb2=>?_);go_roundw
      case rel=>exact⟨j+1,oM,by go_num,by rw[fG,<-aD9];go_num,by first|exact zT E3 hb2|exact E3⟩
      case measure=>simp[intOf];omega
    ·obtain rfl:j=rn:=oM
     have zZ:rl.take j=rl:=aB5 (HNl▸aC2 _);go_wp2;go_roundw
     case rel=>exact⟨k+1,oM,by go_num,by rw[HN,zZ],HE2⟩
     case measure=>simp[intOf];omega
  ·have zZ:rows.take k=rows:=aB5 (oH Nv)
   go_wp2;go_ret;exact⟨by rw[zZ];rfl,HE⟩
abbrev Bi:TypeId:=102
abbrev fN(c:aM)(mp:Nat)(cuts:Value)(ep:Int)(ov:Bool):Array Value:=#[I6 c.str,I6 c.dE,I6 c.lW,I6 c.iI,.map (some mp),cuts,I6 ep,.bool ov]
theorem pM{c:aM}{mp:Nat}{cuts:Value}{ep:Int}{ov:Bool}(h:ai w g Bi (fN c mp cuts ep ov)):
 Calls prog 38 #[pt g] w (Rt (.bool true) (Bl w)):=by
 have: ∀W:World,(binOp .neq 99 (.map (some mp)) (.map none)).run prog W=.ok (.bool true) W:=λW=>run_neq_map_nil W _ _ _ (some mp) underlying99
 have:=h.z 4 (.map (some mp));go_enter func38,ntmps38;go_wp2;go_ret;exact⟨rfl,Below.refl _ _⟩
theorem QX{c:aM}{mp:Nat}{cuts:Value}{ep:Int}{ov:Bool}(h:ai w g Bi (fN c mp cuts ep ov))(hc:aw c.str)(s:ByteArray)(hs:s.size<=maxLen):
 Calls prog 177 #[pt g,.string s] w (Rt (I6 (Fe (aO s) (aP s) c.str)) (Bl w)):=by
 have ZN:=h;have HPk:=(λW=>fT s W hs);have RQ:=(λW=>xO (aO s) (aP s) c.str W hc (aB9 (jY s) dC) (aB9 (jZ s) dC));clear h;go_enter func177,ntmps177;go_upto_region 2 with(go_at_call 32;refine zM (HPk _) λw1 B1=>?_)
 have HK:=ai.new w1 83 #[V6 (aO s:Int),V6 (aP s:Int)];have H0:=(ZN.call B1).alloc (.cells #[V6 (aO s:Int),V6 (aP s:Int)] 83);have EX:=B1.alloc B1.size (.cells #[V6 (aO s:Int),V6 (aP s:Int)] 83);generalize w1.heap.size=gx at *;generalize w1.alloc (.cells #[V6 (aO s:Int),V6 (aP s:Int)] 83)=W0 at *;refine zB λS0=>?_
 refine zk 3 [0,1,2,3,4] [_,_,_,_,_] (.c rfl rfl (zl λ_ h=>zb (HK.call h) underlying83)<|.q zX<|.q zX<|.q zX<|.e) S0 ?_;refine zk 2 [5] [I6 c.str] (.q (zS λ_ h=>(H0.call h).z 0 (I6 c.str)) .nil) S0 ?_;refine zQ 6 ?_;go_wp2_with(go_at_call 134;refine zM (RQ _) λv9 b8=>?_);refine .i (zT S0 b8) ?_;have S9:=zT S0 b8;refine zq 0 [7] [I6 (Fe (aO s) (aP s) c.str)] S9 ?_;refine zd ?_;have U:=zT EX S9;clear b8 S9 S0;go_wp2;go_ret;exact⟨rfl,U⟩
theorem Jg(c:aM)(w:World)(hf:c.fit)(hc:c.gV) :
 Calls prog 20 #[.agg c.row] w λe w'=>∃g mp,e=.returned (pt g)/\ai w' g Bi (fN c mp (.slice none 0 0) 0 false)/\bP fI w' mp (λ_=>none) []/\w.heap.size<=g/\w.heap.size<=mp/\g≠mp/\Bl w w':=by
 have Xy:=@run_makeMap prog;have HNr:=(λW=>(show Calls prog 53 #[.agg c.row] W ((Rt (I6 0) (Bl W))) by have:=fQ c W hf;unfold im at this;rwa [if_pos hc]at this))
 clear hf hc;have BX:=ai.new w 23 c.row;go_enter func20,ntmps20;go_wp2_with(first
  |refine zI BX underlying23 ?_
  |(go_at_call 53;refine zM (HNr _) λw1 hb1=>?_;have BX:=BX.call hb1;have B1:=zT (zW w (.cells c.row 23)) hb1;clear hb1))
 go_ret;exact⟨w1.heap.size+1,w1.heap.size,rfl,ai.dR w1 _ _ _,(bP.made fI w1).alloc _,aD3 B1.size,B1.size,oM,(Below.alloc (B1.alloc B1.size (.map #[] 0)) (B1.alloc B1.size (.map #[] 0)).size (.cells (fN c w1.heap.size (.slice none 0 0) 0 false) Bi))⟩
def at1{p:Prop}[Decidable p]{b:Bool}{W:World} : (if p then Result.ok b W else Result.ok false W)=(Result.ok (decide p&&b) W:Result Bool):=by
 by_cases h:p
 ·rw[if_pos h,decide_eq_true h];rfl
 ·rw[if_neg h,decide_eq_false h];rfl
theorem Ri(x y:kO)(W:World):(Op.equalIn 10000 70 (.agg x.row) (.agg y.row)).run prog W=.ok (decide (x=y)) W:=by
 have hs:prog.underlying 70=some (.struct (prog.fieldsOf 70)):=kZ
 have hp:prog.stoodInHeld 70=false:=kZ
 obtain⟨a1,a2,a3,⟨b1,b2,b3,b4,b5⟩,⟨d1,d2,d3,d4,d5⟩⟩:=x;obtain⟨e1,e2,e3,⟨f1,f2,f3,f4,f5⟩,⟨g1,g2,g3,g4,g5⟩⟩:=y;rw[show(10000:Nat)=9997+1+1+1 from rfl,run_equalIn_agg W (9997+1+1) _ _ _ hs hp];simp only[kO.mk.injEq,Stat.mk.injEq,aU.mk.injEq];simp[Program.fieldsOf,underlying70,go_sem];simp only[at1,Bool.and_true,Bool.and_assoc]
def ZX(x y:kO)(W:World):(binOp .eql 70 (.agg x.row) (.agg y.row)).run prog W=.ok (.bool (decide (x=y))) W:=by
 rw[run_eql_struct,Ri]
 rfl
end Go.Proofs.YtjgmjohiehbgaaaGreat
