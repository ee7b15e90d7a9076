/- Part 13. -/
import Derived.Test.YtjgmjohiehbgaaaGreatQ11
namespace Go.Proofs.YtjgmjohiehbgaaaGreat
open Go.RowKit Go.Proofs.Tryz
set_option maxHeartbeats 20000000
set_option maxRecDepth 100000
set_option linter.all false
variable{B g mp o:Nat}{S T:Nat->Prop}{c:aM}{cuts v:Value}{ep:Int}{f:ByteArray->Option Value}{ks:List ByteArray}{ov:Bool}{s:ByteArray}{w w':World}{α:Type}
open List (take_succ)
section
open Go.RowKit Go.Shelf Go.Maps
attribute [local go_sem] Oper.semAt_some
structure FiM(w:World)(Bn B o:Nat)(Af:Option Addr)(nf cf:Nat)(Ab:Option Addr)(nb cb:Nat)(q:Fi):Prop where
 box:w.cell? ⟨Bn,0,none⟩=some (.pointer (some ⟨B,o,none⟩))
 c0:w.cell? ⟨B,o,none⟩=some (.slice Af nf cf)
 c1:w.cell? ⟨B,o+1,none⟩=some (.slice Ab nb cb)
 kf:gF w Af nf cf q.f
 kb:gF w Ab nb cb q.b
theorem ZK(n:Nat)(hn:1<=n)(l Bn B o n₀:Nat)(Af:Option Addr)(nf cf:Nat)(Ab:Option Addr)(nb cb:Nat)(q:Fi)(J Jx:List Key->World->Prop)
 (hY:∀pre x W,J pre W->pre.length<nf+nb->YieldAt Fence.wide (n-1) prog l #[.agg x.row] W λe W'=>
  (e=.returned (.bool true)/\J (pre++[x]) W'/\Nb n₀ W W')\/(e=.returned (.bool false)/\Jx (pre++[x]) W'))
 (W:World) (hJ:AbidesFrom W.heap.size J) (oq:n₀<=W.heap.size) (hM:∀W',Below n₀ W W'->FiM W' Bn B o Af nf cf Ab nb cb q) (h0:J [] W) :
 CallsIn Fence.wide n prog 272 #[.func (.yield l) #[] #[],pt Bn] W λe W'=>(∃v,e=.returned v)/\
  ((∃ys:List Key,J ys W')\/(∃pre,Jx pre W')):=by
 have HY:=hY;have HJ:=hJ;have HM:=hM;have m0:=hM W bR;have b0:=m0.box;have b1:=m0.c0;have xB:=m0.kf.2.1;have hfm:cf<=9223372036854775807:=by have:=m0.kf.2.2.1;unfold maxLen at this;omega
 have hbl:=m0.kb.2.1;have hbm:cb<=9223372036854775807:=by have:=m0.kb.2.2.1;unfold maxLen at this;omega
 clear hY hJ hM m0;refine callsIn_of_wp func272 rfl trivial ?_ rfl;simp only[ntmps272,aF1,aC4,aG6,Nat.reduceAdd,Nat.reduceSub,aF7,aF8,aG7,aG2,aD4,aE0]
 gi_wp2
 clear b0 b1
 gi_loopw[3] (λi wr=>∃(m:Nat)(v:Int)(pre:List Key),m<=nf/\i = I6 v/\v+1=(m:Int)/\pre.length+m=nf/\J pre wr/\Below n₀ W wr) (λi _=>(intOf i+1).toNat)
 case atStart=>exact⟨nf,(nf:Int)-1,[],aC2 _,sI,oM,sI,h0,Below.refl _ _⟩
 case round=>
  obtain⟨m,v,pre,hm,rfl,hv,hpl,hJs,aT⟩:=hrel;have m0:=HM _ aT;have qg:=aT;have HJs:=hJs;clear aT hJs;cases m with
  |zero=>
   have hv0:v = -1:=oM
   subst hv0;have b0:=m0.box;have b2:=m0.c1;clear m0
   gi_wp2
   clear b0 b2
   gi_loopw[33] (λi wq=>∃(k:Nat)(QS:List Key),k<=nb/\i = I6 k/\QS.length=nf+k/\J QS wq/\Below n₀ W wq) (λi _=>nb-(intOf i).toNat)
   case atStart=>exact⟨0,pre,aB6 _,rfl,oM,HJs,qg⟩
   case round=>
    obtain⟨k,QS,hk,rfl,aq9,hJ2,qu⟩:=hrel
    by_cases hlt:k<nb
    ·have:(k:Int)<(nb:Int):=oM
     have m0:=HM _ qu;obtain⟨b,off,x,rfl,hx,fH,t0,t1⟩:=gF.at_ m0.kb hlt;have tG:=qu.alloc (aB4 oq qu.size) (.cells x.row aS);have hJ3:=HJ QS _ (wr.alloc (.cells x.row aS)) none hJ2 (World.grownBy_alloc _ _ none) (λr e=>by cases e);obtain⟨fn,tmps,assign,body,hy,hR⟩:=HY QS x _ hJ3 oM;have zu:=aq9;clear m0 hJ3 hJ2 hx fH qu aq9
     gi_wp2
     refine hR.mono ?_;rintro e W3 (⟨rfl,hJ4,hk4⟩|⟨rfl,Kz⟩)
     ·gi_wp2
      go_roundw
      case rel=>exact⟨k+1,QS++[x],oM,by go_num,by have:=zu;rw[aB8,aS8];omega,hJ4,tG.trans hk4.1⟩
      case measure=>simp[intOf];omega
     ·gi_wp2
      refine bodyPost_ret (results_none rfl _ _ _) rfl ?_;exact⟨⟨_,rfl⟩,.inr ⟨_,Kz⟩⟩
    ·gi_wp2
     go_end0;exact⟨⟨_,rfl⟩,.inl ⟨_,hJ2⟩⟩
  |succ m=>
   have hv0:v=(m:Int):=oM
   subst hv0;have hlt:m<nf:=oM
   have:(m:Int)<(nf:Int):=oM
   obtain⟨b,off,x,rfl,hx,fH,t0,t1⟩:=gF.at_ m0.kf hlt;have:=m0.box;have:=m0.c0;obtain⟨fn,tmps,assign,body,hy,hR⟩:=HY pre x _ HJs oM;have zu:=hpl;clear m0 hx fH hpl hv
   gi_wp2
   refine hR.mono ?_;rintro e W3 (⟨rfl,hJ4,hk4⟩|⟨rfl,Kz⟩)
   ·gi_wp2
    go_roundw
    case rel=>exact⟨m,(m:Int)-1,pre++[x],oM,by go_num,oM,by have:=zu;rw[aB8,aS8];omega,hJ4,qg.trans hk4.1⟩
    case measure=>first|(simp[intOf];done)|(simp[intOf];omega)
   ·gi_wp2
    refine bodyPost_ret (results_none rfl _ _ _) rfl ?_;exact⟨⟨_,rfl⟩,.inr ⟨_,Kz⟩⟩
def V0(n:Nat)(hn:1<=n)(Bn B o n₀:Nat)(Af:Option Addr)(nf cf:Nat)(Ab:Option Addr)(nb cb:Nat)(q:Fi)(w:World)(oq:n₀<=w.heap.size)(hM:∀W',Below n₀ w W'->FiM W' Bn B o Af nf cf Ab nb cb q) :
 SeqStopsK Fence.wide n prog 272 #[pt Bn] (λx:Key=>#[Value.agg x.row]) (Nb n₀) (λ_=>True) (λ_=>True) (nf+nb) w:=λl J Jx W hW hJ _ hY h0=>
 (ZK n hn l Bn B o n₀ Af nf cf Ab nb cb q J Jx hY W hJ (aB4 oq hW.size) (λW' hb=>hM W' ((hW.mono oq).trans hb)) h0).mono λe W' ⟨he,hj⟩=>⟨he,hj.imp (λ⟨ys,h⟩=>⟨ys,trivial,h⟩) (λ⟨pre,h⟩=>⟨pre,trivial,h⟩)⟩
theorem aj7(n:Nat)(p:Option Addr)(w:World) :
 CallsIn Fence.wide n prog 228 #[.pointer p] w λe w'=>e=.returned (.func (.func 272) #[] #[pt w.heap.size])/\w' = w.alloc (.cells #[.pointer p] 346):=by
 refine callsIn_of_wp func228 rfl trivial ?_ rfl;simp only[ntmps228,aF1,aC4,aG6,Nat.reduceAdd,Nat.reduceSub,aF7,aF8,aG7,aG2,aD4,aE0]
 gi_wp2
 go_ret;exact⟨rfl,rfl⟩
def tM.reads{ty:TypeId}{cs:Array Value}{vf vb:Value}{q:Fi}(h:tM w B o ty cs vf vb q)(hb:Bl w w'): ∃Af nf cf Ab nb cb,vf=.slice Af nf cf/\vb=.slice Ab nb cb/\nf=q.f.length/\nb=q.b.length/\∀W',Bl w W'->W'.cell? ⟨B,o,none⟩=some (.slice Af nf cf)/\W'.cell? ⟨B,o+1,none⟩=some (.slice Ab nb cb)/\gF W' Af nf cf q.f/\gF W' Ab nb cb q.b:=by
 obtain⟨Af,nf,cf,rfl,hnf,-⟩:=h.jw.shape cW;obtain⟨Ab,nb,cb,rfl,tY,-⟩:=h.iG.shape cW;refine⟨Af,nf,cf,Ab,nb,cb,rfl,rfl,hnf,tY,λW' hW=>?_⟩;have h2:=h.call hW;obtain⟨_,_,_,e1,-,s1⟩:=h2.jw.shape cW;obtain⟨_,_,_,e2,-,s2⟩:=h2.iG.shape cW;injection e1 with a1 a2 a3
 injection e2 with a4 a5 a6
 subst a1;subst a2;subst a3;subst a4;subst a5;subst a6;exact⟨h2.blk.ar h2.c0,h2.blk.ar h2.c1,s1,s2⟩
theorem ZL{ty:TypeId}{cs:Array Value}{vf vb:Value}{q:Fi}(h:tM w B o ty cs vf vb q)(hl:q.f.length+q.b.length<=100000):
 Calls prog 176 #[.pointer (some ⟨B,o,none⟩)] w λe w'=>(∃A n c,e=.returned (.slice A n c))/\Bl w w':=by
 obtain⟨Af,nf,cf,Ab,nb,cb,rfl,rfl,hnf,tY,hr⟩:=h.reads bR;have B0:=(show Bl w (w.alloc (.cells #[.pointer (some ⟨B,o,none⟩)] 346)) by go_grown);have HC:=callsIn_wide.1 (rM 3 lR 272 #[pt w.heap.size] trivial (enters_of func272 kZ rfl) _ _ (nf+nb) oM (w.alloc (.cells #[.pointer (some ⟨B,o,none⟩)] 346)) (w.alloc (.cells #[.pointer (some ⟨B,o,none⟩)] 346)) bR (V0 1 lR w.heap.size B o (w.alloc (.cells #[.pointer (some ⟨B,o,none⟩)] 346)).heap.size Af nf cf Ab nb cb q _ lR (λW' hb=>by
  obtain⟨r1,r2,r3,r4⟩:=hr W' (zT B0 hb);exact⟨(hb.cell (p:=⟨w.heap.size,0,none⟩) sI).trans ((Boxed.new w _ _).cell),r1,r2,r3,r4⟩)))
 clear h hr hl;go_enter func176,ntmps176;go_wp2_with(first
  |go_at_call 228;refine(callsIn_wide.1 (aj7 0 (some ⟨B,o,none⟩) w)).mono ?_;rintro e w1 ⟨rfl,rfl⟩
  |(go_at_call 197;refine HC.mono ?_;rintro e w2 ⟨v,xs,rfl,-,ho,hb⟩;obtain⟨A,n,c,rfl,-,-⟩:=ho.shape cW;have B2:=hb;clear ho hb))
 go_ret;exact⟨⟨A,n,c,rfl⟩,zT B0 B2⟩
theorem Mb(B o:Nat)(ty:TypeId)(cs:Array Value)(vf vb vd vz:Value)(q:Wq)(w:World)(h:oF w B o ty cs vf vb vd vz q)(hl:q.fi.f.length+q.fi.b.length<=100000) :
 Calls prog 117 #[.pointer (some ⟨B,o,none⟩)] w λe w'=>(∃A n c,e=.returned (.slice A n c))/\Bl w w':=by
 have HL:=ZL h.fi hl;clear h hl;go_enter func117,ntmps117;go_wp2_with(go_at_call 176;refine HL.mono ?_;rintro e w1 ⟨⟨A,n,c,rfl⟩,hb1⟩);go_ret;exact⟨⟨A,n,c,rfl⟩,hb1⟩
end
abbrev jq:TypeId:=45
abbrev mj:TypeId:=99
def bZ:prog.underlying mj=some (.map 9 jq):=underlying99
structure kT where
 dE:List aD
 past:List aU
 cM:dI
 nM:Bool
def eF:kT:=⟨[],[],⟨0,0,0,0,0,0⟩,false⟩
abbrev bl(A:Option Addr)(n c:Nat)(B:Option Addr)(m d:Nat)(p:dI)(r:Bool):Array Value:=#[.slice A n c,.slice B m d,I6 p.min,I6 p.max,I6 p.target,I6 p.lz,I6 p.bp,I6 p.hold,.bool r]
def fh(w:World):(zeroValue jq).run prog w=.ok (.agg (bl none 0 0 none 0 0 eF.cM false)) w:=kZ
def kC{size:Nat}{cells:α->List Value}{A:Option Addr}{len cap:Nat}{l:List α}(h:ag w size cells A len cap l)(hu:ah S w w')(hne:∀a,A=some a->0<len->¬S a.block):ag w' size cells A len cap l:=by
 rcases aV9 len with h0|h0
 ·obtain⟨h1,h2,h3,h4,h5⟩:=h
  have hl:l=[]:=aC0 (h1.trans h0);subst hl;exact⟨h1,h2,h3,h4,λa _=>⟨λi x hx=>by simp at hx,λhh=>oM⟩⟩
 ·exact aV h hu (λa e=>hne a e h0)
def Bj(w:World)(S:Nat->Prop)(v:Value)(x:kT):Prop:=
 ∃A n c B m d,v=.agg (bl A n c B m d x.cM x.nM)/\cH w A n c x.dE/\dB w B m d x.past/\(∀a,A=some a->0<n->¬S a.block)/\(∀a,B=some a->0<m->¬S a.block)
def Bj.upd{x:kT}(h:Bj w S v x)(hu:ah S w w'):Bj w' S v x:=by
 obtain⟨A,n,c,B,m,d,h1,h2,h3,h4,h5⟩:=h;exact⟨A,n,c,B,m,d,h1,kC h2 hu h4,kC h3 hu h5,h4,h5⟩
def Bj.ext{x:kT}(h:Bj w S v x)(hT:∀k,T k->S k\/w.heap.size<=k):Bj w T v x:=by
 obtain⟨A,n,c,B,m,d,h1,h2,h3,h4,h5⟩:=h;exact⟨A,n,c,B,m,d,h1,h2,h3,λa e hn ht=>(hT _ ht).elim (h4 a e hn) (λhh=>oH ((h2.2.2.2.2 a e).2 hn).1),λa e hn ht=>(hT _ ht).elim (h5 a e hn) (λhh=>oH ((h3.2.2.2.2 a e).2 hn).1)⟩
structure fO(w:World)(S:Nat->Prop)(mp:Nat)(f:ByteArray->Option Value)(ks:List ByteArray)(M:ByteArray->Option kT):Prop where
 map:bP fI w mp f ks
 none:∀s,M s=none↔f s=none
 some:∀s x,M s=some x->∃v,f s=some v/\Bj w S v x
def fO.upd{M:ByteArray->Option kT}(h:fO w S mp f ks M)(hu:ah T w w')(hT:∀k,T k->S k)(hm:¬T mp):fO w' S mp f ks M:=
 ⟨h.map.block (hu.block mp h.map.lt hm),h.none,λs x hx=>by
  obtain⟨v,h1,h2⟩:=h.some s x hx;exact⟨v,h1,h2.upd (hu.mono hT)⟩⟩
def fO.ext{M:ByteArray->Option kT}(h:fO w S mp f ks M)(hT:∀k,T k->S k\/w.heap.size<=k):fO w T mp f ks M:=
 ⟨h.map,h.none,λs x hx=>by
  obtain⟨v,h1,h2⟩:=h.some s x hx;exact⟨v,h1,h2.ext hT⟩⟩
theorem fO.look{M:ByteArray->Option kT}(h:fO w S mp f ks M)(s:ByteArray):
 ∃A n c B m d,(f s).getD (.agg (bl Option.none 0 0 Option.none 0 0 eF.cM false))=.agg (bl A n c B m d ((M s).getD eF).cM ((M s).getD eF).nM)/\cH w A n c ((M s).getD eF).dE/\dB w B m d ((M s).getD eF).past/\(∀a,A=Option.some a->0<n->¬S a.block)/\(∀a,B=Option.some a->0<m->¬S a.block)/\(f s).isSome=(M s).isSome:=by
 cases hM:M s with
 |none=>
  rw[(h.none s).1 hM];exact⟨Option.none,0,0,Option.none,0,0,rfl,⟨rfl,aC2 _,aB6 _,(λ_=>⟨rfl,rfl⟩),λa ha=>by cases ha⟩,⟨rfl,aC2 _,aB6 _,(λ_=>⟨rfl,rfl⟩),λa ha=>by cases ha⟩,(λa ha=>by cases ha),(λa ha=>by cases ha),rfl⟩
 |some x=>
  obtain⟨v,h1,A,n,c,B,m,d,rfl,h3,h4,h5,h6⟩:=h.some s x hM;rw[h1];exact⟨A,n,c,B,m,d,rfl,h3,h4,h5,h6,rfl⟩
abbrev zR:Array Value:=#[I6 0,I6 0,I6 0,I6 0,I6 0,I6 0,I6 0,I6 0,I6 0,I6 0,I6 0,I6 0,I6 0]
theorem yS{M:ByteArray->Option kT}(h:ai w g Bi (fN c mp cuts ep ov))(hm:fO w S mp f ks M)(s:ByteArray)(hs:s.size<=maxLen)(hno:M s=none):
 Calls prog 65 #[pt g,.string s] w (Rt (.agg (cK 5).row) (Bl w)):=by
 obtain⟨A,n,cc,B,m,d,hlk,hsm,qx,-,-,hi⟩:=hm.look s;rw[hno]at hlk hi;have qf:=hlk;have HI:=hi;have Xw:=hm.map.alloc (.cells zR 70);have hb1:=h.alloc (.cells zR 70);have c4:=hb1.z 4 (.map (some mp));have f4:=hb1.frozen 4;clear hm hno hlk hi hsm qx h hb1;go_enter func65,ntmps65;go_upto_region 2 with(refine bQ fI _ rfl _ _ mj rfl jq bZ _ (fh _) mp f ks rfl Xw s rfl hs ?_;rw[qf,HI])
 clear c4 f4;go_wp2;refine zU ((ai.new w 70 _).alloc _) underlying70 ⟨rfl,((Below.refl _ w).alloc lR _).alloc ((Below.refl _ w).alloc lR _).size _⟩
theorem Bk{M:ByteArray->Option kT}(h:ai w g Bi (fN c mp cuts ep ov))(hm:fO w S mp f ks M)(s:ByteArray)(hs:s.size<=maxLen)(x:kT)(hno:M s=some x)(hp:x.past=[]):
 Calls prog 65 #[pt g,.string s] w (Rt (.agg eo.row) (Bl w)):=by
 obtain⟨A,n,cc,B,m,d,hlk,hsm,qx,-,-,hi⟩:=hm.look s;rw[hno]at hlk hi qx;simp only[aF6]at hlk qx;rw[hp]at qx;obtain rfl:m=0:=qx.1.symm;have qf:=hlk;have HI:=hi;have Xw:=hm.map.alloc (.cells zR 70);have hb1:=h.alloc (.cells zR 70);have c4:=hb1.z 4 (.map (some mp));have f4:=hb1.frozen 4;clear hm hno hlk hi hsm qx h hb1 hp;go_enter func65,ntmps65;go_upto_region 2 with(refine bQ fI _ rfl _ _ mj rfl jq bZ _ (fh _) mp f ks rfl Xw s rfl hs ?_;rw[qf,HI])
 clear c4 f4;go_wp2;refine zU ((ai.new w 70 _).alloc _) underlying70 ⟨rfl,((Below.refl _ w).alloc lR _).alloc ((Below.refl _ w).alloc lR _).size _⟩
structure pV where
 ep:Int
 M:ByteArray->Option kT
structure Fm where
 cfg:aM
 ks:List ByteArray
 M:ByteArray->Option kT
 cuts:List (Option pV)
 ep:Int
 over:Bool
def Fm.new(c:aM):Fm:=⟨c,[],λ_=>none,[],0,false⟩
def vB(c:aM)(s:ByteArray):Int:=Fe (aO s) (aP s) c.str
def sU(c:aM)(s:ByteArray)(l:List ByteArray):Nat:=(l.filter λo=>decide (vB c o=vB c s)).length
def Fm.full(m:Fm)(s:ByteArray):Bool:=(m.M s).isNone&&decide (m.cfg.lW<=(sU m.cfg s m.ks:Int))
def Fm.get(m:Fm)(s:ByteArray):kT:=(m.M s).getD eF
def yT(M:ByteArray->Option kT)(s:ByteArray)(x:kT):ByteArray->Option kT:=λy=>if y=s then some x else M y
def Fm.put(m:Fm)(s:ByteArray)(x:kT):Fm:={m with ks:=cE m.ks s,M:=yT m.M s x}
def Fm.eD(m:Fm)(s:ByteArray)(t v:Int):kO×Fm:=
 if bU t v≠0 then(cK (bU t v),m)
 else if m.full s then(cK 6,m)
 else(eo,m.put s {m.get s with dE:=xb m.cfg.dE.toNat ((m.get s).dE++[⟨t,v⟩])})
def Fm.set(m:Fm)(s:ByteArray)(p:dI):kO×Fm:=
 if dy p≠0 then(cK (dy p),m)
 else if m.full s then(cK 6,m)
 else(eo,m.put s {m.get s with cM:=p,nM:=true})
def sV(t:Int)(x:kT):kT:={x with dE:=bT x.dE t}
def Fm.trim(m:Fm)(t:Int):kO×Fm:=if t<0 then(cK 3,m)else(eo,{m with M:=λs=>(m.M s).map (sV t)})
def Fm.live(m:Fm):Nat:=(m.cuts.filter Option.isSome).length
def Fm.snap(m:Fm):kO×Fm:=
 if 64<=m.live then(cK 6,m)
 else({eo with bV:=m.ep+1,RX:=m.cuts.length+1},{m with ep:=m.ep+1,cuts:=m.cuts++[some ⟨m.ep+1,m.M⟩]})
def Fm.dH(m:Fm)(n:Int):Int:=if n<1\/(m.cuts.length:Int)<n then 5 else match m.cuts.getD (n-1).toNat none with|none=>8|some _=>0
def Fm.cut(m:Fm)(n:Int):pV:=(m.cuts.getD (n-1).toNat none).getD ⟨0,λ_=>none⟩
def Fm.look(m:Fm)(s:ByteArray)(n to width:Int):kO:=
 if m.dH n≠0 then cK (m.dH n)else match (m.cut n).M s with
 |none=>cK 5
 |some x=>{eo with bV:=(m.cut n).ep,stat:=iR (iQ x.dE (iT to width) to)}
def Fm.free(m:Fm)(n:Int):kO×Fm:=if m.dH n=0 then(eo,{m with cuts:=m.cuts.set (n-1).toNat none})else(cK (m.dH n),m)
def Fm.read(m:Fm)(s:ByteArray):kO:=match m.M s with
 |none=>cK 5
 |some x=>yh x.past
def Fm.do(m:Fm)(c:ak):kO×Fm:=
 if c.k<1\/8<c.k then(cK 14,m)
 else if(c.k=1\/c.k=6\/c.k=5\/c.k=7)/\eO c.s=false then(cK 2,m)
 else if c.k=1 then m.eD c.s c.t c.v
 else if c.k=2 then m.trim c.t
 else if c.k=3 then m.snap
 else if c.k=4 then m.free c.h
 else if c.k=5 then(m.look c.s c.h c.t c.v,m)
 else if c.k=6 then m.set c.s c.p
 else if c.k=7 then(m.read c.s,m)
 else if m.over then(cK 9,m)else(eo,{m with over:=true})
def Fm.note(m:Fm)(s:ByteArray)(a:aU):Bool×Fm:=match m.M s with
 |none=>(false,m)
 |some x=>(true,m.put s {x with past:=eV x.past m.cfg.iI.toNat a})
def Jh{b:Nat}{l:List Value}(h:w.rangeAt b o l)(hb:b<w.heap.size)(ob:Obj):(w.alloc ob).rangeAt b o l:=λj v hv=>(((Below.refl w.heap.size w).alloc lR ob).cell (p:=⟨b,o+j,none⟩) hb).trans (h j v hv)
theorem yU{M:ByteArray->Option kT}(h:ai w g Bi (fN c mp cuts ep ov))(hm:fO w S mp f ks M)(s:ByteArray)(hs:s.size<=maxLen)(x:kT)(hno:M s=some x)(y:aU)(hp:x.past.getLast? = some y):
 Calls prog 65 #[pt g,.string s] w (Rt (.agg ({eo with ei:=y} : kO).row) (Bl w)):=by
 obtain⟨A,n,cc,B,m,d,hlk,hsm,qx,-,-,hi⟩:=hm.look s;rw[hno]at hlk hi qx;simp only[aF6]at hlk qx;have RY:x.past.length=m:=qx.1;have:0<m:=by
  rcases aV9 m with h|h
  ·rw[aC0 (RY.trans h)]at hp;cases hp
  ·exact h
 have:m<=9223372036854775807:=by have:=qx.2.1;have h2:=qx.2.2.1;unfold maxLen at h2;omega
 obtain⟨k,hk⟩:∃k,m=k+1:=⟨m-1,oM⟩
 subst hk;obtain⟨b,off,y',rfl,hy,fH,hcl⟩:=ag.at_ (k:=k) qx oM;rw[List.getLast?_eq_getElem?,RY,aT0,hy]at hp;injection hp with hp
 subst hp;have HC:w.rangeAt b (off+k*5) y'.cells:=λj v hv=>by have h9:=hcl j v hv;rw[<-aD9]at h9;exact h9
 have HB:=fH;have:decide (((k+1:Nat):Int)=0)=false:=by simp;omega
 clear RY hy fH hcl;have qf:=hlk;have HI:=hi;have Xw:=hm.map.alloc (.cells zR 70);have hb1:=h.alloc (.cells zR 70);have c4:=hb1.z 4 (.map (some mp));have f4:=hb1.frozen 4;clear hm hno hlk hi hsm qx h hb1;go_enter func65,ntmps65;go_upto_region 2 with(refine bQ fI _ rfl _ _ mj rfl jq bZ _ (fh _) mp f ks rfl Xw s rfl hs ?_;rw[qf,HI])
 clear c4 f4;go_upto_region 6 with fail
 have hr:(w.alloc (.cells zR 70)).rangeAt b (off+k*5) y'.cells:=Jh HC HB _;have hr2:=Jh hr (aB9 HB sI) (.cells (bl A n cc (some ⟨b,off,none⟩) (k+1) d x.cM x.nM) 45);clear hr;have:=by have h9:=hr2 0 _ rfl;simp only[aH9]at h9;exact h9
 have:=hr2 1 _ rfl;have:=hr2 2 _ rfl;have:=hr2 3 _ rfl;have:=hr2 4 _ rfl;clear hr2;have:((k:Int)+1-1)=(k:Int):=oM
 go_wp2;refine zU ((ai.new w 70 _).alloc _) underlying70 ⟨rfl,((Below.refl _ w).alloc lR _).alloc ((Below.refl _ w).alloc lR _).size _⟩
theorem QY{M:ByteArray->Option kT}(h:ai w g Bi (fN c mp cuts ep ov))(hm:fO w S mp f ks M)(s:ByteArray)(hs:s.size<=maxLen):
 Calls prog 65 #[pt g,.string s] w (Rt (.agg (match M s with|none=>cK 5|some x=>yh x.past).row) (Bl w)):=by
 cases hM:M s with
 |none=>exact yS h hm s hs hM
 |some x=>
  simp only;unfold yh;cases hp:x.past.getLast? with
  |none=>exact Bk h hm s hs x hM (List.getLast?_eq_none_iff.1 hp)
  |some y=>exact yU h hm s hs x hM y hp
def lh.call{P:Program}{k:TypeId}{E:mK P k α}{b r:Nat}{f:α->Option Value}{ks:List α}{lf:α->Bool}{cnt:Nat}(h:lh E w b r f ks lf cnt)(hb:Bl w w'):lh E w' b r f ks lf cnt:=
 h.of_walks ⟨hb.size,λk o hk _=>(hb.block k (aF4.1 hk).1).trans hk⟩
def Wb{pre:List ByteArray}{x:ByteArray}: sU c s (pre++[x])=sU c s pre+if vB c x=vB c s then 1 else 0:=by
 unfold sU;rw[aT1,aB8]
 by_cases e:vB c x=vB c s<;>simp[e]
def Bo[DecidableEq α]{ks pre:List α}(h1:ks.Nodup)(h2:pre.Nodup)(h:∀x,x∈pre↔x∈ks):pre.Perm ks:=
 (aU2 h2 h1).2 h
def We{l m:List ByteArray}(h:l.Perm m):sU c s l=sU c s m:=(h.filter _).length_eq
theorem Eu(h:ai w g Bi (fN c mp cuts ep ov))(hm:bP fI w mp f ks)(v:Value)(hv:∃r,v=.agg r)(s:ByteArray)(hs:s.size<=maxLen)(hf:f s=some v)(hr:∃A n cc B m d p r,v=.agg (bl A n cc B m d p r)):
 Calls prog 125 #[pt g,.string s] w (Rt (.bool false) (Bl w)):=by
 obtain⟨A,n,cc,B,m,d,p,r,rfl⟩:=hr;have:=h.z 4 (.map (some mp));have Xw:=hm;have HF:=hf;clear h hm hf hv;go_enter func125,ntmps125;go_wp2_with(refine bQ fI _ rfl _ _ mj rfl jq bZ _ (fh _) mp f ks rfl Xw s rfl hs ?_;rw[HF]);go_ret;exact⟨rfl,(Below.refl _ w).alloc lR _⟩
theorem Ew(h:ai w g Bi (fN c mp cuts ep ov))(hc:aw c.str)(ar6:aw c.lW)(hm:bP fI w mp f ks)(s:ByteArray)(hs:s.size<=maxLen)(hf:f s=none)(hk:ks.length<=100000):
 Calls prog 125 #[pt g,.string s] w (Rt (.bool (decide (c.lW<=(sU c s ks:Int)))) (Bl w)):=by
 have c4:=h.z 4 (.map (some mp));have f4:=h.frozen 4;have H0:=zD h;have Xw:=zD hm;have HF:=zD hf;have HK:=zD hk;have RX:=zD hm.nodup;have:=zD hm.good;have HHo:=zD (λW (hb:Bl w W) (x:ByteArray) (hx:x.size<=maxLen)=>QX (H0.out.call hb) hc x hx);clear h hm hf hk hc;go_enter func125,ntmps125;go_upto_region 2 with(refine bQ fI _ rfl _ _ mj rfl jq bZ _ (fh _) mp f ks rfl Xw.out s rfl hs ?_;rw[HF.out];simp only[Option.getD_none,Option.isSome_none])
 clear c4 f4;obtain⟨w0,hw0⟩:=zE (w.alloc (.cells (bl none 0 0 none 0 0 eF.cM false) jq));have E0:Bl w w0:=by rw[hw0];exact(Below.refl _ w).alloc lR _
 rw[show w.alloc (.cells #[Value.slice none 0 0,.slice none 0 0,I6 eF.cM.min,I6 eF.cM.max,I6 eF.cM.target,I6 eF.cM.lz,I6 eF.cM.bp,I6 eF.cM.hold,.bool false] jq)=w0 from hw0.symm];have B1:=zD (H0.out.call E0);have c4:=B1.out.z 4 (.map (some mp));have f4:=B1.out.frozen 4;have c2:=B1.out.z 2 (I6 c.lW);have f2:=B1.out.frozen 2;have M1:=zD (Xw.out.call E0);have E1:=zD E0;clear hw0 E0;go_wp2_with(at_range;refine rL fI _ rfl _ mj rfl _ bZ mp f ks rfl M1.out ?_;intro w1 hrg hgr hsz;have Rg:=zD hrg;have B2:=zD (B1.out.grown hgr sI);have E2:=zD (E1.out.grown hgr E1.out.size (λk hk=>by cases hk));clear hrg hgr);clear c4 f4 c2 f2;go_frame;go_loopw[7] (λot wr=>∃(cnt n:Nat)(lf:ByteArray->Bool)(pre:List ByteArray),ot = I6 (n:Int)/\n=sU c s pre/\pre.length<=ks.length/\lh fI wr mp w0.heap.size f ks lf cnt/\(∀x∈ks,lf x=true↔x ∉ pre)/\pre.Nodup/\(∀x∈pre,x∈ks)/\ai wr g Bi (fN c mp cuts ep ov)/\Bl w wr) (λ_ wr=>wr.rangeLeft mp w0.heap.size)
 case atStart=>exact⟨_,0,_,[],rfl,rfl,aB6 _,Rg.out,(λx hx=>by simp[hx]),aV7,(λx hx=>by simp at hx),B2.out,E2.out⟩
 case round=>
  obtain⟨cnt,n,lf,pre,rfl,hn,hpl,hrg2,ar7,ar8,ar9,as0,as1⟩:=hrel;have mC:=zD hrg2;have HLf:=zD ar7;have HPn:=zD ar8;have HPs:=zD ar9;have ZN:=zD as0;have HBe:=zD as1;have HN:=zD hn;have:n<=100000:=by have h9:sU c s pre<=pre.length:=aE7 _ _;have:=HK.out;omega
  clear hrg2 ar7 ar8 ar9 as0 as1 hn;go_wp2_with(at_next;refine tJ fI _ rfl _ rfl mp w0.heap.size f ks lf cnt rfl mC.out ?_ ?_)
  ·intro hdone
   have ad5:pre.Perm ks:=Bo RX.out HPn.out λx=>⟨HPs.out x,λhx=>by
    have h9:=hdone x hx;exact Classical.byContradiction λhh=>by rw[(HLf.out x hx).2 hh]at h9;cases h9⟩
   have HQ:=zD (HN.out.trans (We ad5));have:=ZN.out.z 2 (I6 c.lW);have:=ZN.out.frozen 2;clear hdone ad5;go_wp2;go_ret;exact⟨by rw[HQ.out];rfl,HBe.out⟩
  ·intro x v w2 cnt2 hgx hxm hlx hfx hrg3 hlt hg2 hs2 hen
   have hxp:x ∉ pre:=(HLf.out x hxm).1 hlx;have HX:=zD hxp;have HXm:=zD hxm;have R3:=zD hrg3;have B3:=zD (ZN.out.grown hg2 (by have:=H0.out.lt;have:=E1.out.size;intro h;injection h;omega));have E3:=zD (HBe.out.grown hg2 HBe.out.size (λk hk=>by cases hk;exact E1.out.size));have:(Instr.entry (pt w0.heap.size)).run prog w2=.ok (.tuple #[.string x,v]) w2:=hen;have Ag:=zD hlt;have mL:=zD (show x.size<=maxLen from hgx);clear hxp hxm hlx hrg3 hg2 hlt hen hgx;simp only[show fI.v x=.string x from rfl];go_wp2_with(first
    |go_at_call 177;with_reducible (refine(HHo.out _ E3.out x mL.out).mono ?_);rintro e w4 ⟨rfl,hb4⟩;have B4:=zD hb4;clear hb4
    |(go_at_call 177;with_reducible (refine(HHo.out _ (zT E3.out B4.out) s hs).mono ?_);rintro e w5 ⟨rfl,dx⟩;have B5:=zD dx;clear dx))
   all_goals
    have R5:=(R3.out.call B4.out).call B5.out;have K5:=(B3.out.call B4.out).call B5.out;have E5:=(zT E3.out B4.out).trans (B5.out.mono (zT E3.out B4.out).size);have QH:∀y∈pre++[x],y∈ks:=λy hy=>by
     rcases aD1.1 hy with hy|hy
     ·exact HPs.out y hy
     ·rw[aD8]at hy;rw[hy];exact HXm.out
    have ak2:(pre++[x]).Nodup:=aH5.2 ⟨HPn.out,sI,λa ha b hb e=>by rw[aD8]at hb;subst hb;subst e;exact HX.out ha⟩;have hl2:=ak2.length_le_of_subset QH;have as2:∀y∈ks,(lf y && !decide (y=x))=true↔y ∉ pre++[x]:=λy hy=>by
     rw[aF5,HLf.out y hy,aD1,aD8,not_or];exact and_congr_right λ_=>by rw[aU7,decide_eq_false_iff_not]
    have hms:w5.rangeLeft mp w0.heap.size<wr.rangeLeft mp w0.heap.size:=by rw[R5.left_eq,mC.out.left_eq];exact Ag.out
    have hq:=(Wb (c:=c) (s:=s) (pre:=pre) (x:=x));rename_i hcmp;simp only[beq_iff_eq,beq_eq_false_iff_ne]at hcmp
   ·refine⟨⟨cnt2,n+1,_,pre++[x],by go_num,?_,hl2,R5,as2,ak2,QH,K5,E5⟩,hms⟩
    rw[hq,if_pos (by unfold vB;exact hcmp),<-HN.out]
   ·refine⟨⟨cnt2,n,_,pre++[x],rfl,?_,hl2,R5,as2,ak2,QH,K5,E5⟩,hms⟩
    rw[hq,if_neg (by unfold vB;exact hcmp),<-HN.out];rfl
theorem pN{M:ByteArray->Option kT}(h:ai w g Bi (fN c mp cuts ep ov))(hc:aw c.str)(ar6:aw c.lW)(hm:fO w S mp f ks M)(s:ByteArray)(hs:s.size<=maxLen)(hk:ks.length<=100000):
 Calls prog 125 #[pt g,.string s] w (Rt (.bool ((M s).isNone&&decide (c.lW<=(sU c s ks:Int)))) (Bl w)):=by
 cases hM:M s with
 |none=>
  simp only[Option.isNone_none,Bool.true_and];exact Ew h hc ar6 hm.map s hs ((hm.none s).1 hM) hk
 |some x=>
  obtain⟨v,h1,A,n,cc,B,m,d,h2,-⟩:=hm.some s x hM;exact Eu h hm.map v ⟨_,h2⟩ s hs h1 ⟨A,n,cc,B,m,d,x.cM,x.nM,h2⟩
section
abbrev eZ:TypeId:=65
abbrev dv:TypeId:=70
def fO.put{w w' : World}{S:Nat->Prop}{mp:Nat}{ks:List ByteArray}{M:ByteArray->Option kT}{x:kT}(h:fO w S mp f ks M)(hm:bP fI w' mp (lg f s v) (cE ks s))(hu:ah S w w')(hv:Bj w' S v x):fO w' S mp (lg f s v) (cE ks s) (yT M s x):=by
 refine⟨hm,λy=>?_,λy z hy=>?_⟩
 ·unfold yT lg
  split
  ·exact⟨(λh=>by cases h),λh=>by cases h⟩
  ·exact h.none y
 ·unfold yT at hy
  unfold lg
  split at hy
  ·injection hy with hy;subst hy
   rename_i e;rw[if_pos e];exact⟨v,rfl,hv⟩
  ·rename_i e
   rw[if_neg e];obtain⟨u,h1,h2⟩:=h.some y z hy;exact⟨u,h1,h2.upd hu⟩
structure QZ(w:World)(S:Nat->Prop)(g mp:Nat)(c:aM)(cuts:Value)(ep:Int)(ov:Bool)(ks:List ByteArray)(M:ByteArray->Option kT):Prop where
 blk:ai w g Bi (fN c mp cuts ep ov)
 map:∃f,fO w S mp f ks M
 sg:S g
 sm:S mp
 ne:g≠mp
 len:ks.length<=100000
 i64:aw c.str/\aw c.lW
section
variable{w w' : World}{S:Nat->Prop}{g mp:Nat}{c:aM}{cuts:Value}{ep:Int}{ov:Bool}{ks:List ByteArray}{M:ByteArray->Option kT}
def QZ.call(h:QZ w S g mp c cuts ep ov ks M)(hb:Bl w w'):QZ w' S g mp c cuts ep ov ks M:=by
 obtain⟨f,hf⟩:=h.map;exact⟨h.blk.call hb,⟨f,hf.upd (T:=λ_=>False) (ah.aa hb) (λ_ h=>h.elim) id⟩,h.sg,h.sm,h.ne,h.len,h.i64⟩
theorem Ex(cq:ak)(h:QZ w S g mp c cuts ep ov ks M)(he:dy cq.p≠0) :
 Calls prog 64 #[pt g,.agg (aj cq.k cq.s cq.t cq.v cq.h cq.p)] w (Rt (.agg (cK (dy cq.p)).row) (Bl w)):=by
 have HP:=(λW=>aY cq.p W);have:(dy cq.p != 0)=true:=sH he
 have BX:=ai.new w eZ (aj cq.k cq.s cq.t cq.v cq.h cq.p);generalize dy cq.p=PE at *;clear h he BX;go_enter func64,ntmps64;go_wp2_with(first
  |go_at_call 79;refine zM (HP _) λw1 hb1=>?_;have B1:=zT ((zW w (.cells (aj cq.k cq.s cq.t cq.v cq.h cq.p) eZ)).alloc sI (.cells zR dv)) hb1;have Y1:=(ai.dR w (.cells (aj cq.k cq.s cq.t cq.v cq.h cq.p) eZ) dv zR).call hb1;clear hb1
  |(refine zJ Y1 ?_;intro w9 X9 G9))
 refine zU X9 underlying70 ⟨rfl,B1.grown G9 B1.size (λk e=>by injection e;omega)⟩
theorem Bp(cq:ak)(h:QZ w S g mp c cuts ep ov ks M)(hs:cq.s.size<=maxLen)(he:dy cq.p=0)(hf:((M cq.s).isNone&&decide (c.lW<=(sU c cq.s ks:Int)))=true) :
 Calls prog 64 #[pt g,.agg (aj cq.k cq.s cq.t cq.v cq.h cq.p)] w (Rt (.agg (cK 6).row) (Bl w)):=by
 have HP:=(λW=>aY cq.p W);rw[he]at HP;have BX:=(ai.new w eZ (aj cq.k cq.s cq.t cq.v cq.h cq.p)).alloc (.cells zR dv);have BY:=ai.dR w (.cells (aj cq.k cq.s cq.t cq.v cq.h cq.p) eZ) dv zR;have EX:=(zW w (.cells (aj cq.k cq.s cq.t cq.v cq.h cq.p) eZ)).alloc sI (.cells zR dv);have ZO:=zh (λW (hb:Bl w W)=>by
  obtain⟨f,hm⟩:=(h.call hb).map;have h9:=pN (h.call hb).blk h.i64.1 h.i64.2 hm cq.s hs h.len;rw[hf]at h9;exact h9)
 clear h he hf;go_enter func64,ntmps64;go_wp2_with(first
  |go_at_call 79;refine zM (HP _) λw1 hb1=>?_;have B1:=zT EX hb1;have Y1:=BY.call hb1;have q1:=(BX.call hb1).z 1 (.string cq.s);clear hb1
  |go_at_call 125;refine zM (ZO _ B1) λw2 hb2=>?_;have B2:=zT B1 hb2;have Y2:=Y1.call hb2;clear hb2 q1
  |(refine zJ Y2 ?_;intro w9 X9 G9))
 refine zU X9 underlying70 ⟨rfl,B2.grown G9 B2.size (λk e=>by injection e;omega)⟩
end
end
section
section
variable{w w' : World}{S:Nat->Prop}{g mp:Nat}{c:aM}{cuts:Value}{ep:Int}{ov:Bool}{ks:List ByteArray}{M:ByteArray->Option kT}
def vC(S:Nat->Prop)(g mp:Nat)(c:aM)(cuts:Value)(ep:Int)(ov:Bool)(ks:List ByteArray)(M:ByteArray->Option kT)(s:ByteArray)(x:kT)(w w' : World):Prop:=
 ai w' g Bi (fN c mp cuts ep ov)/\(∃f,fO w' S mp f (cE ks s) (yT M s x))/\ah (λk=>k=mp) w w'
theorem Ji(cq:ak)(h:QZ w S g mp c cuts ep ov ks M)(ey:∀k,S k->k<w.heap.size)(hs:cq.s.size<=maxLen)(he:dy cq.p=0)(hf:((M cq.s).isNone&&decide (c.lW<=(sU c cq.s ks:Int)))=false) :
 Calls prog 64 #[pt g,.agg (aj cq.k cq.s cq.t cq.v cq.h cq.p)] w λe w'=>e=.returned (.agg eo.row)/\vC S g mp c cuts ep ov ks M cq.s {(M cq.s).getD eF with cM:=cq.p,nM:=true} w w':=by
 have HP:=(λW=>aY cq.p W);rw[he]at HP;have BX:=(ai.new w eZ (aj cq.k cq.s cq.t cq.v cq.h cq.p)).alloc (.cells zR dv);have BY:=ai.dR w (.cells (aj cq.k cq.s cq.t cq.v cq.h cq.p) eZ) dv zR;have EX:=(zW w (.cells (aj cq.k cq.s cq.t cq.v cq.h cq.p) eZ)).alloc sI (.cells zR dv);have ZO:=zh (λW (hb:Bl w W)=>by
  obtain⟨f,hm⟩:=(h.call hb).map;have h9:=pN (h.call hb).blk h.i64.1 h.i64.2 hm cq.s hs h.len;rw[hf]at h9;exact h9)
 have H0:=h;obtain⟨f,hm⟩:=h.map;have HM:=hm;obtain⟨A,n,cc,B,m,d,hlk,hsm,qx,hA,hB,hi⟩:=hm.look cq.s;have vY:=hsm;have IL:=qx;have HAB:=And.intro hA hB;have nR:=ey;have HL:=zh (λW (hb:Bl w W)=>by
  have h9:=(hm.map.call hb).look bZ (fh W) (x:=cq.s) hs;rw[hlk]at h9;exact(show(Instr.lookup 99 (.map (some mp)) (.string cq.s) false).run prog W=.ok (.agg (bl A n cc B m d ((M cq.s).getD eF).cM ((M cq.s).getD eF).nM)) W from h9))
 obtain⟨x,hx⟩:=zE ((M cq.s).getD eF);rw[<-hx]at HL vY IL |-;clear h he hf hm hlk hsm qx hA hB hi hx ey;go_enter func64,ntmps64;go_upto_region 6 with(first
  |go_at_call 79;refine zM (HP _) λw1 hb1=>?_;have B1:=zT EX hb1;have Y1:=BY.call hb1;have X1:=BX.call hb1;have q1:=(BX.call hb1).z 1 (.string cq.s);clear hb1
  |(go_at_call 125;refine zM (ZO _ B1) λw2 hb2=>?_;have B2:=zT B1 hb2;have Y2:=Y1.call hb2;have X2:=X1.call hb2;clear hb2 q1))
 have zu:=(λW (hb:Bl w2 W)=>HL W (zT B2 hb));refine zB λS0=>?_
 refine zk 4 [0,1,2,3,4] [_,_,_,.map (some mp),_] (.q zX<|.q zX<|.q zX<|.q (zS λ_ h=>((H0.call B2).blk.call h).z 4 (.map (some mp)))<|.e) S0 ?_;refine zk 2 [5,6] [.string cq.s,.agg (bl A n cc B m d x.cM x.nM)] (.q (zS λ_ h=>(X2.call h).z 1 (.string cq.s))<|.q (zS λ_ h=>zu _ h) .nil) S0 ?_;refine zQ 7 ?_;obtain⟨G,hG,bG,lG⟩:=dp (S:=S0) (bl none 0 0 none 0 0 eF.cM false) 45;go_wp2_with fail;refine .i (S0.alloc S0.size _) ?_
 (try simp only[hG])
 clear hG;have SG:=S0.alloc S0.size (.cells (bl none 0 0 none 0 0 eF.cM false) 45);refine zQ 8 ?_;go_wp2_with(refine zJ (bG) ?_;intro uG p9 jH);refine .i (SG.trans (Only.below jH lG SG.size)) ?_;have jf:=SG.trans (Only.below jH lG SG.size);refine zd ?_;have B3:=zT B2 jf;have Y3:=Y2.call jf;have X3:=X2.call jf;have G3:=p9;have NG:w.heap.size+1<G:=aB9 Y2.lt lG;clear jf SG S0 p9 jH bG lG X1 X2 Y1 Y2 B1 B2 BX BY EX ZO HP HL zu;generalize uG=W3 at *;have r5:=X3.z 5 (I6 cq.p.min);have r6:=X3.z 6 (I6 cq.p.max);have r7:=X3.z 7 (I6 cq.p.target);have r8:=X3.z 8 (I6 cq.p.lz);have r9:=X3.z 9 (I6 cq.p.bp);have r10:=X3.z 10 (I6 cq.p.hold);go_upto_region 8 with(first
  |(refine cu rfl 43 (.tmp 28) (.tmp 27) rfl G 2 jq _ _ rfl rfl G3 sI kZ (by simp[Value.oneCell']) ?_;intro u4 Vq Qx;have z8:=Vq.z 8 (.bool x.nM);have y8:=Vq.frozen 8))
 obtain⟨W5,Bd⟩:=zE (u4.setCell ⟨G,8,none⟩ (.bool true));rw[<-Bd];have G5:ai W5 G jq (bl A n cc B m d cq.p true):=by rw[Bd];exact Vq.aX 8 (.bool true)
 have U5:ah (λk=>k=G) W3 W5:=by rw[Bd];exact(ah.bE Qx).setCell (.inl rfl) _
 have B5:Bl w W5:=(((ah.aa B3:ah (λ_=>False) w W3).trans U5 (λk e=>.inr (oH NG))).below (λ_ h=>h.elim) lR);have X5:=X3.upd U5 (oH NG);have Y5:=Y3.upd U5 (oH NG);have Z5:=H0.call B5;have M5:=HM.upd (T:=λ_=>False) (ah.aa B5) (λ_ h=>h.elim) id;have V5:Bj w S (.agg (bl A n cc B m d cq.p true)) {x with cM:=cq.p,nM:=true}:=⟨A,n,cc,B,m,d,rfl,vY,IL,HAB.1,HAB.2⟩;clear Bd U5 r5 r6 r7 r8 r9 r10 z8 y8 Vq Qx G3 X3 Y3 B3 vY IL HAB;refine zr (λj=>[7].contains j) (λwS=>Bl W5 wS) ?_;have S0:=(Below.refl W5.heap.size W5).drew;refine zk 3 [0,1,2,3,4] [_,_,_,.map (some mp),_] (.q zX<|.q zX<|.q zX<|.q (zS λ_ h=>(Z5.blk.call h).z 4 (.map (some mp)))<|.e) S0 ?_;refine zk 1 [5,6] [.string cq.s,_] (.q (zS λ_ h=>(X5.call h).z 1 (.string cq.s))<|.c rfl rfl (zl λ_ h=>zb (G5.call h) underlying45) .nil) S0 ?_;refine aq _ _ _ _ kZ ?_;refine zO 7 (λQ2 aI=>?_);go_wp2_with(refine df fI _ rfl _ _ _ mj rfl jq bZ mp f ks rfl (M5.map.call (S0)) (by have:=H0.len;unfold maxLen;omega) cq.s rfl hs _ rfl ?_;intro w6 HM6 HG6;have HS6:=S0);(try refine aI _ _ ?_);(try clear aI Q2)
 refine wpAny_done kZ ?_ _;have hmp:mp<w.heap.size:=nR mp H0.sm;have Z6:=(Z5.blk.call HS6).grown HG6 (by intro h;injection h with h;exact H0.ne h);have Y6:=(Y5.call HS6).grown HG6 (by intro h;injection h;omega);have U6:=((ah.aa B5:ah (λk=>k=mp) w W5).call HS6).grown HG6 (λk e=>by injection e with e;exact .inl e.symm);clear HG6 HS6 M5 Z5 X5 Y5 G5 B5 S0 hmp;go_wp2_with(refine zJ Y6 ?_;intro w9 X9 G9);have:g<w.heap.size:=nR g H0.sg;have:mp<w.heap.size:=nR mp H0.sm;have U:=U6.grown G9 (λk e=>by injection e;omega);exact zU X9 underlying70 ⟨rfl,Z6.upd (ah.bE G9) oM,⟨_,HM.put (HM6.grown G9 (by intro h;injection h;omega)) (U.mono (λk e=>e ▸ H0.sm)) (V5.upd (U.mono (λk e=>e ▸ H0.sm)))⟩,U⟩
end
end
abbrev zL:Array Value:=#[.slice none 0 0,.slice none 0 0,I6 0,I6 0,I6 0,I6 0,I6 0,I6 0,.bool false]
def ad6(w:World)(base:Nat)(v:Value)(x:kT):Prop:=∃A n c B m d,v=.agg (bl A n c B m d x.cM x.nM)/\kH w base (.slice A n c) x.dE/\Ac w base (.slice B m d) x.past/\∀k,(Value.slice A n c).ownBlock=some k->(Value.slice B m d).ownBlock≠some k
theorem Jj(A:Option Addr)(n c:Nat)(B:Option Addr)(m d:Nat)(x:kT)(w:World)(hs:cH w A n c x.dE)(hp:dB w B m d x.past)(hn:n<=100000)(hm:m<=100000) :
 Calls prog 41 #[.agg (bl A n c B m d x.cM x.nM)] w λe w'=>∃v,e=.returned v/\ad6 w' w.heap.size v x/\Bl w w':=by
 have BX:=(ai.new w jq (bl A n c B m d x.cM x.nM)).alloc (.cells zL jq);have BY:=ai.dR w (.cells (bl A n c B m d x.cM x.nM) jq) jq zL;have EX:=(zW w (.cells (bl A n c B m d x.cM x.nM) jq)).alloc sI (.cells zL jq);have vY:=(λW (hb:Bl w W)=>slices_Clone A n c x.dE W (af hs hb) hn);have IL:=(λW (hb:Bl w W)=>qb B m d x.past W (af hp hb) hm);clear hs hp;obtain⟨sm,pa,po,ru⟩:=x;simp only at *;go_enter func41,ntmps41;go_upto_region 1 with fail
 generalize(w.alloc (.cells (bl A n c B m d po ru) jq)).alloc (.cells zL jq)=w0 at *;refine zr (λj=>[7,8,9].contains j) (λwS=>Bl w0 wS) ?_;have S0:=(Below.refl w0.heap.size w0).drew;refine zk 6 [0,1,3,4] [_,.slice A n c,_,.slice B m d] (.q zX<|.q (zS λ_ h=>(BX.call h).z 0 (.slice A n c))<|.q zX<|.q (zS λ_ h=>(BX.call h).z 1 (.slice B m d)) .nil) S0<|zQ 2 ?_;go_wp2_with(go_at_call 106;refine(vY _ (EX.trans ((S0).mono EX.size))).mono ?_;rintro e v2 ⟨A2,n2,c2,rfl,mv,hb2⟩;have O2:=mv;have bx:=BX.call ((S0).trans (hb2.mono (S0).size));have cx0:=bx.z 0 (.slice A n c);have cx1:=bx.z 1 (.slice B m d);have fx0:=bx.frozen 0;have fx1:=bx.frozen 1);refine .i (zT S0 hb2) ?_;have S2:=zT S0 hb2;refine zq 4 [6] [_] S2<|zQ 5 ?_;go_wp2_with(go_at_call 107;refine(IL _ (EX.trans ((S2).mono EX.size))).mono ?_;rintro e v5 ⟨A5,n5,c5,rfl,kG,dx⟩;have O5:=kG;have bx:=BX.call ((S2).trans (dx.mono (S2).size));have cx0:=bx.z 0 (.slice A n c);have cx1:=bx.z 1 (.slice B m d);have fx0:=bx.frozen 0;have fx1:=bx.frozen 1);refine .i (zT S2 dx) ?_;have S5:=zT S2 dx;refine aq _ _ _ _ kZ<|zO 7 (λQ2 aI=>?_);go_wp2_with(fail);(try refine aI _ _ ?_);(try clear aI Q2)
 refine wpAny_take (i:=8) (v:=_) rfl kZ kZ kZ (λ_ _ _ h=>h) (Or.inl ⟨by rfl,λW=>by rfl⟩)<|zO 9 (λQ2 aI=>?_);go_wp2_with(fail);(try refine aI _ _ ?_);(try clear aI Q2)
 refine wpAny_done kZ ?_ _;obtain⟨W7,Fu⟩:=zE ((v5.setCell ⟨w.heap.size,0,none⟩ (.slice A2 n2 c2)).setCell ⟨w.heap.size,1,none⟩ (.slice A5 n5 c5));rw[<-Fu];have E5:Bl w v5:=zT EX S5;have hsz:w.heap.size+1<v5.heap.size:=aB9 BY.lt S5.size;have U7:ah (λk=>k=w.heap.size) v5 W7:=by rw[Fu];exact((ah.refl (λk=>k=w.heap.size) v5).setCell (p:=⟨w.heap.size,0,none⟩) (.inl rfl) _).setCell (p:=⟨w.heap.size,1,none⟩) (.inl rfl) _
 have X7:ai W7 w.heap.size jq (bl A2 n2 c2 A5 n5 c5 po ru):=by rw[Fu];exact(bx.aX 0 (.slice A2 n2 c2)).aX 1 (.slice A5 n5 c5)
 have Y7:=(BY.call S5).upd U7 oM;have E7:=((ah.aa E5:ah (λ_=>False) w v5).trans U7 (λk e=>.inr oM)).below (λ_ h=>h.elim) lR;have hb0:w.heap.size+2<=w0.drew.heap.size:=BY.lt;have P2:=((O2.call dx).upd U7 (λk hk e=>by have:=(O2.call dx).lt k hk;have:=BX.lt;have:w0.drew.heap.size=w0.heap.size:=rfl;omega)).mono hb0;have P5:=(O5.upd U7 (λk hk e=>by have:=O5.lt k hk;have:=hb2.size;have:w0.drew.heap.size=w0.heap.size:=rfl;omega)).mono (aB4 hb0 hb2.size);have HD:∀k,(Value.slice A2 n2 c2).ownBlock=some k->(Value.slice A5 n5 c5).ownBlock≠some k:=λk h1 h2=>by have:=(O2.lt k h1).2;have:=(O5.lt k h2).1;omega
 clear Fu E5 U7 cx0 cx1 fx0 fx1 S5 S2 S0 dx hb2 mv kG O2 O5 bx BX BY EX vY IL hsz hb0;go_wp2_with(first
  |refine zI X7 underlying45 ?_
  |(refine zJ Y7 ?_;intro w9 X9 G9))
 have U9:=ah.bE G9;exact zU X9 underlying45 ⟨_,rfl,⟨A2,n2,c2,A5,n5,c5,rfl,(P2.upd U9 (λk hk e=>oH (P2.lt k hk).1)).mono oM,(P5.upd U9 (λk hk e=>oH (P5.lt k hk).1)).mono oM,HD⟩,E7.grown G9 E7.size (λk e=>by injection e;omega)⟩
theorem uL{M:ByteArray->Option kT}(h:QZ w S g mp c cuts ep ov ks M)(s:ByteArray)(hs:s.size<=maxLen)(hn:((M s).getD eF).dE.length<=100000)(hm:((M s).getD eF).past.length<=100000):
 Calls prog 12 #[pt g,.string s] w λe w'=>∃v,e=.returned (.tuple #[v,.bool (M s).isSome])/\ad6 w' w.heap.size v ((M s).getD eF)/\Bl w w':=by
 have TF:=(λW (hb:Bl w W)=>pM (h.call hb).blk);have BY:=ai.new w jq zL;have EX:=zW w (.cells zL jq);have H0:=h;obtain⟨f,hf⟩:=h.map;obtain⟨A,n,cc,B,m,d,hlk,hsm,qx,hA,hB,hi⟩:=hf.look s;have HM:=hf;have qf:=hlk;have HI:=hi;have M4:=hsm.1;have Cv:=qx.1;generalize(M s).getD eF=x at *;have HCp:=(λW (hb:Bl w W)=>Jj A n cc B m d x W (af hsm hb) (af qx hb) oM oM);clear h hf hlk hsm qx hA hB hi M4 Cv hn hm;go_enter func12,ntmps12;go_upto_region 3 with(go_at_call 38;refine zM (TF _ EX) λw1 hb1=>?_;have B1:=zT EX hb1;have Y1:=BY.call hb1;clear hb1)
 have Z1:=H0.call B1;have c4:=Z1.blk.z 4 (.map (some mp));have f4:=Z1.blk.frozen 4;clear Z1;go_upto_region 4 with(refine bQ fI _ rfl _ _ mj rfl jq bZ _ (fh _) mp f ks rfl (HM.map.call B1) s rfl hs ?_;rw[qf,HI])
 clear c4 f4;have B2:=B1.alloc B1.size (.cells (bl A n cc B m d x.cM x.nM) jq);have Y2:=Y1.alloc (.cells (bl A n cc B m d x.cM x.nM) jq);go_wp2_with(first
  |refine zI (ai.new w1 jq (bl A n cc B m d x.cM x.nM)) underlying45 ?_
  |go_at_call 41;refine(HCp _ B2).mono ?_;rintro e w3 ⟨v3,rfl,kJ,hb3⟩;obtain⟨A3,n3,c3,B3,m3,d3,rfl,O3,P3,HD⟩:=kJ;have B3_:=zT B2 hb3;have Y3:=Y2.call hb3;clear hb3
  |(refine zJ Y3 ?_;intro w9 X9 G9))
 have U9:=ah.bE G9;have:w.heap.size<(w1.alloc (.cells (bl A n cc B m d x.cM x.nM) jq)).heap.size:=Y2.lt;exact bodyPost_ret (az rfl _ _ w.heap.size _ _ _ rfl X9 underlying45 rfl kZ) rfl ⟨_,rfl,⟨A3,n3,c3,B3,m3,d3,rfl,(O3.upd U9 (λk hk e=>oH (O3.lt k hk).1)).mono oM,(P3.upd U9 (λk hk e=>oH (P3.lt k hk).1)).mono oM,HD⟩,B3_.grown G9 B3_.size (λk e=>by injection e;omega)⟩
section
abbrev Ey:TypeId:=49
section
variable{w w' : World}{S:Nat->Prop}{g mp:Nat}{c:aM}{cuts:Value}{ep:Int}{ov:Bool}{ks:List ByteArray}{M:ByteArray->Option kT}
theorem Ez(s:ByteArray)(a:aU)(h:QZ w S g mp c cuts ep ov ks M)(hs:s.size<=maxLen)(hM:M s=none) :
 Calls prog 102 #[pt g,.string s,.agg (cI a)] w (Rt (.bool false) (Bl w)):=by
 have EX:=zW w (.cells (cI a) Ey);have Fj:=(λW (hb:Bl w W)=>uL (h.call hb) s hs (hM▸aB6 _) (hM▸aB6 _));rw[hM]at Fj;simp only[Option.isSome_none]at Fj;clear h hM;go_enter func102,ntmps102;go_wp2_with(go_at_call 12;refine(Fj _ EX).mono ?_;rintro e w1 ⟨v1,rfl,ho1,hb1⟩;obtain⟨A3,n3,c3,B3,m3,d3,rfl,k1,k2,k3⟩:=ho1;have B1:=zT EX hb1;clear hb1 k1 k2 k3);go_ret;exact⟨rfl,B1.alloc B1.size _⟩
theorem Bq(s:ByteArray)(a:aU)(x:kT)(h:QZ w S g mp c cuts ep ov ks M)(ey:∀k,S k->k<w.heap.size)(a8:c.gV)(hs:s.size<=maxLen)(hM:M s=some x)(hn:x.dE.length<=100000)(hm:x.past.length<=99999) :
 Calls prog 102 #[pt g,.string s,.agg (cI a)] w λe w'=>e=.returned (.bool true)/\vC S g mp c cuts ep ov ks M s {x with past:=eV x.past c.iI.toNat a} w w':=by
 have BA:=zD (ai.new w Ey (cI a));have EX:=zD (zW w (.cells (cI a) Ey));have Fj:=zD (λW (hb:Bl w W)=>uL (h.call hb) s hs (hM▸hn) (hM▸aB4 hm dC));rw[hM]at Fj;simp only[Option.isSome_some,aF6]at Fj;have H0:=zD h;obtain⟨f,hf⟩:=h.map;have HMf:=zD hf;have nR:=zD ey;have qB:=zD hm;have as3:=zD (show 1<=c.iI/\c.iI<=64 from⟨a8.2.2.2.2.2.1,a8.2.2.2.2.2.2⟩);clear h hf hM hn hm ey a8;go_enter func102,ntmps102;go_upto_region 4 with(go_at_call 12;refine(Fj.out _ EX.out).mono ?_;rintro e w1 ⟨v1,rfl,ho1,hb1⟩;obtain⟨A3,n3,c3,B3,m3,d3,rfl,k1,k2,k3⟩:=ho1;have HD:=zD k3;have O1:=zD k1;have P1:=zD k2;have ah8:=hb1.size;have B1:=zD (zT EX.out hb1);have A1:=zD (BA.out.call hb1);clear hb1 k1 k2 k3)
 obtain⟨G,hG⟩:=zE w1.heap.size;obtain⟨W2,hW2⟩:=zE (w1.alloc (.cells (bl A3 n3 c3 B3 m3 d3 x.cM x.nM) jq));rw[<-hW2,<-hG];have G2:=zD (show ai W2 G jq (bl A3 n3 c3 B3 m3 d3 x.cM x.nM)from by rw[hW2,hG];exact ai.new _ _ _);have A2:=zD (show ai W2 w.heap.size Ey (cI a)from by rw[hW2];exact A1.out.alloc _);have O2:=zD (show kH W2 (w.heap.size+1) (.slice A3 n3 c3) x.dE from by rw[hW2];exact(O1.out.alloc _).mono sI);have P2:=zD (show Ac W2 (w.heap.size+1) (.slice B3 m3 d3) x.past from by rw[hW2];exact(P1.out.alloc _).mono sI);have N2:=zD (show ∀k,((Value.slice A3 n3 c3).ownBlock=some k\/(Value.slice B3 m3 d3).ownBlock=some k)->k<G from by
  rw[hG];rintro k (hk|hk)
  ·exact(O1.out.lt k hk).2
  ·exact(P1.out.lt k hk).2)
 have B2:=zD (show Bl w W2 from by rw[hW2];exact B1.out.alloc B1.out.size _);have hGw:w.heap.size<G:=by rw[hG];exact A1.out.lt
 clear O1 P1 A1 B1 BA EX Fj ah8 hW2 hG;have q1:=G2.out.z 1 (.slice B3 m3 d3);go_upto_region 5 with(first
  |refine zI A2.out underlying49 ?_
  |(at_builtin;refine cU _ rfl (.tmp 18) (.tmp 20) 37 rfl (w.heap.size+1) Ey _ 5 40 aU.cells underlying37 lU rF dC (λ_=>rfl) mJ (.slice B3 m3 d3) x.past rfl (P2.out.alloc _) ⟨W2.heap.size,0,none⟩ 1 a rfl (br (α:=aU) (vs:=a.cells) (ai.new W2 Ey (cI a)) rfl) (oH qB.out) dC (by have:=A2.out.lt;simp;omega) ?_;intro v5 w5 kG Co wK;obtain⟨A6,n6,c6,rfl,he6,uZ⟩:=kG.shape (λ_=>rfl);have G5:=zD ((G2.out.alloc _).upd Co (λe=>aT3 _ (N2.out _ (.inr e))));have g1:=G5.out.z 1 (.slice B3 m3 d3);have f1:=G5.out.frozen 1;have P5:=zD kG;have U5:=zD Co;have S5:=zD uZ;have L5:=zD he6;have W5_:=zD wK;clear kG Co wK uZ he6 q1))
 obtain⟨W6,hW6⟩:=zE (w5.setCell ⟨G,1,none⟩ (.slice A6 n6 c6));rw[<-hW6];have RU:ah (λk=>k=G) w5 W6:=by rw[hW6];exact(ah.refl (λk=>k=G) w5).setCell (p:=⟨G,1,none⟩) (.inl rfl) _
 have G6:=zD (show ai W6 G jq (bl A3 n3 c3 A6 n6 c6 x.cM x.nM)from by rw[hW6];exact G5.out.aX 1 (.slice A6 n6 c6));have U6:ah (λk=>k=G\/(Value.slice B3 m3 d3).ownBlock=some k) W2 W6:=((((ah.refl _ W2).alloc (.cells a.cells.toArray Ey)).trans U5.out (λk hk=>.inl (.inr hk))).trans RU (λk e=>.inl (.inl e)));have hgl:G<W2.heap.size:=G2.out.lt;have B6:=zD (show Bl w W6 from(((ah.aa B2.out:ah (λ_=>False) w W2).trans U6 (λk hk=>.inr (by
  rcases hk with rfl|hk
  ·omega
  ·have:=(P2.out.lt k hk).1;omega))).below (λ_ h=>h.elim) lR))
 have O6:=zD (O2.out.upd U6 (λk hk e=>by
  rcases e with rfl|e
  ·exact aT3 _ (N2.out _ (.inl hk))
  ·exact HD.out k hk e))
 have S6:=zD (show dB W6 A6 n6 c6 (x.past++[a])from aV S5.out RU (λb e h9=>by
  subst e;rcases W5_.out with e|e
  ·exact aT3 _ (N2.out G (.inr (by rw[<-e,<-h9];rfl)))
  ·have e2:b.block=(W2.alloc (.cells a.cells.toArray Ey)).heap.size:=by injection e
   simp only[World.size_alloc]at e2;omega))
 have K6:=zD (show(∀b,A3=some b->¬S b.block)/\(∀b,A6=some b->¬S b.block)from⟨λb e h9=>by
  subst e;have:=(O2.out.lt b.block rfl).1;have:=nR.out _ h9;omega,λb e h9=>by
  subst e;have:=(P5.out.lt b.block rfl).1;have:=nR.out _ h9;omega⟩)
 have NA:=zD (show(∀b,A3=some b->b.block≠G/\w.heap.size<b.block)/\(∀b,A6=some b->b.block≠G/\w.heap.size<b.block)from⟨λb e=>by
  subst e;have:=(O2.out.lt b.block rfl).1;have:=N2.out b.block (.inl rfl);omega,λb e=>by
  subst e;have:=(P5.out.lt b.block rfl).1;refine⟨λh9=>?_,oM⟩;rcases W5_.out with e|e
  ·exact aT3 _ (N2.out G (.inr (by rw[<-e,<-h9];rfl)))
  ·have e2:b.block=(W2.alloc (.cells a.cells.toArray Ey)).heap.size:=by injection e
   simp only[World.size_alloc]at e2;omega⟩)
 clear hW6 RU U6 g1 f1 W5_ U5 S5 P5 G5 P2 O2 N2 HD A2 G2 B2;have g1:=G6.out.z 1 (.slice A6 n6 c6);have z3:=(H0.out.call B6.out).blk.z 3 (I6 c.iI);have Xk:n6=x.past.length+1:=sH L5.out
 go_quiet(fail);have D7:=below_drewN (Below.refl W6.heap.size W6) nq;obtain⟨W7,Fu⟩:=zE (W6.drewN nq);rw[<-Fu]at D7 |-;have G7:=zD (G6.out.call D7);have B7:=zD (zT B6.out D7);have O7:=zD (O6.out.call D7);have S7:=zD (af S6.out D7);have HQ:eV x.past c.iI.toNat a=if c.iI<(x.past.length:Int)+1 then(x.past++[a]).drop 1 else x.past++[a]:=by
  unfold eV;have:=as3.out
  by_cases hh:c.iI<(x.past.length:Int)+1
  ·rw[if_pos hh,if_pos sM]
  ·rw[if_neg hh,if_neg sM]
 have hcm:n6<=c6/\c6<=9223372036854775807:=by have:=S6.out.2.1;have h2:=S6.out.2.2.1;unfold maxLen at h2;omega
 clear Fu D7 B6 O6 S6 G6 g1 z3 hgl;subst Xk;have HC:=zD hcm
 by_cases hh:c.iI<(x.past.length:Int)+1
 ·have hd:decide (c.iI<(x.past.length:Int)+1)=true:=decide_eq_true hh
  rw[if_pos hh]at HQ;have Fh:=zD HQ;have g1:=G7.out.z 1 (.slice A6 (x.past.length+1) c6);have f1:=G7.out.frozen 1;have:1<=x.past.length:=oH as3.out
  have hA6:∃b off,A6=some ⟨b,off,none⟩:=by
   obtain⟨b,off,y,e,-⟩:=ag.at_ (k:=0) S7.out oM;exact⟨b,off,e⟩
  obtain⟨b6,o6,rfl⟩:=hA6;obtain⟨hc1,hc2⟩:=hcm;have: ¬c6=1:=oM
  rw[hd];clear hd HQ hh;go_upto_region 7 with fail
  obtain⟨W8,Br⟩:=zE (W7.setCell ⟨G,1,none⟩ (.slice (some ⟨b6,o6+5,none⟩) x.past.length (c6-1)));rw[<-Br];have hu8:ah (λk=>k=G) W7 W8:=by rw[Br];exact(ah.refl (λk=>k=G) W7).setCell (p:=⟨G,1,none⟩) (.inl rfl) _
  have G8:=zD (show ai W8 G jq (bl A3 n3 c3 (some ⟨b6,o6+5,none⟩) x.past.length (c6-1) x.cM x.nM)from by rw[Br];exact G7.out.aX 1 _);have B8:=zD (show Bl w W8 from(((ah.aa B7.out:ah (λ_=>False) w W7).trans hu8 (λk e=>.inr oM)).below (λ_ h=>h.elim) lR));have Z8:=zD (H0.out.call B8.out);have M8:=zD (HMf.out.map.call B8.out);have O8:=zD (aV (O7.out.is (λ_=>rfl)) hu8 (λb e h9=>(NA.out.1 b e).1 h9));have S8:=zD (show dB W8 (some ⟨b6,o6+5,none⟩) x.past.length (c6-1) (eV x.past c.iI.toNat a)from by rw[Fh.out];exact aV (yg S7.out (show 1<=x.past.length+1 by omega)) hu8 (λb e h9=>by injection e with e;subst e;exact(NA.out.2 _ rfl).1 h9));have K8:=zD (show ∀b:Addr,((some ⟨b6,o6+5,none⟩):Option Addr)=some b->b.block≠G/\w.heap.size<b.block from λb e=>by injection e with e;subst e;exact NA.out.2 ⟨b6,o6,none⟩ rfl);clear Br hu8 f1 g1 G7 B7 O7 S7;clear K6 HC;refine zr (λj=>[6].contains j) (λwS=>Bl W8 wS) ?_;have S0:=(Below.refl W8.heap.size W8).drew;refine zk 2 [0,1,2,3,4] [_,_,_,.map (some mp),_] (.q zX<|.q zX<|.q zX<|.q (zS λ_ h=>(Z8.out.blk.call h).z 4 (.map (some mp)))<|.e) S0 ?_;refine zk 1 [5] [_] (.c rfl rfl (zl λ_ h=>zb (G8.out.call h) underlying45) .nil) S0 ?_;refine aq _ _ _ _ kZ ?_;refine zO 6 (λQ2 aI=>?_);go_wp2_with(refine df fI _ rfl _ _ _ mj rfl jq bZ mp f ks rfl (M8.out.call (S0)) (by have:=H0.out.len;unfold maxLen;omega) s rfl hs _ rfl ?_;intro w9 hm9 dM;have JM:=zD dM;have HM9:=zD hm9;have HS9:=zD (S0);clear hm9 dM);(try refine aI _ _ ?_);(try clear aI Q2)
  refine wpAny_done kZ ?_ _;go_wp2;go_ret;have:mp<w.heap.size:=nR.out mp H0.out.sm;have U8:ah (λk=>k=mp) W8 w9:=((ah.refl _ W8).call HS9.out).grown JM.out (λk e=>by injection e with e;exact .inl e.symm);have U9:ah (λk=>k=mp) w w9:=(ah.aa B8.out:ah (λk=>k=mp) w W8).trans U8 iL;exact⟨rfl,(Z8.out.blk.call HS9.out).grown JM.out (by intro h;injection h with h;exact H0.out.ne h),⟨_,HMf.out.put HM9.out (U9.mono (λk e=>e ▸ H0.out.sm)) ⟨A3,n3,c3,(some ⟨b6,o6+5,none⟩),x.past.length,(c6-1),rfl,aV O8.out U8 (λb e h9=>oH (NA.out.1 b e).2),aV S8.out U8 (λb e h9=>oH (K8.out b e).2),λb e _ h9=>oI (NA.out.1 b e).2 (nR.out _ h9),λb e _ h9=>oI (K8.out b e).2 (nR.out _ h9)⟩⟩,U9⟩
 ·have hd:decide (c.iI<(x.past.length:Int)+1)=false:=decide_eq_false hh
  rw[if_neg hh]at HQ;have Fh:=zD HQ;rw[hd];clear hd HQ hh hcm;go_upto_region 7 with fail
  obtain⟨W8,Br⟩:=zE W7;have hu8:ah (λk=>k=G) W7 W8:=by rw[Br];exact ah.refl _ _
  have G8:=zD (show ai W8 G jq (bl A3 n3 c3 A6 (x.past.length+1) c6 x.cM x.nM)from by rw[Br];exact G7.out);rw[<-Br];have g1:True:=trivial;have f1:True:=trivial;have B8:=zD (show Bl w W8 from(((ah.aa B7.out:ah (λ_=>False) w W7).trans hu8 (λk e=>.inr oM)).below (λ_ h=>h.elim) lR));have Z8:=zD (H0.out.call B8.out);have O8:=zD (aV (O7.out.is (λ_=>rfl)) hu8 (λb e h9=>(NA.out.1 b e).1 h9));have S8:=zD (show dB W8 A6 (x.past.length+1) c6 (eV x.past c.iI.toNat a)from by rw[Fh.out,Br];exact S7.out);have K8:=zD (show ∀b:Addr,(A6:Option Addr)=some b->b.block≠G/\w.heap.size<b.block from NA.out.2);clear Br hu8 f1 g1 G7 B7 O7 S7;clear K6 HC;refine zr (λj=>[6].contains j) (λwS=>Bl W8 wS) ?_;have S0:=(Below.refl W8.heap.size W8).drew;refine zk 2 [0,1,2,3,4] [_,_,_,.map (some mp),_] (.q zX<|.q zX<|.q zX<|.q (zS λ_ h=>(Z8.out.blk.call h).z 4 (.map (some mp)))<|.e) S0 ?_;refine zk 1 [5] [_] (.c rfl rfl (zl λ_ h=>zb (G8.out.call h) underlying45) .nil) S0 ?_;refine aq _ _ _ _ kZ ?_;refine zO 6 (λQ2 aI=>?_);go_wp2_with(refine df fI _ rfl _ _ _ mj rfl jq bZ mp f ks rfl ((HMf.out.map.call B8.out).call (S0)) (by have:=H0.out.len;unfold maxLen;omega) s rfl hs _ rfl ?_;intro w9 hm9 dM;have JM:=zD dM;have HM9:=zD hm9;have HS9:=zD (S0);clear hm9 dM);(try refine aI _ _ ?_);(try clear aI Q2)
  refine wpAny_done kZ ?_ _;go_wp2;go_ret;have:mp<w.heap.size:=nR.out mp H0.out.sm;have U8:ah (λk=>k=mp) W8 w9:=((ah.refl _ W8).call HS9.out).grown JM.out (λk e=>by injection e with e;exact .inl e.symm);have U9:ah (λk=>k=mp) w w9:=(ah.aa B8.out:ah (λk=>k=mp) w W8).trans U8 iL;exact⟨rfl,(Z8.out.blk.call HS9.out).grown JM.out (by intro h;injection h with h;exact H0.out.ne h),⟨_,HMf.out.put HM9.out (U9.mono (λk e=>e ▸ H0.out.sm)) ⟨A3,n3,c3,A6,(x.past.length+1),c6,rfl,aV O8.out U8 (λb e h9=>oH (NA.out.1 b e).2),aV S8.out U8 (λb e h9=>oH (K8.out b e).2),λb e _ h9=>oI (NA.out.1 b e).2 (nR.out _ h9),λb e _ h9=>oI (K8.out b e).2 (nR.out _ h9)⟩⟩,U9⟩
end
end
section
abbrev Bt:TypeId:=183
abbrev ak.row(c:ak):Array Value:=aj c.k c.s c.t c.v c.h c.p
section
variable{w w' : World}{S:Nat->Prop}{g mp:Nat}{c:aM}{cuts:Value}{ep:Int}{ov:Bool}{ks:List ByteArray}{M:ByteArray->Option kT}
theorem vZ(cq:ak)(he:bU cq.t cq.v≠0) :
 Calls prog 59 #[pt g,.agg cq.row] w (Rt (.agg (cK (bU cq.t cq.v)).row) (Bl w)):=by
 have EX:=(zW w (.cells cq.row eZ)).alloc sI (.cells zR dv);have HR:=(λW=>dA cq.t cq.v W);have:(bU cq.t cq.v != 0)=true:=sH he
 generalize bU cq.t cq.v=PE at *;clear he;go_enter func59,ntmps59;go_wp2_with(first
  |go_at_call 78;refine zN (HR _) ?_
  |(refine zJ (ai.dR w (.cells cq.row eZ) dv zR) ?_;intro w9 X9 G9))
 refine zU X9 underlying70 ⟨rfl,EX.grown G9 EX.size (λk e=>by injection e;omega)⟩
theorem uM(cq:ak)(h:QZ w S g mp c cuts ep ov ks M)(hs:cq.s.size<=maxLen)(he:bU cq.t cq.v=0)(hf:((M cq.s).isNone&&decide (c.lW<=(sU c cq.s ks:Int)))=true) :
 Calls prog 59 #[pt g,.agg cq.row] w (Rt (.agg (cK 6).row) (Bl w)):=by
 have BX:=(ai.new w eZ cq.row).alloc (.cells zR dv);have BY:=ai.dR w (.cells cq.row eZ) dv zR;have EX:=(zW w (.cells cq.row eZ)).alloc sI (.cells zR dv);have HR:=(λW=>dA cq.t cq.v W);have ZO:=zh (λW (hb:Bl w W)=>by
  obtain⟨f,hm⟩:=(h.call hb).map;have h9:=pN (h.call hb).blk h.i64.1 h.i64.2 hm cq.s hs h.len;rw[hf]at h9;exact h9)
 rw[he]at HR;clear h he hf;go_enter func59,ntmps59;go_wp2_with(first
  |go_at_call 78;refine zN (HR _) ?_;have q1:=BX.z 1 (.string cq.s)
  |go_at_call 125;refine zM (ZO _ EX) λw2 hb2=>?_;have B2:=zT EX hb2;have Y2:=BY.call hb2;clear hb2 q1
  |(refine zJ Y2 ?_;intro w9 X9 G9))
 refine zU X9 underlying70 ⟨rfl,B2.grown G9 B2.size (λk e=>by injection e;omega)⟩
theorem yV(cq:ak)(h:QZ w S g mp c cuts ep ov ks M)(ey:∀k,S k->k<w.heap.size)(a8:c.gV)(hs:cq.s.size<=maxLen)(hl:((M cq.s).getD eF).dE.length<=9999)(he:bU cq.t cq.v=0)(hf:((M cq.s).isNone&&decide (c.lW<=(sU c cq.s ks:Int)))=false) :
 Calls prog 59 #[pt g,.agg cq.row] w λe w'=>e=.returned (.agg eo.row)/\vC S g mp c cuts ep ov ks M cq.s {(M cq.s).getD eF with dE:=xb c.dE.toNat (((M cq.s).getD eF).dE++[⟨cq.t,cq.v⟩])} w w':=by
 have BX:=zD ((ai.new w eZ cq.row).alloc (.cells zR dv));have BY:=zD (ai.dR w (.cells cq.row eZ) dv zR);have EX:=zD ((zW w (.cells cq.row eZ)).alloc sI (.cells zR dv));have HR:=zD (λW=>dA cq.t cq.v W);have ZO:=zD (λW (hb:Bl w W)=>by
  obtain⟨f,hm⟩:=(h.call hb).map;have h9:=pN (h.call hb).blk h.i64.1 h.i64.2 hm cq.s hs h.len;rw[hf]at h9;exact h9)
 rw[he]at HR;have H0:=zD h;obtain⟨f,hm⟩:=h.map;have HM:=zD hm;obtain⟨A,n,cc,B,m,d,hlk,hsm,qx,hA,hB,hi⟩:=hm.look cq.s;have vY:=zD hsm;have IL:=zD qx;have HAB:=zD (And.intro hA hB);have nR:=zD ey;have HL:=zD (λW (hb:Bl w W)=>by
  have h9:=(hm.map.call hb).look bZ (fh W) (x:=cq.s) hs;rw[hlk]at h9;exact(show(Instr.lookup 99 (.map (some mp)) (.string cq.s) false).run prog W=.ok (.agg (bl A n cc B m d ((M cq.s).getD eF).cM ((M cq.s).getD eF).nM)) W from h9))
 have HRm:=zD (show 1<=c.dE.toNat/\c.dE.toNat<=256/\((c.dE.toNat:Nat):Int)=c.dE from by have h1:=a8.2.1;have h2:=a8.2.2.1;omega);generalize(M cq.s).getD eF=x at *;have kX:=hsm.1;have tB:=zD (show n<=9999 from oM);have NH:=zD hl;have Ls:=zD (λW (hb:Bl w W)=>slices_Clone A n cc x.dE W (af vY.out hb) (by have:=tB.out;omega));have HOf:=zD (λW A9 n9 c9 (hs9:cH W A9 n9 c9 (x.dE++[⟨cq.t,cq.v⟩]))=>by
  have h9:=Pc c.dE.toNat A9 n9 c9 _ W hs9 (by have h1:=hs9.1;have h2:=NH.out;simp at h1;omega) HRm.out.1 HRm.out.2.1;rw[HRm.out.2.2]at h9;exact Calls.mono h9 (λe w' hh=>by
   obtain⟨g,v,h1,h2,h3,h4,h5⟩:=hh;exact(⟨g,v,h1,h2,h3,h4⟩:∃g v,e=.returned (pt g)/\cV w' g v (xb c.dE.toNat (x.dE++[⟨cq.t,cq.v⟩])) c.dE/\(∀k,foot g v k->W.heap.size<=k)/\Bl W w')))
 clear h he hf hm hlk hsm qx hA hB hi ey a8 kX hl;go_enter func59,ntmps59;go_upto_region 6 with(first
  |go_at_call 78;refine zN (HR.out _) ?_;have q1:=BX.out.z 1 (.string cq.s)
  |(go_at_call 125;refine zM (ZO.out _ EX.out) λw2 hb2=>?_;have B2:=zD (zT EX.out hb2);have Y2:=zD (BY.out.call hb2);have X2:=zD (BX.out.call hb2);clear hb2 q1))
 have Z2:=zD (H0.out.call B2.out);have zu:=zD (λW (hb:Bl w2 W)=>HL.out W (zT B2.out hb));refine zB λS0=>?_
 refine zk 4 [0,1,2,3,4] [_,_,_,.map (some mp),_] (.q zK<|.q zK<|.q zK<|.c rfl rfl (zl λ_ h=>by have c:=(Z2.out.blk.call h).z 4 (.map (some mp));go_simp)<|.f) S0 ?_;refine zk 2 [5,6] [.string cq.s,.agg (bl A n cc B m d x.cM x.nM)] (.c rfl rfl (zl λ_ h=>by have c:=(X2.out.call h).z 1 (.string cq.s);go_simp)<|.c rfl rfl (zl λ_ h=>by have c:=zu.out _ h;go_simp) .nil) S0 ?_;refine zQ 7 ?_;have nG:=dp (S:=S0) (bl none 0 0 none 0 0 eF.cM false) 45;obtain⟨G,hG,bG,lG⟩:=nG;go_wp2_with fail;refine .i (S0.alloc S0.size _) ?_
 (try simp only[hG])
 clear hG;have SG:=S0.alloc S0.size (.cells (bl none 0 0 none 0 0 eF.cM false) 45);refine zQ 8 ?_;go_wp2_with(refine zJ (bG) ?_;intro uG p9 jH);refine .i (SG.trans (Only.below jH lG SG.size)) ?_;have jf:=SG.trans (Only.below jH lG SG.size);refine zd ?_;have B3:=zD (zT B2.out jf);have Y3:=zD (Y2.out.call jf);have X3:=zD (X2.out.call jf);have G3:=zD p9;have Z3:=zD (Z2.out.call jf);have NG:=zD (show w.heap.size+1<G from aB9 Y2.out.lt lG);clear jf SG S0 p9 jH bG lG X2 Y2 B2 BX BY EX ZO HR HL zu Z2;generalize uG=W3 at *;go_upto_region 7 with fail
 refine zB λS0=>?_
 refine zk 12 [0,1,2,3,4] [_,_,_,_,I6 c.dE] (.q zK<|.q zK<|.q zK<|.q zK<|.c rfl rfl (zl λ_ h=>by have c:=(Z3.out.blk.call h).z 1 (I6 c.dE);go_simp) .nil) S0 ?_;refine zk 7 [5,6,8,9,10] [_,.slice A n cc,_,I6 cq.t,_] (.q zK<|.c rfl rfl (zl λ_ h=>by have c:=(G3.out.call h).z 0 (.slice A n cc);go_simp)<|.q zK<|.c rfl rfl (zl λ_ h=>by have c:=(X3.out.call h).z 2 (I6 cq.t);go_simp)<|.f) S0 ?_;refine zk 5 [11,12] [I6 cq.v,_] (.c rfl rfl (zl λ_ h=>by have c:=(X3.out.call h).z 3 (I6 cq.v);go_simp)<|.f) S0 ?_;refine zY 7 13 ?r1 ?r2
 case' r1=>
  go_wp2_with(go_at_call 106;refine(Ls.out _ (B3.out.trans ((S0).mono B3.out.size))).mono ?_;rintro e v2 ⟨A2,n2,c2,rfl,mv,hb2⟩;have O2:=zD (mv.mono (base':=W3.heap.size) (S0).size));refine .i (zT S0 hb2) ?_;have S2:=zT S0 hb2;refine zQ 13 ?_;have nH:=dp (S:=S2) (#[I6 cq.t,I6 cq.v]) 183;obtain⟨H,hH,bH,lH⟩:=nH;go_wp2_with fail;refine .i (S2.alloc S2.size _) ?_
  (try simp only[hH])
  clear hH;have SH:=S2.alloc S2.size (.cells (#[I6 cq.t,I6 cq.v]) 183);refine zQ 14 ?_;go_wp2_with(refine wY _ rfl (.tmp 36) (.tmp 42) rfl W3.heap.size (.slice A2 n2 c2) x.dE rfl (by first|exact O2.out|exact O2.out.alloc _) H Bt 1 ⟨cq.t,cq.v⟩ rfl ((bH)) (by have:=NH.out;omega) (SH).size ?_;intro v4 w4 qP hb4 hg4;obtain⟨A4,n4,c4,rfl,-,hs4⟩:=qP.shape (λ_=>rfl);have S4_:=zD hs4);refine .i (SH.trans hb4) ?_;have S4:=SH.trans hb4;refine zQ 15 ?_;go_wp2_with(go_at_call 126;refine(HOf.out _ _ _ _ S4_.out).mono ?_;rintro e v5 ⟨gs,vs,rfl,ak3,hfo,dx⟩;have Se:=zD ak3);refine .i (zT S4 dx) ?_;have S5:=zT S4 dx;refine zk 0 [16] [pt gs] .f S5 ?_;refine zd ?_
 case' r2=>
  have nH:=dp (S:=S0) (#[I6 cq.t,I6 cq.v]) 183;obtain⟨H,hH,bH,lH⟩:=nH;go_wp2_with fail;refine .i (S0.alloc S0.size _) ?_
  (try simp only[hH])
  clear hH;have SH:=S0.alloc S0.size (.cells (#[I6 cq.t,I6 cq.v]) 183);refine zQ 7 ?_;go_wp2_with(go_at_call 106;refine(Ls.out _ (B3.out.trans ((SH).mono B3.out.size))).mono ?_;rintro e v2 ⟨A2,n2,c2,rfl,mv,hb2⟩;have O2:=zD (mv.mono (base':=W3.heap.size) (SH).size));refine .i (zT SH hb2) ?_;have S2:=zT SH hb2;refine zQ 14 ?_;go_wp2_with(refine wY _ rfl (.tmp 36) (.tmp 42) rfl W3.heap.size (.slice A2 n2 c2) x.dE rfl (by first|exact O2.out|exact O2.out.alloc _) H Bt 1 ⟨cq.t,cq.v⟩ rfl (((bH).call hb2)) (by have:=NH.out;omega) (S2).size ?_;intro v4 w4 qP hb4 hg4;obtain⟨A4,n4,c4,rfl,-,hs4⟩:=qP.shape (λ_=>rfl);have S4_:=zD hs4);refine .i (S2.trans hb4) ?_;have S4:=S2.trans hb4;refine zQ 15 ?_;go_wp2_with(go_at_call 126;refine(HOf.out _ _ _ _ S4_.out).mono ?_;rintro e v5 ⟨gs,vs,rfl,ak3,hfo,dx⟩;have Se:=zD ak3);refine .i (zT S4 dx) ?_;have S5:=zT S4 dx;refine zk 0 [16] [pt gs] .f S5 ?_;refine zd ?_
 all_goals
  have B5:=zD (B3.out.trans ((S5).mono B3.out.size));have Y5:=zD (Y3.out.call (S5));have X5:=zD (X3.out.call (S5));have G5:=zD (G3.out.call (S5));have Ee:=zD (oh gs vs _ _ v5 Se.out (by have:=xI HRm.out.1 (x.dE++[⟨cq.t,cq.v⟩]);have:=HRm.out.2.1;omega));have hgv:G<v5.heap.size:=G5.out.lt;clear Se S4_ dx hb4 hg4 qP O2 Y3 X3 G3 Z3 B3 Ls HOf NH tB HRm;go_upto_region 9 with(go_at_call 127;refine Ee.out.mono ?_;rintro e w6 ⟨A6,n6,c6,rfl,tA,dJ⟩;have O6:=zD tA;have B6:=zD (zT B5.out dJ);have X6:=zD (X5.out.call dJ);have Y6:=zD (Y5.out.call dJ);have G6:=zD (G5.out.call dJ);have g0:=G6.out.z 0 (.slice A n cc);have f0:=G6.out.frozen 0;clear dJ)
  obtain⟨W7,Fu⟩:=zE (w6.setCell ⟨G,0,none⟩ (.slice A6 n6 c6));rw[<-Fu];have U7:ah (λk=>k=G) w6 W7:=by rw[Fu];exact(ah.refl (λk=>k=G) w6).setCell (p:=⟨G,0,none⟩) (.inl rfl) _
  have G7:=zD (show ai W7 G jq (bl A6 n6 c6 B m d x.cM x.nM)from by rw[Fu];exact G6.out.aX 0 _);have B7:=zD (show Bl w W7 from(((ah.aa B6.out:ah (λ_=>False) w w6).trans U7 (λk e=>.inr (by have:=NG.out;omega))).below (λ_ h=>h.elim) lR));have X7:=zD (X6.out.upd U7 (by have:=NG.out;omega));have Y7:=zD (Y6.out.upd U7 (by have:=NG.out;omega));have Z7:=zD (H0.out.call B7.out);have M7:=zD (HM.out.map.call B7.out);have O7:=zD ((O6.out.upd U7 (λk hk e=>by have:=(O6.out.lt k hk).1;omega)).is (λ_=>rfl));have K7:=zD (show ∀b:Addr,A6=some b->w.heap.size+1<b.block from λb e=>by subst e;have:=(O6.out.lt b.block rfl).1;have:=NG.out;omega);have P7:=zD (aV IL.out (ah.aa B7.out:ah (λ_=>False) w W7) (λ_ _=>id));clear Fu U7 g0 f0 G6 X6 Y6 B6 O6 G5 X5 Y5 B5 Ee hgv;refine zr (λj=>[7].contains j) (λwS=>Bl W7 wS) ?_;have S0:=(Below.refl W7.heap.size W7).drew;refine zk 3 [0,1,2,3,4] [_,_,_,.map (some mp),_] (.q zK<|.q zK<|.q zK<|.c rfl rfl (zl λ_ h=>by have c:=(Z7.out.blk.call h).z 4 (.map (some mp));go_simp)<|.f) S0 ?_;refine zk 1 [5,6] [.string cq.s,_] (.c rfl rfl (zl λ_ h=>by have c:=(X7.out.call h).z 1 (.string cq.s);go_simp)<|.c rfl rfl (zl λ_ h=>zb (G7.out.call h) underlying45) .nil) S0 ?_;refine aq _ _ _ _ kZ ?_;refine zO 7 (λQ2 aI=>?_);go_wp2_with(refine df fI _ rfl _ _ _ mj rfl jq bZ mp f ks rfl (M7.out.call (S0)) (by have:=H0.out.len;unfold maxLen;omega) cq.s rfl hs _ rfl ?_;intro w8 hm8 VJ;have HG8:=zD VJ;have HM8:=zD hm8;have HS8:=zD (S0);clear hm8 VJ);(try refine aI _ _ ?_);(try clear aI Q2)
  refine wpAny_done kZ ?_ _;have:mp<w.heap.size:=nR.out mp H0.out.sm;have:g<w.heap.size:=nR.out g H0.out.sg;have U8:ah (λk=>k=mp) W7 w8:=((ah.refl _ W7).call HS8.out).grown HG8.out (λk e=>by injection e with e;exact .inl e.symm);have Z8:=zD ((Z7.out.blk.call HS8.out).grown HG8.out (by intro h;injection h with h;exact H0.out.ne h));have Y8:=zD ((Y7.out.call HS8.out).grown HG8.out (by intro h;injection h;omega));have U9:=zD ((ah.aa B7.out:ah (λk=>k=mp) w W7).trans U8 iL);have O8:=zD (aV O7.out U8 (λb e h9=>by have:=K7.out b e;omega));clear HG8 HS8 M7 Z7 X7 Y7 G7 B7 S0 O7 P7 U8;go_wp2_with(refine zJ Y8.out ?_;intro w9 b8 dM;have X9:=zD b8;have G9:=zD dM;clear b8 dM);have UG:=ah.bE G9.out;have U:=U9.out.grown G9.out (λk e=>by injection e;omega);exact zU X9.out underlying70 ⟨rfl,Z8.out.upd UG oM,⟨_,HM.out.put (HM8.out.grown G9.out (by intro h;injection h;omega)) (U.mono (λk e=>e ▸ H0.out.sm)) ⟨A6,n6,c6,B,m,d,rfl,aV O8.out UG (λb e h9=>by have:=K7.out b e;omega),kC IL.out U (λb e hn h9=>HAB.out.2 b e hn (h9 ▸ H0.out.sm)),λb e _ h9=>by have:=K7.out b e;have:=nR.out _ h9;omega,HAB.out.2⟩⟩,U⟩
end
end
section
abbrev Q0:TypeId:=138
abbrev ZP:TypeId:=100
structure fF where
 ep:Int
 mp:Option Nat
 fr:Bool
abbrev fF.row(x:fF):Array Value:=#[I6 x.ep,.map x.mp,.bool x.fr]
def fF.cells(x:fF):List Value:=[I6 x.ep,.map x.mp,.bool x.fr]
def yX(w:World)(S:Nat->Prop)(x:fF)(k:Option pV):Prop:=match k with
 |none=>x.fr=true
 |some k=>x.fr=false/\x.ep=k.ep/\∃m f ks,x.mp=some m/\¬S m/\fO w S m f ks k.M
structure fl(w:World)(S:Nat->Prop)(A:Option Addr)(n c:Nat)(l:List fF)(cuts:List (Option pV)):Prop where
 Fv:ag w 3 fF.cells A n c l
 off:∀a,A=some a->0<n->¬S a.block
 len:l.length=cuts.length
 at_:∀(i:Nat)(x:fF)(k:Option pV),l[i]? = some x->cuts[i]? = some k->yX w S x k
theorem yX.upd{w: World}{x:fF}{k:Option pV}(h:yX w S x k)(hu:ah S w w'):yX w' S x k:=by
 cases k with
 |none=>exact h
 |some k=>
  obtain⟨h1,h2,m,f,ks,h3,h4,h5⟩:=h;exact⟨h1,h2,m,f,ks,h3,h4,h5.upd hu (λ_ h=>h) h4⟩
def fl.upd{w: World}{A:Option Addr}{n c:Nat}{l:List fF}{cuts:List (Option pV)}(h:fl w S A n c l cuts)(hu:ah S w w'):fl w' S A n c l cuts:=
 ⟨kC h.Fv hu h.off,h.off,h.len,λi x k h1 h2=>(h.at_ i x k h1 h2).upd hu⟩
def fl.call{w: World}{A:Option Addr}{n c:Nat}{l:List fF}{cuts:List (Option pV)}(h:fl w S A n c l cuts)(hb:Bl w w'):fl w' S A n c l cuts:=h.upd (ah.aa hb)
theorem yX.ext{w:World}{x:fF}{k:Option pV}(h:yX w S x k)(hT:∀k,T k->S k\/w.heap.size<=k):yX w T x k:=by
 cases k with
 |none=>exact h
 |some k=>
  obtain⟨h1,h2,m,f,ks,h3,h4,h5⟩:=h;exact⟨h1,h2,m,f,ks,h3,λht=>(hT _ ht).elim h4 (λhh=>oH h5.map.lt),h5.ext hT⟩
def fl.ext{w:World}{A:Option Addr}{n c:Nat}{l:List fF}{cuts:List (Option pV)}(h:fl w S A n c l cuts)(hT:∀k,T k->S k\/w.heap.size<=k):fl w T A n c l cuts:=
 ⟨h.Fv,λa e hn ht=>(hT _ ht).elim (h.off a e hn) (λhh=>oH ((h.Fv.2.2.2.2 a e).2 hn).1),h.len,λi x k h1 h2=>(h.at_ i x k h1 h2).ext hT⟩
def ml(l:List fF):Nat:=(l.filter λx=>!x.fr).length
theorem EB{w:World}{S:Nat->Prop} : ∀{l:List fF} {cuts:List (Option pV)},l.length=cuts.length->(∀(i:Nat)(x:fF)(k:Option pV),l[i]? = some x->cuts[i]? = some k->yX w S x k)->ml l=(cuts.filter Option.isSome).length
 |[],[],_,_=>rfl
 |x::l,k::cuts,h,ha=>by
  have h1:=EB (w:=w) (S:=S) (l:=l) (cuts:=cuts) (by simpa using h) (λi y k' h1 h2=>ha (i+1) y k' (by simpa using h1) (by simpa using h2));have h2:=ha 0 x k rfl rfl;unfold ml at *;cases k with
  |none=>unfold yX at h2;simp only at h2;simp[h2,h1]
  |some k=>obtain⟨h3,-⟩:=h2;simp[h3,h1]
 |[],_::_,h,_=>by simp at h
 |_::_,[],h,_=>by simp at h
def Q5{l:List fF}{k:Nat}{x:fF}(h:l[k]? = some x):ml (l.take (k+1))=ml (l.take k)+if x.fr then 0 else 1:=by
 unfold ml;rw[take_succ,h];simp only[aT2,aT1,aB8];cases hx:x.fr<;>simp[hx]
section
variable{w:World}{g mp:Nat}{c:aM}{A:Option Addr}{n cc:Nat}{l:List fF}{ep:Int}{ov:Bool}
theorem CK(h:ai w g Bi (fN c mp (.slice A n cc) ep ov))(hs:ag w 3 fF.cells A n cc l)(hn:n<=100000) :
 Calls prog 130 #[pt g] w (Rt (I6 (ml l:Nat)) (Bl w)):=by
 have:=h.z 5 (.slice A n cc);have HS:=hs;have fJ:l.length=n:=hs.1;have:=hn;clear h hs;go_enter func130,ntmps130;go_wp2;go_loopw[3,11] (λns is wr=>∃k:Nat,k<=n/\is = I6 (k:Int)/\ns = I6 (ml (l.take k):Nat)/\Bl w wr) (λ_ is _=>n-(intOf is).toNat)
 case atStart=>exact⟨0,aB6 _,rfl,rfl,Below.refl _ _⟩
 case round=>
  obtain⟨k,hk,rfl,rfl,hb⟩:=hrel
  by_cases hlt:k<n
  ·obtain⟨b,off,x,rfl,hx,fH,hcl⟩:=ag.at_ HS hlt
   have:=(hb.cell (p:=⟨b,off+k*3,none⟩) fH).trans (by have h9:=hcl 0 _ rfl;simpa[fF.cells]using h9)
   have:=(hb.cell (p:=⟨b,off+k*3+1,none⟩) fH).trans (by have h9:=hcl 1 _ rfl;simpa[fF.cells,aD9]using h9)
   have:=(hb.cell (p:=⟨b,off+k*3+2,none⟩) fH).trans (by have h9:=hcl 2 _ rfl;simpa[fF.cells,aD9]using h9)
   have HX:=Q5 hx;have HB:=hb;have:(k:Int)<(n:Int):=oM
   have:ml (l.take k)<=100000:=by
    have:ml (l.take k)<=(l.take k).length:=aE7 _ _;have:(l.take k).length<=l.length:=by rw[aC3];omega
    have:=fJ;omega
   clear hx fH hcl hb;obtain⟨xe,xm,xf⟩:=x;cases xf
   ·go_wp2
    go_roundw
    case rel=>exact⟨k+1,oM,by go_num,by rw[HX];rfl,HB.alloc HB.size _⟩
    case measure=>simp[intOf];omega
   ·go_wp2
    go_roundw
    case rel=>exact⟨k+1,oM,by go_num,by rw[HX];rfl,HB.alloc HB.size _⟩
    case measure=>simp[intOf];omega
  ·have: ¬(k:Int)<(n:Int):=oM
   have DJ:k=n:=oM
   subst DJ;go_wp2;go_ret;exact⟨by rw[aB5 (oH fJ)];rfl,hb⟩
def yY(l:List fF)(m:Int):Int:=if m<1\/(l.length:Int)<m then 5 else if((l[(m-1).toNat]?).map fF.fr).getD true then 8 else 0
theorem pO(m:Int)(h:ai w g Bi (fN c mp (.slice A n cc) ep ov))(hs:ag w 3 fF.cells A n cc l)(hn:n<=100000)(hm:aw m) :
 Calls prog 132 #[pt g,I6 m] w λe w'=>e=.returned (I6 (yY l m))/\w=w':=by
 have:=h.z 5 (.slice A n cc);have hln:l.length=n:=hs.1;have HR:yY l m=yY l m:=rfl;obtain⟨R,hR⟩:=zE (yY l m);rw[<-hR];unfold yY at hR;rw[hln]at hR;have HQ:=zD hR;clear hR HR h
 by_cases h1:m<1
 ·have:decide (m<1)=true:=decide_eq_true h1
  rw[if_pos (.inl h1)]at HQ;go_enter func132,ntmps132;go_wp2;go_ret;exact⟨by rw[HQ.out];rfl,rfl⟩
 have:decide (m<1)=false:=decide_eq_false h1
 by_cases h2:(n:Int)<m
 ·have:decide ((n:Int)<m)=true:=decide_eq_true h2
  rw[if_pos (.inr h2)]at HQ;go_enter func132,ntmps132;go_wp2;go_ret;exact⟨by rw[HQ.out];rfl,rfl⟩
 have:decide ((n:Int)<m)=false:=decide_eq_false h2;rw[if_neg oM]at HQ;obtain⟨k,hk⟩:∃k:Nat,m=(k:Int)+1:=⟨(m-1).toNat,oM⟩
 subst hk;obtain⟨b,off,x,rfl,hx,fH,hcl⟩:=ag.at_ (k:=k) hs oM;have:w.cell? ⟨b,off+k*3+2,none⟩=some (.bool x.fr):=by have h9:=hcl 2 _ rfl;simpa[fF.cells,aD9]using h9
 rw[show((k:Int)+1-1).toNat=k by omega,hx]at HQ;simp only[aI6,aF6]at HQ;have:(k:Int)+1-1=(k:Int):=oM
 have:(k:Int)<(n:Int):=oM
 clear hx fH hcl hs hm;obtain⟨xe,xm,xf⟩:=x;cases xf
 ·go_enter func132,ntmps132
  go_wp2;go_ret;exact⟨by rw[HQ.out];rfl,rfl⟩
 ·go_enter func132,ntmps132
  go_wp2;go_ret;exact⟨by rw[HQ.out];rfl,rfl⟩
theorem sW{w:World}{l:List fF}{m:Fm}{A:Option Addr}{n c:Nat}(h:fl w S A n c l m.cuts)(k:Int):yY l k=m.dH k:=by
 unfold yY Fm.dH;rw[h.len]
 split
 ·rfl
 ·rename_i h1
  have hi:(k-1).toNat<l.length:=oH h.len
  have hj:(k-1).toNat<m.cuts.length:=by rw[<-h.len];exact hi
  have h2:=h.at_ _ _ _ (aB3 hi) (aB3 hj);rw[aB3 hi,aB7,aB3 hj];simp only[aI6,aF6];generalize l[(k-1).toNat]=x at *;generalize m.cuts[(k-1).toNat]=y at *;cases y with
  |none=>unfold yX at h2;simp only at h2;rw[if_pos h2]
  |some y=>obtain⟨h3,-⟩:=h2;exact if_neg (by rw[h3];decide)
end
end
def wj(t:Int)(x:aD):Bool:=decide (x.tick<t)
theorem Ou(x:aD)(t:Int)(B:Nat)(w:World)(hB:w.cell? ⟨B,0,none⟩=some (I6 t))(hl:B<w.heap.size) :
 Calls prog 129 #[.agg #[I6 x.tick,I6 x.value],pt B] w (Rt (.bool (wj t x)) (Bl w)):=by
 unfold wj;have c1:=(zW w (.cells #[I6 x.tick,I6 x.value] Bt)).cell (p:=⟨B,0,none⟩) hl;rw[hB]at c1;clear hB hl;go_enter func129,ntmps129;go_wp2;go_ret;exact⟨rfl,(Below.refl w.heap.size w).alloc lR _⟩
def Ov(args:Array Value)(w:World):(callFunc 129 args).run prog w=.ok (.enter 129 args) w:=by rfl
abbrev Wu(B:Nat):Value:=.func (.func 129) #[] #[pt B]
theorem Bz(A:Option Addr)(n c:Nat)(l:List aD)(t:Int)(B:Nat)(w:World)(hs:cH w A n c l)(hn:n<=100000)(hB:w.cell? ⟨B,0,none⟩=some (I6 t))(hl:B<w.heap.size) :
 Calls prog 180 #[.slice A n c,Wu B] w λe w'=>((e=.returned (I6 (-1))/\∀x∈l,wj t x=false)\/∃k,e=.returned (I6 (k:Nat))/\(∃x,l[k]? = some x/\wj t x=true)/\∀x∈l.take k,wj t x=false)/\Bl w w':=by
 have HS:=hs;have fJ:l.length=n:=hs.1;have HC:=(λx W (hb:Bl w W)=>Ou x t B W ((hb.cell (p:=⟨B,0,none⟩) hl).trans hB) (aB9 hl hb.size));have:=Ov;clear hs hB hl;go_enter func180,ntmps180;go_wp2;go_loopw[8] (λis wr=>∃k:Nat,k<=n/\is = I6 (k:Int)/\(∀x∈l.take k,wj t x=false)/\Bl w wr) (λis _=>n-(intOf is).toNat)
 case atStart=>exact⟨0,aB6 _,rfl,λx hx=>by simp at hx,Below.refl _ _⟩
 case round=>
  obtain⟨k,hk,rfl,hp,hb⟩:=hrel;have HP:=hp;have HB:=hb;clear hp hb
  by_cases hlt:k<n
  ·obtain⟨b,off,x,rfl,hx,fH,hcl⟩:=ag.at_ (af HS HB) hlt
   have mC:wr.rangeAt b (off+k*2) x.cells:=λj v hv=>by have h9:=hcl j v hv;rw[<-aD9]at h9;exact h9
   have HX:=hx;have:(k:Int)<(n:Int):=oM
   clear hx fH hcl;go_wp2_with(first
    |refine wpList_load_mid rfl Bt (.tmp 14) rfl b (off+k*2) rfl x.cells _ mC underlying183 rfl kZ ?_
    |(go_at_fn 129;refine zM (HC x _ HB) λw5 dx=>?_;have B5:=zT HB dx;clear dx;cases hq:wj t x))
   ·have HQ:=hq
    go_wp2;go_roundw
    case rel=>exact⟨k+1,oM,by go_num,λy hy=>by rw[take_succ,HX,aD1]at hy;rcases hy with hy|hy;exact HP y hy;simp at hy;subst hy;exact HQ,B5⟩
    case measure=>simp[intOf];omega
   ·go_wp2;go_ret;exact⟨.inr ⟨k,rfl,⟨x,HX,hq⟩,HP⟩,B5⟩
  ·have: ¬(k:Int)<(n:Int):=oM
   go_wp2;go_ret;exact⟨.inl ⟨rfl,λx hx=>HP x (by rw[aB5 (oH fJ)];exact hx)⟩,HB⟩
section
def SA(w:World)(g c:Nat)(l:List aD):Prop:=∃cs,ai w g Bt cs/\cs.size=c*2/\l.length<=c/\cs.toList.take (l.length*2)=l.flatMap aD.cells
def Rf(T Y:List α)(o n:Nat)(hY:Y.length=2)(h1:o+2<=n)(h2:n<=T.length):(T.take o++(Y++T.drop (o+2))).take n=(T.take n).take o++(Y++(T.take n).drop (o+2)):=by
 rw[aS0,aC3,aG5 oM,aB5 (l:=T.take o) sM,aS0,aB5 (l:=Y) oM,hY,aH4,aG5 oM,aV6,Nat.sub_sub]
section
variable{w w' : World}{g c i:Nat}{l:List aD}{x y:aD}
def SA.range(h:SA w g c l)(hi:l[i]? = some x):w.rangeAt g (i*2) x.cells:=by
 obtain⟨cs,hb,hs,hc,ht⟩:=h;intro j v hv;have hj:j<2:=(d9.1 hv).1;have h1:=ic (size:=2) aA l i j x hi hj;have:=(d9.1 hi).1;rw[<-ht,aE4,if_pos oM]at h1;exact(hb.cell _).trans (by rw[<-aG0,h1];exact hv)
def SA.there(h:SA w g c l)(hi:i<l.length):w.there g (i*2) 2:=by
 obtain⟨cs,hb,hs,hc,ht⟩:=h;exact λj hj=>⟨by rw[hb.cell,aC6 oM];rfl,hb.frozen _⟩
def SA.set(h:SA w g c l)(hi:i<l.length)(y:aD):SA (w.setCells g (i*2) y.cells) g c (l.set i y)/\w.grownBy (w.setCells g (i*2) y.cells) (some g):=by
 obtain⟨cs,hb,hs,hc,ht⟩:=h;have iD:i*2+y.cells.length<=cs.size:=by rw[aA];omega
 obtain⟨h1,h2⟩:=hb.setCells iD;refine⟨⟨_,h1,by rw[dz iD];exact hs,by rw[aF3];exact hc,?_⟩,h2⟩;rw[aF3];have e1:(vI cs (i*2) y.cells).toList=cs.toList.take (i*2)++(y.cells++cs.toList.drop (i*2+2)):=rfl;rw[e1,aI2,if_pos hi,aH0,aE8,<-jE aA,<-jF aA,<-ht,Rf cs.toList y.cells (i*2) (l.length*2) rfl oM (by have:cs.toList.length=cs.size:=aT6;omega),aD6]
def SA.call(h:SA w g c l)(hb:Below B w w')(hg:g<B):SA w' g c l:=by
 obtain⟨cs,hb1,h2⟩:=h;exact⟨cs,(hb.block g hg).trans hb1,h2⟩
def SA.lt(h:SA w g c l):g<w.heap.size:=by obtain⟨cs,hb,-⟩:=h;exact hb.lt
def SA.store{ops:Array Oper}{rest:List Oper}{op:Oper}{a:Act}{Q:Exit->Act->World->Prop}(h:SA w g c l)(hi:i<l.length)(y:aD)(hgd:op.guard=none)(x z:Operand)(ho:op.op=.store Bt x z)(hx:a.eval x=.pointer (some ⟨g,o,none⟩))(he:o=i*2)(hy:a.eval z=.agg #[I6 y.tick,I6 y.value])(H:∀w',SA w' g c (l.set i y)->w.grownBy w' (some g)->wpList prog ops Q rest (a.put op.dst undef) w'):wpList prog ops Q (op::rest) a w:=by
 subst he;obtain⟨h1,h2⟩:=h.set hi y;exact wpList_store_mid hgd Bt x z ho g (i*2) #[I6 y.tick,I6 y.value] hx hy (h.there hi) kZ (by simp[Value.oneCell']) (H _ h1 h2)
end
def CO{l:List aD}{t:Int}(h:∀x∈l,wj t x=false):bT l t=l:=by
 unfold bT;rw[aS5];intro x hx;have:=h x hx;unfold wj at this
 simpa using this
def rf{l:List aD}{t:Int}{j:Nat}{x:aD}(h:l[j]? = some x):bT (l.take (j+1)) t=bT (l.take j) t++if wj t x then[]else[x]:=by
 unfold bT wj;rw[take_succ,h,aT1]
 congr 1
 by_cases e:x.tick<t
 ·have:¬t<=x.tick:=oM
  simp[this,e]
 ·have:t<=x.tick:=oM
  simp[this,e]
theorem y9{base:Nat}(v:Value)(l:List aD)(t:Int)(B:Nat)(w:World)(h:kH w base v l)(hn:l.length<=100000)(hB:w.cell? ⟨B,0,none⟩=some (I6 t))(hl:B<w.heap.size)(hne:v.ownBlock≠some B) :
 Calls prog 128 #[v,Wu B] w λe w'=>∃v',e=.returned v'/\kH w' base v' (bT l t)/\ah (λk=>v.ownBlock=some k) w w':=by
 obtain⟨A,n,c,rfl,hln,hs⟩:=h.shape aA;have HI:=zD (Bz A n c l t B w hs oM hB hl);have H0:=zD h;have fJ:=zD hln;have HC:=zD (λx W (hb:W.cell? ⟨B,0,none⟩=some (I6 t)) (hz:B<W.heap.size)=>Ou x t B W hb hz);have:=Ov;have HB:=zD (And.intro hB hl);have mW:=zD hne;have hn9:n<=100000:=oM
 have HN:=zD hn9;clear h hs hB hl hne hln hn9 hn;go_enter func128,ntmps128;go_wp2_with(go_at_call 180;refine HI.out.mono ?_;rintro e w1 ⟨⟨rfl,hq⟩|⟨k,rfl,hq⟩,hb1⟩)
 ·go_ret
  exact⟨_,rfl,by rw[CO hq];exact H0.out.call hb1,ah.aa hb1⟩
 ·obtain⟨⟨x0,hx0,hq0⟩,hq1⟩:=hq
  have zt:k<l.length:=(d9.1 hx0).1;rcases H0.out.2 with⟨he,hz⟩|⟨g,cap,cur,heq,hbg,hg,mF,hcm,hcs,eM⟩
  ·omega
  injection heq with h1 h2 h3
  subst h1;have HNg:=zD (show g≠B from λe=>mW.out (by rw[<-e];rfl));have S0:SA w g c l:=⟨cur,hg,by rw[hcs,h3],h3▸mF,eM⟩;have S1:=zD (S0.call hb1 S0.lt);have hgl:=S0.lt;have HCm:=zD (show c<=maxLen from by rw[h3];exact hcm);have HBg:=zD hbg;have DJ:k<n:=oM
  have e0:bT (l.take (k+1)) t=l.take k:=by
   rw[rf hx0,hq0,CO hq1];simp
  have HE0:=zD e0;have HU1:=zD (show ah (λk=>k=g) w w1 from ah.aa hb1);have HKn:=zD DJ;clear hx0 hq0 hq1 zt h2 h3 hg mF hcm hcs eM S0 hgl e0 hb1 hbg DJ;go_loopw[5,6] (λis js wr=>∃(i j:Nat)(L:List aD),i<j/\j<=n/\is = I6 (i:Int)/\js = I6 (j:Int)/\L.length=n/\L.take i=bT (l.take j) t/\L.drop j=l.drop j/\SA wr g c L/\ah (λk=>k=g) w wr) (λ_ js _=>n-(intOf js).toNat)
  case atStart=>exact⟨k,k+1,l,oM,HKn.out,rfl,by have:=HN.out;have h9:=HKn.out;rw[IntWalk.wrap64_in _ oM];rfl,fJ.out.symm,HE0.out.symm,rfl,S1.out,HU1.out⟩
  case round=>
   obtain⟨i,j,L,hij,hjn,rfl,rfl,hLl,hLt,hLd,hSA,hU⟩:=hrel;have HL:=zD (And.intro hLl (And.intro hLt hLd));have HS:=zD hSA;have HU:=zD hU;clear hLl hLt hLd hSA hU
   by_cases hlt:j<n
   ·obtain⟨x,hx⟩:∃x,l[j]? = some x:=⟨l[j]'(oH fJ.out),aB3 _⟩
    have hLx:L[j]? = some x:=by
     have h9:=congrArg (λq=>q[0]?) HL.out.2.2;simp only[aE5,aH9]at h9;rw[h9];exact hx
    have HX:=zD (And.intro hx hLx);have mC:=zD (show wr.rangeAt g (j*2) [I6 x.tick,I6 x.value]from HS.out.range hLx);have HCw:=zD (λW (hb:Bl wr W)=>HC.out x W ((hb.cell (p:=⟨B,0,none⟩) (aB9 HB.out.2 HU.out.size)).trans ((by unfold World.cell?;rw[show wr.heap[B]? = w.heap[B]? from HU.out.block B HB.out.2 (λe=>HNg.out e.symm)]:wr.cell? ⟨B,0,none⟩=w.cell? ⟨B,0,none⟩).trans HB.out.1)) (aB9 (aB9 HB.out.2 HU.out.size) hb.size));have:(j:Int)<(n:Int):=oM
    have E1:=zD (zW wr (.cells #[I6 x.tick,I6 x.value] Bt));have:=HN.out;have:(i:Int)<(n:Int):=oM
    have Xq:=zD (show i<L.length from by have:=HL.out.1;omega);clear hx hLx;go_wp2_with(first
     |refine wpList_load_mid rfl Bt (.tmp 24) rfl g (j*2) rfl [I6 x.tick,I6 x.value] _ mC.out underlying183 rfl kZ ?_
     |go_at_fn 129;refine zM (HCw.out _ E1.out) λw5 dx=>?_;have X5:=zD ((ai.new wr Bt #[I6 x.tick,I6 x.value]).call dx);have B5:=zD (zT E1.out dx);have S5:=zD (HS.out.call B5.out HS.out.lt);clear dx;cases hq:wj t x
     |refine zI X5.out underlying183 ?_
     |(refine SA.store S5.out Xq.out x rfl (.tmp 33) (.tmp 32) rfl rfl rfl rfl ?_;intro w6 uZ RU;have S6:=zD uZ;have G6:=zD RU;clear uZ RU))
    ·have HQ:=hq
     go_roundw
     case rel=>
      have rk:bT (l.take (j+1)) t=bT (l.take j) t++[x]:=by rw[rf HX.out.1,HQ];rfl
      refine⟨_,_,_,_,_,_,_,_,_,_,_,_,_,_,_,_,_,_,_,_,_,_,_,⟨i+1,j+1,L.set i x,oM,oM,rfl,rfl,by rw[aF3];exact HL.out.1,?_,?_,S6.out,((HU.out.trans (ah.aa B5.out:ah (λ_=>False) wr w5) (λ_ h=>h.elim)).grown G6.out (λk e=>by cases e;exact .inl rfl))⟩,rfl⟩
      ·rw[rk,aE3,List.take_set_of_le lR,List.getElem?_set_self Xq.out,HL.out.2.1];rfl
      ·rw[List.drop_set_of_lt oM,<-aV5,<-aV5,HL.out.2.2]
     case measure=>simp[intOf];omega
    ·go_roundw
     case rel=>
      have rk:bT (l.take (j+1)) t=bT (l.take j) t:=by rw[rf HX.out.1,hq];simp
      exact⟨_,_,_,_,_,_,_,_,_,_,_,_,_,_,_,_,_,_,_,_,_,_,_,⟨i,j+1,L,oM,oM,rfl,rfl,HL.out.1,rk▸HL.out.2.1,by rw[<-aV5,<-aV5,HL.out.2.2],S5.out,HU.out.trans (ah.aa B5.out:ah (λ_=>False) wr w5) (λ_ h=>h.elim)⟩,rfl⟩
     case measure=>simp[intOf];omega
   ·have az5:j=n:=oM
    subst az5;obtain⟨cs,hb,hs,hc,ht⟩:=HS.out;have: ∀ty,(Builtin.clear_ #[41] ty #[.slice (some ⟨g,i*2,none⟩) (j-i) (c-i)]).run prog wr=.ok (.tuple #[]) (wr.setCells g (i*2) (nX (j-i))):=
     λty=>pZ wr _ _ ty _ underlying41 FA g (i*2) _ _ oM hb _ rfl (by have:=HL.out.1;rw[pg];omega) (BJ _)
    have hic:i<=c:=oH HL.out.1
    have:=HN.out;have hc9:=HCm.out;unfold maxLen at hc9;have: ¬(c=i):=oH HL.out.1
    have qg:=zD (And.intro hb (And.intro hs (And.intro hc ht)));clear hb hs hc ht;go_wp2;go_ret;obtain⟨hb,hs,hc,ht⟩:=qg.out;have:=HL.out.1;have hz:i*2+(nX (j-i)).length<=cs.size:=by rw[pg];omega
    obtain⟨b2,g2⟩:=ai.setCells hb (o:=i*2) (vs:=nX (j-i)) hz;have hfr:bT l t=L.take i:=by rw[HL.out.2.1,aB5 (oH fJ.out)]
    have xB:(bT l t).length=i:=by rw[hfr,aC3];omega
    refine⟨_,rfl,⟨aZ aA _,.inr ⟨g,c,_,by rw[xB];rfl,HBg.out,b2,xB▸hic,HCm.out,by rw[dz hz,hs],?_⟩⟩,?_⟩
    ·rw[xB,uT hz lR,hfr,<-jE aA,<-ht,aH4,aG5 oM]
    ·exact(HU.out.grown g2 (λk e=>by cases e;exact .inl rfl)).mono (λk e=>by rw[e];rfl)
end
end Go.Proofs.YtjgmjohiehbgaaaGreat
