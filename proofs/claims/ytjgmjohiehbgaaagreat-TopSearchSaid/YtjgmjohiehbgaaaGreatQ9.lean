/- Part 9. -/
import Derived.Test.YtjgmjohiehbgaaaGreatQ5
import Derived.Test.YtjgmjohiehbgaaaGreatQ7
namespace Go.Proofs.YtjgmjohiehbgaaaGreat
open Go.RowKit Go.Proofs.Tryz
set_option maxHeartbeats 20000000
set_option maxRecDepth 100000
set_option linter.all false
variable{B b o:Nat}{S:Nat->Prop}{b1 f1 vb vf:Value}{cs cs1:Array Value}{k:Key}{ty:TypeId}{w w1 w2:World}
def wrap_small{n:Nat}(h:n<=200000):IntKind.i64.wrap (n:Int)=(n:Int):=by
 rw[IntKind.wrap_i64];omega
def dr.call{q1:Fi}(h1:dr w w1 B o ty cs vf vb cs1 f1 b1 q1)(hb:Bl w1 w2):dr w w2 B o ty cs vf vb cs1 f1 b1 q1:=h1.trans (h1.fi.stay hb)
def dr.keep{q1:Fi}(h1:dr w w1 B o ty cs vf vb cs1 f1 b1 q1)(hu:ah S w1 w2)(hB:¬S B)(hf:∀k,(f1.ownBlock=some k\/b1.ownBlock=some k)->¬S k)(hS:∀k,S k->w.heap.size<=k):dr w w2 B o ty cs vf vb cs1 f1 b1 q1:=
 ⟨h1.fi.upd hu hB (λk hk=>hf k (.inl hk)) (λk hk=>hf k (.inr hk)),h1.upd.trans hu (λk hk=>.inr (hS k hk)),h1.own,h1.size,h1.rest⟩
def dr.drewN{w': World}{cs': Array Value}{tv tx: Value}{q' : Fi}(h:dr w w' B o ty cs vf vb cs' tv tx q')(n:Nat):dr w (w'.drewN n) B o ty cs vf vb cs' tv tx q':=
 ⟨⟨h.fi.blk.drewN n,h.fi.c0,h.fi.c1,h.fi.jw.cD n,h.fi.iG.cD n,h.fi.FX,h.fi.Aj,h.fi.apart⟩,h.upd.cD n,h.own,h.size,h.rest⟩
theorem Kr(B o:Nat)(ty:TypeId)(cs:Array Value)(vf vb:Value)(q:Fi)(x:Key)(L:List Key)(w:World)(h:tM w B o ty cs vf vb q)(hl:q.f.length<=100000/\q.b.length<=100000)(h0:q.all≠[])(ht:q.turn.f=L++[x]) :
 Calls prog 380 #[.pointer (some ⟨B,o,none⟩)] w (Ti B o ty cs vf vb ((x,true),⟨L,q.turn.b⟩) w):=by
 have HL:=(λW hW=>Ka B o ty cs vf vb q W hW hl);have hne:¬((q.all.length:Nat):Int)=0:=λe=>h0 (aC0 oM)
 have HT:=(λW hW=>Yc B o ty cs vf vb q W hW);have E2:=(zW w (.cells #[V6 0,V6 0] aS)).alloc sI (.cells #[V6 0,V6 0] aS);have B0:=(ai.new w aS #[V6 0,V6 0]).alloc (.cells #[V6 0,V6 0] aS);have H0:=h;have HB:=h.blk.lt;have Yd:=(λk (hk:vf.ownBlock=some k\/vb.ownBlock=some k)=>(show k<w.heap.size from hk.elim (λe=>(h.jw.lt k e).2) (λe=>(h.iG.lt k e).2)));have HTf:=ht;have fJ:L.length<=200000:=by
  have h1:=congrArg List.length (Fi.xT q);unfold Fi.all at h1;rw[ht]at h1;simp at h1;omega
 generalize q.all.length=NL at *;generalize q.turn=t at *;clear h h0 hl ht;go_enter func380,ntmps380;go_upto_region 5 with(first
  |go_at_call 381;refine zM (HL _ (H0.call E2)) λw3 hb3=>?_;have E3:=zT E2 hb3;have C0:=B0.call hb3;have hz3:=hb3.size;(try simp only[World.size_alloc]at hz3);have HZ3:=hz3;clear hb3 hz3
  |(go_at_call 393;refine(HT _ (H0.call E3)).mono ?_;rintro e w4 ⟨rfl,cs4,vf4,vb4,hk4⟩;have X4:=hk4.pre E3;have an8:ah (λk=>k=B\/vf.ownBlock=some k\/vb.ownBlock=some k) w3 w4:=hk4.upd;have C4:=C0.upd an8 (λe=>by {have h5:=HB;have h6:=Yd w.heap.size;rcases e with e|e|e;omega;exact absurd (h6 (.inl e)) (aT3 _);exact absurd (h6 (.inr e)) (aT3 _)});have Ks:∀k,(vf4.ownBlock=some k\/vb4.ownBlock=some k)->k≠w.heap.size:=(λk hk e=>by {have h9:=HZ3;rcases hk4.own k hk with e2|e2|e2;exact absurd (Yd k (.inl e2)) oM;exact absurd (Yd k (.inr e2)) oM;omega});clear hk4 an8))
 have hof:=X4.fi.jw;rw[HTf]at hof;obtain⟨A,n,c,rfl,hn,hs⟩:=hof.shape cW;have fo:n=L.length+1:=by rw[hn];simp
 subst fo;obtain⟨g,off,y,hA,hy,hg,d0,d1⟩:=gF.at_ hs (k:=L.length) oM;have hyx:y=x:=by simpa using hy.symm
 subst hyx;subst hA;have HC0:=X4.fi.c0;have HOi:=hof.init cW;have hcc:L.length+1<=c:=hs.2.1;have hcm:c<=9223372036854775807:=by have:=hs.2.2.1;unfold maxLen at this;omega
 have HD0:=d0;have HD1:=d1;have HGg:=hg;have:=fJ;have:IntKind.i64.wrap (L.length:Int)=(L.length:Int):=wrap_small oM;have:(L.length:Int)<(L.length:Int)+1:=oM
 clear d0 d1 hn hs hof hy hg;have Gt:=(λ(W7 w9:World)(cs1:Array Value)(f1 b1:Value)(q1:Fi)(h:dr w W7 B o ty cs vf vb cs1 f1 b1 q1)(hu:ah (λk=>k=w.heap.size) W7 w9)(hf:∀k,(f1.ownBlock=some k\/b1.ownBlock=some k)->¬k=w.heap.size)=>h.keep hu (λe=>by have:=HB;omega) hf (λk hk=>by omega));generalize w.heap.size=gw at *;refine zB λS0=>?_
 refine zk 9 [0,1,2,3,4] [_,.pointer (some ⟨B,o,none⟩),.pointer (some ⟨B,o,none⟩),.slice (some ⟨g,off,none⟩) (L.length+1) c,_] (.q zK<|.q zK<|.q zK<|.c rfl rfl (zl λ_ h=>by have c:=(X4.fi.blk.call h).ar HC0;go_simp)<|.f) S0 ?_;refine zk 4 [5,6,7,8,9] [.pointer (some ⟨B,o,none⟩),.pointer (some ⟨B,o,none⟩),.slice (some ⟨g,off,none⟩) (L.length+1) c,I6 ((L.length+1:Nat):Int),I6 (L.length:Int)] (.q zK<|.q zK<|.c rfl rfl (zl λ_ h=>by have c:=(X4.fi.blk.call h).ar HC0;go_simp)<|.q zK<|.f) S0 ?_;refine zk 2 [10,11] [.pointer (some ⟨g,off+L.length*2,none⟩),.agg y.row] (.q zK<|.c rfl rfl (zl λ_ h=>by have:=(h.cell (p:=⟨g,off+L.length*2,none⟩) HGg).trans HD0;have:=(h.cell (p:=⟨g,off+L.length*2+1,none⟩) HGg).trans HD1;go_simp) .nil) S0 ?_;refine zQ 12 ?_;have nG5:=dp (S:=S0) (#[V6 0,V6 0]) 83;obtain⟨G5,hG5,bG5,lG5⟩:=nG5;go_wp2_with fail;refine .i (S0.alloc S0.size _) ?_
 (try simp only[hG5])
 have KG5:=hG5;clear hG5;have SG5:=S0.alloc S0.size (.cells (#[V6 0,V6 0]) 83);refine zQ 13 ?_;go_wp2_with(refine zJ (bG5) ?_;intro uG5 an9 af6);refine .i (SG5.trans (Only.below af6 lG5 SG5.size)) ?_;have Ye:=SG5.trans (Only.below af6 lG5 SG5.size);refine zd ?_;have X5:=X4.call Ye;have C5:=C4.call Ye;have BG:=an9;have O5:=HOi.call Ye;have HNB:B≠gw:=by have:=HB;omega
 have HGB:G5≠B:=by have:=HB;have:=E3.size;have:=X4.fi.blk.lt;omega
 clear S0 SG5 Ye af6 an9 bG5 lG5 KG5;generalize uG5=W6 at *;go_upto_region 6 with fail
 have fz:=X5.fi.blk.frozen o;have cz:=X5.fi.blk.ar HC0;refine zr (λj=>[14].contains j) (λwS=>Bl W6 wS) ?_;have S0:=(Below.refl W6.heap.size W6).drew;refine zk 10 [0,1,2,3,4] [_,_,.pointer (some ⟨B,o,none⟩),.pointer (some ⟨B,o,none⟩),.slice (some ⟨g,off,none⟩) (L.length+1) c] (.q zK<|.q zK<|.q zK<|.q zK<|.c rfl rfl (zl λ_ h=>by have c:=(X5.fi.blk.call h).ar HC0;go_simp) .nil) S0 ?_;refine zk 5 [5,6,7,8,9] [_,.pointer (some ⟨B,o,none⟩),.pointer (some ⟨B,o,none⟩),.slice (some ⟨g,off,none⟩) (L.length+1) c,I6 ((L.length+1:Nat):Int)] (.q zK<|.q zK<|.q zK<|.c rfl rfl (zl λ_ h=>by have c:=(X5.fi.blk.call h).ar HC0;go_simp)<|.f) S0 ?_;refine zk 3 [10,11] [I6 (L.length:Int),.slice (some ⟨g,off,none⟩) L.length c] (.q zK<|.c rfl rfl (zl λ_ _=>by first|(go_simp;done)|(go_simp;intro h;exact absurd h oM)) .nil) S0 ?_;refine zQ 12 ?_;go_wp2_with fail;refine .i S0 ?_;refine zq 1 [13] [.pointer (some ⟨B,o,none⟩)] S0 ?_;refine aq _ _ _ _ kZ ?_;refine zO 14 (λQ2 aI=>?_);go_wp2_with fail;(try refine aI _ _ ?_);(try clear aI Q2)
 refine wpAny_done kZ ?_ _;have X7:dr w (W6.setCell ⟨B,o,none⟩ (.slice (some ⟨g,off,none⟩) L.length c)).drew B o ty cs vf vb (cs4.setIfInBounds o (.slice (some ⟨g,off,none⟩) L.length c)) (.slice (some ⟨g,off,none⟩) L.length c) vb4 ⟨L,t.b⟩:=X5.trans ((X5.fi.aw2 (ah.refl _ W6) O5 rfl).drewN 1);have C7:ai (W6.setCell ⟨B,o,none⟩ (.slice (some ⟨g,off,none⟩) L.length c)).drew gw aS #[V6 0,V6 0]:=(C5.far (by have:=HNB;show gw≠B;omega) _).drew;have B7:ai (W6.setCell ⟨B,o,none⟩ (.slice (some ⟨g,off,none⟩) L.length c)).drew G5 aS y.row:=(BG.far (by have:=HGB;show G5≠B;omega) _).drew;clear fz cz S0 X5 C5 BG;generalize(W6.setCell ⟨B,o,none⟩ (.slice (some ⟨g,off,none⟩) L.length c)).drew=W7 at *;go_wp2_with(first
  |refine zI B7 underlying83 ?_
  |(refine zJ C7 ?_;intro w9 b8 dM))
 have X9:=Gt _ _ _ _ _ _ X7 ⟨dM.os,dM.tape,dM.output,dM.size,λk hk hn=>dM.block k hk (λe=>hn (by injection e))⟩ (λk hk=>Ks k (by rcases hk with hk|hk;exact .inl hk;exact .inr hk));refine bodyPost_ret (az rfl _ _ gw _ _ _ rfl b8 underlying83 rfl kZ) rfl ⟨rfl,_,_,_,X9⟩
def Tj(B o:Nat)(ty:TypeId)(cs:Array Value)(vf vb:Value)(q:Fi)(w:World)(h:tM w B o ty cs vf vb q)(hl:q.f.length<=100000/\q.b.length<=100000) :
 Calls prog 380 #[.pointer (some ⟨B,o,none⟩)] w (Ti B o ty cs vf vb q.get w):=by
 rcases q.wG with⟨h0,h1⟩|⟨x,L,h1,h2,h3⟩
 ·rw[h1];exact Px B o ty cs vf vb q w h h0
 ·rw[h3];exact Kr B o ty cs vf vb q x L w h hl (by rw[h2];simp) h1
section
open Go.RowKit Go.Maps
abbrev JO:TypeId:=287
def jJ:prog.underlying JO=some (.map aS 3):=underlying287
def Cg(w:World):(zeroValue 3).run prog w=.ok (I6 0) w:=kZ
def Dm(ks:List Key):Key->Option Value:=λk=>if k∈ks then some (I6 1)else none
def Tk(ks:List Key)(k:Key):lg (Dm ks) k (I6 1)=Dm (cE ks k):=by
 funext x
 unfold lg Dm
 by_cases e:x=k
 ·subst e;simp[ee]
 ·simp[ee,e]
def Tl(ks:List Key)(k:Key):J9 (Dm ks) k=Dm (ks.filter λy=>decide (y≠k)):=by
 funext x
 unfold J9 Dm
 by_cases e:x=k
 ·subst e;simp
 ·simp[e]
def dS(w:World)(v:Value)(ks:List Key):Prop:=(v=.map none/\ks=[])\/∃b,v=.map (some b)/\bP ll w b (Dm ks) ks
def bB:Value->Option Nat
 | .map (some b)=>some b
 |_=>none
section
variable{w w' : World}{v:Value}{ks:List Key}
def dS.block(h:dS w v ks)(hb:∀k,bB v=some k->w'.heap[k]? = w.heap[k]?):dS w' v ks:=by
 rcases h with h|⟨b,rfl,h⟩
 ·exact .inl h
 ·exact .inr ⟨b,rfl,h.block (hb b rfl)⟩
def dS.lt(h:dS w v ks):∀k,bB v=some k->k<w.heap.size:=by
 rcases h with⟨rfl,-⟩|⟨b,rfl,h⟩
 ·intro k hk;cases hk
 ·intro k hk;injection hk with hk;subst hk;exact h.lt
def dS.upd(h:dS w v ks)(hu:ah S w w')(hn:∀k,bB v=some k->¬S k):dS w' v ks:=h.block λk hk=>hu.block k (h.lt k hk) (hn k hk)
def dS.call(h:dS w v ks)(hb:Bl w w'):dS w' v ks:=h.block λk hk=>hb.block k (h.lt k hk)
def dS.cD(h:dS w v ks)(n:Nat):dS (w.drewN n) v ks:=h
def dS.good(h:dS w v ks):∀k∈ks,k.good:=by
 rcases h with⟨-,rfl⟩|⟨b,-,h⟩
 ·intro k hk;simp at hk
 ·exact h.good
def dS.cells{g:Nat}{t:TypeId}(h:dS w v ks)(hg:ai w g t cs):bB v≠some g:=by
 rcases h with⟨rfl,-⟩|⟨b,rfl,D,⟨es,clock,hb,-⟩,-⟩
 ·intro e;cases e
 ·intro e
  injection e with e
  subst e;unfold ai at hg;rw[hb]at hg;cases hg
def dS.own{α:Type}{base e size:Nat}{cells:α->List Value}{u:Value}{l:List α}(h:dS w v ks)(ho:aK w base e size cells u l):∀k,u.ownBlock=some k->bB v≠some k:=by
 intro k hk;rcases ho with⟨rfl,_⟩|⟨g,off,cap,cur,rfl,_,hg,_⟩
 ·cases hk
 ·simp[Value.ownBlock]at hk
  subst hk;exact h.cells (t:=e) (cs:=cur) hg
def dS.look(h:dS w v ks)(hk:k.good):(Instr.lookup JO v (.agg k.row) false).run prog w=.ok (I6 (if k∈ks then 1 else 0)) w:=by
 rcases h with⟨rfl,rfl⟩|⟨b,rfl,h⟩
 ·simpa using(Maps.look_nil (w:=w) false ll.kd jJ (Cg w) (Db hk))
 ·have:=h.look jJ (Cg w) hk
  rw[show ll.v k=.agg k.row from rfl]at this;rw[this];unfold Dm
  by_cases e:k∈ks<;>simp[e]
def dS.Gu(h:dS w (.map (some b)) ks)(hk:k.good)(hn:ks.length<maxLen):
 ∃w',(Instr.mapUpdate JO (.map (some b)) (.agg k.row) (I6 1)).run prog w=.ok () w'/\dS w' (.map (some b)) (cE ks k)/\w.grownBy w' (some b):=by
 rcases h with⟨h,-⟩|⟨b',hb,h⟩
 ·cases h
 ·injection hb with hb
  injection hb with hb
  subst hb;obtain⟨w',h1,h2,h3⟩:=h.put jJ hn hk (I6 1);rw[Tk]at h2;exact⟨w',h1,.inr ⟨b,rfl,h2⟩,h3⟩
def dS.aw3(h:dS w (.map (some b)) ks)(hk:k.good)(ty:TypeId):
 ∃w',(Builtin.delete_ #[JO,aS] ty #[.map (some b),.agg k.row]).run prog w=.ok (.tuple #[]) w'/\dS w' (.map (some b)) (ks.filter λy=>decide (y≠k))/\w.grownBy w' (some b):=by
 rcases h with⟨h,-⟩|⟨b',hb,h⟩
 ·cases h
 ·injection hb with hb
  injection hb with hb
  subst hb;obtain⟨w',h1,h2,h3⟩:=h.del jJ hk ty;rw[Tl]at h2;exact⟨w',h1,.inr ⟨b,rfl,h2⟩,h3⟩
def dS.made(w:World):dS (w.alloc (.map #[] 0)) (.map (some w.heap.size)) []:=
 .inr ⟨w.heap.size,rfl,(bP.made ll w).tI (by funext k;simp[Dm]) rfl⟩
end
section
variable(w:World){ops:Array Oper}{rest:List Oper}{o:Oper}{a:Act}{Q:Exit->Act->World->Prop}
def ek(hg:o.guard=none)(m x:Operand)(hop:o.op=Op.lookup JO m x false)(v:Value)(ks:List Key)(hm:a.eval m=v)(h:dS w v ks)(k:Key)(hx:a.eval x=.agg k.row)(hk:k.good)
 (hK:wpList prog ops Q rest (a.put o.dst (I6 (if k∈ks then 1 else 0))) w):wpList prog ops Q (o::rest) a w:=by
 refine wpList_plain hg λK' hK'=>?_
 unfold Oper.wp;simp[execOp,hop,hm,hx,(h.look hk),Result.andThen];exact hK' _ _ hK
def iZ(hg:o.guard=none)(m x u:Operand)(hop:o.op=Op.mapUpdate JO m x u)(b:Nat)(ks:List Key)(hm:a.eval m=.map (some b))(h:dS w (.map (some b)) ks)(hn:ks.length<maxLen)(k:Key)(hx:a.eval x=.agg k.row)(hk:k.good)(hu:a.eval u = I6 1)
 (hK:∀w',dS w' (.map (some b)) (cE ks k)->w.grownBy w' (some b)->wpList prog ops Q rest (a.put o.dst undef) w'):wpList prog ops Q (o::rest) a w:=by
 refine wpList_plain hg λK' hK'=>?_
 obtain⟨w',hrun,r1,r2⟩:=h.Gu hk hn;unfold Oper.wp;simp[execOp,hop,hm,hx,hu,hrun,Result.andThen];exact hK' _ _ (hK w' r1 r2)
def nC(hg:o.guard=none)(m x:Operand)(hop:o.op=Op.call {callee:=Callee.builtin Builtin.delete,args:=#[m,x],argTypes:=#[JO,aS]})(b:Nat)(ks:List Key)(hm:a.eval m=.map (some b))(h:dS w (.map (some b)) ks)(k:Key)(hx:a.eval x=.agg k.row)(hk:k.good)
 (hK:∀w',dS w' (.map (some b)) (ks.filter λy=>decide (y≠k))->w.grownBy w' (some b)->wpList prog ops Q rest (a.put o.dst (.tuple #[])) w'):wpList prog ops Q (o::rest) a w:=by
 refine wpList_plain hg λK' hK'=>?_
 obtain⟨w',hrun,r1,r2⟩:=h.aw3 hk o.type;unfold Oper.wp;simp[execOp,hop,resolve,invoke,builtin,hm,hx,hrun,Result.andThen];exact hK' _ _ (hK w' r1 r2)
end
structure Wq where
 fi:Fi
 ax:List Key
 busy:List Key
 over:Bool
deriving DecidableEq
structure oF(w:World)(B o:Nat)(ty:TypeId)(cs:Array Value)(vf vb vd vz:Value)(q:Wq):Prop where
 fi:tM w B o ty cs vf vb q.fi
 c2:cs[o+2]? = some vd
 c3:cs[o+3]? = some vz
 c4:cs[o+4]? = some (.bool q.over)
 ax:dS w vd q.ax
 busy:dS w vz q.busy
 apart:∀k,bB vd=some k->bB vz≠some k
 both:vd=.map none↔vz=.map none
structure eC(w w' : World)(B o:Nat)(ty:TypeId)(cs:Array Value)(vf vb vd vz:Value)(cs' : Array Value)(tv tx Ch Ci : Value)(q' : Wq):Prop where
 wq:oF w' B o ty cs' tv tx Ch Ci q'
 upd:ah (λk=>k=B\/vf.ownBlock=some k\/vb.ownBlock=some k\/bB vd=some k\/bB vz=some k) w w'
 own:∀k,(tv.ownBlock=some k\/tx.ownBlock=some k)->vf.ownBlock=some k\/vb.ownBlock=some k\/w.heap.size<=k
 maps:∀k,(bB Ch = some k\/bB Ci = some k)->bB vd=some k\/bB vz=some k\/w.heap.size<=k
 size:cs'.size=cs.size
 rest:∀i,i≠o->i≠o+1->i≠o+2->i≠o+3->i≠o+4->cs'[i]? = cs[i]?
def Ax(q:Wq)(k:Key):Bool×Wq:=
 if q.over=true\/k∈q.ax then(false,q)
 else if k∈q.busy then(false,{q with ax:=cE q.ax k})
 else(true,{q with ax:=cE q.ax k,fi:=q.fi.put k})
def gG(q:Wq):(Key×Bool)×Wq:=
 if q.fi.get.1.2=true then(q.fi.get.1,{q with fi:=q.fi.get.2,ax:=q.ax.filter λy=>decide (y≠q.fi.get.1.1),busy:=cE q.busy q.fi.get.1.1})else(q.fi.get.1,{q with fi:=q.fi.get.2})
def oG(q:Wq)(k:Key):(Bool×Int)×Wq:=
 if k∈q.busy then
  if k∈q.ax then((true,0),{q with busy:=q.busy.filter λy=>decide (y≠k),fi:=q.fi.put k})else((false,0),{q with busy:=q.busy.filter λy=>decide (y≠k)})
 else((false,5),q)
end
section
open Go.RowKit Go.Maps
section
variable{w w' w1 w2:World}{B o:Nat}{ty:TypeId}{cs cs1:Array Value}{vf vb vd vz f1 b1:Value}{q:Wq}{q1:Fi}
def oF.blk(h:oF w B o ty cs vf vb vd vz q):ai w B ty cs:=h.fi.blk
def oF.call(h:oF w B o ty cs vf vb vd vz q)(hb:Bl w w'):oF w' B o ty cs vf vb vd vz q:=⟨h.fi.call hb,h.c2,h.c3,h.c4,h.ax.call hb,h.busy.call hb,h.apart,h.both⟩
def oF.stay(h:oF w B o ty cs vf vb vd vz q)(hb:Bl w w'):eC w w' B o ty cs vf vb vd vz cs vf vb vd vz q:=
 ⟨h.call hb,ah.aa hb,λk hk=>hk.imp id .inl,λk hk=>hk.imp id .inl,rfl,λ_ _ _ _ _ _=>rfl⟩
def eC.trans{Am:Array Value}{vf1 vb1 vd1 vz1 vf2 vb2 vd2 vz2:Value}{q1 q2:Wq}(h1:eC w w1 B o ty cs vf vb vd vz cs1 vf1 vb1 vd1 vz1 q1)(h2:eC w1 w2 B o ty cs1 vf1 vb1 vd1 vz1 Am vf2 vb2 vd2 vz2 q2):eC w w2 B o ty cs vf vb vd vz Am vf2 vb2 vd2 vz2 q2:=by
 refine⟨h2.wq,h1.upd.trans h2.upd ?_,λk hk=>?_,λk hk=>?_,h2.size.trans h1.size,λi e0 e1 e2 e3 e4=>(h2.rest i e0 e1 e2 e3 e4).trans (h1.rest i e0 e1 e2 e3 e4)⟩
 ·rintro k (rfl|hk|hk|hk|hk)
  ·exact .inl (.inl rfl)
  ·rcases h1.own k (.inl hk)with e|e|e
   ·exact .inl (.inr (.inl e))
   ·exact .inl (.inr (.inr (.inl e)))
   ·exact .inr e
  ·rcases h1.own k (.inr hk)with e|e|e
   ·exact .inl (.inr (.inl e))
   ·exact .inl (.inr (.inr (.inl e)))
   ·exact .inr e
  ·rcases h1.maps k (.inl hk)with e|e|e
   ·exact .inl (.inr (.inr (.inr (.inl e))))
   ·exact .inl (.inr (.inr (.inr (.inr e))))
   ·exact .inr e
  ·rcases h1.maps k (.inr hk)with e|e|e
   ·exact .inl (.inr (.inr (.inr (.inl e))))
   ·exact .inl (.inr (.inr (.inr (.inr e))))
   ·exact .inr e
 ·rcases h2.own k hk with e|e|e
  ·exact h1.own k (.inl e)
  ·exact h1.own k (.inr e)
  ·exact .inr (.inr (aB4 h1.upd.size e))
 ·rcases h2.maps k hk with e|e|e
  ·exact h1.maps k (.inl e)
  ·exact h1.maps k (.inr e)
  ·exact .inr (.inr (aB4 h1.upd.size e))
def oF.line(h:oF w B o ty cs vf vb vd vz q)(hs:dr w w' B o ty cs vf vb cs1 f1 b1 q1):eC w w' B o ty cs vf vb vd vz cs1 f1 b1 vd vz {q with fi:=q1}:=by
 have hm:∀(v:Value)(ks:List Key),dS w v ks->∀k,bB v=some k->¬(k=B\/vf.ownBlock=some k\/vb.ownBlock=some k):=λv ks hv k hk e=>by
  rcases e with e|e|e
  ·exact hv.cells h.fi.blk (by rw[hk,e])
  ·exact hv.own h.fi.jw k e hk
  ·exact hv.own h.fi.iG k e hk
 exact⟨⟨hs.fi,(hs.rest _ oM oM).trans h.c2,(hs.rest _ oM oM).trans h.c3,(hs.rest _ oM oM).trans h.c4,h.ax.upd hs.upd (hm _ _ h.ax),h.busy.upd hs.upd (hm _ _ h.busy),h.apart,h.both⟩,
  hs.upd.mono (λk hk=>hk.elim .inl (λe=>.inr (e.elim .inl (λe=>.inr (.inl e))))),hs.own,λk hk=>hk.imp id .inl,hs.size,λi e0 e1 e2 e3 e4=>hs.rest i e0 e1⟩
def oF.af7{ks:List Key}(h:oF w B o ty cs vf vb (.map (some b)) vz q)(hm:dS w' (.map (some b)) ks)(hg:w.grownBy w' (some b)):eC w w' B o ty cs vf vb (.map (some b)) vz cs vf vb (.map (some b)) vz {q with ax:=ks}:=by
 have hu:ah (λk=>k=b) w w':=⟨hg.os,hg.tape,hg.output,hg.size,λk hk hn=>hg.block k hk (λe=>hn (by injection e))⟩;exact⟨⟨h.fi.upd hu (λe=>h.ax.cells h.fi.blk (by rw[e];rfl)) (λk hk e=>h.ax.own h.fi.jw k hk (by rw[e];rfl)) (λk hk e=>h.ax.own h.fi.iG k hk (by rw[e];rfl)),h.c2,h.c3,h.c4,hm,h.busy.upd hu (λk hk e=>h.apart k (by rw[e];rfl) hk),h.apart,h.both⟩,
  hu.mono (λk hk=>.inr (.inr (.inr (.inl (by rw[hk];rfl))))),λk hk=>hk.imp id .inl,λk hk=>hk.imp id .inl,rfl,λ_ _ _ _ _ _=>rfl⟩
def oF.ao0{ks:List Key}(h:oF w B o ty cs vf vb vd (.map (some b)) q)(hm:dS w' (.map (some b)) ks)(hg:w.grownBy w' (some b)):eC w w' B o ty cs vf vb vd (.map (some b)) cs vf vb vd (.map (some b)) {q with busy:=ks}:=by
 have hu:ah (λk=>k=b) w w':=⟨hg.os,hg.tape,hg.output,hg.size,λk hk hn=>hg.block k hk (λe=>hn (by injection e))⟩;exact⟨⟨h.fi.upd hu (λe=>h.busy.cells h.fi.blk (by rw[e];rfl)) (λk hk e=>h.busy.own h.fi.jw k hk (by rw[e];rfl)) (λk hk e=>h.busy.own h.fi.iG k hk (by rw[e];rfl)),h.c2,h.c3,h.c4,h.ax.upd hu (λk hk e=>h.apart k hk (by rw[e];rfl)),hm,h.apart,h.both⟩,
  hu.mono (λk hk=>.inr (.inr (.inr (.inr (by rw[hk];rfl))))),λk hk=>hk.imp id .inl,λk hk=>hk.imp id .inl,rfl,λ_ _ _ _ _ _=>rfl⟩
end
def Tm(B o:Nat)(ty:TypeId)(cs:Array Value)(vf vb vd vz:Value)(g:Bool×Wq)(w:World)(e:Ending)(w' : World):Prop:=∃cs' tv tx Ch Ci,e=.returned (.bool g.1)/\eC w w' B o ty cs vf vb vd vz cs' tv tx Ch Ci g.2
theorem Gv(B o:Nat)(ty:TypeId)(cs:Array Value)(vf vb vd vz:Value)(q:Wq)(k:Key)(w:World)(h:oF w B o ty cs vf vb vd vz q)(h1:q.over=true) :
 Calls prog 351 #[.pointer (some ⟨B,o,none⟩),.agg k.row] w (Tm B o ty cs vf vb vd vz (false,q) w):=by
 have EX:=zW w (.cells k.row aS);have X0:=(λn=>h.stay (below_drewN EX n));have Gj:=h.c4;rw[h1]at Gj;have:=(h.call EX).blk.ar Gj;clear h EX Gj;go_enter func351,ntmps351;go_wp2;go_quiet(fail);go_wp2;go_ret;exact⟨_,_,_,_,_,rfl,X0 _⟩
theorem Dn(B o:Nat)(ty:TypeId)(cs:Array Value)(vf vb vd vz:Value)(q:Wq)(k:Key)(w:World)(h:oF w B o ty cs vf vb vd vz q)(hk:k.good)(h1:q.over=false)(h2:k∈q.ax) :
 Calls prog 351 #[.pointer (some ⟨B,o,none⟩),.agg k.row] w (Tm B o ty cs vf vb vd vz (false,q) w):=by
 have EX:=zW w (.cells k.row aS);have X0:=(λn=>h.stay (below_drewN EX n));have H0:=h.call EX;have Gj:=h.c4;rw[h1]at Gj;have c4:=H0.blk.ar Gj;have c2:=H0.blk.ar h.c2;have hl:∀n,(Instr.lookup JO vd (.agg k.row) false).run prog ((w.alloc (.cells k.row aS)).drewN n)=.ok (I6 1) ((w.alloc (.cells k.row aS)).drewN n):=λn=>by
  have:=(H0.ax.cD n).look hk;rw[if_pos h2]at this;exact this
 have:=(ai.new w aS k.row).z 0 (V6 k.hi);have:=(ai.new w aS k.row).z 1 (V6 k.lo);clear h H0 EX Gj;go_enter func351,ntmps351;go_wp2;go_quiet(fail);go_wp2;go_ret;exact⟨_,_,_,_,_,rfl,X0 _⟩
end
section
open Go.RowKit Go.Maps
def Gx(b:Nat) :
 (∀(W:World)(op:BinOp)(o1 o2:Operand),(eqGuard op JO o1 o2 (.map (some b)) (.map none)).run prog W=.ok () W)/\
 (∀W:World,(binOp .eql JO (.map (some b)) (.map none)).run prog W=.ok (.bool false) W):=by
 refine⟨λW op o1 o2=>?_,λW=>?_⟩
 ·simp[eqGuard,run_underlying jJ]
 ·kernel_rfl
def Gy :
 (∀(W:World)(op:BinOp)(o1 o2:Operand),(eqGuard op JO o1 o2 (.map none) (.map none)).run prog W=.ok () W)/\
 (∀W:World,(binOp .eql JO (.map none) (.map none)).run prog W=.ok (.bool true) W):=by
 refine⟨λW op o1 o2=>?_,λW=>?_⟩
 ·simp[eqGuard,run_underlying jJ]
 ·kernel_rfl
theorem Gz(B o:Nat)(ty:TypeId)(cs:Array Value)(vf vb:Value)(bd bz:Nat)(q:Wq)(k:Key)(w:World)(h:oF w B o ty cs vf vb (.map (some bd)) (.map (some bz)) q)(hk:k.good)(hl:q.fi.b.length<100000/\q.ax.length<=100000)(h1:q.over=false)(h2:k ∉ q.ax) :
 Calls prog 351 #[.pointer (some ⟨B,o,none⟩),.agg k.row] w (Tm B o ty cs vf vb (.map (some bd)) (.map (some bz)) (if k∈q.busy then(false,{q with ax:=cE q.ax k})else(true,{q with ax:=cE q.ax k,fi:=q.fi.put k})) w):=by
 have EX:=zW w (.cells k.row aS);have X0:=h.stay EX;have H0:=h.call EX;have Gj:=h.c4;rw[h1]at Gj;have c4:=H0.blk.ar Gj;have c2:=H0.blk.ar h.c2;have hl0:∀n,(Instr.lookup JO (.map (some bd)) (.agg k.row) false).run prog ((w.alloc (.cells k.row aS)).drewN n)=.ok (I6 0) ((w.alloc (.cells k.row aS)).drewN n):=λn=>by
  have:=(H0.ax.cD n).look hk;rw[if_neg h2]at this;exact this
 have BX:=ai.new w aS k.row;have b0:=BX.z 0 (V6 k.hi);have b1:=BX.z 1 (V6 k.lo);have tT:=h.c2;have HC3:=h.c3;have HK:=hk;have HLd:q.ax.length<maxLen:=by unfold maxLen;omega
 have Kt:=hl.1;have mL:bd≠w.heap.size/\bz≠w.heap.size:=by
  have:=h.ax.lt bd rfl;have:=h.busy.lt bz rfl;omega
 obtain⟨q1,q2⟩:=Gx bd;obtain⟨R,hR⟩:=zE (if k∈q.busy then(false,{q with ax:=cE q.ax k})else(true,{q with ax:=cE q.ax k,fi:=q.fi.put k}):Bool×Wq);rw[<-hR];have HR:=zD hR;clear h EX Gj h2 hl h1 hR;go_enter func351,ntmps351;go_wp2;go_quiet(fail);have X1:=X0.trans (H0.stay (below_drewN bR nq));have vP:=BX.drewN nq;clear c4 c2 hl0 b0 b1 H0 BX X0;generalize(w.alloc (.cells k.row aS)).drewN nq=W1 at *;generalize w.heap.size=gx at *;have c2:=X1.wq.blk.ar tT;go_upto_region 5 with fail
 clear c2;refine zr (λj=>[5].contains j) (λwS=>Bl W1 wS) ?_;have S0:=(Below.refl W1.heap.size W1).drew;refine zk 1 [0,1,2,3,4] [_,.pointer (some ⟨B,o,none⟩),.pointer (some ⟨B,o+2,none⟩),.map (some bd),_] (.q zX<|.q zX<|.q zX<|.q (zS λ_ h=>(X1.wq.blk.call h).ar tT)<|.c rfl rfl (zl λ_ h=>zb (vP.call h) underlying83) .nil) S0<|aq _ _ _ _ kZ<|zO 5 (λQ2 aI=>?_);go_wp2_with(refine iZ _ rfl _ _ _ rfl bd q.ax rfl (X1.wq.call (S0)).ax HLd k rfl HK rfl ?_;intro w5 Ay iK);(try refine aI _ _ ?_);(try clear aI Q2)
 refine wpAny_done kZ ?_ _;have X5:=X1.trans ((X1.wq.stay S0).trans ((X1.wq.call S0).af7 Ay iK));have Az:=(vP.call S0).grown iK (λe=>by injection e with e;exact mL.1 e.symm);clear Ay iK S0 X1 vP;have c3:=X5.wq.blk.ar HC3;have b0:=Az.z 0 (V6 k.hi);have b1:=Az.z 1 (V6 k.lo);have RR:=λn=>(X5.wq.busy.cD n).look HK
 by_cases hb:k∈q.busy
 ·have hr:=HR.out
  rw[if_pos hb]at hr;subst hr;simp only[if_pos hb]at RR;go_wp2;go_quiet(fail);have X6:=X5.trans (X5.wq.stay (below_drewN bR nq));go_wp2;go_ret;exact⟨_,_,_,_,_,rfl,X6⟩
 ·have hr:=HR.out
  rw[if_neg hb]at hr;subst hr;simp only[if_neg hb]at RR;go_wp2;go_quiet(fail);have X6:=X5.trans (X5.wq.stay (below_drewN bR nq));have BX6:=Az.drewN nq;clear c3 b0 b1 RR X5 Az;generalize w5.drewN nq=W6 at *;go_upto_region 8 with fail
  refine zr (λj=>[4,5].contains j) (λwS=>Bl W6 wS) ?_;have S0:=(Below.refl W6.heap.size W6).drew;refine zk 5 [3] [_] (.c rfl rfl (zl λ_ h=>zb (BX6.call h) underlying83) .nil) S0<|zQ 0 ?_;go_wp2_with fail;refine .i S0<|zQ 1 ?_;go_wp2_with fail;refine .i S0<|zq 2 [2] [.pointer (some ⟨B,o,none⟩)] S0<|aq _ _ _ _ kZ<|zO 4 (λQ2 aI=>?_);go_wp2_with(go_at_call 358;refine(qE B o ty cs vf vb q.fi k _ (X6.wq.call (S0)).fi Kt).mono ?_;rintro e v9 ⟨rfl,Nh,vf9,vb9,mz⟩);(try refine aI _ _ ?_);(try clear aI Q2)
  refine wpAny_take (i:=5) (v:=_) rfl kZ kZ kZ (λ_ _ _ h=>h) (Or.inl ⟨by rfl,λW=>by rfl⟩)<|wpAny_done kZ ?_ _;have X9:=X6.trans ((X6.wq.stay S0).trans ((X6.wq.call S0).line mz));clear mz;go_wp2;go_ret;exact⟨_,_,_,_,_,rfl,X9⟩
end
theorem Yp(c:aM)(k:Int)(s:ByteArray)(t v h:Int)(p:dI)(n:Nat)(w:World)(hs:s.size<=maxLen)(hc:c.fit)(hn:c.str=n)(qd:n<=64)(hk:k=6) :
 Calls prog 216 #[.agg c.row,.agg (aj k s t v h p)] w (mS w (gI (dZ c s) n k)):=by
 have HH:=zD (λW=>qN c s W hs hc)
 have HO:=zD (λW=>pC 3 (dZ c s) W)
 have HL:=zD (λW=>iq c W (oM) (oM))
 have HQ:=zD (show gI (dZ c s) n k=lI 3 (dZ c s)++[⟨3,c.str+1⟩,⟨6,0⟩,⟨5,c.str+1⟩]from by unfold gI;rw[if_pos (oM),hn])
 have X:=zD (And.intro ((ai.new w 23 c.row).alloc (.cells (aj k s t v h p) 65)) (And.intro (ai.dR w (.cells c.row 23) 65 (aj k s t v h p)) (show Below w.heap.size w ((w.alloc (.cells c.row 23)).alloc (.cells (aj k s t v h p) 65)) by go_grown)))
 generalize dZ c s=H at *
 generalize gI H n k=R at *
 obtain⟨L,hL⟩:∃L,L=c.str+1:=⟨_,rfl⟩
 rw[<-hL]at HL HQ
 have d1:(k==1)=false:=by subst hk;rfl
 have d6:(k==6)=true:=by subst hk;rfl
 clear hc hn qd hL hk
 go_enter func216,ntmps216
 focus(go_upto_region 4 with(fail))
 obtain⟨w0,hw0⟩:∃w0,w0=(w.alloc (.cells c.row 23)).alloc (.cells (aj k s t v h p) 65):=⟨_,rfl⟩
 rw[<-hw0]at X |-
 clear hw0
 refine zr (λ_=>false) (λwS=>Below w0.heap.size w0 wS) ?_
 have S0:=(Below.refl w0.heap.size w0).drew
 refine zk 10 [0,1,2,5,8] [_,_,.string s,_,_] (.c rfl rfl (zl λ_ h=>zb (X.out.1.call h) underlying23)<|.q zX<|.q (zS λ_ h=>(X.out.2.1.call h).ar (i:=1) (v:=.string s) rfl)<|.c rfl rfl (zl λ_ h=>zb (X.out.1.call h) underlying23)<|.e) S0 ?_
 refine zk 9 [9] [_] (.c rfl rfl (zl λ_ h=>zb (X.out.1.call h) underlying23) .nil) S0 ?_
 refine zo 3 (λQ2 aI=>?_);go_wp2_with(go_at_call 263;refine(HH.out _).mono ?_;rintro e v3 ⟨rfl,hb3⟩);refine aI _ _ (λ_=>S0.trans (hb3.mono S0.size)) ?_;clear aI Q2
 have S3:=S0.trans (hb3.mono S0.size)
 refine zo 4 (λQ2 aI=>?_);go_wp2_with(go_at_call 262;refine(HO.out _).mono ?_;rintro e v4 ⟨V,rfl,oV,hb4⟩;obtain⟨A4,n4,c4,rfl,-,-⟩:=oV.shape bK;have oV:=oV.mono (S3).size);refine aI _ _ (λ_=>S3.trans (hb4.mono S3.size)) ?_;clear aI Q2
 have S4:=S3.trans (hb4.mono S3.size)
 refine zo 6 (λQ2 aI=>?_);go_wp2_with(go_at_call 171;refine(HL.out _).mono ?_;rintro e v6 ⟨rfl,dJ⟩;(try have oV:=(by first|exact oV.call dJ|exact(oV.alloc _).call dJ)));refine aI _ _ (λ_=>S4.trans (dJ.mono S4.size)) ?_;clear aI Q2
 have S6:=S4.trans (dJ.mono S4.size)
 refine zq 5 [7] [_] S6 ?_
 refine zo 10 (λQ2 aI=>?_);go_wp2_with(go_at_call 171;refine(HL.out _).mono ?_;rintro e v10 ⟨rfl,lJ⟩;(try have oV:=(by first|exact oV.call lJ|exact(oV.alloc _).call lJ)));refine aI _ _ (λ_=>S6.trans (lJ.mono S6.size)) ?_;clear aI Q2
 have AB:=S6.trans (lJ.mono S6.size)
 refine zq 3 [11] [_] AB ?_
 refine zo 12 (λQ2 aI=>?_)
 have nG:=dp (S:=AB) (#[.int .i64 3,.int .i64 L,.int .i64 6,.int .i64 0,.int .i64 5,.int .i64 L]) 334
 obtain⟨G,hG,bG,lG⟩:=nG
 go_wp2_with fail
 refine aI _ _ (λ_=>AB.alloc AB.size _) ?_
 clear aI Q2
 (try simp only[hG])
 clear hG
 have SG:=AB.alloc AB.size (.cells (#[.int .i64 3,.int .i64 L,.int .i64 6,.int .i64 0,.int .i64 5,.int .i64 L]) 334)
 refine zo 13 (λQ2 aI=>?_);go_wp2_with(refine x4 _ rfl (.tmp 14) (.tmp 22) rfl w0.heap.size (.slice A4 n4 c4) _ rfl (by first|exact oV|exact oV.alloc _) (some ⟨G,0,none⟩) 3 3 [⟨3,L⟩,⟨6,0⟩,⟨5,L⟩] rfl (lS (l:=[(⟨3,L⟩:iM),⟨6,0⟩,⟨5,L⟩]) bK (bG) rfl (by unfold maxLen;simp)) (by simp[lI]) (SG).size ?_;intro v5 w5 kG dx iK;obtain⟨A5,n5,c5,rfl,-,-⟩:=kG.shape bK);refine aI _ _ (λ_=>SG.trans dx) ?_;clear aI Q2
 have S5:=SG.trans dx
 refine zq 0 [14] [.slice A5 n5 c5] S5 ?_
 refine eQ (kZ) ?_ _
 have O5:=zD kG
 have E5:=zD S5
 go_wp2
 go_ret
 exact⟨_,rfl,by rw[HQ.out];exact O5.out.mono X.out.2.2.size,X.out.2.2.trans (E5.out.mono X.out.2.2.size)⟩
theorem Yq(c:aM)(k:Int)(s:ByteArray)(t v h:Int)(p:dI)(n:Nat)(w:World)(hs:s.size<=maxLen)(hc:c.fit)(hn:c.str=n)(qd:n<=64)(hk:k≠1/\k≠6/\k≠2/\k≠3) :
 Calls prog 216 #[.agg c.row,.agg (aj k s t v h p)] w (mS w (gI (dZ c s) n k)):=by
 have HH:=(λW=>qN c s W hs hc);have HC:=(λW=>qM c W);have HL:=(λW=>iq c W oM oM);have HO:=(λa b W=>pC a b W);have X:=And.intro ((ai.new w 23 c.row).alloc (.cells (aj k s t v h p) 65)) (show Bl w ((w.alloc (.cells c.row 23)).alloc (.cells (aj k s t v h p) 65)) by go_grown);have HQ:gI (dZ c s) n k=if k=4 then lI 3 c.str else if k=5 then lI 2 c.str else if k=7 then lI 2 (dZ c s)else lI 3 (c.str+1):=by
  unfold gI;rw[if_neg oM,if_neg oM,if_neg oM,hn]
 generalize dZ c s=H at *;generalize gI H n k=R at *;obtain⟨L,hL⟩:=zE (c.str+1);rw[<-hL]at HL HQ;obtain⟨e1,e6,e2,e3⟩:=hk;have:(k==1)=false:=sH e1
 have:(k==6)=false:=sH e6
 have:(k==2)=false:=sH e2
 have:(k==3)=false:=sH e3
 clear e1 e6 e2 e3 hc hn qd hL;have hd:(k=4/\(k==4)=true)\/(k=5/\(k==4)=false/\(k==5)=true)\/(k=7/\(k==4)=false/\(k==5)=false/\(k==7)=true)\/((k≠4/\k≠5/\k≠7)/\(k==4)=false/\(k==5)=false/\(k==7)=false):=by
  by_cases h4:k=4
  ·exact .inl ⟨h4,sH h4⟩
  by_cases h5:k=5
  ·exact .inr (.inl ⟨h5,sH h4,sH h5⟩)
  by_cases h7:k=7
  ·exact .inr (.inr (.inl ⟨h7,sH h4,sH h5,sH h7⟩))
  ·exact .inr (.inr (.inr ⟨⟨h4,h5,h7⟩,sH h4,sH h5,sH h7⟩))
 rcases hd with⟨hk,g4⟩|⟨hk,g4,g5⟩|⟨hk,g4,g5,g7⟩|⟨hk,g4,g5,g7⟩
 ·have HE:=HQ.trans (if_pos hk)
  clear hk HQ HH HL;go_enter func216,ntmps216;go_wp2_with(first
   |go_at_call 265;refine zM (HC _) λv1 hb1=>?_;have D1:=zT X.2 hb1;clear hb1
   |(go_at_call 262;refine(HO _ _ _).mono ?_;rintro e v2 ⟨V,rfl,o2,hb2⟩;have O2:=o2.mono D1.size;have D2:=zT D1 hb2;clear o2 hb2))
  go_ret;exact⟨_,rfl,HE▸O2,D2⟩
 ·have HE:=HQ.trans ((if_neg oM).trans (if_pos hk))
  clear hk HQ HH HL;go_enter func216,ntmps216;go_wp2_with(first
   |go_at_call 265;refine zM (HC _) λv1 hb1=>?_;have D1:=zT X.2 hb1;clear hb1
   |(go_at_call 262;refine(HO _ _ _).mono ?_;rintro e v2 ⟨V,rfl,o2,hb2⟩;have O2:=o2.mono D1.size;have D2:=zT D1 hb2;clear o2 hb2))
  go_ret;exact⟨_,rfl,HE▸O2,D2⟩
 ·have HE:=HQ.trans ((if_neg oM).trans ((if_neg oM).trans (if_pos hk)))
  clear hk HQ HC HL;go_enter func216,ntmps216;go_wp2_with(first
   |go_at_call 263;refine zM (HH _) λv1 hb1=>?_;have D1:=zT X.2 hb1;clear hb1
   |(go_at_call 262;refine(HO _ _ _).mono ?_;rintro e v2 ⟨V,rfl,o2,hb2⟩;have O2:=o2.mono D1.size;have D2:=zT D1 hb2;clear o2 hb2))
  go_ret;exact⟨_,rfl,HE▸O2,D2⟩
 ·have HE:=HQ.trans ((if_neg oM).trans ((if_neg oM).trans (if_neg oM)))
  clear hk HQ HC HH;go_enter func216,ntmps216;go_wp2_with(first
   |go_at_call 171;refine zM (HL _) λv1 hb1=>?_;have D1:=zT X.2 hb1;clear hb1
   |(go_at_call 262;refine(HO _ _ _).mono ?_;rintro e v2 ⟨V,rfl,o2,hb2⟩;have O2:=o2.mono D1.size;have D2:=zT D1 hb2;clear o2 hb2))
  go_ret;exact⟨_,rfl,HE▸O2,D2⟩
def GM(c:aM)(k:Int)(s:ByteArray)(t v h:Int)(p:dI)(n:Nat)(w:World)(hs:s.size<=maxLen)(hc:c.fit)(hn:c.str=n)(qd:n<=64) :
 Calls prog 216 #[.agg c.row,.agg (aj k s t v h p)] w (mS w (gI (dZ c s) n k)):=by
 by_cases h1:k=1
 ·exact Yl c k s t v h p n w hs hc hn qd h1
 by_cases h6:k=6
 ·exact Yp c k s t v h p n w hs hc hn qd h6
 by_cases h2:k=2
 ·exact Ym c k s t v h p n w hn qd _ h2
 by_cases h3:k=3
 ·exact Yo c k s t v h p n w hn qd _ h3
 exact Yq c k s t v h p n w hs hc hn qd ⟨h1,h6,h2,h3⟩
section
open Go.RowKit Go.Maps
def oF.fresh{q:Wq}(h:oF w B o ty cs vf vb (.map none) (.map none) q):
 eC w ((((w.alloc (.map #[] 0)).alloc (.map #[] 0)).setCell ⟨B,o+2,none⟩ (.map (some w.heap.size))).setCell ⟨B,o+3,none⟩ (.map (some (w.heap.size+1)))) B o ty cs vf vb (.map none) (.map none)
  ((cs.setIfInBounds (o+2) (.map (some w.heap.size))).setIfInBounds (o+3) (.map (some (w.heap.size+1)))) vf vb (.map (some w.heap.size)) (.map (some (w.heap.size+1))) {q with ax:=[],busy:=[]}:=by
 have hB:=h.blk.lt;have hb:Bl w ((w.alloc (.map #[] 0)).alloc (.map #[] 0)):=((Below.refl w.heap.size w).alloc lR _).alloc sI _;have hf:=h.fi.call hb;have m1:dS ((w.alloc (.map #[] 0)).alloc (.map #[] 0)) (.map (some w.heap.size)) []:=(dS.made w).call (bR.alloc lR _);have m2:dS ((w.alloc (.map #[] 0)).alloc (.map #[] 0)) (.map (some (w.heap.size+1))) []:=by
  have:=dS.made (w.alloc (.map #[] 0))
  simpa using this
 have hs:∀(p:Addr)(u:Value),p.block=B->∀W:World,(∀k,k≠B->(W.setCell p u).heap[k]? = W.heap[k]?):=λp u hp W k hk=>Below.heap_setCell W p u k (hp▸hk)
 refine⟨⟨⟨(hf.blk.aX _ _).aX _ _,(cF oM).trans ((cF oM).trans hf.c0),(cF oM).trans ((cF oM).trans hf.c1),(hf.jw.far (λk hk e=>hf.FX (by rw[hk,e])) _).far (λk hk e=>hf.FX (by rw[hk,e])) _,(hf.iG.far (λk hk e=>hf.Aj (by rw[hk,e])) _).far (λk hk e=>hf.Aj (by rw[hk,e])) _,hf.FX,hf.Aj,hf.apart⟩,
  (cF oM).trans (kK h.c2),kK ((cF oM).trans h.c3),(cF oM).trans ((cF oM).trans h.c4),m1.block λk hk=>?_,m2.block λk hk=>?_,λk hk e=>?_,?_⟩,((((ah.refl (λk=>k=B\/vf.ownBlock=some k\/vb.ownBlock=some k\/bB (Value.map none)=some k\/bB (Value.map none)=some k) w).alloc _).alloc _).setCell (.inl (.inl rfl)) _).setCell (.inl (.inl rfl)) _,λk hk=>hk.imp id .inl,λk hk=>?_,sI,λi h0 h1 h2 h3 h4=>(cF (Ne.symm h3)).trans (cF (Ne.symm h2))⟩
 ·injection hk with hk;subst hk
  exact(hs _ _ rfl _ _ oM).trans (hs _ _ rfl _ _ oM)
 ·injection hk with hk;subst hk
  exact(hs _ _ rfl _ _ oM).trans (hs _ _ rfl _ _ oM)
 ·injection hk with hk;injection e with e;omega
 ·constructor<;>intro e<;>(injection e with e;cases e)
 ·rcases hk with hk|hk<;>(injection hk with hk;exact .inr (.inr oM))
theorem GQ(B o:Nat)(ty:TypeId)(cs:Array Value)(vf vb:Value)(q:Wq)(k:Key)(w:World)(h:oF w B o ty cs vf vb (.map none) (.map none) q)(hk:k.good)(hl:q.fi.b.length<100000)(h1:q.over=false) :
 Calls prog 351 #[.pointer (some ⟨B,o,none⟩),.agg k.row] w (Tm B o ty cs vf vb (.map none) (.map none) (true,{q with ax:=[k],fi:=q.fi.put k}) w):=by
 have EX:=zW w (.cells k.row aS);have X0:=h.stay EX;have H0:=h.call EX;have hd:q.ax=[]:=by rcases h.ax with⟨-,e⟩|⟨b,e,-⟩;exact e;cases e
 have hz:q.busy=[]:=by rcases h.busy with⟨-,e⟩|⟨b,e,-⟩;exact e;cases e
 have Gj:=h.c4;rw[h1]at Gj;have c4:=H0.blk.ar Gj;have c2:=H0.blk.ar h.c2;have hl0:∀n,(Instr.lookup JO (.map none) (.agg k.row) false).run prog ((w.alloc (.cells k.row aS)).drewN n)=.ok (I6 0) ((w.alloc (.cells k.row aS)).drewN n):=λn=>by
  have:=(H0.ax.cD n).look hk;rw[hd]at this;exact this
 have BX:=ai.new w aS k.row;have b0:=BX.z 0 (V6 k.hi);have b1:=BX.z 1 (V6 k.lo);have tT:=h.c2;have HC3:=h.c3;have HK:=hk;have Kt:=hl;have HBx:B≠w.heap.size:=oH h.blk.lt
 obtain⟨q1,q2⟩:=Gy;have Xy:=@run_makeMap prog;obtain⟨R,hR⟩:=zE ((true,{q with ax:=[k],fi:=q.fi.put k}):Bool×Wq);have HR:=zD (show R=(true,⟨q.fi.put k,cE [] k,[],q.over⟩)from by rw[hR];simp[cE,hz]);rw[<-hR];clear h EX Gj hl h1 hd hz hR;go_enter func351,ntmps351;go_wp2;go_quiet(fail);have X1:=X0.trans (H0.stay (below_drewN bR nq));have vP:=BX.drewN nq;have HXs:w.heap.size<((w.alloc (.cells k.row aS)).drewN nq).heap.size:=sI
 clear c4 c2 hl0 b0 b1 H0 BX X0;generalize(w.alloc (.cells k.row aS)).drewN nq=W1 at *;generalize w.heap.size=gx at *;have c2:=X1.wq.blk.ar tT;have bA:=(X1.wq.blk.alloc (.map #[] 0)).alloc (.map #[] 0);have cA:=bA.ar tT;have fA:=bA.frozen (o+2);have bC:=bA.aX (o+2) (.map (some W1.heap.size));have cC:=bC.ar ((cF oM).trans HC3);have fC:=bC.frozen (o+3);clear bA bC;have X4:=X1.trans X1.wq.fresh;go_upto_region 5 with fail
 have HD3:=X4.wq.c3;have tC:ai ((((W1.alloc (.map #[] 0)).alloc (.map #[] 0)).setCell ⟨B,o+2,none⟩ (.map (some W1.heap.size))).setCell ⟨B,o+3,none⟩ (.map (some (W1.heap.size+1)))) gx aS k.row:=(((vP.alloc _).alloc _).far (by have:=HBx;show gx≠B;omega) _).far (by have:=HBx;show gx≠B;omega) _;have mL:W1.heap.size≠gx:=oH HXs
 clear c2 cA fA cC fC X1 vP Xy;generalize(cs.setIfInBounds (o+2) (.map (some W1.heap.size))).setIfInBounds (o+3) (.map (some (W1.heap.size+1)))=cs4 at *;generalize(((W1.alloc (.map #[] 0)).alloc (.map #[] 0)).setCell ⟨B,o+2,none⟩ (.map (some W1.heap.size))).setCell ⟨B,o+3,none⟩ (.map (some (W1.heap.size+1)))=W4 at *;generalize W1.heap.size+1=bz at *;generalize W1.heap.size=bd at *;refine zr (λj=>[5].contains j) (λwS=>Bl W4 wS) ?_;have S0:=(Below.refl W4.heap.size W4).drew;refine zk 1 [0,1,2,3,4] [_,.pointer (some ⟨B,o,none⟩),.pointer (some ⟨B,o+2,none⟩),.map (some bd),_] (.q zX<|.q zX<|.q zX<|.q (zS λ_ h=>(X4.wq.blk.call h).ar X4.wq.c2)<|.c rfl rfl (zl λ_ h=>zb (tC.call h) underlying83) .nil) S0<|aq _ _ _ _ kZ<|zO 5 (λQ2 aI=>?_);go_wp2_with(refine iZ _ rfl _ _ _ rfl bd [] rfl (X4.wq.call (S0)).ax (by unfold maxLen;decide) k rfl HK rfl ?_;intro w5 Ay iK);(try refine aI _ _ ?_);(try clear aI Q2)
 refine wpAny_done kZ ?_ _;have X5:=X4.trans ((X4.wq.stay S0).trans ((X4.wq.call S0).af7 Ay iK));have Az:=(tC.call S0).grown iK (λe=>by injection e with e;exact mL e.symm);clear Ay iK S0 X4 tC;have c3:=X5.wq.blk.ar HD3;have b0:=Az.z 0 (V6 k.hi);have b1:=Az.z 1 (V6 k.lo);have RR:=λn=>(X5.wq.busy.cD n).look HK
 simp only[aU0,if_false]at RR;have hr:=HR.out;subst hr;go_wp2;go_quiet(fail);have X6:=X5.trans (X5.wq.stay (below_drewN bR nq));have BX6:=Az.drewN nq;clear c3 b0 b1 RR X5 Az;generalize w5.drewN nq=W6 at *;go_upto_region 8 with fail
 refine zr (λj=>[4,5].contains j) (λwS=>Bl W6 wS) ?_;have S0:=(Below.refl W6.heap.size W6).drew;refine zk 5 [3] [_] (.c rfl rfl (zl λ_ h=>zb (BX6.call h) underlying83) .nil) S0<|zQ 0 ?_;go_wp2_with fail;refine .i S0<|zQ 1 ?_;go_wp2_with fail;refine .i S0<|zq 2 [2] [.pointer (some ⟨B,o,none⟩)] S0<|aq _ _ _ _ kZ<|zO 4 (λQ2 aI=>?_);go_wp2_with(go_at_call 358;refine(qE B o ty cs4 vf vb q.fi k _ (X6.wq.call (S0)).fi Kt).mono ?_;rintro e v9 ⟨rfl,Nh,vf9,vb9,mz⟩);(try refine aI _ _ ?_);(try clear aI Q2)
 refine wpAny_take (i:=5) (v:=_) rfl kZ kZ kZ (λ_ _ _ h=>h) (Or.inl ⟨by rfl,λW=>by rfl⟩)<|wpAny_done kZ ?_ _;have X9:=X6.trans ((X6.wq.stay S0).trans ((X6.wq.call S0).line mz));clear mz;go_wp2;go_ret;exact⟨_,_,_,_,_,rfl,X9⟩
def af9(B o:Nat)(ty:TypeId)(cs:Array Value)(vf vb vd vz:Value)(q:Wq)(k:Key)(w:World)(h:oF w B o ty cs vf vb vd vz q)(hk:k.good)(hl:q.fi.b.length<100000/\q.ax.length<=100000) :
 Calls prog 351 #[.pointer (some ⟨B,o,none⟩),.agg k.row] w (Tm B o ty cs vf vb vd vz (Ax q k) w):=by
 unfold Ax
 by_cases h1:q.over=true
 ·rw[if_pos (.inl h1)]
  exact Gv B o ty cs vf vb vd vz q k w h h1
 have h1' : q.over=false:=sH h1
 by_cases h2:k∈q.ax
 ·rw[if_pos (.inr h2)]
  exact Dn B o ty cs vf vb vd vz q k w h hk h1' h2
 rw[if_neg (λe=>e.elim h1 h2)];rcases h.ax with⟨e,hd⟩|⟨bd,e,-⟩
 ·have e2:=h.both.1 e
  subst e;subst e2;have hz:q.busy=[]:=by rcases h.busy with⟨-,e⟩|⟨b,e,-⟩;exact e;cases e
  rw[if_neg (by rw[hz];simp),hd]
  simpa[cE]using(GQ B o ty cs vf vb q k w h hk hl.1 h1')
 ·subst e
  have e2:∃bz,vz=.map (some bz):=by
   rcases h.busy with⟨e,-⟩|⟨bz,e,-⟩
   ·have:=h.both.2 e;cases this
   ·exact⟨bz,e⟩
  obtain⟨bz,rfl⟩:=e2;exact Gz B o ty cs vf vb bd bz q k w h hk hl h1' h2
end
section
open Go.RowKit Go.Maps
def TE(B o:Nat)(ty:TypeId)(cs:Array Value)(vf vb vd vz:Value)(g:(Key×Bool)×Wq)(w:World)(e:Ending)(w' : World):Prop:=∃cs' tv tx Ch Ci,e=.returned (.tuple #[.agg g.1.1.row,.bool g.1.2])/\eC w w' B o ty cs vf vb vd vz cs' tv tx Ch Ci g.2
def eC.keep{vd vz d1 z1:Value}{q1:Wq}(h1:eC w w1 B o ty cs vf vb vd vz cs1 f1 b1 d1 z1 q1)(hu:ah S w1 w2)(hB:¬S B)(hf:∀k,(f1.ownBlock=some k\/b1.ownBlock=some k)->¬S k)(hm:∀k,(bB d1=some k\/bB z1=some k)->¬S k)(hS:∀k,S k->w.heap.size<=k):eC w w2 B o ty cs vf vb vd vz cs1 f1 b1 d1 z1 q1:=
 ⟨⟨h1.wq.fi.upd hu hB (λk hk=>hf k (.inl hk)) (λk hk=>hf k (.inr hk)),h1.wq.c2,h1.wq.c3,h1.wq.c4,h1.wq.ax.upd hu (λk hk=>hm k (.inl hk)),h1.wq.busy.upd hu (λk hk=>hm k (.inr hk)),h1.wq.apart,h1.wq.both⟩,h1.upd.trans hu (λk hk=>.inr (hS k hk)),h1.own,h1.maps,h1.size,h1.rest⟩
theorem PG(B o:Nat)(ty:TypeId)(cs:Array Value)(vf vb vd vz:Value)(q:Wq)(w:World)(h:oF w B o ty cs vf vb vd vz q)(hl:q.fi.f.length<=100000/\q.fi.b.length<=100000)(h1:q.fi.get.1.2=false) :
 Calls prog 373 #[.pointer (some ⟨B,o,none⟩)] w (TE B o ty cs vf vb vd vz (q.fi.get.1,{q with fi:=q.fi.get.2}) w):=by
 have EX:=zW w (.cells #[V6 0,V6 0] aS);have B0:=ai.new w aS #[V6 0,V6 0];have H0:=h.call EX;have X0:=h.stay EX;have HG:=Tj B o ty cs vf vb q.fi _ H0.fi hl;have HB:=h.blk.lt;have Yd:=(λk (hk:vf.ownBlock=some k\/vb.ownBlock=some k)=>(show k<w.heap.size from hk.elim (λe=>(h.fi.jw.lt k e).2) (λe=>(h.fi.iG.lt k e).2)));have HMf:=(λk (hk:bB vd=some k\/bB vz=some k)=>(show k<w.heap.size from hk.elim (h.ax.lt k) (h.busy.lt k)));obtain⟨⟨⟨x,b⟩,q2⟩,hq⟩:∃g,q.fi.get=g:=⟨_,rfl⟩
 have Gt:=(λ(W7 w9:World)(cs1:Array Value)(f1 b1:Value)(q1:Wq)(h:eC w W7 B o ty cs vf vb vd vz cs1 f1 b1 vd vz q1)(hu:ah (λk=>k=w.heap.size) W7 w9)(hf:∀k,(f1.ownBlock=some k\/b1.ownBlock=some k)->¬k=w.heap.size)=>h.keep hu (λe=>oH HB) hf (λk hk e=>oH (HMf k hk)) (λk hk=>oM));rw[hq]at HG h1 |-;simp only at h1;subst h1;unfold Ti FY at HG;simp only at HG |-;clear h hq hl;go_enter func373,ntmps373;go_wp2_with(first
  |go_at_call 380;refine HG.mono ?_;rintro e w3 ⟨rfl,cs3,vf3,vb3,hk3⟩;have X3:=X0.trans (H0.line hk3);have hno:∀j,(vf3.ownBlock=some j\/vb3.ownBlock=some j)->¬j=w.heap.size:=(λj hj e=>by {have h8:=hk3.own j hj;have h9:=Yd j;simp only[World.size_alloc]at h8;rcases h8 with e2|e2|e2;exact absurd (h9 (.inl e2)) oM;exact absurd (h9 (.inr e2)) oM;omega});have Ks:=hno;have C3:=B0.upd hk3.upd (λe=>by {have h9:=Yd w.heap.size;have:=HB;rcases e with e|e|e;omega;exact absurd (h9 (.inl e)) (aT3 _);exact absurd (h9 (.inr e)) (aT3 _)});clear hk3 hno
  |refine zI (ai.new w3 aS x.row) underlying83 ?_
  |(refine zJ (C3.alloc _) ?_;intro w9 b8 dM))
 have X9:=Gt _ _ _ _ _ _ (X3.trans (X3.wq.stay (zW w3 (.cells x.row aS)))) ⟨dM.os,dM.tape,dM.output,dM.size,λk hk hn=>dM.block k hk (λe=>hn (by injection e))⟩ Ks;refine bodyPost_ret (az rfl _ _ w.heap.size _ _ _ rfl b8 underlying83 rfl kZ) rfl ⟨_,_,_,_,_,rfl,X9⟩
end
section
open Go.RowKit Go.Maps
theorem KD(B o:Nat)(ty:TypeId)(cs:Array Value)(vf vb:Value)(bd bz:Nat)(q:Wq)(x:Key)(q2:Fi)(w:World)(h:oF w B o ty cs vf vb (.map (some bd)) (.map (some bz)) q)(hl:q.fi.f.length<=100000/\q.fi.b.length<=100000)(Nn:q.busy.length<=100000)(hx:x.good)(hq:q.fi.get=((x,true),q2)) :
 Calls prog 373 #[.pointer (some ⟨B,o,none⟩)] w (TE B o ty cs vf vb (.map (some bd)) (.map (some bz)) ((x,true),{q with fi:=q2,ax:=q.ax.filter λy=>decide (y≠x),busy:=cE q.busy x}) w):=by
 have EX:=zW w (.cells #[V6 0,V6 0] aS);have B0:=ai.new w aS #[V6 0,V6 0];have H0:=h.call EX;have X0:=h.stay EX;have HG:=Tj B o ty cs vf vb q.fi _ H0.fi hl;have HB:=h.blk.lt;have Yd:=(λk (hk:vf.ownBlock=some k\/vb.ownBlock=some k)=>(show k<w.heap.size from hk.elim (λe=>(h.fi.jw.lt k e).2) (λe=>(h.fi.iG.lt k e).2)));have TF:=h.ax.lt bd rfl;have HMz:=h.busy.lt bz rfl;have Gt:=zh (λ(W7 w9:World)(cs1:Array Value)(f1 b1:Value)(q1:Wq)(h:eC w W7 B o ty cs vf vb (.map (some bd)) (.map (some bz)) cs1 f1 b1 (.map (some bd)) (.map (some bz)) q1)(hu:ah (λk=>k=w.heap.size) W7 w9)(hf:∀k,(f1.ownBlock=some k\/b1.ownBlock=some k)->¬k=w.heap.size)=>h.keep hu (λe=>oH HB) hf (λk hk e=>by
  have:=TF;have:=HMz;rcases hk with hk|hk<;>(injection hk with hk;omega)) (λk hk=>oM))
 have HX:=hx;have HLz:q.busy.length<maxLen:=by unfold maxLen;omega
 obtain⟨R,hR⟩:=zE (((x,true),{q with fi:=q2,ax:=q.ax.filter λy=>decide (y≠x),busy:=cE q.busy x}):(Key×Bool)×Wq);rw[<-hR];have HR:=zD hR;rw[hq]at HG;unfold Ti FY at HG;simp only at HG;clear h hq hl hR hx Nn;go_enter func373,ntmps373;go_upto_region 5 with(go_at_call 380;refine HG.mono ?_;rintro e w3 ⟨rfl,cs3,vf3,vb3,hk3⟩;have X3:=X0.trans (H0.line hk3);have hno:∀j,(vf3.ownBlock=some j\/vb3.ownBlock=some j)->¬j=w.heap.size:=(λj hj e=>by {have h8:=hk3.own j hj;have h9:=Yd j;simp only[World.size_alloc]at h8;rcases h8 with e2|e2|e2;exact absurd (h9 (.inl e2)) oM;exact absurd (h9 (.inr e2)) oM;omega});have Ks:=hno;have C3:=B0.upd hk3.upd (λe=>by {have h9:=Yd w.heap.size;have:=HB;rcases e with e|e|e;omega;exact absurd (h9 (.inl e)) (aT3 _);exact absurd (h9 (.inr e)) (aT3 _)});have E3:=hk3.upd.size;clear hk3 hno)
 have X4:=X3.trans (X3.wq.stay (zW w3 (.cells x.row aS)));have B4:=ai.new w3 aS x.row;have C4:=C3.alloc (.cells x.row aS);have hz3:=E3;simp only[World.size_alloc]at hz3;have HZ3:bd≠w3.heap.size/\bz≠w3.heap.size/\bd≠w.heap.size/\bz≠w.heap.size:=oI TF HMz
 have HD3:=X4.wq.c3;clear hz3 E3 X3 C3 X0 H0 B0;generalize w3.alloc (.cells x.row aS)=W4 at *;generalize w3.heap.size=g4 at *;generalize w.heap.size=gw at *;refine zr (λj=>[5].contains j) (λwS=>Bl W4 wS) ?_;have S0:=(Below.refl W4.heap.size W4).drew;refine zk 5 [4] [_] (.c rfl rfl (zl λ_ h=>zb (B4.call h) underlying83) .nil) S0<|zQ 0 ?_;go_wp2_with fail;refine .i S0<|zQ 1 ?_;go_wp2_with fail;refine .i S0<|zQ 2 ?_;go_wp2_with fail;refine .i S0<|zk 1 [3] [.map (some bd)] (.q (zS λ_ h=>(X4.wq.blk.call h).ar X4.wq.c2) .nil) S0<|aq _ _ _ _ kZ<|zO 5 (λQ2 aI=>?_);go_wp2_with(refine nC _ rfl _ _ rfl bd q.ax rfl (X4.wq.call (S0)).ax x rfl HX ?_;intro w5 Ay iK);(try refine aI _ _ ?_);(try clear aI Q2)
 refine wpAny_done kZ ?_ _;have X5:=X4.trans ((X4.wq.stay S0).trans ((X4.wq.call S0).af7 Ay iK));have B5:=(B4.call S0).grown iK (λe=>by injection e with e;exact HZ3.1 e.symm);have C5:=(C4.call S0).grown iK (λe=>by injection e with e;exact HZ3.2.2.1 e.symm);clear Ay iK S0 X4 B4 C4;go_upto_region 6 with fail
 refine zr (λj=>[5].contains j) (λwS=>Bl w5 wS) ?_;have S0:=(Below.refl w5.heap.size w5).drew;refine zk 1 [0,1,2,3,4] [_,.pointer (some ⟨B,o,none⟩),.pointer (some ⟨B,o+3,none⟩),.map (some bz),_] (.q zX<|.q zX<|.q zX<|.q (zS λ_ h=>(X5.wq.blk.call h).ar HD3)<|.c rfl rfl (zl λ_ h=>zb (B5.call h) underlying83) .nil) S0<|aq _ _ _ _ kZ<|zO 5 (λQ2 aI=>?_);go_wp2_with(refine iZ _ rfl _ _ _ rfl bz q.busy rfl (X5.wq.call (S0)).busy HLz x rfl HX rfl ?_;intro w6 hm6 RU);(try refine aI _ _ ?_);(try clear aI Q2)
 refine wpAny_done kZ ?_ _;have X6:=X5.trans ((X5.wq.stay S0).trans ((X5.wq.call S0).ao0 hm6 RU));have B6:=(B5.call S0).grown RU (λe=>by injection e with e;exact HZ3.2.1 e.symm);have C6:=(C5.call S0).grown RU (λe=>by injection e with e;exact HZ3.2.2.2 e.symm);clear hm6 RU S0 X5 B5 C5;go_wp2_with(first
  |refine zI B6 underlying83 ?_
  |(refine zJ C6 ?_;intro w9 b8 dM))
 have X9:=Gt _ _ _ _ _ _ X6 ⟨dM.os,dM.tape,dM.output,dM.size,λk hk hn=>dM.block k hk (λe=>hn (by injection e))⟩ Ks;have hr:=HR.out;subst hr;refine bodyPost_ret (az rfl _ _ gw _ _ _ rfl b8 underlying83 rfl kZ) rfl ⟨_,_,_,_,_,rfl,X9⟩
def ag0(B o:Nat)(ty:TypeId)(cs:Array Value)(vf vb vd vz:Value)(q:Wq)(w:World)(h:oF w B o ty cs vf vb vd vz q)(hl:q.fi.f.length<=100000/\q.fi.b.length<=100000)(Nn:q.busy.length<=100000)(hi:∀k∈q.fi.all,k∈q.ax) :
 Calls prog 373 #[.pointer (some ⟨B,o,none⟩)] w (TE B o ty cs vf vb vd vz (gG q) w):=by
 unfold gG;rcases q.fi.wG with⟨h0,h1⟩|⟨x,L,h1,h2,h3⟩
 ·have h9:=PG B o ty cs vf vb vd vz q w h hl (by rw[h1])
  rw[h1]at h9 |-
  simpa using h9
 ·have hx:=hi x (by rw[h2];simp)
  rcases h.ax with⟨e,hd⟩|⟨bd,e,-⟩
  ·rw[hd]at hx;simp at hx
  ·subst e
   have e2:∃bz,vz=.map (some bz):=by
    rcases h.busy with⟨e,-⟩|⟨bz,e,-⟩
    ·have:=h.both.2 e;cases this
    ·exact⟨bz,e⟩
   obtain⟨bz,rfl⟩:=e2;rw[h3]
   simpa using(KD B o ty cs vf vb bd bz q x _ w h hl Nn (h.ax.good x hx) h3)
end
section
open Go.RowKit Go.Maps
def TG(B o:Nat)(ty:TypeId)(cs:Array Value)(vf vb vd vz:Value)(g:(Bool×Int)×Wq)(w:World)(e:Ending)(w' : World):Prop:=∃cs' tv tx Ch Ci,e=.returned (.tuple #[.bool g.1.1,I6 g.1.2])/\eC w w' B o ty cs vf vb vd vz cs' tv tx Ch Ci g.2
theorem KE(B o:Nat)(ty:TypeId)(cs:Array Value)(vf vb vd vz:Value)(q:Wq)(k:Key)(w:World)(h:oF w B o ty cs vf vb vd vz q)(hk:k.good)(h1:k ∉ q.busy) :
 Calls prog 392 #[.pointer (some ⟨B,o,none⟩),.agg k.row] w (TG B o ty cs vf vb vd vz ((false,5),q) w):=by
 have EX:=zW w (.cells k.row aS);have X0:=(λn=>h.stay (below_drewN EX n));have H0:=h.call EX;have c3:=H0.blk.ar h.c3;have hl:∀n,(Instr.lookup JO vz (.agg k.row) false).run prog ((w.alloc (.cells k.row aS)).drewN n)=.ok (I6 0) ((w.alloc (.cells k.row aS)).drewN n):=λn=>by
  have:=(H0.busy.cD n).look hk;rw[if_neg h1]at this;exact this
 have b0:=(ai.new w aS k.row).z 0 (V6 k.hi);have b1:=(ai.new w aS k.row).z 1 (V6 k.lo);clear h H0 EX h1;go_enter func392,ntmps392;go_wp2;go_quiet(fail);go_wp2;go_ret2;exact⟨_,_,_,_,_,rfl,X0 _⟩
theorem GR(B o:Nat)(ty:TypeId)(cs:Array Value)(vf vb:Value)(bd bz:Nat)(q:Wq)(k:Key)(w:World)(h:oF w B o ty cs vf vb (.map (some bd)) (.map (some bz)) q)(hk:k.good)(hl:q.fi.b.length<100000)(h1:k∈q.busy) :
 Calls prog 392 #[.pointer (some ⟨B,o,none⟩),.agg k.row] w (TG B o ty cs vf vb (.map (some bd)) (.map (some bz)) (if k∈q.ax then((true,0),{q with busy:=q.busy.filter λy=>decide (y≠k),fi:=q.fi.put k})else((false,0),{q with busy:=q.busy.filter λy=>decide (y≠k)})) w):=by
 have EX:=zW w (.cells k.row aS);have X0:=zD (h.stay EX);have H0:=zD (h.call EX);have c3:=H0.out.blk.ar h.c3;have hl0:∀n,(Instr.lookup JO (.map (some bz)) (.agg k.row) false).run prog ((w.alloc (.cells k.row aS)).drewN n)=.ok (I6 1) ((w.alloc (.cells k.row aS)).drewN n):=λn=>by
  have:=(H0.out.busy.cD n).look hk;rw[if_pos h1]at this;exact this
 have BX:=zD (ai.new w aS k.row);have b0:=BX.out.z 0 (V6 k.hi);have b1:=BX.out.z 1 (V6 k.lo);have tT:=zD h.c2;have HC3:=zD h.c3;have HK:=zD hk;have Kt:=zD hl;have mL:=zD (show bd≠w.heap.size/\bz≠w.heap.size from by
  have:=h.ax.lt bd rfl;have:=h.busy.lt bz rfl;omega)
 obtain⟨R,hR⟩:=zE (if k∈q.ax then((true,0),{q with busy:=q.busy.filter λy=>decide (y≠k),fi:=q.fi.put k})else((false,0),{q with busy:=q.busy.filter λy=>decide (y≠k)}):(Bool×Int)×Wq);rw[<-hR];have HR:=zD hR;clear h EX hl h1 hR;go_enter func392,ntmps392;go_wp2;go_quiet(fail);have X1:=zD (X0.out.trans (H0.out.stay (below_drewN bR nq)));have vP:=zD (BX.out.drewN nq);clear c3 hl0 b0 b1 H0 BX X0;generalize(w.alloc (.cells k.row aS)).drewN nq=W1 at *;generalize w.heap.size=gx at *;go_upto_region 3 with fail
 refine zr (λj=>[5].contains j) (λwS=>Bl W1 wS) ?_;have S0:=(Below.refl W1.heap.size W1).drew;refine zk 5 [4] [_] (.c rfl rfl (zl λ_ h=>zb (vP.out.call h) underlying83) .nil) S0 ?_;refine zQ 0 ?_;go_wp2_with fail;refine .i S0 ?_;refine zQ 1 ?_;go_wp2_with fail;refine .i S0 ?_;refine zQ 2 ?_;go_wp2_with fail;refine .i S0 ?_;refine zk 1 [3] [.map (some bz)] (.q (zS λ_ h=>(X1.out.wq.blk.call h).ar HC3.out) .nil) S0 ?_;refine aq _ _ _ _ kZ ?_;refine zO 5 (λQ2 aI=>?_);go_wp2_with(refine nC _ rfl _ _ rfl bz q.busy rfl (X1.out.wq.call (S0)).busy k rfl HK.out ?_;intro w5 Ay iK);(try refine aI _ _ ?_);(try clear aI Q2)
 refine wpAny_done kZ ?_ _;have X5:=zD (X1.out.trans ((X1.out.wq.stay S0).trans ((X1.out.wq.call S0).ao0 Ay iK)));have Az:=zD ((vP.out.call S0).grown iK (λe=>by injection e with e;exact mL.out.2 e.symm));clear Ay iK S0 X1 vP
 by_cases hb:k∈q.ax
 ·have hr:=HR.out
  rw[if_pos hb]at hr;have Yr:=zD hr;clear hr HR;have qf:=zD (show(if k∈q.ax then(1:Int)else 0)=1 from if_pos hb);have:=X5.out.wq.blk.ar tT.out;have:=Az.out.z 0 (V6 k.hi);have:=Az.out.z 1 (V6 k.lo);go_upto_region 4 with fail
  refine zr (λj=>[12,13,14,15].contains j) (λwS=>Bl w5 wS) ?_;have S0:=(Below.refl w5.heap.size w5).drew;refine zY 0 4 ?_ ?_
  ·
   go_wp2_with fail;refine .i S0 ?_;refine zY 1 4 ?_ ?_
   ·
    go_wp2_with fail;refine .i S0 ?_;refine zY 2 4 ?_ ?_
    ·
     go_wp2_with fail;refine .i S0 ?_;refine zY 3 4 ?_ ?_
     ·
      go_wp2_with fail;refine .i S0 ?_;refine zQ 4 ?_;go_wp2_with fail;refine .i S0 ?_;refine zQ 5 ?_;go_wp2_with(refine ek _ rfl _ _ rfl (.map (some bd)) q.ax rfl (X5.out.wq.call (S0)).ax k rfl HK.out ?_;rw[qf.out]);refine .i S0 ?_;refine zQ 6 ?_;go_wp2_with fail;refine .i S0 ?_;refine zk 7 [7,11] [_,_] (.q zX<|.c rfl rfl (zl λ_ h=>zb (Az.out.call h) underlying83) .nil) S0 ?_;refine zQ 8 ?_;go_wp2_with fail;refine .i S0 ?_;refine zQ 9 ?_;go_wp2_with fail;refine .i S0 ?_;refine zq 4 [10] [.pointer (some ⟨B,o,none⟩)] S0 ?_;refine aq _ _ _ _ kZ ?_;refine zO 12 (λQ2 aI=>?_);go_wp2_with(go_at_call 358;refine(qE B o ty cs vf vb q.fi k _ (X5.out.wq.call (S0)).fi Kt.out).mono ?_;rintro e v9 ⟨rfl,Nh,vf9,vb9,mz⟩);(try refine aI _ _ ?_);(try clear aI Q2)
      refine wpAny_take (i:=13) (v:=_) rfl kZ kZ kZ (λ_ _ _ h=>h) (Or.inl ⟨by rfl,λW=>by rfl⟩) ?_;refine wpAny_take (i:=14) (v:=_) rfl kZ kZ kZ (λ_ _ _ h=>h) (Or.inl ⟨by rfl,λW=>by rfl⟩) ?_;refine wpAny_take (i:=15) (v:=_) rfl kZ kZ kZ (λ_ _ _ h=>h) (Or.inl ⟨by rfl,λW=>by rfl⟩) ?_;refine wpAny_done kZ ?_ _;have X9:=zD (X5.out.trans ((X5.out.wq.stay S0).trans ((X5.out.wq.call S0).line mz)));clear mz;go_wp2;go_ret2;have hr:=Yr.out;exact⟨_,_,_,_,_,(by rw[hr];rfl),by rw[hr];exact X9.out⟩
     ·
      go_wp2_with fail;refine .i S0 ?_;refine zQ 3 ?_;go_wp2_with fail;refine .i S0 ?_;refine zQ 5 ?_;go_wp2_with(refine ek _ rfl _ _ rfl (.map (some bd)) q.ax rfl (X5.out.wq.call (S0)).ax k rfl HK.out ?_;rw[qf.out]);refine .i S0 ?_;refine zQ 6 ?_;go_wp2_with fail;refine .i S0 ?_;refine zk 7 [7,11] [_,_] (.q zX<|.c rfl rfl (zl λ_ h=>zb (Az.out.call h) underlying83) .nil) S0 ?_;refine zQ 8 ?_;go_wp2_with fail;refine .i S0 ?_;refine zQ 9 ?_;go_wp2_with fail;refine .i S0 ?_;refine zq 4 [10] [.pointer (some ⟨B,o,none⟩)] S0 ?_;refine aq _ _ _ _ kZ ?_;refine zO 12 (λQ2 aI=>?_);go_wp2_with(go_at_call 358;refine(qE B o ty cs vf vb q.fi k _ (X5.out.wq.call (S0)).fi Kt.out).mono ?_;rintro e v9 ⟨rfl,Nh,vf9,vb9,mz⟩);(try refine aI _ _ ?_);(try clear aI Q2)
      refine wpAny_take (i:=13) (v:=_) rfl kZ kZ kZ (λ_ _ _ h=>h) (Or.inl ⟨by rfl,λW=>by rfl⟩) ?_;refine wpAny_take (i:=14) (v:=_) rfl kZ kZ kZ (λ_ _ _ h=>h) (Or.inl ⟨by rfl,λW=>by rfl⟩) ?_;refine wpAny_take (i:=15) (v:=_) rfl kZ kZ kZ (λ_ _ _ h=>h) (Or.inl ⟨by rfl,λW=>by rfl⟩) ?_;refine wpAny_done kZ ?_ _;have X9:=zD (X5.out.trans ((X5.out.wq.stay S0).trans ((X5.out.wq.call S0).line mz)));clear mz;go_wp2;go_ret2;have hr:=Yr.out;exact⟨_,_,_,_,_,(by rw[hr];rfl),by rw[hr];exact X9.out⟩
    ·
     go_wp2_with fail;refine .i S0 ?_;refine zQ 2 ?_;go_wp2_with fail;refine .i S0 ?_;refine zQ 3 ?_;go_wp2_with fail;refine .i S0 ?_;refine zQ 5 ?_;go_wp2_with(refine ek _ rfl _ _ rfl (.map (some bd)) q.ax rfl (X5.out.wq.call (S0)).ax k rfl HK.out ?_;rw[qf.out]);refine .i S0 ?_;refine zQ 6 ?_;go_wp2_with fail;refine .i S0 ?_;refine zk 7 [7,11] [_,_] (.q zX<|.c rfl rfl (zl λ_ h=>zb (Az.out.call h) underlying83) .nil) S0 ?_;refine zQ 8 ?_;go_wp2_with fail;refine .i S0 ?_;refine zQ 9 ?_;go_wp2_with fail;refine .i S0 ?_;refine zq 4 [10] [.pointer (some ⟨B,o,none⟩)] S0 ?_;refine aq _ _ _ _ kZ ?_;refine zO 12 (λQ2 aI=>?_);go_wp2_with(go_at_call 358;refine(qE B o ty cs vf vb q.fi k _ (X5.out.wq.call (S0)).fi Kt.out).mono ?_;rintro e v9 ⟨rfl,Nh,vf9,vb9,mz⟩);(try refine aI _ _ ?_);(try clear aI Q2)
     refine wpAny_take (i:=13) (v:=_) rfl kZ kZ kZ (λ_ _ _ h=>h) (Or.inl ⟨by rfl,λW=>by rfl⟩) ?_;refine wpAny_take (i:=14) (v:=_) rfl kZ kZ kZ (λ_ _ _ h=>h) (Or.inl ⟨by rfl,λW=>by rfl⟩) ?_;refine wpAny_take (i:=15) (v:=_) rfl kZ kZ kZ (λ_ _ _ h=>h) (Or.inl ⟨by rfl,λW=>by rfl⟩) ?_;refine wpAny_done kZ ?_ _;have X9:=zD (X5.out.trans ((X5.out.wq.stay S0).trans ((X5.out.wq.call S0).line mz)));clear mz;go_wp2;go_ret2;have hr:=Yr.out;exact⟨_,_,_,_,_,(by rw[hr];rfl),by rw[hr];exact X9.out⟩
   ·
    go_wp2_with fail;refine .i S0 ?_;refine zQ 1 ?_;go_wp2_with fail;refine .i S0 ?_;refine zQ 2 ?_;go_wp2_with fail;refine .i S0 ?_;refine zQ 3 ?_;go_wp2_with fail;refine .i S0 ?_;refine zQ 5 ?_;go_wp2_with(refine ek _ rfl _ _ rfl (.map (some bd)) q.ax rfl (X5.out.wq.call (S0)).ax k rfl HK.out ?_;rw[qf.out]);refine .i S0 ?_;refine zQ 6 ?_;go_wp2_with fail;refine .i S0 ?_;refine zk 7 [7,11] [_,_] (.q zX<|.c rfl rfl (zl λ_ h=>zb (Az.out.call h) underlying83) .nil) S0 ?_;refine zQ 8 ?_;go_wp2_with fail;refine .i S0 ?_;refine zQ 9 ?_;go_wp2_with fail;refine .i S0 ?_;refine zq 4 [10] [.pointer (some ⟨B,o,none⟩)] S0 ?_;refine aq _ _ _ _ kZ ?_;refine zO 12 (λQ2 aI=>?_);go_wp2_with(go_at_call 358;refine(qE B o ty cs vf vb q.fi k _ (X5.out.wq.call (S0)).fi Kt.out).mono ?_;rintro e v9 ⟨rfl,Nh,vf9,vb9,mz⟩);(try refine aI _ _ ?_);(try clear aI Q2)
    refine wpAny_take (i:=13) (v:=_) rfl kZ kZ kZ (λ_ _ _ h=>h) (Or.inl ⟨by rfl,λW=>by rfl⟩) ?_;refine wpAny_take (i:=14) (v:=_) rfl kZ kZ kZ (λ_ _ _ h=>h) (Or.inl ⟨by rfl,λW=>by rfl⟩) ?_;refine wpAny_take (i:=15) (v:=_) rfl kZ kZ kZ (λ_ _ _ h=>h) (Or.inl ⟨by rfl,λW=>by rfl⟩) ?_;refine wpAny_done kZ ?_ _;have X9:=zD (X5.out.trans ((X5.out.wq.stay S0).trans ((X5.out.wq.call S0).line mz)));clear mz;go_wp2;go_ret2;have hr:=Yr.out;exact⟨_,_,_,_,_,(by rw[hr];rfl),by rw[hr];exact X9.out⟩
  ·
   go_wp2_with fail;refine .i S0 ?_;refine zQ 0 ?_;go_wp2_with fail;refine .i S0 ?_;refine zQ 1 ?_;go_wp2_with fail;refine .i S0 ?_;refine zQ 2 ?_;go_wp2_with fail;refine .i S0 ?_;refine zQ 3 ?_;go_wp2_with fail;refine .i S0 ?_;refine zQ 5 ?_;go_wp2_with(refine ek _ rfl _ _ rfl (.map (some bd)) q.ax rfl (X5.out.wq.call (S0)).ax k rfl HK.out ?_;rw[qf.out]);refine .i S0 ?_;refine zQ 6 ?_;go_wp2_with fail;refine .i S0 ?_;refine zk 7 [7,11] [_,_] (.q zX<|.c rfl rfl (zl λ_ h=>zb (Az.out.call h) underlying83) .nil) S0 ?_;refine zQ 8 ?_;go_wp2_with fail;refine .i S0 ?_;refine zQ 9 ?_;go_wp2_with fail;refine .i S0 ?_;refine zq 4 [10] [.pointer (some ⟨B,o,none⟩)] S0 ?_;refine aq _ _ _ _ kZ ?_;refine zO 12 (λQ2 aI=>?_);go_wp2_with(go_at_call 358;refine(qE B o ty cs vf vb q.fi k _ (X5.out.wq.call (S0)).fi Kt.out).mono ?_;rintro e v9 ⟨rfl,Nh,vf9,vb9,mz⟩);(try refine aI _ _ ?_);(try clear aI Q2)
   refine wpAny_take (i:=13) (v:=_) rfl kZ kZ kZ (λ_ _ _ h=>h) (Or.inl ⟨by rfl,λW=>by rfl⟩) ?_;refine wpAny_take (i:=14) (v:=_) rfl kZ kZ kZ (λ_ _ _ h=>h) (Or.inl ⟨by rfl,λW=>by rfl⟩) ?_;refine wpAny_take (i:=15) (v:=_) rfl kZ kZ kZ (λ_ _ _ h=>h) (Or.inl ⟨by rfl,λW=>by rfl⟩) ?_;refine wpAny_done kZ ?_ _;have X9:=zD (X5.out.trans ((X5.out.wq.stay S0).trans ((X5.out.wq.call S0).line mz)));clear mz;go_wp2;go_ret2;have hr:=Yr.out;exact⟨_,_,_,_,_,(by rw[hr];rfl),by rw[hr];exact X9.out⟩
 ·have hr:=HR.out
  rw[if_neg hb]at hr;have Yr:=zD hr;clear hr HR;have:=X5.out.wq.blk.ar tT.out;have:=Az.out.z 0 (V6 k.hi);have:=Az.out.z 1 (V6 k.lo);have RR:=λn=>(X5.out.wq.ax.cD n).look HK.out
  simp only[if_neg hb]at RR;go_wp2;go_quiet(fail);go_wp2;go_ret2;have hr:=Yr.out;exact⟨_,_,_,_,_,(by rw[hr];rfl),by rw[hr];exact(X5.out.trans (X5.out.wq.stay (below_drewN bR nq)))⟩
def Yt(B o:Nat)(ty:TypeId)(cs:Array Value)(vf vb vd vz:Value)(q:Wq)(k:Key)(w:World)(h:oF w B o ty cs vf vb vd vz q)(hk:k.good)(hl:q.fi.b.length<100000) :
 Calls prog 392 #[.pointer (some ⟨B,o,none⟩),.agg k.row] w (TG B o ty cs vf vb vd vz (oG q k) w):=by
 unfold oG
 by_cases h1:k∈q.busy
 ·rw[if_pos h1]
  rcases h.busy with⟨e,hd⟩|⟨bz,e,-⟩
  ·rw[hd]at h1;simp at h1
  ·subst e
   have e2:∃bd,vd=.map (some bd):=by
    rcases h.ax with⟨e,-⟩|⟨bd,e,-⟩
    ·have:=h.both.1 e;cases this
    ·exact⟨bd,e⟩
   obtain⟨bd,rfl⟩:=e2;exact GR B o ty cs vf vb bd bz q k w h hk hl h1
 ·rw[if_neg h1]
  exact KE B o ty cs vf vb vd vz q k w h hk h1
theorem Yu(B o:Nat)(ty:TypeId)(cs:Array Value)(vf vb vd vz:Value)(q:Wq)(w:World)(h:oF w B o ty cs vf vb vd vz q)(hl:q.fi.f.length<=100000/\q.fi.b.length<=100000) :
 Calls prog 374 #[.pointer (some ⟨B,o,none⟩)] w (Rt (.bool (q.over&&decide (q.fi.all=[]))) (Bl w)):=by
 have c4:=h.blk.ar h.c4;cases ho:q.over
 ·rw[ho]at c4
  clear h ho;go_enter func374,ntmps374;go_wp2;go_ret;exact⟨rfl,Below.refl _ _⟩
 ·rw[ho]at c4
  have HL:=Ka B o ty cs vf vb q.fi w h.fi hl
  by_cases h0:q.fi.all=[]
  ·have HQ:decide (q.fi.all=[])=true:=by simp[h0]
   have HL:=HL;rw[h0]at HL;have HL:=HL;clear h ho h0 hl;go_enter func374,ntmps374;go_wp2_with(go_at_call 381;refine HL.mono ?_;rintro e w3 ⟨rfl,hb3⟩);go_ret;exact⟨by rw[HQ];rfl,hb3⟩
  ·have HQ:decide (q.fi.all=[])=false:=by simp[h0]
   have hn:¬((q.fi.all.length:Nat):Int)=0:=λe=>h0 (aC0 oM)
   generalize q.fi.all.length=NL at *;clear h ho h0 hl;go_enter func374,ntmps374;go_wp2_with(go_at_call 381;refine HL.mono ?_;rintro e w3 ⟨rfl,hb3⟩);go_ret;have hz:(((NL:Nat):Int)==0)=false:=beq_false_of_ne hn;exact⟨by rw[HQ];show Ending.returned (.bool (((NL:Nat):Int)==0))=_;rw[hz];rfl,hb3⟩
end
end Go.Proofs.YtjgmjohiehbgaaaGreat
