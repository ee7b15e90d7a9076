/- Part 7. -/
import Derived.Test.YtjgmjohiehbgaaaGreatQ1
import Derived.Test.YtjgmjohiehbgaaaGreatQ3
import Derived.Test.YtjgmjohiehbgaaaGreatQ4
namespace Go.Proofs.YtjgmjohiehbgaaaGreat
open Go.RowKit Go.Proofs.Tryz
set_option maxHeartbeats 20000000
set_option maxRecDepth 100000
set_option linter.all false
section
structure Fi where
 f:List Key
 b:List Key
deriving DecidableEq
def Fi.all(q:Fi):List Key:=q.f.reverse++q.b
def Fi.put(q:Fi)(k:Key):Fi:={q with b:=q.b++[k]}
def Fi.pq(q:Fi)(k:Key):(q.put k).all=q.all++[k]:=by unfold Fi.all Fi.put;simp
structure tM(w:World)(B o:Nat)(ty:TypeId)(cs:Array Value)(vf vb:Value)(q:Fi):Prop where
 blk:ai w B ty cs
 c0:cs[o]? = some vf
 c1:cs[o+1]? = some vb
 jw:aK w 0 aS 2 Key.cells vf q.f
 iG:aK w 0 aS 2 Key.cells vb q.b
 FX:vf.ownBlock≠some B
 Aj:vb.ownBlock≠some B
 apart:∀k,vf.ownBlock=some k->vb.ownBlock≠some k
structure dr(w w' : World)(B o:Nat)(ty:TypeId)(cs:Array Value)(vf vb:Value)(cs' : Array Value)(tv tx : Value)(q' : Fi):Prop where
 fi:tM w' B o ty cs' tv tx q'
 upd:ah (λk=>k=B\/vf.ownBlock=some k\/vb.ownBlock=some k) w w'
 own:∀k,(tv.ownBlock=some k\/tx.ownBlock=some k)->vf.ownBlock=some k\/vb.ownBlock=some k\/w.heap.size<=k
 size:cs'.size=cs.size
 rest:∀i,i≠o->i≠o+1->cs'[i]? = cs[i]?
def kK{cs:Array Value}{i:Nat}{u u0:Value}(h:cs[i]? = some u0):(cs.setIfInBounds i u)[i]? = some u:=by
 obtain⟨hi,-⟩:=aF4.1 h;simp[hi]
def cF{cs:Array Value}{i j:Nat}{u:Value}(h:i≠j):(cs.setIfInBounds i u)[j]? = cs[j]?:=by
 rw[Array.getElem?_setIfInBounds_ne h]
section
variable{w w' w3:World}{B o:Nat}{ty:TypeId}{cs:Array Value}{vf vb v' : Value}{q:Fi}
def tM.upd{S:Nat->Prop}(h:tM w B o ty cs vf vb q)(hu:ah S w w')(h1:¬S B)(h2:∀k,vf.ownBlock=some k->¬S k)(h3:∀k,vb.ownBlock=some k->¬S k):tM w' B o ty cs vf vb q:=
 ⟨h.blk.upd hu h1,h.c0,h.c1,h.jw.upd hu h2,h.iG.upd hu h3,h.FX,h.Aj,h.apart⟩
def tM.call(h:tM w B o ty cs vf vb q)(hb:Bl w w'):tM w' B o ty cs vf vb q:=h.upd (S:=λ_=>False) (ah.aa hb) id (λ_ _=>id) (λ_ _=>id)
def tM.stay(h:tM w B o ty cs vf vb q)(hb:Bl w w'):dr w w' B o ty cs vf vb cs vf vb q:=⟨h.call hb,ah.aa hb,λk hk=>hk.imp id .inl,rfl,λ_ _ _=>rfl⟩
def dr.pre{w0:World}{cs' : Array Value}{tv tx : Value}{q' : Fi}(h:dr w w' B o ty cs vf vb cs' tv tx q')(hb:Bl w0 w):dr w0 w' B o ty cs vf vb cs' tv tx q':=
 ⟨h.fi,(ah.aa hb:ah _ w0 w).trans h.upd iL,λk hk=>(h.own k hk).imp id (λe=>e.imp id (λe=>aB4 hb.size e)),h.size,h.rest⟩
def dr.trans{w1 w2:World}{cs1 Am:Array Value}{f1 b1 f2 b2:Value}{q1 q2:Fi}(h1:dr w w1 B o ty cs vf vb cs1 f1 b1 q1)(h2:dr w1 w2 B o ty cs1 f1 b1 Am f2 b2 q2):dr w w2 B o ty cs vf vb Am f2 b2 q2:=by
 refine⟨h2.fi,h1.upd.trans h2.upd ?_,λk hk=>?_,h2.size.trans h1.size,λi e0 e1=>(h2.rest i e0 e1).trans (h1.rest i e0 e1)⟩
 ·rintro k (rfl|hk)
  ·exact .inl (.inl rfl)
  ·rcases h1.own k hk with e|e|e
   ·exact .inl (.inr (.inl e))
   ·exact .inl (.inr (.inr e))
   ·exact .inr e
 ·rcases h2.own k hk with e|e|e
  ·exact h1.own k (.inl e)
  ·exact h1.own k (.inr e)
  ·exact .inr (.inr (aB4 h1.upd.size e))
def tM.av1{L' : List Key}(h:tM w B o ty cs vf vb q)(hu:ah (λk=>vb.ownBlock=some k) w w3)(ho:aK w3 0 aS 2 Key.cells v' L')(hw:v'.ownBlock=vb.ownBlock\/∃g,v'.ownBlock=some g/\w.heap.size<=g) :
 dr w (w3.setCell ⟨B,o+1,none⟩ v') B o ty cs vf vb (cs.setIfInBounds (o+1) v') vf v' {q with b:=L'}:=by
 have hne:v'.ownBlock≠some B:=by
  rcases hw with e|⟨g,e,hg⟩
  ·rw[e];exact h.Aj
  ·rw[e];intro e2;have:=h.blk.lt;cases e2;omega
 have hl:=h.jw.upd hu (λk hk e=>h.apart k hk e);refine⟨⟨(h.blk.upd hu h.Aj).aX _ _,(cF oM).trans h.c0,kK h.c1,hl.far (λk hk e=>h.FX (by rw[hk,e])) _,ho.far (λk hk e=>hne (by rw[hk,e])) _,h.FX,hne,λk hk Sv=>?_⟩,
  (hu.mono (λk hk=>.inr (.inr hk))).setCell (.inl (.inl rfl)) _,λk hk=>?_,sI,λi h0 h1=>cF (Ne.symm h1)⟩
 ·rcases hw with e|⟨g,e,hg⟩
  ·rw[e]at Sv;exact h.apart k hk Sv
  ·rw[e]at Sv;injection Sv with Sv;have:=(h.jw.lt k hk).2;omega
 ·rcases hk with hk|hk
  ·exact .inl hk
  ·rcases hw with e|⟨g,e,hg⟩
   ·rw[e]at hk;exact .inr (.inl hk)
   ·rw[e]at hk;injection hk with hk;exact .inr (.inr oM)
end
theorem Ka(B o:Nat)(ty:TypeId)(cs:Array Value)(vf vb:Value)(q:Fi)(w:World)(h:tM w B o ty cs vf vb q)(hl:q.f.length<=100000/\q.b.length<=100000) :
 Calls prog 381 #[.pointer (some ⟨B,o,none⟩)] w (Rt (I6 (q.all.length:Nat)) (Bl w)):=by
 obtain⟨A,n,c,rfl,hn,-⟩:=h.jw.shape cW;obtain⟨A2,n2,c2,rfl,fo,-⟩:=h.iG.shape cW;have c0:=h.blk.ar h.c0;have c1:=h.blk.ar h.c1;have HQ:((q.all.length:Nat):Int)=(n:Int)+(n2:Int):=by unfold Fi.all;simp;omega
 have:n<=100000:=oM
 have:n2<=100000:=oM
 clear h hl hn fo;go_enter func381,ntmps381;go_wp2;go_quiet(fail);go_wp2;go_ret;exact⟨au HQ.symm,below_drewN bR _⟩
def FY(w:World)(B o:Nat)(ty:TypeId)(cs:Array Value)(vf vb:Value)(q' : Fi)(w' : World):Prop:=∃cs' tv tx,dr w w' B o ty cs vf vb cs' tv tx q'
theorem qE(B o:Nat)(ty:TypeId)(cs:Array Value)(vf vb:Value)(q:Fi)(k:Key)(w:World)(h:tM w B o ty cs vf vb q)(hl:q.b.length<100000) :
 Calls prog 358 #[.pointer (some ⟨B,o,none⟩),.agg k.row] w λe w'=>e=.returned (.bool true)/\FY w B o ty cs vf vb (q.put k) w':=by
 have EX:=zW w (.cells k.row aS);have BX:=ai.new w aS k.row;have H0:=h.call EX;have Ap:=(λw' cs' tv tx q' (h:dr (w.alloc (.cells k.row aS)) w' B o ty cs vf vb cs' tv tx q')=>h.pre EX);have hgx:vb.ownBlock≠some w.heap.size:=λe=>by have:=h.iG.lt _ e;omega
 have mL:=hgx;have fJ:q.b.length<1000000:=oM
 obtain⟨A,n,c,rfl,hn,-⟩:=h.iG.shape cW;have JN:=h.c1;clear h hl hn hgx EX;go_enter func358,ntmps358;go_upto_region 3 with fail
 generalize w.alloc (.cells k.row aS)=W0 at *;generalize w.heap.size=gx at *;refine zr (λj=>[10].contains j) (λwS=>ah (λk=>(Value.slice A n c).ownBlock=some k) W0 wS) ?_;have S0:=(ah.refl (λk=>(Value.slice A n c).ownBlock=some k) W0).drew;refine zk 6 [0,1,2,3,4] [_,_,.pointer (some ⟨B,o,none⟩),.pointer (some ⟨B,o+1,none⟩),.slice A n c] (.q zX<|.q zX<|.q zX<|.q zX<|.q (zS λ_ h=>(H0.blk.upd h H0.Aj).ar JN) .nil) S0 ?_;refine zk 5 [5] [_] (.c rfl rfl (zl λ_ h=>zb (BX.upd h mL) underlying83) .nil) S0 ?_;refine zQ 6 ?_;obtain⟨G,hG,bG,lG⟩:=iA (S:=S0) (k.row) 83;go_wp2_with fail;refine .i (S0.alloc _) ?_
 (try simp only[hG])
 clear hG;have SG:=S0.alloc (.cells (k.row) 83);refine zQ 7 ?_;go_wp2_with(refine cX _ rfl (.tmp 11) (.tmp 13) 29 rfl 0 83 _ 2 16 Key.cells underlying29 FQ rF dC (λ_=>rfl) wE (.slice A n c) q.b rfl ((H0.iG.cD 1).alloc _) ⟨G,0,none⟩ 1 k rfl (br (α:=Key) (bG) rfl) fJ dC (aB6 _) ?_;intro v' w3 kJ jP hw3;have hU:=(SG).trans jP iL;have hW3:v'.ownBlock=(Value.slice A n c).ownBlock\/∃g,v'.ownBlock=some g/\W0.heap.size<=g:=hw3.imp id (λe=>⟨_,e,(SG).size⟩);have X3:=H0.av1 hU kJ hW3;have xC:=H0.blk.upd hU H0.Aj;have:=xC.ar JN;have:=xC.frozen (o+1);obtain⟨A',n',c',rfl,-,-⟩:=kJ.shape cW;clear hU hW3 xC kJ hw3);refine .i (SG.trans jP iL) ?_;have S3:=SG.trans jP iL;refine zQ 8 ?_;go_wp2_with fail;refine .i S3 ?_;refine zq 1 [9] [.pointer (some ⟨B,o+1,none⟩)] S3 ?_;refine aq _ _ _ _ kZ ?_;refine zO 10 (λQ2 aI=>?_);go_wp2_with fail;(try refine aI _ _ ?_);(try clear aI Q2)
 refine wpAny_done kZ ?_ _;go_wp2;go_ret;exact⟨rfl,_,_,_,(Ap _ _ _ _ _ X3)⟩
end
section
open Go.RowKit Go.Sort
def qF{α:Type}[Inhabited α](enc:α->List Value)(k:Nat)(hk:∀x,(enc x).length=k)(d:Array α):(flatK enc k d).toList=d.toList.flatMap enc:=by
 apply List.ext_getElem?;intro t;have hlen:(d.toList.flatMap enc).length=d.size*k:=by rw[aZ hk];simp
 by_cases ht:t<d.size*k
 ·have k0:0<k:=Nat.pos_of_ne_zero λe=>by subst e;simp at ht
  have hq:t / k<d.size:=Nat.div_lt_of_lt_mul (by rw[aF9];exact ht);have hr:t % k<k:=aS9 _ k0;have h1:=ic hk d.toList (t / k) (t % k) d[t / k] (by simp[hq]) hr;rw[show t / k*k+t % k=t from Nat.div_add_mod' t k]at h1;rw[h1];have hs:t<(flatK enc k d).size:=by rw[size_flatK];exact ht
  rw[aG0,aC6 hs,<-getElem!_pos (flatK enc k d) t hs,(get_flatK enc k d t ht),getElem!_pos d _ hq,aB3 (by rw[hk];exact hr)]
  congr 1
  exact getElem!_pos _ _ _
 ·rw[aE1 sM,aE1 (by rw[hlen];omega)]
def p8(w:World)(g:Nat)(f:Array Value->Array Value)(c:Array Value)(e:TypeId)(fr:Nat×Nat)(h:w.heap[g]? = some (.cells c e fr)):(mapBlock w g f).heap[g]? = some (.cells (f c) e fr):=by
 unfold mapBlock;simp only[Array.getElem?_modify,if_true,h,aI6]
 rfl
def kL(w:World)(g k:Nat)(f:Array Value->Array Value)(h:k≠g):(mapBlock w g f).heap[k]? = w.heap[k]?:=by
 unfold mapBlock;simp[Array.getElem?_modify,Ne.symm h]
def rN(off:Nat)(F c:Array Value)(h:off+F.size<=c.size):((putCells id off F c).toList.drop off).take F.size=F.toList:=by
 apply List.ext_getElem?;intro t;rw[aE4]
 by_cases ht:t<F.size
 ·rw[if_pos ht,aE5]
  unfold putCells;rw[aG0,Array.getElem?_mapIdx,aC6 oM,aI6,if_pos ⟨oM,oM⟩,aG0,aC6 ht];simp only[id,Nat.add_sub_cancel_left];rw[getElem!_pos F t ht]
 ·rw[if_neg ht,aE1 sM]
instance:Inhabited Key:=⟨⟨0,0⟩⟩
section
variable{w:World}{base g off n cap:Nat}{l:List Key}
def aK.Sw(h:aK w base aS 2 Key.cells (.slice (some ⟨g,off,none⟩) n cap) l):HoldsK Key.cells 2 w g off l.toArray:=by
 intro j hj;rw[size_flatK]at hj;have hs:j<(flatK Key.cells 2 l.toArray).size:=by rw[size_flatK];exact hj
 have hg:(l.flatMap Key.cells)[j]? = some ((flatK Key.cells 2 l.toArray)[j]!):=by
  have e:(flatK Key.cells 2 l.toArray).toList[j]? = some ((flatK Key.cells 2 l.toArray)[j]!):=by
   rw[aG0,aC6 hs,getElem!_pos (flatK Key.cells 2 l.toArray) j hs]
  rw[(qF Key.cells 2 cW l.toArray)]at e;exact e
 have hc:=h.Dc (a:=⟨g,off,none⟩) rfl j _ hg;rw[Addr.add_lit]at hc;refine⟨hc,?_⟩;rcases h with⟨h,_⟩|⟨g',tL,cap',cur,hv,hb,hgg,_⟩
 ·cases h
 ·injection hv with e1
  injection e1 with e1
  injection e1 with e1 e2
  subst e1;simp[World.frozen?,hgg]
def aK.rev(h:aK w base aS 2 Key.cells (.slice (some ⟨g,off,none⟩) n cap) l)(m:Nat) :
 aK (putRowK Key.cells 2 (Sort.ahead w m) g off l.toArray.reverse) base aS 2 Key.cells (.slice (some ⟨g,off,none⟩) n cap) l.reverse/\ah (λk=>k=g) w (putRowK Key.cells 2 (Sort.ahead w m) g off l.toArray.reverse):=by
 rcases h with⟨h,_⟩|⟨g',tL,cap',cur,hv,hb,hgg,mF,hcm,hcs,EZ⟩
 ·cases h
 injection hv with e1 e3 e4
 injection e1 with e1
 injection e1 with e1 e2
 subst e1;subst e2;subst e4;subst e3;have hsz:(flatK Key.cells 2 l.toArray.reverse).size=l.length*2:=by rw[size_flatK];simp
 refine⟨.inr ⟨g,off,cap,putCells id off (flatK Key.cells 2 l.toArray.reverse) cur,sI,hb,p8 (Sort.ahead w m) g _ cur aS (0,0) hgg,sH mF,hcm,?_,?_⟩,?_⟩
 ·unfold putCells;simpa using hcs
 ·have h1:=rN off (flatK Key.cells 2 l.toArray.reverse) cur (oH hsz)
  rw[hsz]at h1;rw[List.length_reverse,h1,qF Key.cells 2 cW];simp
 ·exact⟨rfl,rfl,rfl,by simp[putRowK,putRow,mapBlock,Sort.ahead],λk hk hn=>kL (Sort.ahead w m) g k _ hn⟩
end
end
def jR(x y:Key):Int:=if x=y then 0 else if x.hi<y.hi\/(x.hi=y.hi/\x.lo<y.lo)then -1 else 1
theorem tN(x y:Key)(w:World):Calls prog 152 #[.agg x.row,.agg y.row] w λe w'=>e=.returned (I6 (jR x y))/\w' = (w.alloc (.cells x.row aS)).alloc (.cells y.row aS):=by
 obtain⟨q1,q2,q3⟩:=qC x y
 by_cases h1:x=y
 ·have hq:jQ x y=true:=decide_eq_true h1
  have HR:jR x y=0:=if_pos h1;rw[hq]at q2 q3;rw[HR];clear h1 hq;go_enter func152,ntmps152;go_wp2;go_ret;exact⟨rfl,rfl⟩
 ·have hq:jQ x y=false:=decide_eq_false h1
  rw[hq]at q2 q3
  by_cases h2:x.hi<y.hi\/(x.hi=y.hi/\x.lo<y.lo)
  ·have HR:jR x y = -1:=by unfold jR;rw[if_neg h1,if_pos h2]
   rw[HR];rcases h2 with h2|⟨h2,h3⟩
   ·clear h1 hq
    go_enter func152,ntmps152;go_wp2
    all_goals first|(exfalso;omega)|(go_ret;exact⟨rfl,rfl⟩)
   ·have:((x.hi:Int)==(y.hi:Int))=true:=by simp;omega
    have: ¬x.hi<y.hi:=oM
    clear h1 hq;go_enter func152,ntmps152;go_wp2
    all_goals first|(exfalso;omega)|(go_ret;exact⟨rfl,rfl⟩)
  ·have HR:jR x y=1:=by unfold jR;rw[if_neg h1,if_neg h2]
   rw[HR];have: ¬x.hi<y.hi:=oM
   by_cases h3:x.hi=y.hi
   ·have:((x.hi:Int)==(y.hi:Int))=true:=by simp;omega
    have: ¬x.lo<y.lo:=oM
    clear h1 hq h2 h3;go_enter func152,ntmps152;go_wp2
    all_goals first|(exfalso;omega)|(go_ret;exact⟨rfl,rfl⟩)
   ·have:((x.hi:Int)==(y.hi:Int))=false:=by simp;omega
    clear h1 hq h2 h3;go_enter func152,ntmps152;go_wp2
    all_goals first|(exfalso;omega)|(go_ret;exact⟨rfl,rfl⟩)
def xD(x y:Key):Bool:=decide (x.hi<y.hi\/(x.hi=y.hi/\x.lo<y.lo))
def Nc{x y:Key}(h1:x.hi=y.hi)(h2:x.lo=y.lo):x=y:=by
 cases x;cases y;simp at h1 h2;rw[h1,h2]
def Kb(x:Key):List Key->List Key
 |[]=>[x]
 |y::l=>if xD y x then y::Kb x l else x::y::l
def eW:List Key->List Key
 |[]=>[]
 |x::l=>Kb x (eW l)
def Xh(x y:Key):Prop:=xD y x=false
theorem Ca(x:Key)(l:List Key):(Kb x l).Perm (x::l):=by
 induction l with
 |nil=>exact List.Perm.refl _
 |cons y l ih=>
  unfold Kb
  split
  ·exact((ih.cons y).trans (List.Perm.swap x y l))
  ·exact List.Perm.refl _
theorem fg(l:List Key):(eW l).Perm l:=by
 induction l with
 |nil=>exact List.Perm.refl _
 |cons x l ih=>exact(Ca x _).trans (ih.cons x)
theorem FZ(x:Key)(l:List Key)(h:l.Pairwise Xh):(Kb x l).Pairwise Xh:=by
 induction l with
 |nil=>simp[Kb]
 |cons y l ih=>
  obtain⟨h1,h2⟩:=aI5.1 h;unfold Kb
  split
  ·rename_i hl
   refine aI5.2 ⟨λz hz=>?_,ih h2⟩;rcases aE6.1 ((Ca x l).mem_iff.1 hz)with rfl|hz
   ·unfold Xh xD at *;simp at hl |-;omega
   ·exact h1 z hz
  ·rename_i hl
   refine aI5.2 ⟨λz hz=>?_,h⟩;rcases aE6.1 hz with rfl|hz
   ·unfold Xh;simpa using hl
   ·have:=h1 z hz
    unfold Xh xD at *;simp at hl this |-;omega
theorem rO(l:List Key):(eW l).Pairwise Xh:=by
 induction l with
 |nil=>exact List.Pairwise.nil
 |cons x l ih=>exact FZ x _ ih
def ny{l m:List Key}(hp:l.Perm m)(hs:l.Pairwise Xh):l=eW m:=
 (hp.trans (fg m).symm).eq_of_pairwise (λa b _ _ h1 h2=>by unfold Xh xD at h1 h2;simp at h1 h2;exact Nc oM oM) hs (rO m)
def Pm(a b:Nat):Int:=if a<b then -1 else if a=b then 0 else 1
def Dh(x:Int)(h0:0<=x)(h1:x<18446744073709551616):bits .and .u64 x 4294967295=x % 4294967296:=by
 obtain⟨n,rfl⟩:=aI3 h0;have e:=u64_and_nat n 4294967295 oM oM;rw[show((4294967295:Nat):Int)=4294967295 from rfl]at e;rw[e,show(4294967295:Nat)=2 ^ 32-1 by decide,aV8];omega
def av9(x y:Int)(h0:0<=x)(h1:x<4294967296)(h2:0<=y)(h3:y<4294967296):bits .or .u64 (x*4294967296) y=x*4294967296+y:=by
 obtain⟨m,rfl⟩:=aI3 h0;obtain⟨n,rfl⟩:=aI3 h2;have e:=u64_or_nat (m*4294967296) n oM oM;have e2:m*4294967296 ||| n=m*4294967296+n:=nat_join 32 _ _ oM oM
 rw[e2]at e;rw[show((m:Int)*4294967296)=((m*4294967296:Nat):Int) by omega,e];omega
def mul_lt(a b:Nat)(ha:a<4294967296)(hb:b<4294967296):a*b<=18446744065119617025:=by
 have:=aS4 (show a<=4294967295 by omega) (show b<=4294967295 by omega);omega
def Pn(a b:Nat):a*b=(a / 4294967296)*(b / 4294967296)*18446744073709551616+((a / 4294967296)*(b % 4294967296)+(a % 4294967296)*(b / 4294967296))*4294967296+(a % 4294967296)*(b % 4294967296):=by
 have e1:a=a / 4294967296*4294967296+a % 4294967296:=oM
 have e2:b=b / 4294967296*4294967296+b % 4294967296:=oM
 conv=>lhs;rw[e1,e2]
 rw[aD6,Nat.mul_add,Nat.mul_add];have p1:a / 4294967296*4294967296*(b / 4294967296*4294967296)=a / 4294967296*(b / 4294967296)*18446744073709551616:=by
  rw[Nat.mul_mul_mul_comm]
 have p2:a / 4294967296*4294967296*(b % 4294967296)=a / 4294967296*(b % 4294967296)*4294967296:=Nat.mul_right_comm _ _ _;have p3:a % 4294967296*(b / 4294967296*4294967296)=a % 4294967296*(b / 4294967296)*4294967296:=(aH7 _ _ _).symm;rw[p1,p2,p3,aD6];omega
def XT{a b c d:Int}(h:a=b)(h2:c=d):Ending.returned (.agg #[V6 a,V6 c])=.returned (.agg #[V6 b,V6 d]):=by rw[h,h2]
def rR{a b c d:Int}{p q:Bool}(h:a=b)(h2:c=d)(h3:p=q):Ending.returned (.tuple #[.agg #[V6 a,V6 c],.bool p])=.returned (.tuple #[.agg #[V6 b,V6 d],.bool q]):=by rw[h,h2,h3]
def xP{N h l:Nat}(e:N=h*2 ^ 64+l)(hl:l<2 ^ 64):jg N=h/\kF N=l:=by
 subst e;unfold jg kF;omega
theorem SN(a b:Nat)(w:World)(ha:a<18446744073709551616)(hb:b<18446744073709551616) :
 Calls prog 395 #[V6 a,V6 b] w (Rt (.agg #[V6 ((jg (a*b):Nat):Int),V6 ((kF (a*b):Nat):Int)]) (Bl w)):=by
 have:bits .and .u64 (a:Int) 4294967295=((a % 4294967296:Nat):Int):=by rw[Dh _ oM oM];omega
 have:(a:Int) / 4294967296=((a / 4294967296:Nat):Int):=oM
 have:bits .and .u64 (b:Int) 4294967295=((b % 4294967296:Nat):Int):=by rw[Dh _ oM oM];omega
 have:(b:Int) / 4294967296=((b / 4294967296:Nat):Int):=oM
 have hp:=Pn a b;have l1:a % 4294967296<4294967296:=oM
 have l2:a / 4294967296<4294967296:=oM
 have l3:b % 4294967296<4294967296:=oM
 have l4:b / 4294967296<4294967296:=oM
 generalize a % 4294967296=a0 at *;generalize a / 4294967296=a1 at *;generalize b % 4294967296=b0 at *;generalize b / 4294967296=b1 at *;have:=mul_lt a0 b0 l1 l3;have:=mul_lt a0 b1 l1 l4;have:=mul_lt a1 b0 l2 l3;have:=mul_lt a1 b1 l2 l4;have:IntKind.u64.wrap ((a0:Int)*(b0:Int))=((a0*b0:Nat):Int):=by rw[IntKind.wrap_u64,<-Int.natCast_mul];omega
 have:IntKind.u64.wrap ((a0:Int)*(b1:Int))=((a0*b1:Nat):Int):=by rw[IntKind.wrap_u64,<-Int.natCast_mul];omega
 have:IntKind.u64.wrap ((a1:Int)*(b0:Int))=((a1*b0:Nat):Int):=by rw[IntKind.wrap_u64,<-Int.natCast_mul];omega
 have:IntKind.u64.wrap ((a1:Int)*(b1:Int))=((a1*b1:Nat):Int):=by rw[IntKind.wrap_u64,<-Int.natCast_mul];omega
 generalize a0*b0=Xi at *;generalize a0*b1=p01 at *;generalize a1*b0=p10 at *;generalize a1*b1=p11 at *;have HP:=hp;clear hp l1 l2 l3 l4;have:bits .and .u64 ((p10:Int)+(Xi:Int) / 4294967296) 4294967295=((p10:Int)+(Xi:Int) / 4294967296) % 4294967296:=Dh _ oM oM;have:bits .and .u64 (Xi:Int) 4294967295=(Xi:Int) % 4294967296:=Dh _ oM oM;go_enter func395,ntmps395;go_wp2;go_returns;refine⟨?_,by go_grown⟩;have w1:IntKind.u64.wrap ((((p10:Int)+(Xi:Int) / 4294967296) % 4294967296+(p01:Int))*4294967296)=((((p10:Int)+(Xi:Int) / 4294967296) % 4294967296+(p01:Int)) % 4294967296)*4294967296:=by
  rw[IntKind.wrap_u64];omega
 rw[w1,av9 _ _ oM oM oM oM];have hl:=xP (N:=a*b) (h:=p11+(p10+Xi / 4294967296) / 4294967296+((p10+Xi / 4294967296) % 4294967296+p01) / 4294967296) (l:=(((p10+Xi / 4294967296) % 4294967296+p01) % 4294967296)*4294967296+Xi % 4294967296) (by rw[HP];omega) oM;exact XT (by rw[hl.1];omega) (by rw[hl.2];omega)
def SP(x y c:Int)(hx:0<=x)(hy:0<=y)(hc0:0<=c)(hc:c<=1)(w:World):(callFunc 303 #[V6 x,V6 y,V6 c]).run prog w =
 .ok (.value (.tuple #[V6 ((x+y+c) % 18446744073709551616),V6 ((x+y+c) / 18446744073709551616)])) w:=by
 rw[run_callFunc_extern func303 kZ kZ kZ (e:=add64Entry) kZ,run_add64 x y c hx hy hc0 hc]
 rfl
def Nf(x y:Int)(hx:0<=x)(hy:0<=y)(w:World):(callFunc 303 #[V6 x,V6 y,V6 0]).run prog w =
 .ok (.value (.tuple #[V6 ((x+y) % 18446744073709551616),V6 ((x+y) / 18446744073709551616)])) w:=by
 simpa using SP x y 0 hx hy (aW5 0) dC w
def two(h l:Nat):Nat:=h*2 ^ 64+l
def jU(S:Nat):Nat:=if S<2 ^ 128 then S else 0
def mM(S:Nat):Bool:=decide (S<2 ^ 128)
theorem SS(h1 l1 h2 l2:Nat)(w:World)(b1:h1<18446744073709551616)(b2:l1<18446744073709551616)(b3:h2<18446744073709551616)(b4:l2<18446744073709551616) :
 Calls prog 279 #[.agg #[V6 h1,V6 l1],.agg #[V6 h2,V6 l2]] w λe w'=>
  e=.returned (.tuple #[.agg #[V6 ((jg (jU (two h1 l1+two h2 l2)):Nat):Int),V6 ((kF (jU (two h1 l1+two h2 l2)):Nat):Int)],.bool (mM (two h1 l1+two h2 l2))])/\Bl w w':=by
 have a1:(0:Int)<=(l1:Int):=oM
 have a2:(0:Int)<=(l2:Int):=oM
 have a3:(0:Int)<=(h1:Int):=oM
 have a4:(0:Int)<=(h2:Int):=oM
 have k0:(0:Int)<=((l1:Int)+(l2:Int)) / 18446744073709551616:=oM
 have k1:((l1:Int)+(l2:Int)) / 18446744073709551616<=1:=oM
 by_cases hf:(h1:Int)+(h2:Int)+((l1:Int)+(l2:Int)) / 18446744073709551616<18446744073709551616
 ·have:(((h1:Int)+(h2:Int)+((l1:Int)+(l2:Int)) / 18446744073709551616) / 18446744073709551616 != 0)=false:=by simp;omega
  have HF:=hf;clear hf;go_enter func279,ntmps279;go_wp2_with(first|simp only[Nf l1 l2 a1 a2]|simp only[SP h1 h2 _ a3 a4 k0 k1]);go_returns;refine⟨?_,gW⟩;have hS:two h1 l1+two h2 l2<2 ^ 128:=by have:=HF;unfold two;omega
  have e1:jU (two h1 l1+two h2 l2)=two h1 l1+two h2 l2:=if_pos hS;have e2:mM (two h1 l1+two h2 l2)=true:=decide_eq_true hS;have hl:=xP (N:=two h1 l1+two h2 l2) (h:=h1+h2+(l1+l2) / 18446744073709551616) (l:=(l1+l2) % 18446744073709551616) (by unfold two;omega) oM;have:=HF;rw[e1,e2];exact rR (oH hl.1) (oH hl.2) rfl
 ·have:(((h1:Int)+(h2:Int)+((l1:Int)+(l2:Int)) / 18446744073709551616) / 18446744073709551616 != 0)=true:=by simp;omega
  have HF:=hf;clear hf;go_enter func279,ntmps279;go_wp2_with(first|simp only[Nf l1 l2 a1 a2]|simp only[SP h1 h2 _ a3 a4 k0 k1]);go_returns;refine⟨?_,gW⟩;have hS:¬two h1 l1+two h2 l2<2 ^ 128:=by have:=HF;unfold two;omega
  have e1:jU (two h1 l1+two h2 l2)=0:=if_neg hS;have e2:mM (two h1 l1+two h2 l2)=false:=decide_eq_false hS;rw[e1,e2];exact rR (by simp[jg]) (by simp[kF]) rfl
theorem SV(h1 l1 h2 l2:Nat)(w:World)(b2:l1<18446744073709551616)(b4:l2<18446744073709551616) :
 Calls prog 401 #[.agg #[V6 h1,V6 l1],.agg #[V6 h2,V6 l2]] w λe w'=>
  e=.returned (I6 (Pm (two h1 l1) (two h2 l2)))/\Bl w w':=by
 by_cases he:h1=h2/\l1=l2
 ·obtain⟨rfl,rfl⟩:=he
  go_enter func401,ntmps401;go_wp2_with fail;go_ret;exact⟨au (by unfold Pm;simp),gW⟩
 ·go_enter func401,ntmps401
  go_wp2_with fail
  all_goals
   go_ret;refine⟨au ?_,gW⟩;go_light;unfold Pm two
   first
    |show(1:Int)=_;rw[if_neg oM,if_neg oM]
    |(show(-1:Int)=_;rw[if_pos oM])
def ow(N:Nat):Nat:=if N<9223372036854775808 then N else 9223372036854775807
theorem Kh(h l:Nat)(w:World)(b1:h<18446744073709551616)(b2:l<18446744073709551616) :
 Calls prog 280 #[.agg #[V6 h,V6 l]] w (Rt (I6 ((ow (two h l):Nat):Int)) (Bl w)):=by
 by_cases h0:h=0
 ·subst h0
  by_cases h1:9223372036854775807<l
  ·go_enter func280,ntmps280
   go_wp2_with fail;go_ret;refine⟨au ?_,by go_grown⟩;unfold ow two;rw[if_neg oM];rfl
  ·go_enter func280,ntmps280
   go_wp2_with fail;go_ret;refine⟨au ?_,by go_grown⟩;unfold ow two;rw[if_pos oM]
   show(l:Int)=_
   omega
 ·have:((h:Int) != 0)=true:=by simp;omega
  have H0:=h0;clear h0;go_enter func280,ntmps280;go_wp2_with fail;go_ret;refine⟨au ?_,by go_grown⟩;have:=H0;unfold ow two;rw[if_neg oM];rfl
def tP(a b:Int)(w:World)(ha:MM a)(hb:MM b) :
 Calls prog 395 #[V6 a,V6 b] w (Rt (.agg #[V6 ((jg (a.toNat*b.toNat):Nat):Int),V6 ((kF (a.toNat*b.toNat):Nat):Int)]) (Bl w)):=by
 obtain⟨x,rfl⟩:=aI3 ha.1;obtain⟨y,rfl⟩:=aI3 hb.1;have:=ha.2;have:=hb.2;rw[aU4,aU4];exact SN x y w oM oM
def tQ(N:Nat):two (jg N) (kF N)=N:=Dg N
def af0{M N:Nat}(h1:jg M=jg N)(h2:kF M=kF N):M=N:=by rw[<-Dg M,<-Dg N,h1,h2]
def tR{a b:Nat}(ha:a<2 ^ 64)(hb:b<2 ^ 64):a*b<2 ^ 128:=by
 have:=aS4 (show a<=2 ^ 64-1 by omega) (show b<=2 ^ 64-1 by omega);omega
def px(X Y:Nat)(w:World)(hX:X<2 ^ 128)(hY:Y<2 ^ 128) :
 Calls prog 279 #[.agg #[V6 ((jg X:Nat):Int),V6 ((kF X:Nat):Int)],.agg #[V6 ((jg Y:Nat):Int),V6 ((kF Y:Nat):Int)]] w λe w'=>
  e=.returned (.tuple #[.agg #[V6 ((jg (jU (X+Y)):Nat):Int),V6 ((kF (jU (X+Y)):Nat):Int)],.bool (mM (X+Y))])/\Bl w w':=by
 have h1:=Df hX;have h2:=tO X;have h3:=Df hY;have h4:=tO Y;have:=SS (jg X) (kF X) (jg Y) (kF Y) w oM oM oM oM;rw[tQ,tQ]at this;exact this
def Po(X Y:Nat)(w:World) :
 Calls prog 401 #[.agg #[V6 ((jg X:Nat):Int),V6 ((kF X:Nat):Int)],.agg #[V6 ((jg Y:Nat):Int),V6 ((kF Y:Nat):Int)]] w λe w'=>
  e=.returned (I6 (Pm X Y))/\Bl w w':=by
 have h2:=tO X;have h4:=tO Y;have:=SV (jg X) (kF X) (jg Y) (kF Y) w oM oM;rw[tQ,tQ]at this;exact this
def uY(n:Int):Int:=if n<0 then 0 else n
def Pp{n:Int}(h:aw n):aw (uY n):=by unfold aw at *;unfold uY;omega
def xQ(p:dI)(n:Int):Int:=if p.xJ then MT (uY n) p.target else 0
def eR(p:dI)(n:Int):Int:=if p.xJ then CT n p.min p.max else 0
theorem rS(p:dI)(n:Int)(w:World)(hp:p.fit)(hn:aw n) :
 Calls prog 385 #[(.agg #[I6 p.min,I6 p.max,I6 p.target,I6 p.lz,I6 p.bp,I6 p.hold]),I6 n] w (Rt (I6 (xQ p n)) (Bl w)):=by
 obtain⟨f1,f2,f3,f4,f5,f6⟩:=hp
 have hL:=Pp hn
 by_cases hk:p.xJ
 ·have:=gj hk
  have HK:=zD hk
  clear hk
  go_enter func385,ntmps385
  go_wp2_with(first|(go_at_call 79;refine zC w (aY p _) λv1 hc1 RN hB1 hz1 hs1=>?_)|(go_at_call 394;rw[show max n 0=uY n by unfold uY;omega];refine(Sd _ _ _ hL f3).mono ?_;rintro e w1 ⟨rfl,rfl⟩))
  all_goals
   go_ret
   exact⟨au (by unfold xQ;rw[if_pos HK.out]),gW⟩
 ·have:=jI hk
  have HK:=zD hk
  clear hk
  go_enter func385,ntmps385
  go_wp2_with(first|(go_at_call 79;refine zC w (aY p _) λv2 hc2 hf2 hB2 hz2 hs2=>?_))
  go_ret
  exact⟨au (by unfold xQ;rw[if_neg HK.out]),gW⟩
theorem lC(p:dI)(n:Int)(w:World) :
 Calls prog 389 #[(.agg #[I6 p.min,I6 p.max,I6 p.target,I6 p.lz,I6 p.bp,I6 p.hold]),I6 n] w (Rt (I6 (eR p n)) (Bl w)):=by
 by_cases hk:p.xJ
 ·have:=gj hk
  have HK:=hk;clear hk;go_enter func389,ntmps389;go_wp2_with(first|(go_at_call 79;refine zM (aY p _) λv3 hb3=>?_;obtain⟨hc3,hf3⟩:=nu hb3;have:Bl w v3:=Below.trans gW (hb3.mono (by first|omega|(simp;done)|(simp;omega)));have hs3:=hb3.size;(try simp only[World.size_alloc,World.size_setCell,World.size_drew]at hs3);clear hb3)|(go_at_call 398;refine zN (OJ _ _ _ _) ?_));go_ret;exact⟨au (by unfold eR;rw[if_pos HK]),by go_grown⟩
 ·have:=jI hk
  have HK:=hk;clear hk;go_enter func389,ntmps389;go_wp2_with(first|(go_at_call 79;refine zM (aY p _) λv4 hb4=>?_;obtain⟨Gj,hf4⟩:=nu hb4;have:Bl w v4:=Below.trans gW (hb4.mono (by first|omega|(simp;done)|(simp;omega)));have hs4:=hb4.size;(try simp only[World.size_alloc,World.size_setCell,World.size_drew]at hs4);clear hb4))
  go_ret;exact⟨au (by unfold eR;rw[if_neg HK]),by go_grown⟩
def XU(X Y:Nat):decide (Pm X Y<=0)=decide (X<=Y):=by
 rw[Bool.eq_iff_iff,decide_eq_true_iff,decide_eq_true_iff];unfold Pm
 split
 ·omega
 ·split<;>omega
theorem ox(X Y Z:Nat)(w:World)(hX:X<2 ^ 128)(hY:Y<2 ^ 128)(hZ:Z<2 ^ 128) :
 Calls prog 396 #[.agg #[V6 ((jg X:Nat):Int),V6 ((kF X:Nat):Int)],.agg #[V6 ((jg Y:Nat):Int),V6 ((kF Y:Nat):Int)],.agg #[V6 ((jg Z:Nat):Int),V6 ((kF Z:Nat):Int)]] w λe w'=>
  e=.returned (.bool (decide (X<=Y+Z)))/\Bl w w':=by
 have HY:=hY;have HZ:=hZ
 by_cases hf:Y+Z<2 ^ 128
 ·have:jU (Y+Z)=Y+Z:=if_pos hf
  have:mM (Y+Z)=true:=decide_eq_true hf;clear hX hY hZ hf;go_enter func396,ntmps396;go_wp2_with(first|(go_at_call 279;refine zC w (px Y Z _ HY HZ) λv5 hc5 hf5 hB5 hz5 hs5=>?_)|(go_at_call 401;refine zM (Po _ _ _) λv6 dJ=>?_;obtain⟨hc6,hf6⟩:=nu dJ;have:Bl w v6:=Below.trans gW (dJ.mono (by first|omega|(simp;done)|(simp;omega)));have uZ:=dJ.size;(try simp only[World.size_alloc,World.size_setCell,World.size_drew]at uZ);clear dJ))
  go_ret;exact⟨dQ (by rw[<-XU]),by go_grown⟩
 ·have:mM (Y+Z)=false:=decide_eq_false hf
  have HF:=(show X<=Y+Z by omega);clear hX hY hZ hf;go_enter func396,ntmps396;go_wp2_with(first|(go_at_call 279;refine zM (px Y Z _ HY HZ) λv7 lV=>?_;obtain⟨hc7,hf7⟩:=nu lV;have:Bl w v7:=Below.trans gW (lV.mono (by first|omega|(simp;done)|(simp;omega)));have hs7:=lV.size;(try simp only[World.size_alloc,World.size_setCell,World.size_drew]at hs7);clear lV))
  go_ret;exact⟨dQ (by rw[decide_eq_true HF]),by go_grown⟩
def Ki(load:Int):Nat:=(uY load).toNat*1000
def mN(p:dI)(now:Int):Nat:=(now*1000).toNat*p.target.toNat
def qH(p:dI)(now:Int):Nat:=(now*p.lz).toNat*p.target.toNat
def oy(p:dI)(load now:Int):Bool:=
 if p.xJ/\1<=now/\now<=1073741824 then decide (Ki load<=mN p now+qH p now)&&decide (mN p now<=Ki load+qH p now)else false
def SY(H T K:Nat)(h:H=T):(decide (H<=T+K)&&decide (T<=H+K))=true:=by subst h;simp
theorem vN(p:dI)(load now L:Int)(w:World)(hp:p.fit)(hn:aw load)(hk:p.xJ)(h1:1<=now)(h2:now<=1073741824)(hL:(load<0/\L=0)\/(0<=load/\L=load)) :
 Calls prog 386 #[(.agg #[I6 p.min,I6 p.max,I6 p.target,I6 p.lz,I6 p.bp,I6 p.hold]),I6 load,I6 now] w (Rt (.bool (oy p load now)) (Bl w)):=by
 obtain⟨f1,f2,f3,f4,f5,f6⟩:=hp;have:max load 0=L:=oM;have hLq:uY load=L:=by unfold uY;omega
 have:load<=9223372036854775807:=hn.2;have:=gj hk;have HK:=hk;obtain⟨k1,k2,k3,k4,k5,k6,k7,k8,k9⟩:=hk;have hL0:0<=L/\L<=9223372036854775807:=oM
 have u1:MM L:=by unfold MM;omega
 have u2:MM 1000:=by unfold MM;omega
 have u3:MM (now*1000):=by unfold MM;omega
 have u4:MM p.target:=by unfold aw at f3;unfold MM;omega
 have hm:0<=now*p.lz/\now*p.lz<=1072668082176:=by
  have:=Int.mul_nonneg (show 0<=now by omega) k6;have:=Int.mul_le_mul h2 k7 k6 oM;omega
 have:=hm.1;have:=hm.2;have u5:MM (now*p.lz):=by unfold MM;omega
 have:p.target<=9223372036854775807:=f3.2;have z1:Ki load<2 ^ 128:=tR (by rw[hLq];omega) oM;have z2:mN p now<2 ^ 128:=tR oM oM;have z3:qH p now<2 ^ 128:=tR oM oM;have c1:L.toNat*(1000:Int).toNat=Ki load:=by rw[<-hLq];rfl
 have c2:(now*1000).toNat*p.target.toNat=mN p now:=rfl;have c3:(now*p.lz).toNat*p.target.toNat=qH p now:=rfl;have M1:=λW=>tP L 1000 W u1 u2
 have M2:=λW=>tP (now*1000) p.target W u3 u4
 have M3:=λW=>tP (now*p.lz) p.target W u5 u4
 rw[c1]at M1;rw[c2]at M2;rw[c3]at M3;have xR:oy p load now=(decide (Ki load<=mN p now+qH p now)&&decide (mN p now<=Ki load+qH p now)):=if_pos ⟨HK,h1,h2⟩;rw[xR];clear xR c1 c2 c3 hm hL0 hLq;have XV:=M1;have HM2:=M2;have HM3:=M3;have Z1:=z1;have Z2:=z2;have Z3:=z3;clear M1 M2 M3 z1 z2 z3 u1 u2 u3 u4 u5 f1 f2 f3 f4 f5 f6 hn;generalize Ki load=H at *;generalize mN p now=T at *;generalize qH p now=K at *;have:decide (H<=T+K)=(decide (H<=T+K)):=rfl
 by_cases hHT:H=T
 ·have HE:=SY H T K hHT
  subst hHT;rcases hL with⟨hl,rfl⟩|⟨hl,rfl⟩
  all_goals
   go_enter func386,ntmps386;go_wp2_with(first|(go_at_call 79;refine zC w (aY p _) λva hca hfa hBa hza hsa=>?_));refine zC w (XV _) λvb hcb hfb hBb hzb SZ=>?_
   go_wp2_with fail;refine zC w (HM2 _) λvc hcc hfc hBc hzc hsc=>?_
   have:vb.heap.size<vc.heap.size:=oM
   go_wp2_with fail;refine zC w (HM3 _) λvd hcd XP hBd hzd hsd=>?_
   have:vb.heap.size<vd.heap.size:=oM
   have:vc.heap.size<vd.heap.size:=oM
   go_wp2_with fail;go_ret;exact⟨dQ HE.symm,by go_grown⟩
 ·have Pq:=λW=>ox H T K W Z1 Z2 Z3
  have CW2:=λW=>ox T H K W Z2 Z1 Z3
  have M1:=XV;clear XV;have af1:¬((jg H:Nat):Int)=((jg T:Nat):Int)\/(jg H=jg T/\¬((kF H:Nat):Int)=((kF T:Nat):Int)):=by
   by_cases e1:jg H=jg T
   ·exact .inr ⟨e1,λe2=>hHT (af0 e1 oM)⟩
   ·exact .inl oM
  clear hHT;rcases af1 with hne|⟨heq,hne⟩
  ·have XV:=M1
   by_cases hle:H<=T+K
   ·rw[decide_eq_true hle]
    rw[decide_eq_true hle]at Pq;have JN:=Pq;have tT:=CW2;clear M1 Pq CW2 hle;rcases hL with⟨hl,rfl⟩|⟨hl,rfl⟩
    all_goals
     go_enter func386,ntmps386;go_wp2_with(first|(go_at_call 79;refine zC w (aY p _) λva hca hfa hBa hza hsa=>?_));refine zC w (XV _) λvb hcb hfb hBb hzb SZ=>?_
     go_wp2_with fail;refine zC w (HM2 _) λvc hcc hfc hBc hzc hsc=>?_
     have:vb.heap.size<vc.heap.size:=oM
     go_wp2_with fail;refine zC w (HM3 _) λvd hcd XP hBd hzd hsd=>?_
     have:vb.heap.size<vd.heap.size:=oM
     have:vc.heap.size<vd.heap.size:=oM
     go_wp2_with fail;refine zC w (JN _) λve hce hfe hBe hze hse=>?_
     have:vb.heap.size<ve.heap.size:=oM
     have:vc.heap.size<ve.heap.size:=oM
     have:vd.heap.size<ve.heap.size:=oM
     go_wp2_with fail;refine zC w (tT _) λvf zv hff hBf hzf hsf=>?_
     go_wp2_with fail;go_ret;exact⟨dQ sI,by go_grown⟩
   ·rw[decide_eq_false hle]
    rw[decide_eq_false hle]at Pq;have JN:=Pq;clear M1 Pq CW2 hle;rcases hL with⟨hl,rfl⟩|⟨hl,rfl⟩
    all_goals
     go_enter func386,ntmps386;go_wp2_with(first|(go_at_call 79;refine zC w (aY p _) λva hca hfa hBa hza hsa=>?_));refine zC w (XV _) λvb hcb hfb hBb hzb SZ=>?_
     go_wp2_with fail;refine zC w (HM2 _) λvc hcc hfc hBc hzc hsc=>?_
     have:vb.heap.size<vc.heap.size:=oM
     go_wp2_with fail;refine zC w (HM3 _) λvd hcd XP hBd hzd hsd=>?_
     have:vb.heap.size<vd.heap.size:=oM
     have:vc.heap.size<vd.heap.size:=oM
     go_wp2_with fail;refine zC w (JN _) λve hce hfe hBe hze hse=>?_
     have:vb.heap.size<ve.heap.size:=oM
     have:vc.heap.size<ve.heap.size:=oM
     have:vd.heap.size<ve.heap.size:=oM
     go_wp2_with fail;go_ret;exact⟨dQ sI,by go_grown⟩
  ·rw[heq]at M1 Pq CW2
   clear heq;have XV:=M1
   by_cases hle:H<=T+K
   ·rw[decide_eq_true hle]
    rw[decide_eq_true hle]at Pq;have JN:=Pq;have tT:=CW2;clear M1 Pq CW2 hle;rcases hL with⟨hl,rfl⟩|⟨hl,rfl⟩
    all_goals
     go_enter func386,ntmps386;go_wp2_with(first|(go_at_call 79;refine zC w (aY p _) λva hca hfa hBa hza hsa=>?_));refine zC w (XV _) λvb hcb hfb hBb hzb SZ=>?_
     go_wp2_with fail;refine zC w (HM2 _) λvc hcc hfc hBc hzc hsc=>?_
     have:vb.heap.size<vc.heap.size:=oM
     go_wp2_with fail;refine zC w (HM3 _) λvd hcd XP hBd hzd hsd=>?_
     have:vb.heap.size<vd.heap.size:=oM
     have:vc.heap.size<vd.heap.size:=oM
     go_wp2_with fail;refine zC w (JN _) λve hce hfe hBe hze hse=>?_
     have:vb.heap.size<ve.heap.size:=oM
     have:vc.heap.size<ve.heap.size:=oM
     have:vd.heap.size<ve.heap.size:=oM
     go_wp2_with fail;refine zC w (tT _) λvf zv hff hBf hzf hsf=>?_
     go_wp2_with fail;go_ret;exact⟨dQ sI,by go_grown⟩
   ·rw[decide_eq_false hle]
    rw[decide_eq_false hle]at Pq;have JN:=Pq;clear M1 Pq CW2 hle;rcases hL with⟨hl,rfl⟩|⟨hl,rfl⟩
    all_goals
     go_enter func386,ntmps386;go_wp2_with(first|(go_at_call 79;refine zC w (aY p _) λva hca hfa hBa hza hsa=>?_));refine zC w (XV _) λvb hcb hfb hBb hzb SZ=>?_
     go_wp2_with fail;refine zC w (HM2 _) λvc hcc hfc hBc hzc hsc=>?_
     have:vb.heap.size<vc.heap.size:=oM
     go_wp2_with fail;refine zC w (HM3 _) λvd hcd XP hBd hzd hsd=>?_
     have:vb.heap.size<vd.heap.size:=oM
     have:vc.heap.size<vd.heap.size:=oM
     go_wp2_with fail;refine zC w (JN _) λve hce hfe hBe hze hse=>?_
     have:vb.heap.size<ve.heap.size:=oM
     have:vc.heap.size<ve.heap.size:=oM
     have:vd.heap.size<ve.heap.size:=oM
     go_wp2_with fail;go_ret;exact⟨dQ sI,by go_grown⟩
theorem mO(p:dI)(load now:Int)(w:World)(hp:p.fit)(hn:aw load) :
 Calls prog 386 #[(.agg #[I6 p.min,I6 p.max,I6 p.target,I6 p.lz,I6 p.bp,I6 p.hold]),I6 load,I6 now] w (Rt (.bool (oy p load now)) (Bl w)):=by
 by_cases hk:p.xJ
 ·by_cases h1:now<1
  ·have:=gj hk
   have xR:oy p load now=false:=if_neg oM;have HF:=xR;clear hk xR;go_enter func386,ntmps386;go_wp2_with(first|(go_at_call 79;refine zM (aY p _) λv1 hb1=>?_;obtain⟨hc1,RN⟩:=nu hb1;have:Bl w v1:=Below.trans gW (hb1.mono (by first|omega|(simp;done)|(simp;omega)));have hs1:=hb1.size;(try simp only[World.size_alloc,World.size_setCell,World.size_drew]at hs1);clear hb1))
   go_ret;exact⟨dQ HF.symm,by go_grown⟩
  ·by_cases h2:1073741824<now
   ·have:=gj hk
    have xR:oy p load now=false:=if_neg oM;have HF:=xR;clear hk xR;go_enter func386,ntmps386;go_wp2_with(first|(go_at_call 79;refine zM (aY p _) λv2 hb2=>?_;obtain⟨hc2,hf2⟩:=nu hb2;have:Bl w v2:=Below.trans gW (hb2.mono (by first|omega|(simp;done)|(simp;omega)));have hs2:=hb2.size;(try simp only[World.size_alloc,World.size_setCell,World.size_drew]at hs2);clear hb2))
    go_ret;exact⟨dQ HF.symm,by go_grown⟩
   ·exact vN p load now (uY load) w hp hn hk oM oM (by unfold uY;omega)
 ·have:=jI hk
  have xR:oy p load now=false:=if_neg (λh=>hk h.1);have HF:=xR;clear hk xR;go_enter func386,ntmps386;go_wp2_with(first|(go_at_call 79;refine zM (aY p _) λv3 hb3=>?_;obtain⟨hc3,hf3⟩:=nu hb3;have:Bl w v3:=Below.trans gW (hb3.mono (by first|omega|(simp;done)|(simp;omega)));have hs3:=hb3.size;(try simp only[World.size_alloc,World.size_setCell,World.size_drew]at hs3);clear hb3))
  go_ret;exact⟨dQ HF.symm,by go_grown⟩
def Kj(p:dI)(load now:Int):Int:=if oy p load now then eR p now else eR p (xQ p load)
theorem Gl(p:dI)(load now:Int)(w:World)(hp:p.fit)(hn:aw load) :
 Calls prog 387 #[(.agg #[I6 p.min,I6 p.max,I6 p.target,I6 p.lz,I6 p.bp,I6 p.hold]),I6 load,I6 now] w (Rt (I6 (Kj p load now)) (Bl w)):=by
 cases h:oy p load now
 ·have HF:=(show Kj p load now=eR p (xQ p load) by unfold Kj;rw[h];rfl)
  go_enter func387,ntmps387;go_wp2_with(first|(go_at_call 386;refine zC w (mO p load now _ hp hn) λva hca hfa hBa hza hsa=>?_));have HS:va.cell? ⟨w.heap.size,0,none⟩=some (I6 p.min)/\va.cell? ⟨w.heap.size,1,none⟩=some (I6 p.max)/\va.cell? ⟨w.heap.size,2,none⟩=some (I6 p.target)/\va.cell? ⟨w.heap.size,3,none⟩=some (I6 p.lz)/\va.cell? ⟨w.heap.size,4,none⟩=some (I6 p.bp)/\va.cell? ⟨w.heap.size,5,none⟩=some (I6 p.hold)/\w.heap.size<va.heap.size/\Bl w va:=(by refine⟨?_,?_,?_,?_,?_,?_,?_,?_⟩<;>first|assumption|go_simp);clear hca hfa hBa hza hsa;go_region_held3(λw'=>w'.cell? ⟨w.heap.size,0,none⟩=some (I6 p.min)/\w'.cell? ⟨w.heap.size,1,none⟩=some (I6 p.max)/\w'.cell? ⟨w.heap.size,2,none⟩=some (I6 p.target)/\w'.cell? ⟨w.heap.size,3,none⟩=some (I6 p.lz)/\w'.cell? ⟨w.heap.size,4,none⟩=some (I6 p.bp)/\w'.cell? ⟨w.heap.size,5,none⟩=some (I6 p.hold)/\w.heap.size<w'.heap.size/\Bl w w') (first|(go_split_ands;refine am1 (by assumption) ?_ ?_ ?_ ?_ ?_ ?_ ?_ ?_<;>assumption)|exact J4 HS|(go_split_ands;refine⟨?_,?_,?_,?_,?_,?_,?_,?_⟩<;>assumption))
   (first
    |go_at_call 385;refine zM (rS p load _ hp hn) λw1 hb=>?_
    |(go_at_call 389;refine zM (lC p _ _) λw1 hb=>?_))
  have hz:=OH (by assumption);go_wp2;go_ret;exact⟨au HF.symm,hz⟩
 ·have HF:=(show Kj p load now=eR p now by unfold Kj;rw[h];rfl)
  go_enter func387,ntmps387;go_wp2_with(first|(go_at_call 386;refine zC w (mO p load now _ hp hn) λv4 Gj hf4 hB4 hz4 hs4=>?_)|(go_at_call 389;refine zM (lC p _ _) λv5 dx=>?_;obtain⟨hc5,hf5⟩:=nu dx;have:Bl w v5:=Below.trans gW (dx.mono (by first|omega|(simp;done)|(simp;omega)));have hs5:=dx.size;(try simp only[World.size_alloc,World.size_setCell,World.size_drew]at hs5);clear dx))
  go_ret;exact⟨au HF.symm,gW⟩
def Gs(A:Option Addr)(n c:Nat)(l:List Key)(w:World)(h:aK w 0 aS 2 Key.cells (.slice A n c) l) :
 Calls prog 400 #[.slice A n c] w λe w'=>e=.returned (.tuple #[])/\aK w' 0 aS 2 Key.cells (.slice A n c) l.reverse/\ah (λk=>(Value.slice A n c).ownBlock=some k) w w':=by
 have h0:=h;rcases h with⟨hv,rfl⟩|⟨g,off,cap,cur,hv,hb,hgg,mF,hcm,hcs,EZ⟩
 ·injection hv with e1 e2 e3
  subst e1;subst e2;subst e3;refine(AnyQ.slices_Reverse_empty ac3 none 0 w).mono ?_;rintro e w' ⟨rfl,rfl⟩;exact⟨rfl,h0,ah.refl _ _⟩
 ·injection hv with e1 e2 e3
  subst e1;subst e2;subst e3;have hc:=AnyQ.slices_Reverse ac3 2 Tryz.isAgg83 Tryz.sizeOf83 Key.cells cW wE g off c l.toArray w (aK.Sw h0) (by simp;unfold maxLen at hcm;omega);refine Calls.mono (show Calls prog 400 #[.slice (some ⟨g,off,none⟩) l.length c] w _ from hc) ?_;rintro e w' ⟨rfl,m,rfl⟩;obtain⟨h1,h2⟩:=aK.rev h0 m;refine⟨rfl,?_,?_⟩
  ·exact h1
  ·have:=h2.mono (T:=λk=>(Value.slice (some ⟨g,off,none⟩) l.length c).ownBlock=some k) (λk hk=>by simp[Value.ownBlock,hk])
   exact this
def Fi.turn(q:Fi):Fi:=if q.f=[]then⟨q.b.reverse,[]⟩else q
def Fi.xT(q:Fi):q.turn.all=q.all:=by
 unfold Fi.turn Fi.all
 split
 ·rename_i h;simp[h]
 ·rfl
def tM.swap{w:World}{B o:Nat}{ty:TypeId}{cs:Array Value}{vf vb:Value}{q:Fi}(h:tM w B o ty cs vf vb q) :
 dr w ((w.setCell ⟨B,o,none⟩ vb).setCell ⟨B,o+1,none⟩ (.slice none 0 0)) B o ty cs vf vb ((cs.setIfInBounds o vb).setIfInBounds (o+1) (.slice none 0 0)) vb (.slice none 0 0) ⟨q.b,[]⟩:=
 ⟨⟨(h.blk.aX _ _).aX _ _,(cF oM).trans (kK h.c0),kK ((cF oM).trans h.c1),(h.iG.far (λk hk e=>h.Aj (by rw[hk,e])) _).far (λk hk e=>h.Aj (by rw[hk,e])) _,aK.nil _ _ _ _ _,h.Aj,(λe=>by cases e),λk _ e=>by cases e⟩,
  ((ah.refl (λk=>k=B\/vf.ownBlock=some k\/vb.ownBlock=some k) w).setCell (.inl (.inl rfl)) _).setCell (.inl (.inl rfl)) _,λk hk=>hk.elim (λe=>.inr (.inl e)) (λe=>by cases e),sI,λi h0 h1=>(cF (Ne.symm h1)).trans (cF (Ne.symm h0))⟩
def tM.aw1{w w' : World}{B o:Nat}{ty:TypeId}{cs:Array Value}{vf vb:Value}{q:Fi}(h:tM w B o ty cs vf vb q)(ho:aK w' 0 aS 2 Key.cells vf q.f.reverse)(hu:ah (λk=>vf.ownBlock=some k) w w') :
 dr w w' B o ty cs vf vb cs vf vb {q with f:=q.f.reverse}:=
 ⟨⟨h.blk.upd hu h.FX,h.c0,h.c1,ho,h.iG.upd hu (λk hk e=>h.apart k e hk),h.FX,h.Aj,h.apart⟩,hu.mono (λk hk=>.inr (.inl hk)),λk hk=>hk.imp id .inl,rfl,λ_ _ _=>rfl⟩
theorem Yc(B o:Nat)(ty:TypeId)(cs:Array Value)(vf vb:Value)(q:Fi)(w:World)(h:tM w B o ty cs vf vb q) :
 Calls prog 393 #[.pointer (some ⟨B,o,none⟩)] w λe w'=>e=.returned (.tuple #[])/\FY w B o ty cs vf vb q.turn w':=by
 obtain⟨A,n,c,rfl,hn,-⟩:=h.jw.shape cW;have c0:=h.blk.ar h.c0
 by_cases h0:q.f=[]
 ·have hn0:n=0:=by rw[hn,h0];rfl
  subst hn0;have HQ:q.turn=⟨q.b.reverse,[]⟩:=if_pos h0;obtain⟨A2,n2,c2,rfl,fo,-⟩:=h.iG.shape cW;have c1:=h.blk.ar h.c1;have:=h.blk.frozen o;have:=h.blk.frozen (o+1);have X1:=h.swap;have HR:=(λW hW=>Gs A2 n2 c2 q.b W hW);clear h hn fo h0;go_enter func393,ntmps393;go_wp2_with(go_at_call 400;refine(HR _ X1.fi.jw).mono ?_;rintro e w3 ⟨rfl,kJ,jP⟩;have X3:=X1.trans (X1.fi.aw1 kJ jP);clear kJ jP)
  first|(refine bodyPost_ret (results_none rfl _ _ _) rfl ?_)|go_end0
  exact⟨rfl,_,_,_,HQ▸X3⟩
 ·have: ¬(n:Int)=0:=by
   have:q.f.length≠0:=λe=>h0 (aC0 e)
   omega
  have HQ:q.turn=q:=if_neg h0;have X1:=h.stay (Below.refl _ w);clear h hn h0;go_enter func393,ntmps393;go_wp2
  first|(refine bodyPost_ret (results_none rfl _ _ _) rfl ?_)|go_end0
  exact⟨rfl,_,_,_,HQ▸X1⟩
section
def nO:Key:=⟨0,0⟩
def Fi.get(q:Fi):(Key×Bool)×Fi:=match q.turn.f.reverse with|[]=>((nO,false),q)|x::L=>((x,true),⟨L.reverse,q.turn.b⟩)
theorem Fi.wG(q:Fi):(q.all=[]/\q.get=((nO,false),q))\/∃x L,q.turn.f=L++[x]/\q.all=x::(L.reverse++q.turn.b)/\q.get=((x,true),⟨L,q.turn.b⟩):=by
 unfold Fi.get;cases h:q.turn.f.reverse with
 |nil=>
  left
  refine⟨?_,rfl⟩;have h1:q.turn.f=[]:=sH h
  rw[<-Fi.xT];unfold Fi.turn at h1 |-
  split at h1
  ·rename_i h2
   rw[if_pos h2];simp at h1;simp[Fi.all,h1]
  ·rename_i h2;exact absurd h1 h2
 |cons x L=>
  right
  have h1:q.turn.f=L.reverse++[x]:=by
   have:=congrArg List.reverse h
   simpa using this
  exact⟨x,L.reverse,h1,by rw[<-Fi.xT];unfold Fi.all;rw[h];simp,sI⟩
section
variable{w w3:World}{B o:Nat}{ty:TypeId}{cs:Array Value}{vf vb v' : Value}{q:Fi}
def tM.aw2{L' : List Key}(h:tM w B o ty cs vf vb q)(hu:ah (λk=>vf.ownBlock=some k) w w3)(ho:aK w3 0 aS 2 Key.cells v' L')(hw:v'.ownBlock=vf.ownBlock) :
 dr w (w3.setCell ⟨B,o,none⟩ v') B o ty cs vf vb (cs.setIfInBounds o v') v' vb {q with f:=L'}:=by
 have hne:v'.ownBlock≠some B:=by rw[hw];exact h.FX
 have hl:=h.iG.upd hu (λk hk e=>h.apart k e hk);exact⟨⟨(h.blk.upd hu h.FX).aX _ _,kK h.c0,(cF oM).trans h.c1,ho.far (λk hk e=>hne (by rw[hk,e])) _,hl.far (λk hk e=>h.Aj (by rw[hk,e])) _,hne,h.Aj,λk hk=>h.apart k (hw▸hk)⟩,
  (hu.mono (λk hk=>.inr (.inl hk))).setCell (.inl (.inl rfl)) _,λk hk=>hk.elim (λe=>.inl (hw▸e)) (λe=>.inr (.inl e)),sI,λi h0 h1=>cF (Ne.symm h0)⟩
end
def aK.init{α:Type}{w:World}{base e size g off c:Nat}{cells:α->List Value}{L:List α}{x:α}(hsz:∀x,(cells x).length=size)(h:aK w base e size cells (.slice (some ⟨g,off,none⟩) (L.length+1) c) (L++[x])):aK w base e size cells (.slice (some ⟨g,off,none⟩) L.length c) L:=by
 rcases h with⟨h,_⟩|⟨g',tL,cap',cur,hv,hb,hg,mF,hcm,hcs,EZ⟩
 ·cases h
 injection hv with e1 e2 e3
 injection e1 with e1
 injection e1 with e1 e4
 subst e1;subst e4;subst e3;simp at mF;refine .inr ⟨g,off,c,cur,rfl,hb,hg,oM,hcm,hcs,?_⟩;have h1:=congrArg (List.take (L.length*size)) EZ;rw[aH4,aH0,aG9 (by rw[aZ hsz];exact aC2 _),aB5 (l:=L.flatMap cells) (by rw[aZ hsz];exact aC2 _)]at h1;rw[aG5 (by simp[aD6])]at h1;exact h1
def Ti(B o:Nat)(ty:TypeId)(cs:Array Value)(vf vb:Value)(g:(Key×Bool)×Fi)(w:World)(e:Ending)(w' : World):Prop:=e=.returned (.tuple #[.agg g.1.1.row,.bool g.1.2])/\FY w B o ty cs vf vb g.2 w'
theorem Px(B o:Nat)(ty:TypeId)(cs:Array Value)(vf vb:Value)(q:Fi)(w:World)(h:tM w B o ty cs vf vb q)(h0:q.all=[]) :
 Calls prog 380 #[.pointer (some ⟨B,o,none⟩)] w (Ti B o ty cs vf vb ((nO,false),q) w):=by
 have hl:q.f.length<=100000/\q.b.length<=100000:=by
  unfold Fi.all at h0;have:=congrArg List.length h0;simp at this;simp[this]
 have HL:=(λW hW=>Ka B o ty cs vf vb q W hW hl);rw[h0]at HL;have E2:=(zW w (.cells #[V6 0,V6 0] aS)).alloc sI (.cells #[V6 0,V6 0] aS);have H0:=h;clear h h0 hl;go_enter func380,ntmps380;go_wp2_with(first
  |go_at_call 381;refine zM (HL _ (H0.call E2)) λw3 hb3=>?_;have E3:=zT E2 hb3;have C0:=((ai.new w aS #[V6 0,V6 0]).alloc (.cells #[V6 0,V6 0] aS)).call hb3;have C1:=(ai.dR w (.cells #[V6 0,V6 0] aS) aS #[V6 0,V6 0]).call hb3;clear hb3
  |refine zI C1 underlying83 ?_
  |(refine zJ C0 ?_;intro w5 dx iK))
 refine bodyPost_ret (az rfl _ _ w.heap.size _ _ _ rfl dx underlying83 rfl kZ) rfl ⟨rfl,_,_,_,H0.stay (E3.trans (Only.below iK lR E3.size))⟩
end
end Go.Proofs.YtjgmjohiehbgaaaGreat
