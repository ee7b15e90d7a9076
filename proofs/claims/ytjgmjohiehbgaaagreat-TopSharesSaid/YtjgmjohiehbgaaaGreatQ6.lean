/- Part 6. -/
import Derived.Test.YtjgmjohiehbgaaaGreatQ1
import Derived.Test.YtjgmjohiehbgaaaGreatQ4
import Derived.Shelf.SlSortCmp.NoneTotal
namespace Go.Proofs.YtjgmjohiehbgaaaGreat
open Go.RowKit Go.Proofs.Tryz
set_option maxHeartbeats 20000000
set_option maxRecDepth 100000
set_option linter.all false
variable {B b o:Nat} {S:Nat->Prop} {b1 f1 u vb vf:Value} {cs cs1:Array Value} {k:Key} {ty:TypeId} {w w1 w2:World} {α:Type}
open Nat (lt_irrefl)
section
structure Fi where
 f:List Key
 b:List Key
deriving DecidableEq
def Fi.all (q:Fi):List Key:=q.f.reverse++q.b
def Fi.put (q:Fi) (k:Key):Fi:={q with b:=q.b++[k]}
theorem Fi.pq (q:Fi) (k:Key):(q.put k).all=q.all++[k]:=by unfold Fi.all Fi.put;simp
structure tM (w:World) (B o:Nat) (ty:TypeId) (cs:Array Value) (vf vb:Value) (q:Fi):Prop where
 blk:ai w B ty cs
 c0:cs[o]? = some vf
 c1:cs[o+1]? = some vb
 jw:aK w 0 aS 2 Key.cells vf q.f
 iG:aK w 0 aS 2 Key.cells vb q.b
 FX:vf.ownBlock≠some B
 Aj:vb.ownBlock≠some B
 apart:∀k,vf.ownBlock=some k->vb.ownBlock≠some k
structure dr (w w' : World) (B o:Nat) (ty:TypeId) (cs:Array Value) (vf vb:Value) (cs' : Array Value) (tv tx : Value) (q' : Fi):Prop where
 fi:tM w' B o ty cs' tv tx q'
 upd:ah (fun k=>k=B\/vf.ownBlock=some k\/vb.ownBlock=some k) w w'
 own:∀k,(tv.ownBlock=some k\/tx.ownBlock=some k)->vf.ownBlock=some k\/vb.ownBlock=some k\/w.heap.size<=k
 size:cs'.size=cs.size
 rest:∀i,i≠o->i≠o+1->cs'[i]? = cs[i]?
theorem kK {cs:Array Value} {i:Nat} {u0:Value} (h:cs[i]? = some u0):(cs.setIfInBounds i u)[i]? = some u:=by
 obtain⟨hi,-⟩:=aG7.1 h;simp[hi]
theorem cF {cs:Array Value} {i j:Nat} (h:i≠j):(cs.setIfInBounds i u)[j]? = cs[j]?:=by
 rw[Array.getElem?_setIfInBounds_ne h]
section
variable {w w' w3:World} {B o:Nat} {ty:TypeId} {cs:Array Value} {vf vb v' : Value} {q:Fi}
theorem tM.upd (h:tM w B o ty cs vf vb q) (hu:ah S w w') (h1:¬S B) (h2:∀k,vf.ownBlock=some k->¬S k) (h3:∀k,vb.ownBlock=some k->¬S k):tM w' B o ty cs vf vb q:=
 ⟨h.blk.upd hu h1,h.c0,h.c1,h.jw.upd hu h2,h.iG.upd hu h3,h.FX,h.Aj,h.apart⟩
theorem tM.call (h:tM w B o ty cs vf vb q) (hb:Bl w w'):tM w' B o ty cs vf vb q:=h.upd (S:=fun _=>False) (ah.aa hb) id (fun _ _=>id) (fun _ _=>id)
theorem tM.stay (h:tM w B o ty cs vf vb q) (hb:Bl w w'):dr w w' B o ty cs vf vb cs vf vb q:=⟨h.call hb,ah.aa hb,fun k hk=>hk.imp id .inl,rfl,fun _ _ _=>rfl⟩
theorem dr.pre {w0:World} {cs' : Array Value} {tv tx : Value} {q' : Fi} (h:dr w w' B o ty cs vf vb cs' tv tx q') (hb:Bl w0 w):dr w0 w' B o ty cs vf vb cs' tv tx q':=
 ⟨h.fi,(ah.aa hb:ah _ w0 w).trans h.upd iL,fun k hk=>(h.own k hk).imp id (fun e=>e.imp id (fun e=>aB4 hb.size e)),h.size,h.rest⟩
theorem dr.trans {Am:Array Value} {f2 b2:Value} {q1 q2:Fi} (h1:dr w w1 B o ty cs vf vb cs1 f1 b1 q1) (h2:dr w1 w2 B o ty cs1 f1 b1 Am f2 b2 q2):dr w w2 B o ty cs vf vb Am f2 b2 q2:=by
 refine⟨h2.fi,h1.upd.trans h2.upd ?_,fun k hk=>?_,h2.size.trans h1.size,fun i e0 e1=>(h2.rest i e0 e1).trans (h1.rest i e0 e1)⟩
 ·rintro k (rfl|hk)
  ·exact .inl (.inl rfl)
  ·rcases h1.own k hk with e|e|e
   ·exact .inl (.inr (.inl e))
   ·exact .inl (.inr (.inr e))
   ·exact .inr e
 ·rcases h2.own k hk with e|e|e
  ·exact h1.own k (.inl e)
  ·exact h1.own k (.inr e)
  ·exact .inr (.inr (aB4 h1.upd.size e))
theorem tM.av1 {L' : List Key} (h:tM w B o ty cs vf vb q) (hu:ah (fun k=>vb.ownBlock=some k) w w3) (ho:aK w3 0 aS 2 Key.cells v' L') (hw:v'.ownBlock=vb.ownBlock\/∃g,v'.ownBlock=some g/\w.heap.size<=g) :
 dr w (w3.setCell ⟨B,o+1,none⟩ v') B o ty cs vf vb (cs.setIfInBounds (o+1) v') vf v' {q with b:=L'}:=by
 have hne:v'.ownBlock≠some B:=by
  rcases hw with e|⟨g,e,hg⟩
  ·rw[e];exact h.Aj
  ·rw[e];intro e2;have:=h.blk.lt;cases e2;omega
 have hl:=h.jw.upd hu (fun k hk e=>h.apart k hk e);refine⟨⟨(h.blk.upd hu h.Aj).aX _ _,(cF oM).trans h.c0,kK h.c1,hl.far (fun k hk e=>h.FX (by rw[hk,e])) _,ho.far (fun k hk e=>hne (by rw[hk,e])) _,h.FX,hne,fun k hk Sv=>?_⟩,
  (hu.mono (fun k hk=>.inr (.inr hk))).setCell (.inl (.inl rfl)) _,fun k hk=>?_,sI,fun i h0 h1=>cF (Ne.symm h1)⟩
 ·rcases hw with e|⟨g,e,hg⟩
  ·rw[e]at Sv;exact h.apart k hk Sv
  ·rw[e]at Sv;injection Sv with Sv;have:=(h.jw.lt k hk).2;omega
 ·rcases hk with hk|hk
  ·exact .inl hk
  ·rcases hw with e|⟨g,e,hg⟩
   ·rw[e]at hk;exact .inr (.inl hk)
   ·rw[e]at hk;injection hk with hk;exact .inr (.inr oM)
end
theorem Ka (B o:Nat) (ty:TypeId) (cs:Array Value) (vf vb:Value) (q:Fi) (w:World) (h:tM w B o ty cs vf vb q) (hl:q.f.length<=100000/\q.b.length<=100000) :
 Calls prog 381 #[.pointer (some ⟨B,o,none⟩)] w (Rt (I6 (q.all.length:Nat)) (Bl w)):=by
 obtain⟨A,n,c,rfl,hn,-⟩:=h.jw.shape cW;obtain⟨A2,n2,c2,rfl,fo,-⟩:=h.iG.shape cW;have c0:=h.blk.ar h.c0;have c1:=h.blk.ar h.c1;have HQ:((q.all.length:Nat):Int)=(n:Int)+(n2:Int):=by unfold Fi.all;simp;omega
 have:n<=100000:=oM
 have:n2<=100000:=oM
 clear h hl hn fo;go_enter func381,ntmps381;go_wp2;go_quiet(fail);go_wp2;go_ret;exact⟨au HQ.symm,below_drewN bR _⟩
def FY (w:World) (B o:Nat) (ty:TypeId) (cs:Array Value) (vf vb:Value) (q' : Fi) (w' : World):Prop:=∃cs' tv tx,dr w w' B o ty cs vf vb cs' tv tx q'
theorem qE (B o:Nat) (ty:TypeId) (cs:Array Value) (vf vb:Value) (q:Fi) (k:Key) (w:World) (h:tM w B o ty cs vf vb q) (hl:q.b.length<100000) :
 Calls prog 358 #[.pointer (some ⟨B,o,none⟩),.agg k.row] w fun e w'=>e=.returned (.bool true)/\FY w B o ty cs vf vb (q.put k) w':=by
 have EX:=zW w (.cells k.row aS);have BX:=ai.new w aS k.row;have H0:=h.call EX;have Ap:=(fun w' cs' tv tx q' (h:dr (w.alloc (.cells k.row aS)) w' B o ty cs vf vb cs' tv tx q')=>h.pre EX);have hgx:vb.ownBlock≠some w.heap.size:=fun e=>by have:=h.iG.lt _ e;omega
 have mL:=hgx;have fJ:q.b.length<1000000:=oM
 obtain⟨A,n,c,rfl,hn,-⟩:=h.iG.shape cW;have JN:=h.c1;clear h hl hn hgx EX;go_enter func358,ntmps358;go_upto_region 3 with fail
 generalize w.alloc (.cells k.row aS)=W0 at *;generalize w.heap.size=gx at *;refine zr (fun j=>[10].contains j) (fun wS=>ah (fun k=>(Value.slice A n c).ownBlock=some k) W0 wS) ?_;have S0:=(ah.refl (fun k=>(Value.slice A n c).ownBlock=some k) W0).drew;refine zk 6 [0,1,2,3,4] [_,_,.pointer (some ⟨B,o,none⟩),.pointer (some ⟨B,o+1,none⟩),.slice A n c] (.q zX<|.q zX<|.q zX<|.q zX<|.q (zS fun _ h=>(H0.blk.upd h H0.Aj).ar JN) .nil) S0 ?_;refine zk 5 [5] [_] (.c rfl rfl (zl fun _ h=>zb (BX.upd h mL) underlying83) .nil) S0 ?_;refine zQ 6 ?_;obtain⟨G,hG,bG,lG⟩:=iA (S:=S0) (k.row) 83;go_wp2_with fail;refine .i (S0.alloc _) ?_
 (try simp only[hG])
 clear hG;have SG:=S0.alloc (.cells (k.row) 83);refine zQ 7 ?_;go_wp2_with(refine cX _ rfl (.tmp 11) (.tmp 13) 29 rfl 0 83 _ 2 16 Key.cells underlying29 FQ rF dC (fun _=>rfl) wE (.slice A n c) q.b rfl ((H0.iG.cD 1).alloc _) ⟨G,0,none⟩ 1 k rfl (br (α:=Key) (bG) rfl) fJ dC (aB6 _) ?_;intro v' w3 kJ jP hw3;have hU:=(SG).trans jP iL;have hW3:v'.ownBlock=(Value.slice A n c).ownBlock\/∃g,v'.ownBlock=some g/\W0.heap.size<=g:=hw3.imp id (fun e=>⟨_,e,(SG).size⟩);have X3:=H0.av1 hU kJ hW3;have xC:=H0.blk.upd hU H0.Aj;have:=xC.ar JN;have:=xC.frozen (o+1);obtain⟨A',n',c',rfl,-,-⟩:=kJ.shape cW;clear hU hW3 xC kJ hw3);refine .i (SG.trans jP iL) ?_;have S3:=SG.trans jP iL;refine zQ 8 ?_;go_wp2_with fail;refine .i S3 ?_;refine zq 1 [9] [.pointer (some ⟨B,o+1,none⟩)] S3 ?_;refine aq _ _ _ _ kZ ?_;refine zO 10 (fun Q2 aI=>?_);go_wp2_with fail;(try refine aI _ _ ?_);(try clear aI Q2)
 refine wpAny_done kZ ?_ _;go_wp2;go_ret;exact⟨rfl,_,_,_,(Ap _ _ _ _ _ X3)⟩
end
section
open Go.RowKit Go.Sort
theorem qF [Inhabited α] (enc:α->List Value) (k:Nat) (hk:∀x,(enc x).length=k) (d:Array α):(flatK enc k d).toList=d.toList.flatMap enc:=by
 apply List.ext_getElem?;intro t;have hlen:(d.toList.flatMap enc).length=d.size*k:=by rw[aZ hk];simp
 by_cases ht:t<d.size*k
 ·have k0:0<k:=Nat.pos_of_ne_zero fun e=>by subst e;simp at ht
  have hq:t / k<d.size:=Nat.div_lt_of_lt_mul (by rw[aF5];exact ht);have hr:t % k<k:=Nat.mod_lt _ k0;have h1:=ic hk d.toList (t / k) (t % k) d[t / k] (by simp[hq]) hr;rw[show t / k*k+t % k=t from Nat.div_add_mod' t k]at h1;rw[h1];have hs:t<(flatK enc k d).size:=by rw[size_flatK];exact ht
  rw[aF7,aC6 hs,<-getElem!_pos (flatK enc k d) t hs,(get_flatK enc k d t ht),getElem!_pos d _ hq,aB3 (by rw[hk];exact hr)]
  congr 1
  exact getElem!_pos _ _ _
 ·rw[aF6 sM,aF6 (by rw[hlen];omega)]
theorem p8 (w:World) (g:Nat) (f:Array Value->Array Value) (c:Array Value) (e:TypeId) (fr:Nat×Nat) (h:w.heap[g]? = some (.cells c e fr)):(mapBlock w g f).heap[g]? = some (.cells (f c) e fr):=by
 unfold mapBlock;simp only[Array.getElem?_modify,if_true,h,Option.map_some]
 rfl
theorem kL (w:World) (g k:Nat) (f:Array Value->Array Value) (h:k≠g):(mapBlock w g f).heap[k]? = w.heap[k]?:=by
 unfold mapBlock;simp[Array.getElem?_modify,Ne.symm h]
theorem rN (off:Nat) (F c:Array Value) (h:off+F.size<=c.size):((putCells id off F c).toList.drop off).take F.size=F.toList:=by
 apply List.ext_getElem?;intro t;rw[aE2]
 by_cases ht:t<F.size
 ·rw[if_pos ht,aE3]
  unfold putCells;rw[aF7,Array.getElem?_mapIdx,aC6 oM,Option.map_some,if_pos ⟨oM,oM⟩,aF7,aC6 ht];simp only[id,Nat.add_sub_cancel_left];rw[getElem!_pos F t ht]
 ·rw[if_neg ht,aF6 sM]
instance:Inhabited Key:=⟨⟨0,0⟩⟩
section
variable {w:World} {base g off n cap:Nat} {l:List Key}
theorem aK.Sw (h:aK w base aS 2 Key.cells (.slice (some ⟨g,off,none⟩) n cap) l):HoldsK Key.cells 2 w g off l.toArray:=by
 intro j hj;rw[size_flatK]at hj;have hs:j<(flatK Key.cells 2 l.toArray).size:=by rw[size_flatK];exact hj
 have hg:(l.flatMap Key.cells)[j]? = some ((flatK Key.cells 2 l.toArray)[j]!):=by
  have e:(flatK Key.cells 2 l.toArray).toList[j]? = some ((flatK Key.cells 2 l.toArray)[j]!):=by
   rw[aF7,aC6 hs,getElem!_pos (flatK Key.cells 2 l.toArray) j hs]
  rw[(qF Key.cells 2 cW l.toArray)]at e;exact e
 have hc:=h.Dc (a:=⟨g,off,none⟩) rfl j _ hg;rw[Addr.add_lit]at hc;refine⟨hc,?_⟩;rcases h with⟨h,_⟩|⟨g',tL,cap',cur,hv,hb,hgg,_⟩
 ·cases h
 ·injection hv with e1
  injection e1 with e1
  injection e1 with e1 e2
  subst e1;simp[World.frozen?,hgg]
theorem aK.rev (h:aK w base aS 2 Key.cells (.slice (some ⟨g,off,none⟩) n cap) l) (m:Nat) :
 aK (putRowK Key.cells 2 (Sort.ahead w m) g off l.toArray.reverse) base aS 2 Key.cells (.slice (some ⟨g,off,none⟩) n cap) l.reverse/\ah (fun k=>k=g) w (putRowK Key.cells 2 (Sort.ahead w m) g off l.toArray.reverse):=by
 rcases h with⟨h,_⟩|⟨g',tL,cap',cur,hv,hb,hgg,mF,hcm,hcs,EZ⟩
 ·cases h
 injection hv with e1 e3 e4
 injection e1 with e1
 injection e1 with e1 e2
 subst e1;subst e2;subst e4;subst e3;have hsz:(flatK Key.cells 2 l.toArray.reverse).size=l.length*2:=by rw[size_flatK];simp
 refine⟨.inr ⟨g,off,cap,putCells id off (flatK Key.cells 2 l.toArray.reverse) cur,sI,hb,p8 (Sort.ahead w m) g _ cur aS (0,0) hgg,sH mF,hcm,?_,?_⟩,?_⟩
 ·unfold putCells;simpa using hcs
 ·have h1:=rN off (flatK Key.cells 2 l.toArray.reverse) cur (oH hsz)
  rw[hsz]at h1;rw[List.length_reverse,h1,qF Key.cells 2 cW];simp
 ·exact⟨rfl,rfl,rfl,by simp[putRowK,putRow,mapBlock,Sort.ahead],fun k hk hn=>kL (Sort.ahead w m) g k _ hn⟩
end
end
def jR (x y:Key):Int:=if x=y then 0 else if x.hi<y.hi\/(x.hi=y.hi/\x.lo<y.lo)then -1 else 1
theorem tN (x y:Key) (w:World):Calls prog 152 #[.agg x.row,.agg y.row] w fun e w'=>e=.returned (I6 (jR x y))/\w' = (w.alloc (.cells x.row aS)).alloc (.cells y.row aS):=by
 obtain⟨q1,q2,q3⟩:=qC x y
 by_cases h1:x=y
 ·have hq:jQ x y=true:=decide_eq_true h1
  have HR:jR x y=0:=if_pos h1;rw[hq]at q2 q3;rw[HR];clear h1 hq;go_enter func152,ntmps152;go_wp2;go_ret;exact⟨rfl,rfl⟩
 ·have hq:jQ x y=false:=decide_eq_false h1
  rw[hq]at q2 q3
  by_cases h2:x.hi<y.hi\/(x.hi=y.hi/\x.lo<y.lo)
  ·have HR:jR x y = -1:=by unfold jR;rw[if_neg h1,if_pos h2]
   rw[HR];rcases h2 with h2|⟨h2,h3⟩
   ·clear h1 hq
    go_enter func152,ntmps152;go_wp2
    all_goals first|(exfalso;omega)|(go_ret;exact⟨rfl,rfl⟩)
   ·have:((x.hi:Int)==(y.hi:Int))=true:=by simp;omega
    have: ¬x.hi<y.hi:=oM
    clear h1 hq;go_enter func152,ntmps152;go_wp2
    all_goals first|(exfalso;omega)|(go_ret;exact⟨rfl,rfl⟩)
  ·have HR:jR x y=1:=by unfold jR;rw[if_neg h1,if_neg h2]
   rw[HR];have: ¬x.hi<y.hi:=oM
   by_cases h3:x.hi=y.hi
   ·have:((x.hi:Int)==(y.hi:Int))=true:=by simp;omega
    have: ¬x.lo<y.lo:=oM
    clear h1 hq h2 h3;go_enter func152,ntmps152;go_wp2
    all_goals first|(exfalso;omega)|(go_ret;exact⟨rfl,rfl⟩)
   ·have:((x.hi:Int)==(y.hi:Int))=false:=by simp;omega
    clear h1 hq h2 h3;go_enter func152,ntmps152;go_wp2
    all_goals first|(exfalso;omega)|(go_ret;exact⟨rfl,rfl⟩)
def xD (x y:Key):Bool:=decide (x.hi<y.hi\/(x.hi=y.hi/\x.lo<y.lo))
theorem Nc {x y:Key} (h1:x.hi=y.hi) (h2:x.lo=y.lo):x=y:=by
 cases x;cases y;simp at h1 h2;rw[h1,h2]
def Kb (x:Key):List Key->List Key
 |[]=>[x]
 |y::l=>if xD y x then y::Kb x l else x::y::l
def eW:List Key->List Key
 |[]=>[]
 |x::l=>Kb x (eW l)
def Xh (x y:Key):Prop:=xD y x=false
theorem Ca (x:Key) (l:List Key):(Kb x l).Perm (x::l):=by
 induction l with
 |nil=>exact List.Perm.refl _
 |cons y l ih=>
  unfold Kb
  split
  ·exact((ih.cons y).trans (List.Perm.swap x y l))
  ·exact List.Perm.refl _
theorem fg (l:List Key):(eW l).Perm l:=by
 induction l with
 |nil=>exact List.Perm.refl _
 |cons x l ih=>exact(Ca x _).trans (ih.cons x)
theorem FZ (x:Key) (l:List Key) (h:l.Pairwise Xh):(Kb x l).Pairwise Xh:=by
 induction l with
 |nil=>simp[Kb]
 |cons y l ih=>
  obtain⟨h1,h2⟩:=aI6.1 h;unfold Kb
  split
  ·rename_i hl
   refine aI6.2 ⟨fun z hz=>?_,ih h2⟩;rcases aE7.1 ((Ca x l).mem_iff.1 hz)with rfl|hz
   ·unfold Xh xD at *;simp at hl |-;omega
   ·exact h1 z hz
  ·rename_i hl
   refine aI6.2 ⟨fun z hz=>?_,h⟩;rcases aE7.1 hz with rfl|hz
   ·unfold Xh;simpa using hl
   ·have:=h1 z hz
    unfold Xh xD at *;simp at hl this |-;omega
theorem rO (l:List Key):(eW l).Pairwise Xh:=by
 induction l with
 |nil=>exact List.Pairwise.nil
 |cons x l ih=>exact FZ x _ ih
theorem ny {l m:List Key} (hp:l.Perm m) (hs:l.Pairwise Xh):l=eW m:=
 (hp.trans (fg m).symm).eq_of_pairwise (fun a b _ _ h1 h2=>by unfold Xh xD at h1 h2;simp at h1 h2;exact Nc oM oM) hs (rO m)
section
open Go.RowKit Go.Sort Go.Shelf
theorem pw:ltOf jR=xD:=by
 funext x y
 unfold ltOf jR xD
 by_cases h1:x=y
 ·subst h1;simp
 ·rw[if_neg h1]
  by_cases h2:x.hi<y.hi\/(x.hi=y.hi/\x.lo<y.lo)
  ·rw[if_pos h2];simp[h2]
  ·rw[if_neg h2];simp;omega
theorem XL:SWO (ltOf jR):=by
 rw[pw];unfold xD;refine⟨fun x=>sI,fun x y z h1 h2=>?_,fun x y z h1 h2=>?_⟩
 ·simp at h1 h2 |-;omega
 ·simp at h1 h2 |-;omega
section
variable {w:World} {base g off n cap:Nat} {l l' : List Key}
theorem aK.av2 (h:aK w base aS 2 Key.cells (.slice (some ⟨g,off,none⟩) n cap) l) (m:Nat) (hl:l'.length=l.length) :
 aK (putRowK Key.cells 2 (Sort.ahead w m) g off l'.toArray) base aS 2 Key.cells (.slice (some ⟨g,off,none⟩) n cap) l'/\ah (fun k=>k=g) w (putRowK Key.cells 2 (Sort.ahead w m) g off l'.toArray):=by
 rcases h with⟨h,_⟩|⟨g',tL,cap',cur,hv,hb,hgg,mF,hcm,hcs,EZ⟩
 ·cases h
 injection hv with e1 e3 e4
 injection e1 with e1
 injection e1 with e1 e2
 subst e1;subst e2;subst e4;subst e3;have hsz:(flatK Key.cells 2 l'.toArray).size=l.length*2:=by rw[size_flatK];simp[hl]
 refine⟨.inr ⟨g,off,cap,putCells id off (flatK Key.cells 2 l'.toArray) cur,by rw[hl],hb,p8 (Sort.ahead w m) g _ cur aS (0,0) hgg,hl▸mF,hcm,?_,?_⟩,?_⟩
 ·unfold putCells;simpa using hcs
 ·have h1:=rN off (flatK Key.cells 2 l'.toArray) cur (oH hsz)
  rw[hsz]at h1;rw[hl,h1,qF Key.cells 2 cW]
 ·exact⟨rfl,rfl,rfl,by simp[putRowK,putRow,mapBlock,Sort.ahead],fun k hk hn=>kL (Sort.ahead w m) g k _ hn⟩
end
theorem xE (w:World) (os:Array Obj):Bl w (grow w os):=by
 refine⟨rfl,rfl,rfl,by simp[grow],fun k hk=>?_⟩;simp[grow,Array.getElem?_append,hk]
theorem F8 (W:World) (o1 o2:Obj):(W.alloc o1).alloc o2=grow (W.drewN 0) #[o1,o2]:=by
 have e:W.heap++#[o1,o2]=(W.heap.push o1).push o2:=by
  apply Array.toList_inj.1;rw[Array.toList_append,Array.toList_push,Array.toList_push,aC7]
  rfl
 unfold grow
 show _ = {W.drewN 0 with heap:=W.heap++#[o1,o2]}
 rw[e]
 rfl
theorem OW (blk off size:Nat) (w:World):CmpLays prog 152 #[] Key.cells 2 jR blk off size w:=by
 intro m os dk hs x y;refine(tN x y _).mono ?_;rintro e w' ⟨rfl,rfl⟩;exact⟨rfl,0,#[.cells x.row aS,.cells y.row aS],F8 _ _ _⟩
theorem Aq {base:Nat} (v:Value) (l:List Key) (w:World) (h:aK w base aS 2 Key.cells v l) (hl:l.length<=100000) :
 Calls prog 198 #[v,.func (.func 152) #[] #[]] w fun e w'=>e=.returned (.tuple #[])/\aK w' base aS 2 Key.cells v (eW l)/\ah (fun k=>v.ownBlock=some k) w w':=by
 have h0:=h;rcases h with⟨rfl,e⟩|⟨g,off,cap,cur,hv,hb,hgg,mF,hcm,hcs,EZ⟩
 ·subst e
  refine(AnyF.slices_SortFunc_none ac8 none 0 _ w).mono ?_;rintro e w' ⟨rfl,rfl⟩;exact⟨rfl,h0,ah.refl _ _⟩
 ·subst hv
  have hc:=AnyQ.slices_SortFunc ac8 2 (fun w=>kZ) (fun w=>kZ) Key.cells cW wE jR XL 152 #[] g off cap l.toArray w (enters_of func152 kZ rfl) (OW g off _ w) h0.Sw (by obtain⟨hi,-⟩:=aG7.1 hgg;exact hi) sM;rw[show l.toArray.size=l.length from sI]at hc;refine hc.mono ?_;rintro e w' ⟨rfl,d',n,os,hp,hs,rfl⟩;obtain⟨p1,-,p3⟩:=hp;have e1:(d'.extract 0 l.length).toList=d'.toList:=by
   have:d'.size=l.length:=by rw[p1];simp
   rw[<-this];simp
  have e2:((l.toArray).extract 0 l.length).toList=l:=sI
  rw[e1,e2]at p3;have:d'.size=l.length:=by rw[p1];simp
  have hs2:d'.toList.Pairwise Xh:=by
   rw[List.pairwise_iff_getElem];intro i j hi hj hij;have h3:=hs i j (aB6 _) hij (by simp at hj;omega);rw[pw]at h3;unfold Xh;simp at hi hj;rw[getElem!_pos d' j hj,getElem!_pos d' i hi]at h3
   simpa using h3
  have hd:d'.toList=eW l:=ny p3 hs2;have hd2:d' = (eW l).toArray:=by rw[<-hd]
  have hlen:(eW l).length=l.length:=(fg l).length_eq;subst hd2;obtain⟨k1,k2⟩:=h0.av2 (l':=eW l) n hlen;unfold sortWorldK;refine⟨rfl,k1.call (xE _ os),?_⟩;exact(k2.call (xE _ os)).mono fun k hk=>by subst hk;rfl
end
theorem Gs (A:Option Addr) (n c:Nat) (l:List Key) (w:World) (h:aK w 0 aS 2 Key.cells (.slice A n c) l) :
 Calls prog 400 #[.slice A n c] w fun e w'=>e=.returned (.tuple #[])/\aK w' 0 aS 2 Key.cells (.slice A n c) l.reverse/\ah (fun k=>(Value.slice A n c).ownBlock=some k) w w':=by
 have h0:=h;rcases h with⟨hv,rfl⟩|⟨g,off,cap,cur,hv,hb,hgg,mF,hcm,hcs,EZ⟩
 ·injection hv with e1 e2 e3
  subst e1;subst e2;subst e3;refine(AnyQ.slices_Reverse_empty ac3 none 0 w).mono ?_;rintro e w' ⟨rfl,rfl⟩;exact⟨rfl,h0,ah.refl _ _⟩
 ·injection hv with e1 e2 e3
  subst e1;subst e2;subst e3;have hc:=AnyQ.slices_Reverse ac3 2 Tryz.isAgg83 Tryz.sizeOf83 Key.cells cW wE g off c l.toArray w (aK.Sw h0) (by simp;unfold maxLen at hcm;omega);refine Calls.mono (show Calls prog 400 #[.slice (some ⟨g,off,none⟩) l.length c] w _ from hc) ?_;rintro e w' ⟨rfl,m,rfl⟩;obtain⟨h1,h2⟩:=aK.rev h0 m;refine⟨rfl,?_,?_⟩
  ·exact h1
  ·have:=h2.mono (T:=fun k=>(Value.slice (some ⟨g,off,none⟩) l.length c).ownBlock=some k) (fun k hk=>by simp[Value.ownBlock,hk])
   exact this
def Fi.turn (q:Fi):Fi:=if q.f=[]then⟨q.b.reverse,[]⟩else q
theorem Fi.xT (q:Fi):q.turn.all=q.all:=by
 unfold Fi.turn Fi.all
 split
 ·rename_i h;simp[h]
 ·rfl
theorem tM.swap {q:Fi} (h:tM w B o ty cs vf vb q):
 dr w ((w.setCell ⟨B,o,none⟩ vb).setCell ⟨B,o+1,none⟩ (.slice none 0 0)) B o ty cs vf vb ((cs.setIfInBounds o vb).setIfInBounds (o+1) (.slice none 0 0)) vb (.slice none 0 0) ⟨q.b,[]⟩:=
 ⟨⟨(h.blk.aX _ _).aX _ _,(cF oM).trans (kK h.c0),kK ((cF oM).trans h.c1),(h.iG.far (fun k hk e=>h.Aj (by rw[hk,e])) _).far (fun k hk e=>h.Aj (by rw[hk,e])) _,aK.nil _ _ _ _ _,h.Aj,(fun e=>by cases e),fun k _ e=>by cases e⟩,
  ((ah.refl (fun k=>k=B\/vf.ownBlock=some k\/vb.ownBlock=some k) w).setCell (.inl (.inl rfl)) _).setCell (.inl (.inl rfl)) _,fun k hk=>hk.elim (fun e=>.inr (.inl e)) (fun e=>by cases e),sI,fun i h0 h1=>(cF (Ne.symm h1)).trans (cF (Ne.symm h0))⟩
theorem tM.aw1 {w': World} {q:Fi} (h:tM w B o ty cs vf vb q) (ho:aK w' 0 aS 2 Key.cells vf q.f.reverse) (hu:ah (fun k=>vf.ownBlock=some k) w w'):
 dr w w' B o ty cs vf vb cs vf vb {q with f:=q.f.reverse}:=
 ⟨⟨h.blk.upd hu h.FX,h.c0,h.c1,ho,h.iG.upd hu (fun k hk e=>h.apart k e hk),h.FX,h.Aj,h.apart⟩,hu.mono (fun k hk=>.inr (.inl hk)),fun k hk=>hk.imp id .inl,rfl,fun _ _ _=>rfl⟩
theorem Yc (B o:Nat) (ty:TypeId) (cs:Array Value) (vf vb:Value) (q:Fi) (w:World) (h:tM w B o ty cs vf vb q) :
 Calls prog 393 #[.pointer (some ⟨B,o,none⟩)] w fun e w'=>e=.returned (.tuple #[])/\FY w B o ty cs vf vb q.turn w':=by
 obtain⟨A,n,c,rfl,hn,-⟩:=h.jw.shape cW;have c0:=h.blk.ar h.c0
 by_cases h0:q.f=[]
 ·have hn0:n=0:=by rw[hn,h0];rfl
  subst hn0;have HQ:q.turn=⟨q.b.reverse,[]⟩:=if_pos h0;obtain⟨A2,n2,c2,rfl,fo,-⟩:=h.iG.shape cW;have c1:=h.blk.ar h.c1;have:=h.blk.frozen o;have:=h.blk.frozen (o+1);have X1:=h.swap;have HR:=(fun W hW=>Gs A2 n2 c2 q.b W hW);clear h hn fo h0;go_enter func393,ntmps393;go_wp2_with(go_at_call 400;refine(HR _ X1.fi.jw).mono ?_;rintro e w3 ⟨rfl,kJ,jP⟩;have X3:=X1.trans (X1.fi.aw1 kJ jP);clear kJ jP)
  first|(refine bodyPost_ret (results_none rfl _ _ _) rfl ?_)|go_end0
  exact⟨rfl,_,_,_,HQ▸X3⟩
 ·have: ¬(n:Int)=0:=by
   have:q.f.length≠0:=fun e=>h0 (aC0 e)
   omega
  have HQ:q.turn=q:=if_neg h0;have X1:=h.stay (Below.refl _ w);clear h hn h0;go_enter func393,ntmps393;go_wp2
  first|(refine bodyPost_ret (results_none rfl _ _ _) rfl ?_)|go_end0
  exact⟨rfl,_,_,_,HQ▸X1⟩
section
def nO:Key:=⟨0,0⟩
def Fi.get (q:Fi):(Key×Bool)×Fi:=match q.turn.f.reverse with|[]=>((nO,false),q)|x::L=>((x,true),⟨L.reverse,q.turn.b⟩)
theorem Fi.wG (q:Fi):(q.all=[]/\q.get=((nO,false),q))\/∃x L,q.turn.f=L++[x]/\q.all=x::(L.reverse++q.turn.b)/\q.get=((x,true),⟨L,q.turn.b⟩):=by
 unfold Fi.get;cases h:q.turn.f.reverse with
 |nil=>
  left
  refine⟨?_,rfl⟩;have h1:q.turn.f=[]:=sH h
  rw[<-Fi.xT];unfold Fi.turn at h1 |-
  split at h1
  ·rename_i h2
   rw[if_pos h2];simp at h1;simp[Fi.all,h1]
  ·rename_i h2;exact absurd h1 h2
 |cons x L=>
  right
  have h1:q.turn.f=L.reverse++[x]:=by
   have:=congrArg List.reverse h
   simpa using this
  exact⟨x,L.reverse,h1,by rw[<-Fi.xT];unfold Fi.all;rw[h];simp,sI⟩
section
variable {w w3:World} {B o:Nat} {ty:TypeId} {cs:Array Value} {vf vb v' : Value} {q:Fi}
theorem tM.aw2 {L' : List Key} (h:tM w B o ty cs vf vb q) (hu:ah (fun k=>vf.ownBlock=some k) w w3) (ho:aK w3 0 aS 2 Key.cells v' L') (hw:v'.ownBlock=vf.ownBlock) :
 dr w (w3.setCell ⟨B,o,none⟩ v') B o ty cs vf vb (cs.setIfInBounds o v') v' vb {q with f:=L'}:=by
 have hne:v'.ownBlock≠some B:=by rw[hw];exact h.FX
 have hl:=h.iG.upd hu (fun k hk e=>h.apart k e hk);exact⟨⟨(h.blk.upd hu h.FX).aX _ _,kK h.c0,(cF oM).trans h.c1,ho.far (fun k hk e=>hne (by rw[hk,e])) _,hl.far (fun k hk e=>h.Aj (by rw[hk,e])) _,hne,h.Aj,fun k hk=>h.apart k (hw▸hk)⟩,
  (hu.mono (fun k hk=>.inr (.inl hk))).setCell (.inl (.inl rfl)) _,fun k hk=>hk.elim (fun e=>.inl (hw▸e)) (fun e=>.inr (.inl e)),sI,fun i h0 h1=>cF (Ne.symm h0)⟩
end
theorem aK.init {w:World} {base e size g off c:Nat} {cells:α->List Value} {L:List α} {x:α} (hsz:∀x,(cells x).length=size) (h:aK w base e size cells (.slice (some ⟨g,off,none⟩) (L.length+1) c) (L++[x])):aK w base e size cells (.slice (some ⟨g,off,none⟩) L.length c) L:=by
 rcases h with⟨h,_⟩|⟨g',tL,cap',cur,hv,hb,hg,mF,hcm,hcs,EZ⟩
 ·cases h
 injection hv with e1 e2 e3
 injection e1 with e1
 injection e1 with e1 e4
 subst e1;subst e4;subst e3;simp at mF;refine .inr ⟨g,off,c,cur,rfl,hb,hg,oM,hcm,hcs,?_⟩;have h1:=congrArg (List.take (L.length*size)) EZ;rw[aH6,aH0,aH8 (by rw[aZ hsz];exact aC1 _),aB5 (l:=L.flatMap cells) (by rw[aZ hsz];exact aC1 _)]at h1;rw[aH2 (by simp[aD8])]at h1;exact h1
def Ti (B o:Nat) (ty:TypeId) (cs:Array Value) (vf vb:Value) (g:(Key×Bool)×Fi) (w:World) (e:Ending) (w' : World):Prop:=e=.returned (.tuple #[.agg g.1.1.row,.bool g.1.2])/\FY w B o ty cs vf vb g.2 w'
theorem Px (B o:Nat) (ty:TypeId) (cs:Array Value) (vf vb:Value) (q:Fi) (w:World) (h:tM w B o ty cs vf vb q) (h0:q.all=[]) :
 Calls prog 380 #[.pointer (some ⟨B,o,none⟩)] w (Ti B o ty cs vf vb ((nO,false),q) w):=by
 have hl:q.f.length<=100000/\q.b.length<=100000:=by
  unfold Fi.all at h0;have:=congrArg List.length h0;simp at this;simp[this]
 have HL:=(fun W hW=>Ka B o ty cs vf vb q W hW hl);rw[h0]at HL;have E2:=(zW w (.cells #[V6 0,V6 0] aS)).alloc sI (.cells #[V6 0,V6 0] aS);have H0:=h;clear h h0 hl;go_enter func380,ntmps380;go_wp2_with(first
  |go_at_call 381;refine zM (HL _ (H0.call E2)) fun w3 hb3=>?_;have E3:=zT E2 hb3;have C0:=((ai.new w aS #[V6 0,V6 0]).alloc (.cells #[V6 0,V6 0] aS)).call hb3;have C1:=(ai.dR w (.cells #[V6 0,V6 0] aS) aS #[V6 0,V6 0]).call hb3;clear hb3
  |refine zI C1 underlying83 ?_
  |(refine zJ C0 ?_;intro w5 dx iK))
 refine bodyPost_ret (az rfl _ _ w.heap.size _ _ _ rfl dx underlying83 rfl kZ) rfl ⟨rfl,_,_,_,H0.stay (E3.trans (Only.below iK lR E3.size))⟩
end
theorem wrap_small {n:Nat} (h:n<=200000):IntKind.i64.wrap (n:Int)=(n:Int):=by
 rw[IntKind.wrap_i64];omega
theorem dr.call {q1:Fi} (h1:dr w w1 B o ty cs vf vb cs1 f1 b1 q1) (hb:Bl w1 w2):dr w w2 B o ty cs vf vb cs1 f1 b1 q1:=h1.trans (h1.fi.stay hb)
theorem dr.keep {q1:Fi} (h1:dr w w1 B o ty cs vf vb cs1 f1 b1 q1) (hu:ah S w1 w2) (hB:¬S B) (hf:∀k,(f1.ownBlock=some k\/b1.ownBlock=some k)->¬S k) (hS:∀k,S k->w.heap.size<=k):dr w w2 B o ty cs vf vb cs1 f1 b1 q1:=
 ⟨h1.fi.upd hu hB (fun k hk=>hf k (.inl hk)) (fun k hk=>hf k (.inr hk)),h1.upd.trans hu (fun k hk=>.inr (hS k hk)),h1.own,h1.size,h1.rest⟩
theorem dr.drewN {w': World} {cs': Array Value} {tv tx: Value} {q' : Fi} (h:dr w w' B o ty cs vf vb cs' tv tx q') (n:Nat):dr w (w'.drewN n) B o ty cs vf vb cs' tv tx q':=
 ⟨⟨h.fi.blk.drewN n,h.fi.c0,h.fi.c1,h.fi.jw.cD n,h.fi.iG.cD n,h.fi.FX,h.fi.Aj,h.fi.apart⟩,h.upd.cD n,h.own,h.size,h.rest⟩
theorem Kr (B o:Nat) (ty:TypeId) (cs:Array Value) (vf vb:Value) (q:Fi) (x:Key) (L:List Key) (w:World) (h:tM w B o ty cs vf vb q) (hl:q.f.length<=100000/\q.b.length<=100000) (h0:q.all≠[]) (ht:q.turn.f=L++[x]) :
 Calls prog 380 #[.pointer (some ⟨B,o,none⟩)] w (Ti B o ty cs vf vb ((x,true),⟨L,q.turn.b⟩) w):=by
 have HL:=(fun W hW=>Ka B o ty cs vf vb q W hW hl);have hne:¬((q.all.length:Nat):Int)=0:=fun e=>h0 (aC0 oM)
 have HT:=(fun W hW=>Yc B o ty cs vf vb q W hW);have E2:=(zW w (.cells #[V6 0,V6 0] aS)).alloc sI (.cells #[V6 0,V6 0] aS);have B0:=(ai.new w aS #[V6 0,V6 0]).alloc (.cells #[V6 0,V6 0] aS);have H0:=h;have HB:=h.blk.lt;have Yd:=(fun k (hk:vf.ownBlock=some k\/vb.ownBlock=some k)=>(show k<w.heap.size from hk.elim (fun e=>(h.jw.lt k e).2) (fun e=>(h.iG.lt k e).2)));have HTf:=ht;have fJ:L.length<=200000:=by
  have h1:=congrArg List.length (Fi.xT q);unfold Fi.all at h1;rw[ht]at h1;simp at h1;omega
 generalize q.all.length=NL at *;generalize q.turn=t at *;clear h h0 hl ht;go_enter func380,ntmps380;go_upto_region 5 with(first
  |go_at_call 381;refine zM (HL _ (H0.call E2)) fun w3 hb3=>?_;have E3:=zT E2 hb3;have C0:=B0.call hb3;have hz3:=hb3.size;(try simp only[World.size_alloc]at hz3);have HZ3:=hz3;clear hb3 hz3
  |(go_at_call 393;refine(HT _ (H0.call E3)).mono ?_;rintro e w4 ⟨rfl,cs4,vf4,vb4,hk4⟩;have X4:=hk4.pre E3;have an8:ah (fun k=>k=B\/vf.ownBlock=some k\/vb.ownBlock=some k) w3 w4:=hk4.upd;have C4:=C0.upd an8 (fun e=>by {have h5:=HB;have h6:=Yd w.heap.size;rcases e with e|e|e;omega;exact absurd (h6 (.inl e)) (lt_irrefl _);exact absurd (h6 (.inr e)) (lt_irrefl _)});have Ks:∀k,(vf4.ownBlock=some k\/vb4.ownBlock=some k)->k≠w.heap.size:=(fun k hk e=>by {have h9:=HZ3;rcases hk4.own k hk with e2|e2|e2;exact absurd (Yd k (.inl e2)) oM;exact absurd (Yd k (.inr e2)) oM;omega});clear hk4 an8))
 have hof:=X4.fi.jw;rw[HTf]at hof;obtain⟨A,n,c,rfl,hn,hs⟩:=hof.shape cW;have fo:n=L.length+1:=by rw[hn];simp
 subst fo;obtain⟨g,off,y,hA,hy,hg,d0,d1⟩:=gF.at_ hs (k:=L.length) oM;have hyx:y=x:=by simpa using hy.symm
 subst hyx;subst hA;have HC0:=X4.fi.c0;have HOi:=hof.init cW;have hcc:L.length+1<=c:=hs.2.1;have hcm:c<=9223372036854775807:=by have:=hs.2.2.1;unfold maxLen at this;omega
 have HD0:=d0;have HD1:=d1;have HGg:=hg;have:=fJ;have:IntKind.i64.wrap (L.length:Int)=(L.length:Int):=wrap_small oM;have:(L.length:Int)<(L.length:Int)+1:=oM
 clear d0 d1 hn hs hof hy hg;have Gt:=(fun(W7 w9:World) (cs1:Array Value) (f1 b1:Value) (q1:Fi) (h:dr w W7 B o ty cs vf vb cs1 f1 b1 q1) (hu:ah (fun k=>k=w.heap.size) W7 w9) (hf:∀k,(f1.ownBlock=some k\/b1.ownBlock=some k)->¬k=w.heap.size)=>h.keep hu (fun e=>by have:=HB;omega) hf (fun k hk=>by omega));generalize w.heap.size=gw at *;refine zB fun S0=>?_
 refine zk 9 [0,1,2,3,4] [_,.pointer (some ⟨B,o,none⟩),.pointer (some ⟨B,o,none⟩),.slice (some ⟨g,off,none⟩) (L.length+1) c,_] (.c rfl rfl zPP<|.c rfl rfl zPP<|.c rfl rfl zPP<|.c rfl rfl (zl fun _ h=>by have c:=(X4.fi.blk.call h).ar HC0;go_simp)<|.c rfl rfl zPP .nil) S0 ?_;refine zk 4 [5,6,7,8,9] [.pointer (some ⟨B,o,none⟩),.pointer (some ⟨B,o,none⟩),.slice (some ⟨g,off,none⟩) (L.length+1) c,I6 ((L.length+1:Nat):Int),I6 (L.length:Int)] (.c rfl rfl zPP<|.c rfl rfl zPP<|.c rfl rfl (zl fun _ h=>by have c:=(X4.fi.blk.call h).ar HC0;go_simp)<|.c rfl rfl zPP<|.c rfl rfl zPP .nil) S0 ?_;refine zk 2 [10,11] [.pointer (some ⟨g,off+L.length*2,none⟩),.agg y.row] (.c rfl rfl zPP<|.c rfl rfl (zl fun _ h=>by have:=(h.cell (p:=⟨g,off+L.length*2,none⟩) HGg).trans HD0;have:=(h.cell (p:=⟨g,off+L.length*2+1,none⟩) HGg).trans HD1;go_simp) .nil) S0 ?_;refine zQ 12 ?_;have nG5:=dp (S:=S0) (#[V6 0,V6 0]) 83;obtain⟨G5,hG5,bG5,lG5⟩:=nG5;go_wp2_with fail;refine .i (S0.alloc S0.size _) ?_
 (try simp only[hG5])
 have KG5:=hG5;clear hG5;have SG5:=S0.alloc S0.size (.cells (#[V6 0,V6 0]) 83);refine zQ 13 ?_;go_wp2_with(refine zJ (bG5) ?_;intro uG5 an9 af6);refine .i (SG5.trans (Only.below af6 lG5 SG5.size)) ?_;have Ye:=SG5.trans (Only.below af6 lG5 SG5.size);refine zd ?_;have X5:=X4.call Ye;have C5:=C4.call Ye;have BG:=an9;have O5:=HOi.call Ye;have HNB:B≠gw:=by have:=HB;omega
 have HGB:G5≠B:=by have:=HB;have:=E3.size;have:=X4.fi.blk.lt;omega
 clear S0 SG5 Ye af6 an9 bG5 lG5 KG5;generalize uG5=W6 at *;go_upto_region 6 with fail
 have fz:=X5.fi.blk.frozen o;have cz:=X5.fi.blk.ar HC0;refine zr (fun j=>[14].contains j) (fun wS=>Bl W6 wS) ?_;have S0:=(Below.refl W6.heap.size W6).drew;refine zk 10 [0,1,2,3,4] [_,_,.pointer (some ⟨B,o,none⟩),.pointer (some ⟨B,o,none⟩),.slice (some ⟨g,off,none⟩) (L.length+1) c] (.c rfl rfl zPP<|.c rfl rfl zPP<|.c rfl rfl zPP<|.c rfl rfl zPP<|.c rfl rfl (zl fun _ h=>by have c:=(X5.fi.blk.call h).ar HC0;go_simp) .nil) S0 ?_;refine zk 5 [5,6,7,8,9] [_,.pointer (some ⟨B,o,none⟩),.pointer (some ⟨B,o,none⟩),.slice (some ⟨g,off,none⟩) (L.length+1) c,I6 ((L.length+1:Nat):Int)] (.c rfl rfl zPP<|.c rfl rfl zPP<|.c rfl rfl zPP<|.c rfl rfl (zl fun _ h=>by have c:=(X5.fi.blk.call h).ar HC0;go_simp)<|.c rfl rfl zPP .nil) S0 ?_;refine zk 3 [10,11] [I6 (L.length:Int),.slice (some ⟨g,off,none⟩) L.length c] (.c rfl rfl zPP<|.c rfl rfl (zl fun _ _=>by first|(go_simp;done)|(go_simp;intro h;exact absurd h oM)) .nil) S0 ?_;refine zQ 12 ?_;go_wp2_with fail;refine .i S0 ?_;refine zq 1 [13] [.pointer (some ⟨B,o,none⟩)] S0 ?_;refine aq _ _ _ _ kZ ?_;refine zO 14 (fun Q2 aI=>?_);go_wp2_with fail;(try refine aI _ _ ?_);(try clear aI Q2)
 refine wpAny_done kZ ?_ _;have X7:dr w (W6.setCell ⟨B,o,none⟩ (.slice (some ⟨g,off,none⟩) L.length c)).drew B o ty cs vf vb (cs4.setIfInBounds o (.slice (some ⟨g,off,none⟩) L.length c)) (.slice (some ⟨g,off,none⟩) L.length c) vb4 ⟨L,t.b⟩:=X5.trans ((X5.fi.aw2 (ah.refl _ W6) O5 rfl).drewN 1);have C7:ai (W6.setCell ⟨B,o,none⟩ (.slice (some ⟨g,off,none⟩) L.length c)).drew gw aS #[V6 0,V6 0]:=(C5.far (by have:=HNB;show gw≠B;omega) _).drew;have B7:ai (W6.setCell ⟨B,o,none⟩ (.slice (some ⟨g,off,none⟩) L.length c)).drew G5 aS y.row:=(BG.far (by have:=HGB;show G5≠B;omega) _).drew;clear fz cz S0 X5 C5 BG;generalize(W6.setCell ⟨B,o,none⟩ (.slice (some ⟨g,off,none⟩) L.length c)).drew=W7 at *;go_wp2_with(first
  |refine zI B7 underlying83 ?_
  |(refine zJ C7 ?_;intro w9 b8 dM))
 have X9:=Gt _ _ _ _ _ _ X7 ⟨dM.os,dM.tape,dM.output,dM.size,fun k hk hn=>dM.block k hk (fun e=>hn (by injection e))⟩ (fun k hk=>Ks k (by rcases hk with hk|hk;exact .inl hk;exact .inr hk));refine bodyPost_ret (az rfl _ _ gw _ _ _ rfl b8 underlying83 rfl kZ) rfl ⟨rfl,_,_,_,X9⟩
theorem Tj (B o:Nat) (ty:TypeId) (cs:Array Value) (vf vb:Value) (q:Fi) (w:World) (h:tM w B o ty cs vf vb q) (hl:q.f.length<=100000/\q.b.length<=100000) :
 Calls prog 380 #[.pointer (some ⟨B,o,none⟩)] w (Ti B o ty cs vf vb q.get w):=by
 rcases q.wG with⟨h0,h1⟩|⟨x,L,h1,h2,h3⟩
 ·rw[h1];exact Px B o ty cs vf vb q w h h0
 ·rw[h3];exact Kr B o ty cs vf vb q x L w h hl (by rw[h2];simp) h1
section
open Go.RowKit Go.Maps
abbrev JO:TypeId:=287
theorem jJ:prog.underlying JO=some (.map aS 3):=underlying287
theorem Cg (w:World):(zeroValue 3).run prog w=.ok (I6 0) w:=kZ
def Dm (ks:List Key):Key->Option Value:=fun k=>if k∈ks then some (I6 1)else none
theorem Tk (ks:List Key) (k:Key):lg (Dm ks) k (I6 1)=Dm (cE ks k):=by
 funext x
 unfold lg Dm
 by_cases e:x=k
 ·subst e;simp[ee]
 ·simp[ee,e]
theorem Tl (ks:List Key) (k:Key):J9 (Dm ks) k=Dm (ks.filter fun y=>decide (y≠k)):=by
 funext x
 unfold J9 Dm
 by_cases e:x=k
 ·subst e;simp
 ·simp[e]
def dS (w:World) (v:Value) (ks:List Key):Prop:=(v=.map none/\ks=[])\/∃b,v=.map (some b)/\bP ll w b (Dm ks) ks
def bB:Value->Option Nat
 | .map (some b)=>some b
 |_=>none
section
variable {w w' : World} {v:Value} {ks:List Key}
theorem dS.block (h:dS w v ks) (hb:∀k,bB v=some k->w'.heap[k]? = w.heap[k]?):dS w' v ks:=by
 rcases h with h|⟨b,rfl,h⟩
 ·exact .inl h
 ·exact .inr ⟨b,rfl,h.block (hb b rfl)⟩
theorem dS.lt (h:dS w v ks):∀k,bB v=some k->k<w.heap.size:=by
 rcases h with⟨rfl,-⟩|⟨b,rfl,h⟩
 ·intro k hk;cases hk
 ·intro k hk;injection hk with hk;subst hk;exact h.lt
theorem dS.upd (h:dS w v ks) (hu:ah S w w') (hn:∀k,bB v=some k->¬S k):dS w' v ks:=h.block fun k hk=>hu.block k (h.lt k hk) (hn k hk)
theorem dS.call (h:dS w v ks) (hb:Bl w w'):dS w' v ks:=h.block fun k hk=>hb.block k (h.lt k hk)
theorem dS.cD (h:dS w v ks) (n:Nat):dS (w.drewN n) v ks:=h
theorem dS.good (h:dS w v ks):∀k∈ks,k.good:=by
 rcases h with⟨-,rfl⟩|⟨b,-,h⟩
 ·intro k hk;simp at hk
 ·exact h.good
theorem dS.cells {g:Nat} {t:TypeId} (h:dS w v ks) (hg:ai w g t cs):bB v≠some g:=by
 rcases h with⟨rfl,-⟩|⟨b,rfl,D,⟨es,clock,hb,-⟩,-⟩
 ·intro e;cases e
 ·intro e
  injection e with e
  subst e;unfold ai at hg;rw[hb]at hg;cases hg
theorem dS.own {base e size:Nat} {cells:α->List Value} {l:List α} (h:dS w v ks) (ho:aK w base e size cells u l): ∀k,u.ownBlock=some k->bB v≠some k:=by
 intro k hk;rcases ho with⟨rfl,_⟩|⟨g,off,cap,cur,rfl,_,hg,_⟩
 ·cases hk
 ·simp[Value.ownBlock]at hk
  subst hk;exact h.cells (t:=e) (cs:=cur) hg
theorem dS.look (h:dS w v ks) (hk:k.good):(Instr.lookup JO v (.agg k.row) false).run prog w=.ok (I6 (if k∈ks then 1 else 0)) w:=by
 rcases h with⟨rfl,rfl⟩|⟨b,rfl,h⟩
 ·simpa using(Maps.look_nil (w:=w) false ll.kd jJ (Cg w) (Db hk))
 ·have:=h.look jJ (Cg w) hk
  rw[show ll.v k=.agg k.row from rfl]at this;rw[this];unfold Dm
  by_cases e:k∈ks<;>simp[e]
theorem dS.Gu (h:dS w (.map (some b)) ks) (hk:k.good) (hn:ks.length<maxLen):
 ∃w',(Instr.mapUpdate JO (.map (some b)) (.agg k.row) (I6 1)).run prog w=.ok () w'/\dS w' (.map (some b)) (cE ks k)/\w.grownBy w' (some b):=by
 rcases h with⟨h,-⟩|⟨b',hb,h⟩
 ·cases h
 ·injection hb with hb
  injection hb with hb
  subst hb;obtain⟨w',h1,h2,h3⟩:=h.put jJ hn hk (I6 1);rw[Tk]at h2;exact⟨w',h1,.inr ⟨b,rfl,h2⟩,h3⟩
theorem dS.aw3 (h:dS w (.map (some b)) ks) (hk:k.good) (ty:TypeId):
 ∃w',(Builtin.delete_ #[JO,aS] ty #[.map (some b),.agg k.row]).run prog w=.ok (.tuple #[]) w'/\dS w' (.map (some b)) (ks.filter fun y=>decide (y≠k))/\w.grownBy w' (some b):=by
 rcases h with⟨h,-⟩|⟨b',hb,h⟩
 ·cases h
 ·injection hb with hb
  injection hb with hb
  subst hb;obtain⟨w',h1,h2,h3⟩:=h.del jJ hk ty;rw[Tl]at h2;exact⟨w',h1,.inr ⟨b,rfl,h2⟩,h3⟩
theorem dS.made (w:World):dS (w.alloc (.map #[] 0)) (.map (some w.heap.size)) []:=
 .inr ⟨w.heap.size,rfl,(bP.made ll w).tI (by funext k;simp[Dm]) rfl⟩
end
section
variable (w:World) {ops:Array Oper} {rest:List Oper} {o:Oper} {a:Act} {Q:Exit->Act->World->Prop}
theorem ek (hg:o.guard=none) (m x:Operand) (hop:o.op=Op.lookup JO m x false) (v:Value) (ks:List Key) (hm:a.eval m=v) (h:dS w v ks) (k:Key) (hx:a.eval x=.agg k.row) (hk:k.good)
 (hK:wpList prog ops Q rest (a.put o.dst (I6 (if k∈ks then 1 else 0))) w):wpList prog ops Q (o::rest) a w:=by
 refine wpList_plain hg fun K' hK'=>?_
 unfold Oper.wp;simp[execOp,hop,hm,hx,(h.look hk),Result.andThen];exact hK' _ _ hK
theorem iZ (hg:o.guard=none) (m x u:Operand) (hop:o.op=Op.mapUpdate JO m x u) (b:Nat) (ks:List Key) (hm:a.eval m=.map (some b)) (h:dS w (.map (some b)) ks) (hn:ks.length<maxLen) (k:Key) (hx:a.eval x=.agg k.row) (hk:k.good) (hu:a.eval u = I6 1)
 (hK:∀w',dS w' (.map (some b)) (cE ks k)->w.grownBy w' (some b)->wpList prog ops Q rest (a.put o.dst undef) w'):wpList prog ops Q (o::rest) a w:=by
 refine wpList_plain hg fun K' hK'=>?_
 obtain⟨w',hrun,r1,r2⟩:=h.Gu hk hn;unfold Oper.wp;simp[execOp,hop,hm,hx,hu,hrun,Result.andThen];exact hK' _ _ (hK w' r1 r2)
theorem nC (hg:o.guard=none) (m x:Operand) (hop:o.op=Op.call {callee:=Callee.builtin Builtin.delete,args:=#[m,x],argTypes:=#[JO,aS]}) (b:Nat) (ks:List Key) (hm:a.eval m=.map (some b)) (h:dS w (.map (some b)) ks) (k:Key) (hx:a.eval x=.agg k.row) (hk:k.good)
 (hK:∀w',dS w' (.map (some b)) (ks.filter fun y=>decide (y≠k))->w.grownBy w' (some b)->wpList prog ops Q rest (a.put o.dst (.tuple #[])) w'):wpList prog ops Q (o::rest) a w:=by
 refine wpList_plain hg fun K' hK'=>?_
 obtain⟨w',hrun,r1,r2⟩:=h.aw3 hk o.type;unfold Oper.wp;simp[execOp,hop,resolve,invoke,builtin,hm,hx,hrun,Result.andThen];exact hK' _ _ (hK w' r1 r2)
end
structure Wq where
 fi:Fi
 ax:List Key
 busy:List Key
 over:Bool
deriving DecidableEq
structure oF (w:World) (B o:Nat) (ty:TypeId) (cs:Array Value) (vf vb vd vz:Value) (q:Wq):Prop where
 fi:tM w B o ty cs vf vb q.fi
 c2:cs[o+2]? = some vd
 c3:cs[o+3]? = some vz
 c4:cs[o+4]? = some (.bool q.over)
 ax:dS w vd q.ax
 busy:dS w vz q.busy
 apart:∀k,bB vd=some k->bB vz≠some k
 both:vd=.map none↔vz=.map none
structure eC (w w' : World) (B o:Nat) (ty:TypeId) (cs:Array Value) (vf vb vd vz:Value) (cs' : Array Value) (tv tx Ch Ci : Value) (q' : Wq):Prop where
 wq:oF w' B o ty cs' tv tx Ch Ci q'
 upd:ah (fun k=>k=B\/vf.ownBlock=some k\/vb.ownBlock=some k\/bB vd=some k\/bB vz=some k) w w'
 own:∀k,(tv.ownBlock=some k\/tx.ownBlock=some k)->vf.ownBlock=some k\/vb.ownBlock=some k\/w.heap.size<=k
 maps:∀k,(bB Ch = some k\/bB Ci = some k)->bB vd=some k\/bB vz=some k\/w.heap.size<=k
 size:cs'.size=cs.size
 rest:∀i,i≠o->i≠o+1->i≠o+2->i≠o+3->i≠o+4->cs'[i]? = cs[i]?
def Ax (q:Wq) (k:Key):Bool×Wq:=
 if q.over=true\/k∈q.ax then(false,q)
 else if k∈q.busy then(false,{q with ax:=cE q.ax k})
 else(true,{q with ax:=cE q.ax k,fi:=q.fi.put k})
def gG (q:Wq):(Key×Bool)×Wq:=
 if q.fi.get.1.2=true then(q.fi.get.1,{q with fi:=q.fi.get.2,ax:=q.ax.filter fun y=>decide (y≠q.fi.get.1.1),busy:=cE q.busy q.fi.get.1.1})else(q.fi.get.1,{q with fi:=q.fi.get.2})
def oG (q:Wq) (k:Key):(Bool×Int)×Wq:=
 if k∈q.busy then
  if k∈q.ax then((true,0),{q with busy:=q.busy.filter fun y=>decide (y≠k),fi:=q.fi.put k})else((false,0),{q with busy:=q.busy.filter fun y=>decide (y≠k)})
 else((false,5),q)
end
section
open Go.RowKit Go.Maps
section
variable {w w' w1 w2:World} {B o:Nat} {ty:TypeId} {cs cs1:Array Value} {vf vb vd vz f1 b1:Value} {q:Wq} {q1:Fi}
theorem oF.blk (h:oF w B o ty cs vf vb vd vz q):ai w B ty cs:=h.fi.blk
theorem oF.call (h:oF w B o ty cs vf vb vd vz q) (hb:Bl w w'):oF w' B o ty cs vf vb vd vz q:=⟨h.fi.call hb,h.c2,h.c3,h.c4,h.ax.call hb,h.busy.call hb,h.apart,h.both⟩
theorem oF.stay (h:oF w B o ty cs vf vb vd vz q) (hb:Bl w w'):eC w w' B o ty cs vf vb vd vz cs vf vb vd vz q:=
 ⟨h.call hb,ah.aa hb,fun k hk=>hk.imp id .inl,fun k hk=>hk.imp id .inl,rfl,fun _ _ _ _ _ _=>rfl⟩
theorem eC.trans {Am:Array Value} {vf1 vb1 vd1 vz1 vf2 vb2 vd2 vz2:Value} {q1 q2:Wq} (h1:eC w w1 B o ty cs vf vb vd vz cs1 vf1 vb1 vd1 vz1 q1) (h2:eC w1 w2 B o ty cs1 vf1 vb1 vd1 vz1 Am vf2 vb2 vd2 vz2 q2):eC w w2 B o ty cs vf vb vd vz Am vf2 vb2 vd2 vz2 q2:=by
 refine⟨h2.wq,h1.upd.trans h2.upd ?_,fun k hk=>?_,fun k hk=>?_,h2.size.trans h1.size,fun i e0 e1 e2 e3 e4=>(h2.rest i e0 e1 e2 e3 e4).trans (h1.rest i e0 e1 e2 e3 e4)⟩
 ·rintro k (rfl|hk|hk|hk|hk)
  ·exact .inl (.inl rfl)
  ·rcases h1.own k (.inl hk)with e|e|e
   ·exact .inl (.inr (.inl e))
   ·exact .inl (.inr (.inr (.inl e)))
   ·exact .inr e
  ·rcases h1.own k (.inr hk)with e|e|e
   ·exact .inl (.inr (.inl e))
   ·exact .inl (.inr (.inr (.inl e)))
   ·exact .inr e
  ·rcases h1.maps k (.inl hk)with e|e|e
   ·exact .inl (.inr (.inr (.inr (.inl e))))
   ·exact .inl (.inr (.inr (.inr (.inr e))))
   ·exact .inr e
  ·rcases h1.maps k (.inr hk)with e|e|e
   ·exact .inl (.inr (.inr (.inr (.inl e))))
   ·exact .inl (.inr (.inr (.inr (.inr e))))
   ·exact .inr e
 ·rcases h2.own k hk with e|e|e
  ·exact h1.own k (.inl e)
  ·exact h1.own k (.inr e)
  ·exact .inr (.inr (aB4 h1.upd.size e))
 ·rcases h2.maps k hk with e|e|e
  ·exact h1.maps k (.inl e)
  ·exact h1.maps k (.inr e)
  ·exact .inr (.inr (aB4 h1.upd.size e))
theorem oF.line (h:oF w B o ty cs vf vb vd vz q) (hs:dr w w' B o ty cs vf vb cs1 f1 b1 q1):eC w w' B o ty cs vf vb vd vz cs1 f1 b1 vd vz {q with fi:=q1}:=by
 have hm:∀(v:Value) (ks:List Key),dS w v ks->∀k,bB v=some k->¬(k=B\/vf.ownBlock=some k\/vb.ownBlock=some k):=fun v ks hv k hk e=>by
  rcases e with e|e|e
  ·exact hv.cells h.fi.blk (by rw[hk,e])
  ·exact hv.own h.fi.jw k e hk
  ·exact hv.own h.fi.iG k e hk
 exact⟨⟨hs.fi,(hs.rest _ oM oM).trans h.c2,(hs.rest _ oM oM).trans h.c3,(hs.rest _ oM oM).trans h.c4,h.ax.upd hs.upd (hm _ _ h.ax),h.busy.upd hs.upd (hm _ _ h.busy),h.apart,h.both⟩,
  hs.upd.mono (fun k hk=>hk.elim .inl (fun e=>.inr (e.elim .inl (fun e=>.inr (.inl e))))),hs.own,fun k hk=>hk.imp id .inl,hs.size,fun i e0 e1 e2 e3 e4=>hs.rest i e0 e1⟩
theorem oF.af7 {ks:List Key} (h:oF w B o ty cs vf vb (.map (some b)) vz q) (hm:dS w' (.map (some b)) ks) (hg:w.grownBy w' (some b)):eC w w' B o ty cs vf vb (.map (some b)) vz cs vf vb (.map (some b)) vz {q with ax:=ks}:=by
 have hu:ah (fun k=>k=b) w w':=⟨hg.os,hg.tape,hg.output,hg.size,fun k hk hn=>hg.block k hk (fun e=>hn (by injection e))⟩;exact⟨⟨h.fi.upd hu (fun e=>h.ax.cells h.fi.blk (by rw[e];rfl)) (fun k hk e=>h.ax.own h.fi.jw k hk (by rw[e];rfl)) (fun k hk e=>h.ax.own h.fi.iG k hk (by rw[e];rfl)),h.c2,h.c3,h.c4,hm,h.busy.upd hu (fun k hk e=>h.apart k (by rw[e];rfl) hk),h.apart,h.both⟩,
  hu.mono (fun k hk=>.inr (.inr (.inr (.inl (by rw[hk];rfl))))),fun k hk=>hk.imp id .inl,fun k hk=>hk.imp id .inl,rfl,fun _ _ _ _ _ _=>rfl⟩
theorem oF.ao0 {ks:List Key} (h:oF w B o ty cs vf vb vd (.map (some b)) q) (hm:dS w' (.map (some b)) ks) (hg:w.grownBy w' (some b)):eC w w' B o ty cs vf vb vd (.map (some b)) cs vf vb vd (.map (some b)) {q with busy:=ks}:=by
 have hu:ah (fun k=>k=b) w w':=⟨hg.os,hg.tape,hg.output,hg.size,fun k hk hn=>hg.block k hk (fun e=>hn (by injection e))⟩;exact⟨⟨h.fi.upd hu (fun e=>h.busy.cells h.fi.blk (by rw[e];rfl)) (fun k hk e=>h.busy.own h.fi.jw k hk (by rw[e];rfl)) (fun k hk e=>h.busy.own h.fi.iG k hk (by rw[e];rfl)),h.c2,h.c3,h.c4,h.ax.upd hu (fun k hk e=>h.apart k hk (by rw[e];rfl)),hm,h.apart,h.both⟩,
  hu.mono (fun k hk=>.inr (.inr (.inr (.inr (by rw[hk];rfl))))),fun k hk=>hk.imp id .inl,fun k hk=>hk.imp id .inl,rfl,fun _ _ _ _ _ _=>rfl⟩
end
def Tm (B o:Nat) (ty:TypeId) (cs:Array Value) (vf vb vd vz:Value) (g:Bool×Wq) (w:World) (e:Ending) (w' : World):Prop:=∃cs' tv tx Ch Ci,e=.returned (.bool g.1)/\eC w w' B o ty cs vf vb vd vz cs' tv tx Ch Ci g.2
theorem Gv (B o:Nat) (ty:TypeId) (cs:Array Value) (vf vb vd vz:Value) (q:Wq) (k:Key) (w:World) (h:oF w B o ty cs vf vb vd vz q) (h1:q.over=true) :
 Calls prog 351 #[.pointer (some ⟨B,o,none⟩),.agg k.row] w (Tm B o ty cs vf vb vd vz (false,q) w):=by
 have EX:=zW w (.cells k.row aS);have X0:=(fun n=>h.stay (below_drewN EX n));have Gj:=h.c4;rw[h1]at Gj;have:=(h.call EX).blk.ar Gj;clear h EX Gj;go_enter func351,ntmps351;go_wp2;go_quiet(fail);go_wp2;go_ret;exact⟨_,_,_,_,_,rfl,X0 _⟩
theorem Dn (B o:Nat) (ty:TypeId) (cs:Array Value) (vf vb vd vz:Value) (q:Wq) (k:Key) (w:World) (h:oF w B o ty cs vf vb vd vz q) (hk:k.good) (h1:q.over=false) (h2:k∈q.ax) :
 Calls prog 351 #[.pointer (some ⟨B,o,none⟩),.agg k.row] w (Tm B o ty cs vf vb vd vz (false,q) w):=by
 have EX:=zW w (.cells k.row aS);have X0:=(fun n=>h.stay (below_drewN EX n));have H0:=h.call EX;have Gj:=h.c4;rw[h1]at Gj;have c4:=H0.blk.ar Gj;have c2:=H0.blk.ar h.c2;have hl:∀n,(Instr.lookup JO vd (.agg k.row) false).run prog ((w.alloc (.cells k.row aS)).drewN n)=.ok (I6 1) ((w.alloc (.cells k.row aS)).drewN n):=fun n=>by
  have:=(H0.ax.cD n).look hk;rw[if_pos h2]at this;exact this
 have:=(ai.new w aS k.row).z 0 (V6 k.hi);have:=(ai.new w aS k.row).z 1 (V6 k.lo);clear h H0 EX Gj;go_enter func351,ntmps351;go_wp2;go_quiet(fail);go_wp2;go_ret;exact⟨_,_,_,_,_,rfl,X0 _⟩
end
section
open Go.RowKit Go.Maps
theorem Gx (b:Nat) :
 (∀(W:World) (op:BinOp) (o1 o2:Operand),(eqGuard op JO o1 o2 (.map (some b)) (.map none)).run prog W=.ok () W)/\
 (∀W:World,(binOp .eql JO (.map (some b)) (.map none)).run prog W=.ok (.bool false) W):=by
 refine⟨fun W op o1 o2=>?_,fun W=>?_⟩
 ·simp[eqGuard,run_underlying jJ]
 ·kernel_rfl
theorem Gy :
 (∀(W:World) (op:BinOp) (o1 o2:Operand),(eqGuard op JO o1 o2 (.map none) (.map none)).run prog W=.ok () W)/\
 (∀W:World,(binOp .eql JO (.map none) (.map none)).run prog W=.ok (.bool true) W):=by
 refine⟨fun W op o1 o2=>?_,fun W=>?_⟩
 ·simp[eqGuard,run_underlying jJ]
 ·kernel_rfl
theorem Gz (B o:Nat) (ty:TypeId) (cs:Array Value) (vf vb:Value) (bd bz:Nat) (q:Wq) (k:Key) (w:World) (h:oF w B o ty cs vf vb (.map (some bd)) (.map (some bz)) q) (hk:k.good) (hl:q.fi.b.length<100000/\q.ax.length<=100000) (h1:q.over=false) (h2:k ∉ q.ax) :
 Calls prog 351 #[.pointer (some ⟨B,o,none⟩),.agg k.row] w (Tm B o ty cs vf vb (.map (some bd)) (.map (some bz)) (if k∈q.busy then(false,{q with ax:=cE q.ax k})else(true,{q with ax:=cE q.ax k,fi:=q.fi.put k})) w):=by
 have EX:=zW w (.cells k.row aS);have X0:=h.stay EX;have H0:=h.call EX;have Gj:=h.c4;rw[h1]at Gj;have c4:=H0.blk.ar Gj;have c2:=H0.blk.ar h.c2;have hl0:∀n,(Instr.lookup JO (.map (some bd)) (.agg k.row) false).run prog ((w.alloc (.cells k.row aS)).drewN n)=.ok (I6 0) ((w.alloc (.cells k.row aS)).drewN n):=fun n=>by
  have:=(H0.ax.cD n).look hk;rw[if_neg h2]at this;exact this
 have BX:=ai.new w aS k.row;have b0:=BX.z 0 (V6 k.hi);have b1:=BX.z 1 (V6 k.lo);have tT:=h.c2;have HC3:=h.c3;have HK:=hk;have HLd:q.ax.length<maxLen:=by unfold maxLen;omega
 have Kt:=hl.1;have mL:bd≠w.heap.size/\bz≠w.heap.size:=by
  have:=h.ax.lt bd rfl;have:=h.busy.lt bz rfl;omega
 obtain⟨q1,q2⟩:=Gx bd;obtain⟨R,hR⟩:=zE (if k∈q.busy then(false,{q with ax:=cE q.ax k})else(true,{q with ax:=cE q.ax k,fi:=q.fi.put k}):Bool×Wq);rw[<-hR];have HR:=zD hR;clear h EX Gj h2 hl h1 hR;go_enter func351,ntmps351;go_wp2;go_quiet(fail);have X1:=X0.trans (H0.stay (below_drewN bR nq));have vP:=BX.drewN nq;clear c4 c2 hl0 b0 b1 H0 BX X0;generalize(w.alloc (.cells k.row aS)).drewN nq=W1 at *;generalize w.heap.size=gx at *;have c2:=X1.wq.blk.ar tT;go_upto_region 5 with fail
 clear c2;refine zr (fun j=>[5].contains j) (fun wS=>Bl W1 wS) ?_;have S0:=(Below.refl W1.heap.size W1).drew;refine zk 1 [0,1,2,3,4] [_,.pointer (some ⟨B,o,none⟩),.pointer (some ⟨B,o+2,none⟩),.map (some bd),_] (.q zX<|.q zX<|.q zX<|.q (zS fun _ h=>(X1.wq.blk.call h).ar tT)<|.c rfl rfl (zl fun _ h=>zb (vP.call h) underlying83) .nil) S0<|aq _ _ _ _ kZ<|zO 5 (fun Q2 aI=>?_);go_wp2_with(refine iZ _ rfl _ _ _ rfl bd q.ax rfl (X1.wq.call (S0)).ax HLd k rfl HK rfl ?_;intro w5 Ay iK);(try refine aI _ _ ?_);(try clear aI Q2)
 refine wpAny_done kZ ?_ _;have X5:=X1.trans ((X1.wq.stay S0).trans ((X1.wq.call S0).af7 Ay iK));have Az:=(vP.call S0).grown iK (fun e=>by injection e with e;exact mL.1 e.symm);clear Ay iK S0 X1 vP;have c3:=X5.wq.blk.ar HC3;have b0:=Az.z 0 (V6 k.hi);have b1:=Az.z 1 (V6 k.lo);have RR:=fun n=>(X5.wq.busy.cD n).look HK
 by_cases hb:k∈q.busy
 ·have hr:=HR.out
  rw[if_pos hb]at hr;subst hr;simp only[if_pos hb]at RR;go_wp2;go_quiet(fail);have X6:=X5.trans (X5.wq.stay (below_drewN bR nq));go_wp2;go_ret;exact⟨_,_,_,_,_,rfl,X6⟩
 ·have hr:=HR.out
  rw[if_neg hb]at hr;subst hr;simp only[if_neg hb]at RR;go_wp2;go_quiet(fail);have X6:=X5.trans (X5.wq.stay (below_drewN bR nq));have BX6:=Az.drewN nq;clear c3 b0 b1 RR X5 Az;generalize w5.drewN nq=W6 at *;go_upto_region 8 with fail
  refine zr (fun j=>[4,5].contains j) (fun wS=>Bl W6 wS) ?_;have S0:=(Below.refl W6.heap.size W6).drew;refine zk 5 [3] [_] (.c rfl rfl (zl fun _ h=>zb (BX6.call h) underlying83) .nil) S0<|zQ 0 ?_;go_wp2_with fail;refine .i S0<|zQ 1 ?_;go_wp2_with fail;refine .i S0<|zq 2 [2] [.pointer (some ⟨B,o,none⟩)] S0<|aq _ _ _ _ kZ<|zO 4 (fun Q2 aI=>?_);go_wp2_with(go_at_call 358;refine(qE B o ty cs vf vb q.fi k _ (X6.wq.call (S0)).fi Kt).mono ?_;rintro e v9 ⟨rfl,Nh,vf9,vb9,mz⟩);(try refine aI _ _ ?_);(try clear aI Q2)
  refine wpAny_take (i:=5) (v:=_) rfl kZ kZ kZ (fun _ _ _ h=>h) (Or.inl ⟨by rfl,fun W=>by rfl⟩)<|wpAny_done kZ ?_ _;have X9:=X6.trans ((X6.wq.stay S0).trans ((X6.wq.call S0).line mz));clear mz;go_wp2;go_ret;exact⟨_,_,_,_,_,rfl,X9⟩
end
section
open Go.RowKit Go.Maps
theorem oF.fresh {q:Wq} (h:oF w B o ty cs vf vb (.map none) (.map none) q):
 eC w ((((w.alloc (.map #[] 0)).alloc (.map #[] 0)).setCell ⟨B,o+2,none⟩ (.map (some w.heap.size))).setCell ⟨B,o+3,none⟩ (.map (some (w.heap.size+1)))) B o ty cs vf vb (.map none) (.map none)
  ((cs.setIfInBounds (o+2) (.map (some w.heap.size))).setIfInBounds (o+3) (.map (some (w.heap.size+1)))) vf vb (.map (some w.heap.size)) (.map (some (w.heap.size+1))) {q with ax:=[],busy:=[]}:=by
 have hB:=h.blk.lt;have hb:Bl w ((w.alloc (.map #[] 0)).alloc (.map #[] 0)):=((Below.refl w.heap.size w).alloc lR _).alloc sI _;have hf:=h.fi.call hb;have m1:dS ((w.alloc (.map #[] 0)).alloc (.map #[] 0)) (.map (some w.heap.size)) []:=(dS.made w).call (bR.alloc lR _);have m2:dS ((w.alloc (.map #[] 0)).alloc (.map #[] 0)) (.map (some (w.heap.size+1))) []:=by
  have:=dS.made (w.alloc (.map #[] 0))
  simpa using this
 have hs:∀(p:Addr) (u:Value),p.block=B->∀W:World,(∀k,k≠B->(W.setCell p u).heap[k]? = W.heap[k]?):=fun p u hp W k hk=>Below.heap_setCell W p u k (hp▸hk)
 refine⟨⟨⟨(hf.blk.aX _ _).aX _ _,(cF oM).trans ((cF oM).trans hf.c0),(cF oM).trans ((cF oM).trans hf.c1),(hf.jw.far (fun k hk e=>hf.FX (by rw[hk,e])) _).far (fun k hk e=>hf.FX (by rw[hk,e])) _,(hf.iG.far (fun k hk e=>hf.Aj (by rw[hk,e])) _).far (fun k hk e=>hf.Aj (by rw[hk,e])) _,hf.FX,hf.Aj,hf.apart⟩,
  (cF oM).trans (kK h.c2),kK ((cF oM).trans h.c3),(cF oM).trans ((cF oM).trans h.c4),m1.block fun k hk=>?_,m2.block fun k hk=>?_,fun k hk e=>?_,?_⟩,((((ah.refl (fun k=>k=B\/vf.ownBlock=some k\/vb.ownBlock=some k\/bB (Value.map none)=some k\/bB (Value.map none)=some k) w).alloc _).alloc _).setCell (.inl (.inl rfl)) _).setCell (.inl (.inl rfl)) _,fun k hk=>hk.imp id .inl,fun k hk=>?_,sI,fun i h0 h1 h2 h3 h4=>(cF (Ne.symm h3)).trans (cF (Ne.symm h2))⟩
 ·injection hk with hk;subst hk
  exact(hs _ _ rfl _ _ oM).trans (hs _ _ rfl _ _ oM)
 ·injection hk with hk;subst hk
  exact(hs _ _ rfl _ _ oM).trans (hs _ _ rfl _ _ oM)
 ·injection hk with hk;injection e with e;omega
 ·constructor<;>intro e<;>(injection e with e;cases e)
 ·rcases hk with hk|hk<;>(injection hk with hk;exact .inr (.inr oM))
theorem GQ (B o:Nat) (ty:TypeId) (cs:Array Value) (vf vb:Value) (q:Wq) (k:Key) (w:World) (h:oF w B o ty cs vf vb (.map none) (.map none) q) (hk:k.good) (hl:q.fi.b.length<100000) (h1:q.over=false) :
 Calls prog 351 #[.pointer (some ⟨B,o,none⟩),.agg k.row] w (Tm B o ty cs vf vb (.map none) (.map none) (true,{q with ax:=[k],fi:=q.fi.put k}) w):=by
 have EX:=zW w (.cells k.row aS);have X0:=h.stay EX;have H0:=h.call EX;have hd:q.ax=[]:=by rcases h.ax with⟨-,e⟩|⟨b,e,-⟩;exact e;cases e
 have hz:q.busy=[]:=by rcases h.busy with⟨-,e⟩|⟨b,e,-⟩;exact e;cases e
 have Gj:=h.c4;rw[h1]at Gj;have c4:=H0.blk.ar Gj;have c2:=H0.blk.ar h.c2;have hl0:∀n,(Instr.lookup JO (.map none) (.agg k.row) false).run prog ((w.alloc (.cells k.row aS)).drewN n)=.ok (I6 0) ((w.alloc (.cells k.row aS)).drewN n):=fun n=>by
  have:=(H0.ax.cD n).look hk;rw[hd]at this;exact this
 have BX:=ai.new w aS k.row;have b0:=BX.z 0 (V6 k.hi);have b1:=BX.z 1 (V6 k.lo);have tT:=h.c2;have HC3:=h.c3;have HK:=hk;have Kt:=hl;have HBx:B≠w.heap.size:=oH h.blk.lt
 obtain⟨q1,q2⟩:=Gy;have Xy:=@run_makeMap prog;obtain⟨R,hR⟩:=zE ((true,{q with ax:=[k],fi:=q.fi.put k}):Bool×Wq);have HR:=zD (show R=(true,⟨q.fi.put k,cE [] k,[],q.over⟩)from by rw[hR];simp[cE,hz]);rw[<-hR];clear h EX Gj hl h1 hd hz hR;go_enter func351,ntmps351;go_wp2;go_quiet(fail);have X1:=X0.trans (H0.stay (below_drewN bR nq));have vP:=BX.drewN nq;have HXs:w.heap.size<((w.alloc (.cells k.row aS)).drewN nq).heap.size:=sI
 clear c4 c2 hl0 b0 b1 H0 BX X0;generalize(w.alloc (.cells k.row aS)).drewN nq=W1 at *;generalize w.heap.size=gx at *;have c2:=X1.wq.blk.ar tT;have bA:=(X1.wq.blk.alloc (.map #[] 0)).alloc (.map #[] 0);have cA:=bA.ar tT;have fA:=bA.frozen (o+2);have bC:=bA.aX (o+2) (.map (some W1.heap.size));have cC:=bC.ar ((cF oM).trans HC3);have fC:=bC.frozen (o+3);clear bA bC;have X4:=X1.trans X1.wq.fresh;go_upto_region 5 with fail
 have HD3:=X4.wq.c3;have tC:ai ((((W1.alloc (.map #[] 0)).alloc (.map #[] 0)).setCell ⟨B,o+2,none⟩ (.map (some W1.heap.size))).setCell ⟨B,o+3,none⟩ (.map (some (W1.heap.size+1)))) gx aS k.row:=(((vP.alloc _).alloc _).far (by have:=HBx;show gx≠B;omega) _).far (by have:=HBx;show gx≠B;omega) _;have mL:W1.heap.size≠gx:=oH HXs
 clear c2 cA fA cC fC X1 vP Xy;generalize(cs.setIfInBounds (o+2) (.map (some W1.heap.size))).setIfInBounds (o+3) (.map (some (W1.heap.size+1)))=cs4 at *;generalize(((W1.alloc (.map #[] 0)).alloc (.map #[] 0)).setCell ⟨B,o+2,none⟩ (.map (some W1.heap.size))).setCell ⟨B,o+3,none⟩ (.map (some (W1.heap.size+1)))=W4 at *;generalize W1.heap.size+1=bz at *;generalize W1.heap.size=bd at *;refine zr (fun j=>[5].contains j) (fun wS=>Bl W4 wS) ?_;have S0:=(Below.refl W4.heap.size W4).drew;refine zk 1 [0,1,2,3,4] [_,.pointer (some ⟨B,o,none⟩),.pointer (some ⟨B,o+2,none⟩),.map (some bd),_] (.q zX<|.q zX<|.q zX<|.q (zS fun _ h=>(X4.wq.blk.call h).ar X4.wq.c2)<|.c rfl rfl (zl fun _ h=>zb (tC.call h) underlying83) .nil) S0<|aq _ _ _ _ kZ<|zO 5 (fun Q2 aI=>?_);go_wp2_with(refine iZ _ rfl _ _ _ rfl bd [] rfl (X4.wq.call (S0)).ax (by unfold maxLen;decide) k rfl HK rfl ?_;intro w5 Ay iK);(try refine aI _ _ ?_);(try clear aI Q2)
 refine wpAny_done kZ ?_ _;have X5:=X4.trans ((X4.wq.stay S0).trans ((X4.wq.call S0).af7 Ay iK));have Az:=(tC.call S0).grown iK (fun e=>by injection e with e;exact mL e.symm);clear Ay iK S0 X4 tC;have c3:=X5.wq.blk.ar HD3;have b0:=Az.z 0 (V6 k.hi);have b1:=Az.z 1 (V6 k.lo);have RR:=fun n=>(X5.wq.busy.cD n).look HK
 simp only[List.not_mem_nil,if_false]at RR;have hr:=HR.out;subst hr;go_wp2;go_quiet(fail);have X6:=X5.trans (X5.wq.stay (below_drewN bR nq));have BX6:=Az.drewN nq;clear c3 b0 b1 RR X5 Az;generalize w5.drewN nq=W6 at *;go_upto_region 8 with fail
 refine zr (fun j=>[4,5].contains j) (fun wS=>Bl W6 wS) ?_;have S0:=(Below.refl W6.heap.size W6).drew;refine zk 5 [3] [_] (.c rfl rfl (zl fun _ h=>zb (BX6.call h) underlying83) .nil) S0<|zQ 0 ?_;go_wp2_with fail;refine .i S0<|zQ 1 ?_;go_wp2_with fail;refine .i S0<|zq 2 [2] [.pointer (some ⟨B,o,none⟩)] S0<|aq _ _ _ _ kZ<|zO 4 (fun Q2 aI=>?_);go_wp2_with(go_at_call 358;refine(qE B o ty cs4 vf vb q.fi k _ (X6.wq.call (S0)).fi Kt).mono ?_;rintro e v9 ⟨rfl,Nh,vf9,vb9,mz⟩);(try refine aI _ _ ?_);(try clear aI Q2)
 refine wpAny_take (i:=5) (v:=_) rfl kZ kZ kZ (fun _ _ _ h=>h) (Or.inl ⟨by rfl,fun W=>by rfl⟩)<|wpAny_done kZ ?_ _;have X9:=X6.trans ((X6.wq.stay S0).trans ((X6.wq.call S0).line mz));clear mz;go_wp2;go_ret;exact⟨_,_,_,_,_,rfl,X9⟩
theorem af9 (B o:Nat) (ty:TypeId) (cs:Array Value) (vf vb vd vz:Value) (q:Wq) (k:Key) (w:World) (h:oF w B o ty cs vf vb vd vz q) (hk:k.good) (hl:q.fi.b.length<100000/\q.ax.length<=100000) :
 Calls prog 351 #[.pointer (some ⟨B,o,none⟩),.agg k.row] w (Tm B o ty cs vf vb vd vz (Ax q k) w):=by
 unfold Ax
 by_cases h1:q.over=true
 ·rw[if_pos (.inl h1)]
  exact Gv B o ty cs vf vb vd vz q k w h h1
 have h1' : q.over=false:=sH h1
 by_cases h2:k∈q.ax
 ·rw[if_pos (.inr h2)]
  exact Dn B o ty cs vf vb vd vz q k w h hk h1' h2
 rw[if_neg (fun e=>e.elim h1 h2)];rcases h.ax with⟨e,hd⟩|⟨bd,e,-⟩
 ·have e2:=h.both.1 e
  subst e;subst e2;have hz:q.busy=[]:=by rcases h.busy with⟨-,e⟩|⟨b,e,-⟩;exact e;cases e
  rw[if_neg (by rw[hz];simp),hd]
  simpa[cE]using(GQ B o ty cs vf vb q k w h hk hl.1 h1')
 ·subst e
  have e2:∃bz,vz=.map (some bz):=by
   rcases h.busy with⟨e,-⟩|⟨bz,e,-⟩
   ·have:=h.both.2 e;cases this
   ·exact⟨bz,e⟩
  obtain⟨bz,rfl⟩:=e2;exact Gz B o ty cs vf vb bd bz q k w h hk hl h1' h2
end
section
open Go.RowKit Go.Maps
def TE (B o:Nat) (ty:TypeId) (cs:Array Value) (vf vb vd vz:Value) (g:(Key×Bool)×Wq) (w:World) (e:Ending) (w' : World):Prop:=∃cs' tv tx Ch Ci,e=.returned (.tuple #[.agg g.1.1.row,.bool g.1.2])/\eC w w' B o ty cs vf vb vd vz cs' tv tx Ch Ci g.2
theorem eC.keep {vd vz d1 z1:Value} {q1:Wq} (h1:eC w w1 B o ty cs vf vb vd vz cs1 f1 b1 d1 z1 q1) (hu:ah S w1 w2) (hB:¬S B) (hf:∀k,(f1.ownBlock=some k\/b1.ownBlock=some k)->¬S k) (hm:∀k,(bB d1=some k\/bB z1=some k)->¬S k) (hS:∀k,S k->w.heap.size<=k):eC w w2 B o ty cs vf vb vd vz cs1 f1 b1 d1 z1 q1:=
 ⟨⟨h1.wq.fi.upd hu hB (fun k hk=>hf k (.inl hk)) (fun k hk=>hf k (.inr hk)),h1.wq.c2,h1.wq.c3,h1.wq.c4,h1.wq.ax.upd hu (fun k hk=>hm k (.inl hk)),h1.wq.busy.upd hu (fun k hk=>hm k (.inr hk)),h1.wq.apart,h1.wq.both⟩,h1.upd.trans hu (fun k hk=>.inr (hS k hk)),h1.own,h1.maps,h1.size,h1.rest⟩
theorem PG (B o:Nat) (ty:TypeId) (cs:Array Value) (vf vb vd vz:Value) (q:Wq) (w:World) (h:oF w B o ty cs vf vb vd vz q) (hl:q.fi.f.length<=100000/\q.fi.b.length<=100000) (h1:q.fi.get.1.2=false) :
 Calls prog 373 #[.pointer (some ⟨B,o,none⟩)] w (TE B o ty cs vf vb vd vz (q.fi.get.1,{q with fi:=q.fi.get.2}) w):=by
 have EX:=zW w (.cells #[V6 0,V6 0] aS);have B0:=ai.new w aS #[V6 0,V6 0];have H0:=h.call EX;have X0:=h.stay EX;have HG:=Tj B o ty cs vf vb q.fi _ H0.fi hl;have HB:=h.blk.lt;have Yd:=(fun k (hk:vf.ownBlock=some k\/vb.ownBlock=some k)=>(show k<w.heap.size from hk.elim (fun e=>(h.fi.jw.lt k e).2) (fun e=>(h.fi.iG.lt k e).2)));have HMf:=(fun k (hk:bB vd=some k\/bB vz=some k)=>(show k<w.heap.size from hk.elim (h.ax.lt k) (h.busy.lt k)));obtain⟨⟨⟨x,b⟩,q2⟩,hq⟩:∃g,q.fi.get=g:=⟨_,rfl⟩
 have Gt:=(fun(W7 w9:World) (cs1:Array Value) (f1 b1:Value) (q1:Wq) (h:eC w W7 B o ty cs vf vb vd vz cs1 f1 b1 vd vz q1) (hu:ah (fun k=>k=w.heap.size) W7 w9) (hf:∀k,(f1.ownBlock=some k\/b1.ownBlock=some k)->¬k=w.heap.size)=>h.keep hu (fun e=>oH HB) hf (fun k hk e=>oH (HMf k hk)) (fun k hk=>oM));rw[hq]at HG h1 |-;simp only at h1;subst h1;unfold Ti FY at HG;simp only at HG |-;clear h hq hl;go_enter func373,ntmps373;go_wp2_with(first
  |go_at_call 380;refine HG.mono ?_;rintro e w3 ⟨rfl,cs3,vf3,vb3,hk3⟩;have X3:=X0.trans (H0.line hk3);have hno:∀j,(vf3.ownBlock=some j\/vb3.ownBlock=some j)->¬j=w.heap.size:=(fun j hj e=>by {have h8:=hk3.own j hj;have h9:=Yd j;simp only[World.size_alloc]at h8;rcases h8 with e2|e2|e2;exact absurd (h9 (.inl e2)) oM;exact absurd (h9 (.inr e2)) oM;omega});have Ks:=hno;have C3:=B0.upd hk3.upd (fun e=>by {have h9:=Yd w.heap.size;have:=HB;rcases e with e|e|e;omega;exact absurd (h9 (.inl e)) (lt_irrefl _);exact absurd (h9 (.inr e)) (lt_irrefl _)});clear hk3 hno
  |refine zI (ai.new w3 aS x.row) underlying83 ?_
  |(refine zJ (C3.alloc _) ?_;intro w9 b8 dM))
 have X9:=Gt _ _ _ _ _ _ (X3.trans (X3.wq.stay (zW w3 (.cells x.row aS)))) ⟨dM.os,dM.tape,dM.output,dM.size,fun k hk hn=>dM.block k hk (fun e=>hn (by injection e))⟩ Ks;refine bodyPost_ret (az rfl _ _ w.heap.size _ _ _ rfl b8 underlying83 rfl kZ) rfl ⟨_,_,_,_,_,rfl,X9⟩
end
section
open Go.RowKit Go.Maps
theorem KD (B o:Nat) (ty:TypeId) (cs:Array Value) (vf vb:Value) (bd bz:Nat) (q:Wq) (x:Key) (q2:Fi) (w:World) (h:oF w B o ty cs vf vb (.map (some bd)) (.map (some bz)) q) (hl:q.fi.f.length<=100000/\q.fi.b.length<=100000) (Nn:q.busy.length<=100000) (hx:x.good) (hq:q.fi.get=((x,true),q2)) :
 Calls prog 373 #[.pointer (some ⟨B,o,none⟩)] w (TE B o ty cs vf vb (.map (some bd)) (.map (some bz)) ((x,true),{q with fi:=q2,ax:=q.ax.filter fun y=>decide (y≠x),busy:=cE q.busy x}) w):=by
 have EX:=zW w (.cells #[V6 0,V6 0] aS);have B0:=ai.new w aS #[V6 0,V6 0];have H0:=h.call EX;have X0:=h.stay EX;have HG:=Tj B o ty cs vf vb q.fi _ H0.fi hl;have HB:=h.blk.lt;have Yd:=(fun k (hk:vf.ownBlock=some k\/vb.ownBlock=some k)=>(show k<w.heap.size from hk.elim (fun e=>(h.fi.jw.lt k e).2) (fun e=>(h.fi.iG.lt k e).2)));have TF:=h.ax.lt bd rfl;have HMz:=h.busy.lt bz rfl;have Gt:=zh (fun(W7 w9:World) (cs1:Array Value) (f1 b1:Value) (q1:Wq) (h:eC w W7 B o ty cs vf vb (.map (some bd)) (.map (some bz)) cs1 f1 b1 (.map (some bd)) (.map (some bz)) q1) (hu:ah (fun k=>k=w.heap.size) W7 w9) (hf:∀k,(f1.ownBlock=some k\/b1.ownBlock=some k)->¬k=w.heap.size)=>h.keep hu (fun e=>oH HB) hf (fun k hk e=>by
  have:=TF;have:=HMz;rcases hk with hk|hk<;>(injection hk with hk;omega)) (fun k hk=>oM))
 have HX:=hx;have HLz:q.busy.length<maxLen:=by unfold maxLen;omega
 obtain⟨R,hR⟩:=zE (((x,true),{q with fi:=q2,ax:=q.ax.filter fun y=>decide (y≠x),busy:=cE q.busy x}):(Key×Bool)×Wq);rw[<-hR];have HR:=zD hR;rw[hq]at HG;unfold Ti FY at HG;simp only at HG;clear h hq hl hR hx Nn;go_enter func373,ntmps373;go_upto_region 5 with(go_at_call 380;refine HG.mono ?_;rintro e w3 ⟨rfl,cs3,vf3,vb3,hk3⟩;have X3:=X0.trans (H0.line hk3);have hno:∀j,(vf3.ownBlock=some j\/vb3.ownBlock=some j)->¬j=w.heap.size:=(fun j hj e=>by {have h8:=hk3.own j hj;have h9:=Yd j;simp only[World.size_alloc]at h8;rcases h8 with e2|e2|e2;exact absurd (h9 (.inl e2)) oM;exact absurd (h9 (.inr e2)) oM;omega});have Ks:=hno;have C3:=B0.upd hk3.upd (fun e=>by {have h9:=Yd w.heap.size;have:=HB;rcases e with e|e|e;omega;exact absurd (h9 (.inl e)) (lt_irrefl _);exact absurd (h9 (.inr e)) (lt_irrefl _)});have E3:=hk3.upd.size;clear hk3 hno)
 have X4:=X3.trans (X3.wq.stay (zW w3 (.cells x.row aS)));have B4:=ai.new w3 aS x.row;have C4:=C3.alloc (.cells x.row aS);have hz3:=E3;simp only[World.size_alloc]at hz3;have HZ3:bd≠w3.heap.size/\bz≠w3.heap.size/\bd≠w.heap.size/\bz≠w.heap.size:=oI TF HMz
 have HD3:=X4.wq.c3;clear hz3 E3 X3 C3 X0 H0 B0;generalize w3.alloc (.cells x.row aS)=W4 at *;generalize w3.heap.size=g4 at *;generalize w.heap.size=gw at *;refine zr (fun j=>[5].contains j) (fun wS=>Bl W4 wS) ?_;have S0:=(Below.refl W4.heap.size W4).drew;refine zk 5 [4] [_] (.c rfl rfl (zl fun _ h=>zb (B4.call h) underlying83) .nil) S0<|zQ 0 ?_;go_wp2_with fail;refine .i S0<|zQ 1 ?_;go_wp2_with fail;refine .i S0<|zQ 2 ?_;go_wp2_with fail;refine .i S0<|zk 1 [3] [.map (some bd)] (.q (zS fun _ h=>(X4.wq.blk.call h).ar X4.wq.c2) .nil) S0<|aq _ _ _ _ kZ<|zO 5 (fun Q2 aI=>?_);go_wp2_with(refine nC _ rfl _ _ rfl bd q.ax rfl (X4.wq.call (S0)).ax x rfl HX ?_;intro w5 Ay iK);(try refine aI _ _ ?_);(try clear aI Q2)
 refine wpAny_done kZ ?_ _;have X5:=X4.trans ((X4.wq.stay S0).trans ((X4.wq.call S0).af7 Ay iK));have B5:=(B4.call S0).grown iK (fun e=>by injection e with e;exact HZ3.1 e.symm);have C5:=(C4.call S0).grown iK (fun e=>by injection e with e;exact HZ3.2.2.1 e.symm);clear Ay iK S0 X4 B4 C4;go_upto_region 6 with fail
 refine zr (fun j=>[5].contains j) (fun wS=>Bl w5 wS) ?_;have S0:=(Below.refl w5.heap.size w5).drew;refine zk 1 [0,1,2,3,4] [_,.pointer (some ⟨B,o,none⟩),.pointer (some ⟨B,o+3,none⟩),.map (some bz),_] (.q zX<|.q zX<|.q zX<|.q (zS fun _ h=>(X5.wq.blk.call h).ar HD3)<|.c rfl rfl (zl fun _ h=>zb (B5.call h) underlying83) .nil) S0<|aq _ _ _ _ kZ<|zO 5 (fun Q2 aI=>?_);go_wp2_with(refine iZ _ rfl _ _ _ rfl bz q.busy rfl (X5.wq.call (S0)).busy HLz x rfl HX rfl ?_;intro w6 hm6 RU);(try refine aI _ _ ?_);(try clear aI Q2)
 refine wpAny_done kZ ?_ _;have X6:=X5.trans ((X5.wq.stay S0).trans ((X5.wq.call S0).ao0 hm6 RU));have B6:=(B5.call S0).grown RU (fun e=>by injection e with e;exact HZ3.2.1 e.symm);have C6:=(C5.call S0).grown RU (fun e=>by injection e with e;exact HZ3.2.2.2 e.symm);clear hm6 RU S0 X5 B5 C5;go_wp2_with(first
  |refine zI B6 underlying83 ?_
  |(refine zJ C6 ?_;intro w9 b8 dM))
 have X9:=Gt _ _ _ _ _ _ X6 ⟨dM.os,dM.tape,dM.output,dM.size,fun k hk hn=>dM.block k hk (fun e=>hn (by injection e))⟩ Ks;have hr:=HR.out;subst hr;refine bodyPost_ret (az rfl _ _ gw _ _ _ rfl b8 underlying83 rfl kZ) rfl ⟨_,_,_,_,_,rfl,X9⟩
theorem ag0 (B o:Nat) (ty:TypeId) (cs:Array Value) (vf vb vd vz:Value) (q:Wq) (w:World) (h:oF w B o ty cs vf vb vd vz q) (hl:q.fi.f.length<=100000/\q.fi.b.length<=100000) (Nn:q.busy.length<=100000) (hi:∀k∈q.fi.all,k∈q.ax) :
 Calls prog 373 #[.pointer (some ⟨B,o,none⟩)] w (TE B o ty cs vf vb vd vz (gG q) w):=by
 unfold gG;rcases q.fi.wG with⟨h0,h1⟩|⟨x,L,h1,h2,h3⟩
 ·have h9:=PG B o ty cs vf vb vd vz q w h hl (by rw[h1])
  rw[h1]at h9 |-
  simpa using h9
 ·have hx:=hi x (by rw[h2];simp)
  rcases h.ax with⟨e,hd⟩|⟨bd,e,-⟩
  ·rw[hd]at hx;simp at hx
  ·subst e
   have e2:∃bz,vz=.map (some bz):=by
    rcases h.busy with⟨e,-⟩|⟨bz,e,-⟩
    ·have:=h.both.2 e;cases this
    ·exact⟨bz,e⟩
   obtain⟨bz,rfl⟩:=e2;rw[h3]
   simpa using(KD B o ty cs vf vb bd bz q x _ w h hl Nn (h.ax.good x hx) h3)
end
section
open Go.RowKit Go.Maps
def TG (B o:Nat) (ty:TypeId) (cs:Array Value) (vf vb vd vz:Value) (g:(Bool×Int)×Wq) (w:World) (e:Ending) (w' : World):Prop:=∃cs' tv tx Ch Ci,e=.returned (.tuple #[.bool g.1.1,I6 g.1.2])/\eC w w' B o ty cs vf vb vd vz cs' tv tx Ch Ci g.2
theorem KE (B o:Nat) (ty:TypeId) (cs:Array Value) (vf vb vd vz:Value) (q:Wq) (k:Key) (w:World) (h:oF w B o ty cs vf vb vd vz q) (hk:k.good) (h1:k ∉ q.busy) :
 Calls prog 392 #[.pointer (some ⟨B,o,none⟩),.agg k.row] w (TG B o ty cs vf vb vd vz ((false,5),q) w):=by
 have EX:=zW w (.cells k.row aS);have X0:=(fun n=>h.stay (below_drewN EX n));have H0:=h.call EX;have c3:=H0.blk.ar h.c3;have hl:∀n,(Instr.lookup JO vz (.agg k.row) false).run prog ((w.alloc (.cells k.row aS)).drewN n)=.ok (I6 0) ((w.alloc (.cells k.row aS)).drewN n):=fun n=>by
  have:=(H0.busy.cD n).look hk;rw[if_neg h1]at this;exact this
 have b0:=(ai.new w aS k.row).z 0 (V6 k.hi);have b1:=(ai.new w aS k.row).z 1 (V6 k.lo);clear h H0 EX h1;go_enter func392,ntmps392;go_wp2;go_quiet(fail);go_wp2;go_ret2;exact⟨_,_,_,_,_,rfl,X0 _⟩
theorem GR (B o:Nat) (ty:TypeId) (cs:Array Value) (vf vb:Value) (bd bz:Nat) (q:Wq) (k:Key) (w:World) (h:oF w B o ty cs vf vb (.map (some bd)) (.map (some bz)) q) (hk:k.good) (hl:q.fi.b.length<100000) (h1:k∈q.busy) :
 Calls prog 392 #[.pointer (some ⟨B,o,none⟩),.agg k.row] w (TG B o ty cs vf vb (.map (some bd)) (.map (some bz)) (if k∈q.ax then((true,0),{q with busy:=q.busy.filter fun y=>decide (y≠k),fi:=q.fi.put k})else((false,0),{q with busy:=q.busy.filter fun y=>decide (y≠k)})) w):=by
 have EX:=zW w (.cells k.row aS);have X0:=zD (h.stay EX);have H0:=zD (h.call EX);have c3:=H0.out.blk.ar h.c3;have hl0:∀n,(Instr.lookup JO (.map (some bz)) (.agg k.row) false).run prog ((w.alloc (.cells k.row aS)).drewN n)=.ok (I6 1) ((w.alloc (.cells k.row aS)).drewN n):=fun n=>by
  have:=(H0.out.busy.cD n).look hk;rw[if_pos h1]at this;exact this
 have BX:=zD (ai.new w aS k.row);have b0:=BX.out.z 0 (V6 k.hi);have b1:=BX.out.z 1 (V6 k.lo);have tT:=zD h.c2;have HC3:=zD h.c3;have HK:=zD hk;have Kt:=zD hl;have mL:=zD (show bd≠w.heap.size/\bz≠w.heap.size from by
  have:=h.ax.lt bd rfl;have:=h.busy.lt bz rfl;omega)
 obtain⟨R,hR⟩:=zE (if k∈q.ax then((true,0),{q with busy:=q.busy.filter fun y=>decide (y≠k),fi:=q.fi.put k})else((false,0),{q with busy:=q.busy.filter fun y=>decide (y≠k)}):(Bool×Int)×Wq);rw[<-hR];have HR:=zD hR;clear h EX hl h1 hR;go_enter func392,ntmps392;go_wp2;go_quiet(fail);have X1:=zD (X0.out.trans (H0.out.stay (below_drewN bR nq)));have vP:=zD (BX.out.drewN nq);clear c3 hl0 b0 b1 H0 BX X0;generalize(w.alloc (.cells k.row aS)).drewN nq=W1 at *;generalize w.heap.size=gx at *;go_upto_region 3 with fail
 refine zr (fun j=>[5].contains j) (fun wS=>Bl W1 wS) ?_;have S0:=(Below.refl W1.heap.size W1).drew;refine zk 5 [4] [_] (.c rfl rfl (zl fun _ h=>zb (vP.out.call h) underlying83) .nil) S0 ?_;refine zQ 0 ?_;go_wp2_with fail;refine .i S0 ?_;refine zQ 1 ?_;go_wp2_with fail;refine .i S0 ?_;refine zQ 2 ?_;go_wp2_with fail;refine .i S0 ?_;refine zk 1 [3] [.map (some bz)] (.q (zS fun _ h=>(X1.out.wq.blk.call h).ar HC3.out) .nil) S0 ?_;refine aq _ _ _ _ kZ ?_;refine zO 5 (fun Q2 aI=>?_);go_wp2_with(refine nC _ rfl _ _ rfl bz q.busy rfl (X1.out.wq.call (S0)).busy k rfl HK.out ?_;intro w5 Ay iK);(try refine aI _ _ ?_);(try clear aI Q2)
 refine wpAny_done kZ ?_ _;have X5:=zD (X1.out.trans ((X1.out.wq.stay S0).trans ((X1.out.wq.call S0).ao0 Ay iK)));have Az:=zD ((vP.out.call S0).grown iK (fun e=>by injection e with e;exact mL.out.2 e.symm));clear Ay iK S0 X1 vP
 by_cases hb:k∈q.ax
 ·have hr:=HR.out
  rw[if_pos hb]at hr;have Yr:=zD hr;clear hr HR;have qf:=zD (show(if k∈q.ax then(1:Int)else 0)=1 from if_pos hb);have:=X5.out.wq.blk.ar tT.out;have:=Az.out.z 0 (V6 k.hi);have:=Az.out.z 1 (V6 k.lo);go_upto_region 4 with fail
  refine zr (fun j=>[12,13,14,15].contains j) (fun wS=>Bl w5 wS) ?_;have S0:=(Below.refl w5.heap.size w5).drew;refine zY 0 4 ?_ ?_
  ·
   go_wp2_with fail;refine .i S0 ?_;refine zY 1 4 ?_ ?_
   ·
    go_wp2_with fail;refine .i S0 ?_;refine zY 2 4 ?_ ?_
    ·
     go_wp2_with fail;refine .i S0 ?_;refine zY 3 4 ?_ ?_
     ·
      go_wp2_with fail;refine .i S0 ?_;refine zQ 4 ?_;go_wp2_with fail;refine .i S0 ?_;refine zQ 5 ?_;go_wp2_with(refine ek _ rfl _ _ rfl (.map (some bd)) q.ax rfl (X5.out.wq.call (S0)).ax k rfl HK.out ?_;rw[qf.out]);refine .i S0 ?_;refine zQ 6 ?_;go_wp2_with fail;refine .i S0 ?_;refine zk 7 [7,11] [_,_] (.q zX<|.c rfl rfl (zl fun _ h=>zb (Az.out.call h) underlying83) .nil) S0 ?_;refine zQ 8 ?_;go_wp2_with fail;refine .i S0 ?_;refine zQ 9 ?_;go_wp2_with fail;refine .i S0 ?_;refine zq 4 [10] [.pointer (some ⟨B,o,none⟩)] S0 ?_;refine aq _ _ _ _ kZ ?_;refine zO 12 (fun Q2 aI=>?_);go_wp2_with(go_at_call 358;refine(qE B o ty cs vf vb q.fi k _ (X5.out.wq.call (S0)).fi Kt.out).mono ?_;rintro e v9 ⟨rfl,Nh,vf9,vb9,mz⟩);(try refine aI _ _ ?_);(try clear aI Q2)
      refine wpAny_take (i:=13) (v:=_) rfl kZ kZ kZ (fun _ _ _ h=>h) (Or.inl ⟨by rfl,fun W=>by rfl⟩) ?_;refine wpAny_take (i:=14) (v:=_) rfl kZ kZ kZ (fun _ _ _ h=>h) (Or.inl ⟨by rfl,fun W=>by rfl⟩) ?_;refine wpAny_take (i:=15) (v:=_) rfl kZ kZ kZ (fun _ _ _ h=>h) (Or.inl ⟨by rfl,fun W=>by rfl⟩) ?_;refine wpAny_done kZ ?_ _;have X9:=zD (X5.out.trans ((X5.out.wq.stay S0).trans ((X5.out.wq.call S0).line mz)));clear mz;go_wp2;go_ret2;have hr:=Yr.out;exact⟨_,_,_,_,_,(by rw[hr];rfl),by rw[hr];exact X9.out⟩
     ·
      go_wp2_with fail;refine .i S0 ?_;refine zQ 3 ?_;go_wp2_with fail;refine .i S0 ?_;refine zQ 5 ?_;go_wp2_with(refine ek _ rfl _ _ rfl (.map (some bd)) q.ax rfl (X5.out.wq.call (S0)).ax k rfl HK.out ?_;rw[qf.out]);refine .i S0 ?_;refine zQ 6 ?_;go_wp2_with fail;refine .i S0 ?_;refine zk 7 [7,11] [_,_] (.q zX<|.c rfl rfl (zl fun _ h=>zb (Az.out.call h) underlying83) .nil) S0 ?_;refine zQ 8 ?_;go_wp2_with fail;refine .i S0 ?_;refine zQ 9 ?_;go_wp2_with fail;refine .i S0 ?_;refine zq 4 [10] [.pointer (some ⟨B,o,none⟩)] S0 ?_;refine aq _ _ _ _ kZ ?_;refine zO 12 (fun Q2 aI=>?_);go_wp2_with(go_at_call 358;refine(qE B o ty cs vf vb q.fi k _ (X5.out.wq.call (S0)).fi Kt.out).mono ?_;rintro e v9 ⟨rfl,Nh,vf9,vb9,mz⟩);(try refine aI _ _ ?_);(try clear aI Q2)
      refine wpAny_take (i:=13) (v:=_) rfl kZ kZ kZ (fun _ _ _ h=>h) (Or.inl ⟨by rfl,fun W=>by rfl⟩) ?_;refine wpAny_take (i:=14) (v:=_) rfl kZ kZ kZ (fun _ _ _ h=>h) (Or.inl ⟨by rfl,fun W=>by rfl⟩) ?_;refine wpAny_take (i:=15) (v:=_) rfl kZ kZ kZ (fun _ _ _ h=>h) (Or.inl ⟨by rfl,fun W=>by rfl⟩) ?_;refine wpAny_done kZ ?_ _;have X9:=zD (X5.out.trans ((X5.out.wq.stay S0).trans ((X5.out.wq.call S0).line mz)));clear mz;go_wp2;go_ret2;have hr:=Yr.out;exact⟨_,_,_,_,_,(by rw[hr];rfl),by rw[hr];exact X9.out⟩
    ·
     go_wp2_with fail;refine .i S0 ?_;refine zQ 2 ?_;go_wp2_with fail;refine .i S0 ?_;refine zQ 3 ?_;go_wp2_with fail;refine .i S0 ?_;refine zQ 5 ?_;go_wp2_with(refine ek _ rfl _ _ rfl (.map (some bd)) q.ax rfl (X5.out.wq.call (S0)).ax k rfl HK.out ?_;rw[qf.out]);refine .i S0 ?_;refine zQ 6 ?_;go_wp2_with fail;refine .i S0 ?_;refine zk 7 [7,11] [_,_] (.q zX<|.c rfl rfl (zl fun _ h=>zb (Az.out.call h) underlying83) .nil) S0 ?_;refine zQ 8 ?_;go_wp2_with fail;refine .i S0 ?_;refine zQ 9 ?_;go_wp2_with fail;refine .i S0 ?_;refine zq 4 [10] [.pointer (some ⟨B,o,none⟩)] S0 ?_;refine aq _ _ _ _ kZ ?_;refine zO 12 (fun Q2 aI=>?_);go_wp2_with(go_at_call 358;refine(qE B o ty cs vf vb q.fi k _ (X5.out.wq.call (S0)).fi Kt.out).mono ?_;rintro e v9 ⟨rfl,Nh,vf9,vb9,mz⟩);(try refine aI _ _ ?_);(try clear aI Q2)
     refine wpAny_take (i:=13) (v:=_) rfl kZ kZ kZ (fun _ _ _ h=>h) (Or.inl ⟨by rfl,fun W=>by rfl⟩) ?_;refine wpAny_take (i:=14) (v:=_) rfl kZ kZ kZ (fun _ _ _ h=>h) (Or.inl ⟨by rfl,fun W=>by rfl⟩) ?_;refine wpAny_take (i:=15) (v:=_) rfl kZ kZ kZ (fun _ _ _ h=>h) (Or.inl ⟨by rfl,fun W=>by rfl⟩) ?_;refine wpAny_done kZ ?_ _;have X9:=zD (X5.out.trans ((X5.out.wq.stay S0).trans ((X5.out.wq.call S0).line mz)));clear mz;go_wp2;go_ret2;have hr:=Yr.out;exact⟨_,_,_,_,_,(by rw[hr];rfl),by rw[hr];exact X9.out⟩
   ·
    go_wp2_with fail;refine .i S0 ?_;refine zQ 1 ?_;go_wp2_with fail;refine .i S0 ?_;refine zQ 2 ?_;go_wp2_with fail;refine .i S0 ?_;refine zQ 3 ?_;go_wp2_with fail;refine .i S0 ?_;refine zQ 5 ?_;go_wp2_with(refine ek _ rfl _ _ rfl (.map (some bd)) q.ax rfl (X5.out.wq.call (S0)).ax k rfl HK.out ?_;rw[qf.out]);refine .i S0 ?_;refine zQ 6 ?_;go_wp2_with fail;refine .i S0 ?_;refine zk 7 [7,11] [_,_] (.q zX<|.c rfl rfl (zl fun _ h=>zb (Az.out.call h) underlying83) .nil) S0 ?_;refine zQ 8 ?_;go_wp2_with fail;refine .i S0 ?_;refine zQ 9 ?_;go_wp2_with fail;refine .i S0 ?_;refine zq 4 [10] [.pointer (some ⟨B,o,none⟩)] S0 ?_;refine aq _ _ _ _ kZ ?_;refine zO 12 (fun Q2 aI=>?_);go_wp2_with(go_at_call 358;refine(qE B o ty cs vf vb q.fi k _ (X5.out.wq.call (S0)).fi Kt.out).mono ?_;rintro e v9 ⟨rfl,Nh,vf9,vb9,mz⟩);(try refine aI _ _ ?_);(try clear aI Q2)
    refine wpAny_take (i:=13) (v:=_) rfl kZ kZ kZ (fun _ _ _ h=>h) (Or.inl ⟨by rfl,fun W=>by rfl⟩) ?_;refine wpAny_take (i:=14) (v:=_) rfl kZ kZ kZ (fun _ _ _ h=>h) (Or.inl ⟨by rfl,fun W=>by rfl⟩) ?_;refine wpAny_take (i:=15) (v:=_) rfl kZ kZ kZ (fun _ _ _ h=>h) (Or.inl ⟨by rfl,fun W=>by rfl⟩) ?_;refine wpAny_done kZ ?_ _;have X9:=zD (X5.out.trans ((X5.out.wq.stay S0).trans ((X5.out.wq.call S0).line mz)));clear mz;go_wp2;go_ret2;have hr:=Yr.out;exact⟨_,_,_,_,_,(by rw[hr];rfl),by rw[hr];exact X9.out⟩
  ·
   go_wp2_with fail;refine .i S0 ?_;refine zQ 0 ?_;go_wp2_with fail;refine .i S0 ?_;refine zQ 1 ?_;go_wp2_with fail;refine .i S0 ?_;refine zQ 2 ?_;go_wp2_with fail;refine .i S0 ?_;refine zQ 3 ?_;go_wp2_with fail;refine .i S0 ?_;refine zQ 5 ?_;go_wp2_with(refine ek _ rfl _ _ rfl (.map (some bd)) q.ax rfl (X5.out.wq.call (S0)).ax k rfl HK.out ?_;rw[qf.out]);refine .i S0 ?_;refine zQ 6 ?_;go_wp2_with fail;refine .i S0 ?_;refine zk 7 [7,11] [_,_] (.q zX<|.c rfl rfl (zl fun _ h=>zb (Az.out.call h) underlying83) .nil) S0 ?_;refine zQ 8 ?_;go_wp2_with fail;refine .i S0 ?_;refine zQ 9 ?_;go_wp2_with fail;refine .i S0 ?_;refine zq 4 [10] [.pointer (some ⟨B,o,none⟩)] S0 ?_;refine aq _ _ _ _ kZ ?_;refine zO 12 (fun Q2 aI=>?_);go_wp2_with(go_at_call 358;refine(qE B o ty cs vf vb q.fi k _ (X5.out.wq.call (S0)).fi Kt.out).mono ?_;rintro e v9 ⟨rfl,Nh,vf9,vb9,mz⟩);(try refine aI _ _ ?_);(try clear aI Q2)
   refine wpAny_take (i:=13) (v:=_) rfl kZ kZ kZ (fun _ _ _ h=>h) (Or.inl ⟨by rfl,fun W=>by rfl⟩) ?_;refine wpAny_take (i:=14) (v:=_) rfl kZ kZ kZ (fun _ _ _ h=>h) (Or.inl ⟨by rfl,fun W=>by rfl⟩) ?_;refine wpAny_take (i:=15) (v:=_) rfl kZ kZ kZ (fun _ _ _ h=>h) (Or.inl ⟨by rfl,fun W=>by rfl⟩) ?_;refine wpAny_done kZ ?_ _;have X9:=zD (X5.out.trans ((X5.out.wq.stay S0).trans ((X5.out.wq.call S0).line mz)));clear mz;go_wp2;go_ret2;have hr:=Yr.out;exact⟨_,_,_,_,_,(by rw[hr];rfl),by rw[hr];exact X9.out⟩
 ·have hr:=HR.out
  rw[if_neg hb]at hr;have Yr:=zD hr;clear hr HR;have:=X5.out.wq.blk.ar tT.out;have:=Az.out.z 0 (V6 k.hi);have:=Az.out.z 1 (V6 k.lo);have RR:=fun n=>(X5.out.wq.ax.cD n).look HK.out
  simp only[if_neg hb]at RR;go_wp2;go_quiet(fail);go_wp2;go_ret2;have hr:=Yr.out;exact⟨_,_,_,_,_,(by rw[hr];rfl),by rw[hr];exact(X5.out.trans (X5.out.wq.stay (below_drewN bR nq)))⟩
theorem Yt (B o:Nat) (ty:TypeId) (cs:Array Value) (vf vb vd vz:Value) (q:Wq) (k:Key) (w:World) (h:oF w B o ty cs vf vb vd vz q) (hk:k.good) (hl:q.fi.b.length<100000) :
 Calls prog 392 #[.pointer (some ⟨B,o,none⟩),.agg k.row] w (TG B o ty cs vf vb vd vz (oG q k) w):=by
 unfold oG
 by_cases h1:k∈q.busy
 ·rw[if_pos h1]
  rcases h.busy with⟨e,hd⟩|⟨bz,e,-⟩
  ·rw[hd]at h1;simp at h1
  ·subst e
   have e2:∃bd,vd=.map (some bd):=by
    rcases h.ax with⟨e,-⟩|⟨bd,e,-⟩
    ·have:=h.both.1 e;cases this
    ·exact⟨bd,e⟩
   obtain⟨bd,rfl⟩:=e2;exact GR B o ty cs vf vb bd bz q k w h hk hl h1
 ·rw[if_neg h1]
  exact KE B o ty cs vf vb vd vz q k w h hk h1
theorem Yu (B o:Nat) (ty:TypeId) (cs:Array Value) (vf vb vd vz:Value) (q:Wq) (w:World) (h:oF w B o ty cs vf vb vd vz q) (hl:q.fi.f.length<=100000/\q.fi.b.length<=100000) :
 Calls prog 374 #[.pointer (some ⟨B,o,none⟩)] w (Rt (.bool (q.over&&decide (q.fi.all=[]))) (Bl w)):=by
 have c4:=h.blk.ar h.c4;cases ho:q.over
 ·rw[ho]at c4
  clear h ho;go_enter func374,ntmps374;go_wp2;go_ret;exact⟨rfl,Below.refl _ _⟩
 ·rw[ho]at c4
  have HL:=Ka B o ty cs vf vb q.fi w h.fi hl
  by_cases h0:q.fi.all=[]
  ·have HQ:decide (q.fi.all=[])=true:=by simp[h0]
   have HL:=HL;rw[h0]at HL;have HL:=HL;clear h ho h0 hl;go_enter func374,ntmps374;go_wp2_with(go_at_call 381;refine HL.mono ?_;rintro e w3 ⟨rfl,hb3⟩);go_ret;exact⟨by rw[HQ];rfl,hb3⟩
  ·have HQ:decide (q.fi.all=[])=false:=by simp[h0]
   have hn:¬((q.fi.all.length:Nat):Int)=0:=fun e=>h0 (aC0 oM)
   generalize q.fi.all.length=NL at *;clear h ho h0 hl;go_enter func374,ntmps374;go_wp2_with(go_at_call 381;refine HL.mono ?_;rintro e w3 ⟨rfl,hb3⟩);go_ret;have hz:(((NL:Nat):Int)==0)=false:=beq_false_of_ne hn;exact⟨by rw[HQ];show Ending.returned (.bool (((NL:Nat):Int)==0))=_;rw[hz];rfl,hb3⟩
end
end Go.Proofs.YtjgmjohiehbgaaaGreat
