/- Part 6. -/
import Derived.Test.YtjgmjohiehbgaaaGreatQ1
import Derived.Test.YtjgmjohiehbgaaaGreatQ4
namespace Go.Proofs.YtjgmjohiehbgaaaGreat
open Go.RowKit Go.Proofs.Tryz
set_option maxHeartbeats 20000000
set_option maxRecDepth 100000
set_option linter.all false
variable{A:Option Addr}{B c k o:Nat}{cs cs1:Array Value}{l l1:Lk}{n p:Int}{ty:TypeId}{v v' v1:Value}{w w' w1 w2:World}
abbrev gv(n:Int):List Value:=[I6 n]
abbrev tX(w:World)(base:Nat)(v:Value)(l:List Int):Prop:=Own w base 3 1 gv v l
abbrev dt(w:World)(A:Option Addr)(len cap:Nat)(l:List Int):Prop:=ag w 1 gv A len cap l
def jL:(prog.info? 3).map (λi=>(i.zero,i.size,i.bytes))=some (some (I6 0),1,8):=kZ
def ma:∀x:Int,∀u∈gv x,u.oneCell' = true:=λ_ u hu=>by simp at hu;subst hu;rfl
def Nq:(prog.info? 408).map (λi=>(i.zero,i.size,i.bytes))=some (some (.agg #[I6 0,.bool false]),2,16):=kZ
def TI:∀x:Wt,∀u∈x.cells,u.oneCell' = true:=by
 intro x u hu;simp[Wt.cells]at hu;rcases hu with rfl|rfl<;>rfl
def pF{ops:Array Oper}{rest:List Oper}{o:Oper}{a:Act}{Q:Exit->Act->World->Prop}(w:World)(hgd:o.guard=none)(s x:Operand)
 (ho:o.op=.call {callee:=.builtin .append,args:=#[s,x],argTypes:=#[25,25]}) (base:Nat) (v:Value) (l:List Int) (hs:a.eval s=v) (hown:tX w base v l)
 (g:Nat) (t:TypeId) (c:Nat) (y:Int) (hx:a.eval x=.slice (some ⟨g,0,none⟩) 1 c) (hnews:ai w g t #[I6 y]) (hlen:l.length<1000000) (hbase:base<=w.heap.size)
 (h:∀v' w',tX w' base v' (l++[y])->Below base w w'->w.grownBy w' v.ownBlock->wpList prog ops Q rest (a.put o.dst v') w'):wpList prog ops Q (o::rest) a w:=
 iC w hgd s x 25 ho base 3 _ 1 8 _ underlying25 jL rF dC (λ_=>rfl) ma v l hs hown ⟨g,0,none⟩ c y hx (br (α:=Int) (vs:=[I6 y]) hnews rfl) hlen dC hbase h
theorem qQ(A:Option Addr)(n c:Nat)(l:List Int)(x:Int)(w:World)(hs:dt w A n c l):Calls prog 49 #[.slice A n c,I6 x] w λe w'=>e=.returned (.bool (l.contains x))/\w=w':=by
 obtain⟨h1,h2,h3,h4,h5⟩:=hs
 by_cases h0:n=0
 ·subst h0
  have:l=[]:=aC0 h1;subst this;exact(aQ1 A c x w).mono λe w' h=>⟨h.1,h.2.symm⟩
 ·cases A with
  |none=>exact absurd (h4 rfl).1 h0
  |some a=>
   obtain⟨k1,k2⟩:=h5 a rfl;obtain⟨b,off,q⟩:=a;have hq:q=none:=(k2 oM).2;subst hq;have hc:∀j,j<l.length->w.cell? ⟨b,off+j,none⟩=some (I6 (l.getD j 0)):=λj hj=>by
    have:=k1 j (l[j]) (aB3 hj) 0 _ rfl;rw[Addr.add_lit]at this;rw[aB7,aB3 hj]
    simpa using this
   refine(aQ0 b off n c l x w oM (by unfold maxLen at h3;omega) hc).mono ?_;rintro e w' ⟨rfl,rfl⟩;exact⟨by rw[aB5 oM],rfl⟩
def qR:∀x:Wt,x.cells.length=2:=λ_=>rfl
def GV(l:Lk)(w:World)(e:Ending)(w' : World):Prop:=∃A n c,e=.returned (.slice A n c)/\dt w' A n c (l.line.map Wt.task)/\tX w' w.heap.size (.slice A n c) (l.line.map Wt.task)/\Bl w w'
def Yv{L:List Wt}{x:Wt}(h:L[k]? = some x):(L.take (k+1)).map Wt.task=(L.take k).map Wt.task++[x.task]:=by
 rw[aE3,h,aG4];rfl
def Wts.at_{len cap:Nat}{l:List Wt}(h:ag w 2 Wt.cells A len cap l)(hk:k<len):
 ∃(b off:Nat)(x:Wt),A=some ⟨b,off,none⟩/\l[k]? = some x/\b<w.heap.size/\w.cell? ⟨b,off+k*2,none⟩=some (I6 x.task)/\w.cell? ⟨b,off+k*2+1,none⟩=some (.bool x.write):=by
 obtain⟨b,off,x,h1,h2,h3,h4⟩:=ag.at_ h hk;exact⟨b,off,x,h1,h2,h3,sH (h4 0 _ rfl),by have:=h4 1 _ rfl;simpa[aD9]using this⟩
theorem qT(B o:Nat)(ty:TypeId)(cs:Array Value)(v:Value)(l:Lk)(w:World)(h:mA w B o ty cs v l)(hl:l.line.length<=1000) :
 Calls prog 253 #[.pointer (some ⟨B,o,none⟩)] w (GV l w):=by
 obtain⟨A,n,c,rfl,hn,hs⟩:=h.own.shape qR;have c2:=h.blk.ar h.c2;have HS:=hs;have HN:=hn;have:n<=1000:=oM
 have HP:=(λ(e:Ending)(w' : World)(h:∃A n c,e=.returned (.slice A n c)/\tX w' w.heap.size (.slice A n c) (l.line.map Wt.task)/\Bl w w')=>(show GV l w e w' from by
  obtain⟨A,n,c,rfl,ho,hb⟩:=h;obtain⟨A',n',c',he,-,hs⟩:=ho.shape (λ_=>rfl);injection he with e1 e2 e3
  subst e1;subst e2;subst e3;exact⟨A,n,c,rfl,hs,ho,hb⟩))
 generalize l.line=L at *;clear h hs hl hn;go_enter func253,ntmps253;go_wp2;go_loopw[3,13] (λo i wr=>∃(k no co:Nat)(Ao:Option Addr),k<=n/\i = I6 k/\o=.slice Ao no co/\tX wr w.heap.size (.slice Ao no co) ((L.take k).map Wt.task)/\Bl w wr) (λ_ i _=>n-(intOf i).toNat)
 case atStart=>exact⟨0,0,0,none,aB6 _,rfl,rfl,Own.nil _ _ _ _ _,Below.refl _ _⟩
 case round=>
  obtain⟨k,no,co,Ao,hk,rfl,rfl,hown,aT⟩:=hrel;have HO:=hown;have HB:=aT
  by_cases hlt:k<n
  ·obtain⟨bb,off,x,rfl,hx,hb,d0,d1⟩:=Wts.at_ (af HS aT) hlt
   have:(k:Int)<(n:Int):=oM
   have fG:=Yv hx;have fJ:((L.take k).map Wt.task).length<1000000:=by rw[aC8,aC3];omega
   obtain⟨xt,xw⟩:=x;dsimp only at d0 d1 fG;clear hx hb hown aT c2;go_wp2_with(at_builtin;refine pF _ rfl (.tmp 17) (.tmp 20) rfl w.heap.size (.slice Ao no co) _ rfl ((HO.alloc _).alloc _) (wr.heap.size+1) 3 1 xt rfl (ai.dR wr _ _ _) fJ (by have:=HB.size;simp;omega) ?_;intro v' w5 kG dx iK;obtain⟨A5,n5,c5,rfl,-,-⟩:=kG.shape (λ_=>rfl);have O5:=kG;have B5:=((HB.alloc HB.size _).alloc (by have:=HB.size;simp;omega) _).trans dx;clear kG dx iK);go_roundw
   case rel=>exact⟨k+1,n5,c5,A5,oM,by go_num,rfl,fG▸O5,B5⟩
   case measure=>simp[intOf];omega
  ·have hE:L.take k=L:=aB5 (oH HN)
   rw[hE]at HO;have:(n:Int)<=(k:Int):=oM
   clear hE hown aT c2;go_wp2;go_ret;exact HP _ _ ⟨_,_,_,rfl,HO,HB⟩
structure bW(w w' : World)(B o:Nat)(ty:TypeId)(cs:Array Value)(v:Value)(cs' : Array Value)(v' : Value)(l' : Lk):Prop where
 lk:mA w' B o ty cs' v' l'
 upd:ah (λk=>k=B\/v.ownBlock=some k) w w'
 own:v'.ownBlock=v.ownBlock\/∃g,v'.ownBlock=some g/\w.heap.size<=g
 size:cs'.size=cs.size
 rest:∀i,i≠o->i≠o+1->i≠o+2->cs'[i]? = cs[i]?
def Dt{i:Nat}{u u0:Value}(h:cs[i]? = some u0):(cs.setIfInBounds i u)[i]? = some u:=by
 obtain⟨hi,-⟩:=aF4.1 h;simp[hi]
def fw{i j:Nat}{u:Value}(h:i≠j):(cs.setIfInBounds i u)[j]? = cs[j]?:=by
 rw[Array.getElem?_setIfInBounds_ne h]
def eP(l:Lk)(x:Wt):Lk:=if x.write then {l with w:=l.w ||| b7 x.task} else {l with r:=l.r ||| b7 x.task}
def bW.pre{w0: World}{cs': Array Value}{l' : Lk}(h:bW w w' B o ty cs v cs' v' l')(hb:Bl w0 w):bW w0 w' B o ty cs v cs' v' l':=
 ⟨h.lk,(ah.aa hb:ah _ w0 w).trans h.upd iL,h.own.imp id (λ⟨g,h1,h2⟩=>⟨g,h1,aB4 hb.size h2⟩),h.size,h.rest⟩
def mA.ao3(h:mA w B o ty cs v l)(b:BitVec 32):
 bW w (w.setCell ⟨B,o+1,none⟩ (fU b)) B o ty cs v (cs.setIfInBounds (o+1) (fU b)) v {l with w:=b}:=
 ⟨⟨h.blk.aX _ _,(fw oM).trans h.c0,Dt h.c1,(fw oM).trans h.c2,h.own.far (λk hk e=>h.ne (by rw[hk,e])) _,h.ne⟩,
  (ah.refl (λk=>k=B\/v.ownBlock=some k) w).setCell (.inl (.inl rfl)) _,.inl rfl,sI,λi h0 h1 h2=>fw (Ne.symm h1)⟩
def mA.ao4(h:mA w B o ty cs v l)(b:BitVec 32):
 bW w (w.setCell ⟨B,o,none⟩ (fU b)) B o ty cs v (cs.setIfInBounds o (fU b)) v {l with r:=b}:=
 ⟨⟨h.blk.aX _ _,Dt h.c0,(fw oM).trans h.c1,(fw oM).trans h.c2,h.own.far (λk hk e=>h.ne (by rw[hk,e])) _,h.ne⟩,
  (ah.refl (λk=>k=B\/v.ownBlock=some k) w).setCell (.inl (.inl rfl)) _,.inl rfl,sI,λi h0 h1 h2=>fw (Ne.symm h0)⟩
def bW.drewN{cs': Array Value}{l' : Lk}(h:bW w w' B o ty cs v cs' v' l')(n:Nat):bW w (w'.drewN n) B o ty cs v cs' v' l':=
 ⟨h.lk.drewN n,h.upd.cD n,h.own,h.size,h.rest⟩
theorem Nr(B o:Nat)(ty:TypeId)(cs:Array Value)(v:Value)(l:Lk)(t:Int)(wr:Bool)(w:World)(h:mA w B o ty cs v l)(ht:aw t) :
 Calls prog 357 #[.pointer (some ⟨B,o,none⟩),.agg #[I6 t,.bool wr]] w λe w'=>e=.returned (.tuple #[])/\∃cs',bW w w' B o ty cs v cs' v (eP l ⟨t,wr⟩):=by
 have HB:=(λW=>mV t W ht);have BX:=ai.new w AJ #[I6 t,.bool wr];have EX:=zW w (.cells #[I6 t,.bool wr] AJ);have H0:=h.call EX;have Ap:=(λw' cs' v' l' (h:bW (w.alloc (.cells #[I6 t,.bool wr] AJ)) w' B o ty cs v cs' v' l')=>h.pre EX);clear h EX;cases wr
 ·have HQ:eP l ⟨t,false⟩ = {l with r:=l.r ||| b7 t}:=rfl
  have:=GU l.r (b7 t);have HS:=(λ(b:BitVec 32)(n:Nat)=>Ap _ _ _ _ ((H0.ao4 b).drewN n));clear Ap;generalize b7 t=b at *;go_enter func357,ntmps357;go_upto_region 3 with fail
  generalize w.alloc (.cells #[I6 t,.bool false] AJ)=W0 at *;generalize w.heap.size=gx at *;have:=H0.blk.frozen (o);have:=H0.blk.ar H0.c0;refine zr (λj=>[10].contains j) (λwS=>Bl W0 wS) ?_;have S0:=(Below.refl W0.heap.size W0).drew;refine zk 6 [0,1,2,3,4] [_,.pointer (some ⟨B,o,none⟩),.pointer (some ⟨B,o,none⟩),fU l.r,pt gx] (.q zX<|.q zX<|.q zX<|.q (zS λ_ h=>(H0.blk.call h).ar H0.c0)<|.e) S0 ?_;refine zk 5 [5] [I6 t] (.q (zS λ_ h=>(BX.call h).z 0 (I6 t)) .nil) S0 ?_;refine zQ 6 ?_;go_wp2_with(go_at_call 297;refine zN (HB _) ?_);refine .i S0 ?_;refine zq 3 [7] [fU (l.r ||| b)] S0 ?_;refine zQ 8 ?_;go_wp2_with fail;refine .i S0 ?_;refine zq 1 [9] [.pointer (some ⟨B,o,none⟩)] S0 ?_;refine aq _ _ _ _ kZ ?_;refine zO 10 (λQ2 aI=>?_);go_wp2_with fail;(try refine aI _ _ ?_);(try clear aI Q2)
  refine wpAny_done kZ ?_ _;have P1:∃cs',bW w (W0.setCell ⟨B,o,none⟩ (.int .u32 ↑(l.r.toNat ||| b.toNat))).drew B o ty cs v cs' v (eP l ⟨t,false⟩):=⟨_,by
   have h5:=HS (l.r ||| b) 1;rw[HQ];simp only[fU,BitVec.toNat_or]at h5;exact h5⟩
  go_wp2
  first|(refine bodyPost_ret (results_none rfl _ _ _) rfl ?_)|go_end0
  exact⟨rfl,P1⟩
 ·have HQ:eP l ⟨t,true⟩ = {l with w:=l.w ||| b7 t}:=rfl
  have:=GU l.w (b7 t);have HS:=(λ(b:BitVec 32)(n:Nat)=>Ap _ _ _ _ ((H0.ao3 b).drewN n));clear Ap;generalize b7 t=b at *;go_enter func357,ntmps357;go_upto_region 2 with fail
  generalize w.alloc (.cells #[I6 t,.bool true] AJ)=W0 at *;generalize w.heap.size=gx at *;have:=H0.blk.frozen (o+1);have:=H0.blk.ar H0.c1;refine zr (λj=>[10].contains j) (λwS=>Bl W0 wS) ?_;have S0:=(Below.refl W0.heap.size W0).drew;refine zk 6 [0,1,2,3,4] [_,.pointer (some ⟨B,o,none⟩),.pointer (some ⟨B,o+1,none⟩),fU l.w,pt gx] (.q zX<|.q zX<|.q zX<|.q (zS λ_ h=>(H0.blk.call h).ar H0.c1)<|.e) S0 ?_;refine zk 5 [5] [I6 t] (.q (zS λ_ h=>(BX.call h).z 0 (I6 t)) .nil) S0 ?_;refine zQ 6 ?_;go_wp2_with(go_at_call 297;refine zN (HB _) ?_);refine .i S0 ?_;refine zq 3 [7] [fU (l.w ||| b)] S0 ?_;refine zQ 8 ?_;go_wp2_with fail;refine .i S0 ?_;refine zq 1 [9] [.pointer (some ⟨B,o+1,none⟩)] S0 ?_;refine aq _ _ _ _ kZ ?_;refine zO 10 (λQ2 aI=>?_);go_wp2_with fail;(try refine aI _ _ ?_);(try clear aI Q2)
  refine wpAny_done kZ ?_ _;have P1:∃cs',bW w (W0.setCell ⟨B,o+1,none⟩ (.int .u32 ↑(l.w.toNat ||| b.toNat))).drew B o ty cs v cs' v (eP l ⟨t,true⟩):=⟨_,by
   have h5:=HS (l.w ||| b) 1;rw[HQ];simp only[fU,BitVec.toNat_or]at h5;exact h5⟩
  go_wp2
  first|(refine bodyPost_ret (results_none rfl _ _ _) rfl ?_)|go_end0
  exact⟨rfl,P1⟩
def oK(l:Lk)(t:Int)(wr:Bool):(Bool×Int)×Lk:=
 if b7 t=0#32 then((false,1),l)else if dh l t≠0 then((false,15),l)else if(l.line.map Wt.task).contains t=true then((false,15),l)
 else if l.line=[]/\j0 l wr=true then((true,0),eP l ⟨t,wr⟩)else((false,0),{l with line:=l.line++[⟨t,wr⟩]})
def PH(B o:Nat)(ty:TypeId)(cs:Array Value)(v:Value)(q:(Bool×Int)×Lk)(w:World)(e:Ending)(w' : World):Prop:=
 ∃cs' v',e=.returned (.tuple #[.bool q.1.1,I6 q.1.2])/\bW w w' B o ty cs v cs' v' q.2
def mA.wI{w3:World}{L' : List Wt}(h:mA w B o ty cs v l)(hu:ah (λk=>v.ownBlock=some k) w w3)(ho:aK w3 0 AJ 2 Wt.cells v' L')(hw:v'.ownBlock=v.ownBlock\/∃g,v'.ownBlock=some g/\w.heap.size<=g):
 bW w (w3.setCell ⟨B,o+2,none⟩ v') B o ty cs v (cs.setIfInBounds (o+2) v') v' {l with line:=L'}:=by
 have hne:v'.ownBlock≠some B:=by
  rcases hw with e|⟨g,e,hg⟩
  ·rw[e];exact h.ne
  ·rw[e];intro e2;have:=h.blk.lt;cases e2;omega
 exact⟨⟨(h.blk.upd hu h.ne).aX _ _,(fw oM).trans h.c0,(fw oM).trans h.c1,Dt h.c2,ho.far (λk hk e=>hne (by rw[hk,e])) _,hne⟩,
  (hu.mono (λk hk=>.inr hk)).setCell (.inl (.inl rfl)) _,hw,sI,λi h0 h1 h2=>fw (Ne.symm h2)⟩
def mA.stay(h:mA w B o ty cs v l)(hb:Bl w w'):bW w w' B o ty cs v cs v l:=
 ⟨h.call hb,ah.aa hb,.inl rfl,rfl,λ_ _ _ _=>rfl⟩
theorem KF(t:Int)(wr:Bool)(w:World):Calls prog 353 #[.pointer none,I6 t,.bool wr] w λe w'=>e=.returned (.tuple #[.bool false,I6 1])/\w=w':=by
 go_enter func353,ntmps353;go_wp2;go_ret2;exact⟨rfl,rfl⟩
theorem KH(B o:Nat)(ty:TypeId)(cs:Array Value)(v:Value)(l:Lk)(t:Int)(wr:Bool)(w:World)(h:mA w B o ty cs v l)(ht:aw t)(h1:b7 t=0#32) :
 Calls prog 353 #[.pointer (some ⟨B,o,none⟩),I6 t,.bool wr] w (PH B o ty cs v ((false,1),l) w):=by
 have HB:=mV t w ht;rw[h1]at HB;have HS:=h.stay (Below.refl _ w);clear h h1;go_enter func353,ntmps353;go_wp2_with(go_at_call 297;refine HB.mono ?_;rintro e v5 ⟨rfl,rfl⟩);go_ret2;exact⟨_,_,rfl,HS⟩
theorem GY(B o:Nat)(ty:TypeId)(cs:Array Value)(v:Value)(l:Lk)(t:Int)(wr:Bool)(w:World)(h:mA w B o ty cs v l)(ht:aw t)(h1:¬b7 t=0#32)(h2:dh l t≠0) :
 Calls prog 353 #[.pointer (some ⟨B,o,none⟩),I6 t,.bool wr] w (PH B o ty cs v ((false,15),l) w):=by
 have HB:=mV t w ht;have HH:=jy B o ty cs v l t w h ht;have HS:=h.stay (Below.refl _ w);have: ¬((((b7 t).toNat:Nat)):Int)=0:=λe=>h1 ((gJ _).1 e)
 unfold fU at HB;generalize(((b7 t).toNat:Nat):Int)=nb at *;generalize dh l t=H at *;clear h h1;go_enter func353,ntmps353;go_wp2_with(first
  |go_at_call 297;refine HB.mono ?_;rintro e v5 ⟨rfl,rfl⟩
  |(go_at_call 254;refine HH.mono ?_;rintro e v5 ⟨rfl,rfl⟩))
 go_ret2;exact⟨_,_,rfl,HS⟩
theorem Du(B o:Nat)(ty:TypeId)(cs:Array Value)(v:Value)(l:Lk)(t:Int)(wr:Bool)(w:World)(h:mA w B o ty cs v l)(ht:aw t)(hl:l.line.length<=1000)(h1:¬b7 t=0#32)(h2:dh l t=0)(h3:(l.line.map Wt.task).contains t=true) :
 Calls prog 353 #[.pointer (some ⟨B,o,none⟩),I6 t,.bool wr] w (PH B o ty cs v ((false,15),l) w):=by
 have HB:=mV t w ht;have HH:=jy B o ty cs v l t w h ht;rw[h2]at HH;have HW:=qT B o ty cs v l w h hl;have HC:=(λA n c W hW=>qQ A n c (l.line.map Wt.task) t W hW);rw[h3]at HC;have HS:=(λW hb=>h.stay (w':=W) hb);have: ¬((((b7 t).toNat:Nat)):Int)=0:=λe=>h1 ((gJ _).1 e)
 unfold fU at HB;unfold GV at HW;generalize(((b7 t).toNat:Nat):Int)=nb at *;generalize l.line.map Wt.task=LT at *;clear h h1 h2 h3;go_enter func353,ntmps353;go_wp2_with(first
  |go_at_call 297;refine HB.mono ?_;rintro e v5 ⟨rfl,rfl⟩
  |go_at_call 254;refine HH.mono ?_;rintro e v5 ⟨rfl,rfl⟩
  |go_at_call 253;refine HW.mono ?_;rintro e v6 ⟨A6,n6,c6,rfl,S6,-,B6⟩
  |(go_at_call 49;refine zN (HC _ _ _ _ S6) ?_))
 go_ret2;exact⟨_,_,rfl,HS _ B6⟩
theorem GZ(B o:Nat)(ty:TypeId)(cs:Array Value)(v:Value)(l:Lk)(t:Int)(wr:Bool)(w:World)(h:mA w B o ty cs v l)(ht:aw t)(h1:¬b7 t=0#32)(h2:dh l t=0)(h4:l.line=[])(h5:j0 l wr=true) :
 Calls prog 353 #[.pointer (some ⟨B,o,none⟩),I6 t,.bool wr] w (PH B o ty cs v ((true,0),eP l ⟨t,wr⟩) w):=by
 have HB:=mV t w ht;have HH:=jy B o ty cs v l t w h ht;rw[h2]at HH;have HW:=qT B o ty cs v l w h (by rw[h4];simp);have HC:=(λA n c W hW=>qQ A n c (l.line.map Wt.task) t W hW);have e3:(l.line.map Wt.task).contains t=false:=by rw[h4];rfl
 rw[e3]at HC;have HS:=h;have HF:=(λW hW=>Ds B o ty cs v l wr W hW);rw[h5]at HF;have HG:=(λW hW=>Nr B o ty cs v l t wr W hW ht);have: ¬((((b7 t).toNat:Nat)):Int)=0:=λe=>h1 ((gJ _).1 e)
 obtain⟨A,n,c,hv,hn,-⟩:=h.own.shape qR;have hn0:n=0:=by rw[hn,h4];rfl
 subst hn0;unfold fU at HB;unfold GV at HW;generalize(((b7 t).toNat:Nat):Int)=nb at *;generalize l.line.map Wt.task=LT at *;have tT:=h.c2;subst hv;clear h h1 h2 e3 h4 h5 hn;go_enter func353,ntmps353;go_wp2_with(first
  |go_at_call 297;refine HB.mono ?_;rintro e v5 ⟨rfl,rfl⟩
  |go_at_call 254;refine HH.mono ?_;rintro e v5 ⟨rfl,rfl⟩
  |go_at_call 253;refine HW.mono ?_;rintro e v6 ⟨A6,n6,c6,rfl,S6,-,dJ⟩;have BW:=dJ.alloc dJ.size (.cells #[I6 t,.bool wr] AJ);have K6:=HS.call BW;have:=K6.blk.ar tT;clear dJ
  |go_at_call 49;refine zN (HC _ _ _ _ S6) ?_
  |go_at_call 356;refine zN (HF _ K6) ?_
  |(go_at_call 357;refine(HG _ K6).mono ?_;rintro e v9 ⟨rfl,Nh,mz⟩;have K9:=mz.pre BW;clear mz))
 go_ret2;exact⟨_,_,rfl,K9⟩
theorem Ha(B o:Nat)(ty:TypeId)(cs:Array Value)(v:Value)(l:Lk)(t:Int)(wr:Bool)(w:World)(h:mA w B o ty cs v l)(ht:aw t)(hl:l.line.length<=1000)(h1:¬b7 t=0#32)(h2:dh l t=0)(h3:(l.line.map Wt.task).contains t=false)(h4:¬(l.line=[]/\j0 l wr=true)) :
 Calls prog 353 #[.pointer (some ⟨B,o,none⟩),I6 t,.bool wr] w (PH B o ty cs v ((false,0),{l with line:=l.line++[⟨t,wr⟩]}) w):=by
 have HB:=mV t w ht;have HH:=jy B o ty cs v l t w h ht;rw[h2]at HH;have HH:=HH;have HW:=qT B o ty cs v l w h hl;have HC:=(λA n c W hW=>qQ A n c (l.line.map Wt.task) t W hW);rw[h3]at HC;have HS:=h;have HF:=(λW hW=>Ds B o ty cs v l wr W hW);have d1:¬((((b7 t).toNat:Nat)):Int)=0:=λe=>h1 ((gJ _).1 e)
 obtain⟨A,n,c,hv,hn,-⟩:=h.own.shape qR;have hn5:n<=1000:=oM
 have nD:n=0->j0 l wr=false:=λe=>by
  have:l.line=[]:=aC0 oM;cases hh:j0 l wr
  ·rfl
  ·exact absurd ⟨this,hh⟩ h4
 have fJ:l.line.length<1000000:=oM
 have Kt:=h.blk.lt;have mW:=h.ne;unfold fU at HB;unfold GV at HW;have tT:=h.c2;generalize(((b7 t).toNat:Nat):Int)=nb at *;generalize l.line.map Wt.task=LT at *;generalize j0 l wr=FT at *;clear h1 h2 h3 h4 hn h;subst hv;have tail:∀(W6:World)(a:Act)(Q:Exit->Act->World->Prop),True:=λ_ _ _=>trivial
 by_cases h0:n=0
 ·have hF:=nD h0
  subst h0;subst hF;clear nD tail;go_enter func353,ntmps353;go_upto_region 9 with(first
   |go_at_call 297;refine HB.mono ?_;rintro e v5 ⟨rfl,rfl⟩
   |go_at_call 254;refine HH.mono ?_;rintro e v5 ⟨rfl,rfl⟩
   |go_at_call 253;refine HW.mono ?_;rintro e v6 ⟨A6,n6,c6,rfl,uZ,-,dJ⟩;have S6:=uZ;have:=dJ;have BW:=dJ.alloc dJ.size (.cells #[I6 t,.bool wr] AJ);have BXW:=ai.new v6 AJ #[I6 t,.bool wr];have K6:=HS.call BW;have c2:=K6.blk.ar tT;have hx6:=dJ.size;clear uZ dJ
   |go_at_call 49;refine zN (HC _ _ _ _ S6) ?_
   |(go_at_call 356;refine zN (HF _ K6) ?_))
  have Ap:=(λw' cs' v' l' (h:bW (v6.alloc (.cells #[I6 t,.bool wr] AJ)) w' B o ty cs (.slice A 0 c) cs' v' l')=>h.pre BW);have hgx:(Value.slice A 0 c).ownBlock≠some v6.heap.size:=λe=>by have:=Kt;have:=HS.own.lt _ e;omega
  have mL:=hgx;clear c2 BW S6 hgx hx6;generalize v6.alloc (.cells #[I6 t,.bool wr] AJ)=W0 at *;generalize v6.heap.size=gx at *;refine zr (λj=>[10].contains j) (λwS=>ah (λk=>(Value.slice A 0 c).ownBlock=some k) W0 wS) ?_;have S0:=(ah.refl (λk=>(Value.slice A 0 c).ownBlock=some k) W0).drew;refine zk 6 [0,1,2,3,4] [_,_,.pointer (some ⟨B,o,none⟩),.pointer (some ⟨B,o+2,none⟩),.slice A 0 c] (.q zX<|.q zX<|.q zX<|.q zX<|.q (zS λ_ h=>(K6.blk.upd h mW).ar tT) .nil) S0 ?_;refine zk 5 [5] [_] (.c rfl rfl (zl λ_ h=>zb (BXW.upd h mL) underlying408) .nil) S0 ?_;refine zQ 6 ?_;have nG:=iA (S:=S0) (#[I6 t,.bool wr]) 408;obtain⟨G,hG,bG,lG⟩:=nG;go_wp2_with fail;refine .i (S0.alloc _) ?_
  (try simp only[hG])
  clear hG;have SG:=S0.alloc (.cells (#[I6 t,.bool wr]) 408);refine zQ 7 ?_;go_wp2_with(refine cX _ rfl (.tmp 49) (.tmp 51) 280 rfl 0 408 _ 2 16 Wt.cells underlying280 Nq rF dC (λ_=>rfl) TI (.slice A 0 c) l.line rfl ((K6.own.cD 1).alloc _) ⟨G,0,none⟩ 1 ⟨t,wr⟩ rfl (br (α:=Wt) (vs:=[I6 t,Value.bool wr]) (bG) rfl) fJ dC (aB6 _) ?_;intro v' w3 kJ jP hw3;have hU:=(SG).trans jP iL;have hW3:v'.ownBlock=(Value.slice A 0 c).ownBlock\/∃g,v'.ownBlock=some g/\W0.heap.size<=g:=hw3.imp id (λe=>⟨_,e,(SG).size⟩);have X3:=K6.wI hU kJ hW3;have xC:=K6.blk.upd hU mW;have:=xC.ar tT;have:=xC.frozen (o+2);obtain⟨A',n',c',rfl,-,-⟩:=kJ.shape qR;clear hU hW3 xC kJ hw3);refine .i (SG.trans jP iL) ?_;have S3:=SG.trans jP iL;refine zQ 8 ?_;go_wp2_with fail;refine .i S3 ?_;refine zq 1 [9] [.pointer (some ⟨B,o+2,none⟩)] S3 ?_;refine aq _ _ _ _ kZ ?_;refine zO 10 (λQ2 aI=>?_);go_wp2_with fail;(try refine aI _ _ ?_);(try clear aI Q2)
  refine wpAny_done kZ ?_ _;have X4:=Ap _ _ _ _ (X3.drewN 0);go_wp2;go_ret2;exact⟨_,_,rfl,X4⟩
 ·have: ¬(n:Int)=0:=oM
  clear nD tail;go_enter func353,ntmps353;go_upto_region 9 with(first
   |go_at_call 297;refine HB.mono ?_;rintro e v5 ⟨rfl,rfl⟩
   |go_at_call 254;refine HH.mono ?_;rintro e v5 ⟨rfl,rfl⟩
   |go_at_call 253;refine HW.mono ?_;rintro e v6 ⟨A6,n6,c6,rfl,uZ,-,dJ⟩;have S6:=uZ;have:=dJ;have BW:=dJ.alloc dJ.size (.cells #[I6 t,.bool wr] AJ);have BXW:=ai.new v6 AJ #[I6 t,.bool wr];have K6:=HS.call BW;have c2:=K6.blk.ar tT;have hx6:=dJ.size;clear uZ dJ
   |go_at_call 49;refine zN (HC _ _ _ _ S6) ?_
   |(go_at_call 356;refine zN (HF _ K6) ?_))
  have Ap:=(λw' cs' v' l' (h:bW (v6.alloc (.cells #[I6 t,.bool wr] AJ)) w' B o ty cs (.slice A n c) cs' v' l')=>h.pre BW);have hgx:(Value.slice A n c).ownBlock≠some v6.heap.size:=λe=>by have:=Kt;have:=HS.own.lt _ e;omega
  have mL:=hgx;clear c2 BW S6 hgx hx6;generalize v6.alloc (.cells #[I6 t,.bool wr] AJ)=W0 at *;generalize v6.heap.size=gx at *;refine zr (λj=>[10].contains j) (λwS=>ah (λk=>(Value.slice A n c).ownBlock=some k) W0 wS) ?_;have S0:=(ah.refl (λk=>(Value.slice A n c).ownBlock=some k) W0).drew;refine zk 6 [0,1,2,3,4] [_,_,.pointer (some ⟨B,o,none⟩),.pointer (some ⟨B,o+2,none⟩),.slice A n c] (.q zX<|.q zX<|.q zX<|.q zX<|.q (zS λ_ h=>(K6.blk.upd h mW).ar tT) .nil) S0 ?_;refine zk 5 [5] [_] (.c rfl rfl (zl λ_ h=>zb (BXW.upd h mL) underlying408) .nil) S0 ?_;refine zQ 6 ?_;obtain⟨G,hG,bG,lG⟩:=iA (S:=S0) (#[I6 t,.bool wr]) 408;go_wp2_with fail;refine .i (S0.alloc _) ?_
  (try simp only[hG])
  clear hG;have SG:=S0.alloc (.cells (#[I6 t,.bool wr]) 408);refine zQ 7 ?_;go_wp2_with(refine cX _ rfl (.tmp 49) (.tmp 51) 280 rfl 0 408 _ 2 16 Wt.cells underlying280 Nq rF dC (λ_=>rfl) TI (.slice A n c) l.line rfl ((K6.own.cD 1).alloc _) ⟨G,0,none⟩ 1 ⟨t,wr⟩ rfl (br (α:=Wt) (vs:=[I6 t,Value.bool wr]) (bG) rfl) fJ dC (aB6 _) ?_;intro v' w3 kJ jP hw3;have hU:=(SG).trans jP iL;have hW3:v'.ownBlock=(Value.slice A n c).ownBlock\/∃g,v'.ownBlock=some g/\W0.heap.size<=g:=hw3.imp id (λe=>⟨_,e,(SG).size⟩);have X3:=K6.wI hU kJ hW3;have xC:=K6.blk.upd hU mW;have:=xC.ar tT;have:=xC.frozen (o+2);obtain⟨A',n',c',rfl,-,-⟩:=kJ.shape qR;clear hU hW3 xC kJ hw3);refine .i (SG.trans jP iL) ?_;have S3:=SG.trans jP iL;refine zQ 8 ?_;go_wp2_with fail;refine .i S3 ?_;refine zq 1 [9] [.pointer (some ⟨B,o+2,none⟩)] S3 ?_;refine aq _ _ _ _ kZ ?_;refine zO 10 (λQ2 aI=>?_);go_wp2_with fail;(try refine aI _ _ ?_);(try clear aI Q2)
  refine wpAny_done kZ ?_ _;go_wp2;go_ret2;exact⟨_,_,rfl,(Ap _ _ _ _ (X3.drewN 0))⟩
def TJ(B o:Nat)(ty:TypeId)(cs:Array Value)(v:Value)(l:Lk)(t:Int)(wr:Bool)(w:World)(h:mA w B o ty cs v l)(ht:aw t)(hl:l.line.length<=1000) :
 Calls prog 353 #[.pointer (some ⟨B,o,none⟩),I6 t,.bool wr] w (PH B o ty cs v (oK l t wr) w):=by
 unfold oK
 by_cases h1:b7 t=0#32
 ·rw[if_pos h1]
  exact KH B o ty cs v l t wr w h ht h1
 rw[if_neg h1]
 by_cases h2:dh l t=0
 ·rw[if_neg (λe=>e h2)]
  by_cases h3:(l.line.map Wt.task).contains t=true
  ·rw[if_pos h3]
   exact Du B o ty cs v l t wr w h ht hl h1 h2 h3
  ·rw[if_neg h3]
   by_cases h4:l.line=[]/\j0 l wr=true
   ·rw[if_pos h4]
    exact GZ B o ty cs v l t wr w h ht h1 h2 h4.1 h4.2
   ·rw[if_neg h4]
    exact Ha B o ty cs v l t wr w h ht hl h1 h2 (sH h3) h4
 ·rw[if_pos h2]
  exact GY B o ty cs v l t wr w h ht h1 h2
def nE:List Wt->BitVec 32->BitVec 32->Lk
 |[],r,w=>⟨r,w,[]⟩
 |x::L,r,w=>if j0 ⟨r,w,[]⟩ x.write=true then nE L (eP ⟨r,w,[]⟩ x).r (eP ⟨r,w,[]⟩ x).w else⟨r,w,x::L⟩
def mb(l:Lk)(t:Int):Int×Lk:=if dh l t=0 then(5,l)else(0,nE l.line (l.r &&& ~~~b7 t) (l.w &&& ~~~b7 t))
def TK(B o:Nat)(ty:TypeId)(cs:Array Value)(v:Value)(q:Int×Lk)(w:World)(e:Ending)(w' : World):Prop:=
 ∃cs' v' A n c,e=.returned (.tuple #[.slice A n c,I6 q.1])/\bW w w' B o ty cs v cs' v' q.2
def bW.trans{Am:Array Value}{v2:Value}{l2:Lk}(h1:bW w w1 B o ty cs v cs1 v1 l1)(h2:bW w1 w2 B o ty cs1 v1 Am v2 l2):bW w w2 B o ty cs v Am v2 l2:=by
 refine⟨h2.lk,h1.upd.trans h2.upd ?_,?_,h2.size.trans h1.size,λi e0 e1 e2=>(h2.rest i e0 e1 e2).trans (h1.rest i e0 e1 e2)⟩
 ·rintro k (rfl|hk)
  ·exact .inl (.inl rfl)
  ·rcases h1.own with e|⟨g,e,hg⟩
   ·exact .inl (.inr (e▸hk))
   ·rw[e]at hk
    injection hk with hk
    exact .inr oM
 ·rcases h2.own with e|⟨g,e,hg⟩
  ·rw[e];exact h1.own
  ·exact .inr ⟨g,e,aB4 h1.upd.size hg⟩
def bW.call(h1:bW w w1 B o ty cs v cs1 v1 l1)(hb:Bl w1 w2):bW w w2 B o ty cs v cs1 v1 l1:=h1.trans (h1.lk.stay hb)
def bW.keep(h1:bW w w1 B o ty cs v cs1 v1 l1)(hb:Below w.heap.size w1 w2)(hB:B<w.heap.size)(hv:∀k,v1.ownBlock=some k->k<w.heap.size):bW w w2 B o ty cs v cs1 v1 l1:=
 ⟨⟨h1.lk.blk.below hb hB,h1.lk.c0,h1.lk.c1,h1.lk.c2,h1.lk.own.below hb hv,h1.lk.ne⟩,h1.upd.trans (T:=λk=>w.heap.size<=k) ⟨hb.os,hb.tape,hb.output,hb.size,λk hk hn=>hb.block k oM⟩ (λk hk=>.inr hk),h1.own,h1.size,h1.rest⟩
def x7(w:World)(B o:Nat):Nat:=match w.cell? ⟨B,o+2,none⟩with|some (.slice _ n _)=>n|_=>0
theorem Hb(t:Int)(w:World)(ht:aw t):Calls prog 350 #[.pointer none,I6 t] w λe w'=>e=.returned (.tuple #[.slice none 0 0,I6 5])/\w=w':=by
 go_enter func350,ntmps350;go_wp2_with(go_at_call 254;refine(vn t w ht).mono ?_;rintro e v5 ⟨rfl,rfl⟩);go_ret2;exact⟨rfl,rfl⟩
def x9(l:Lk)(x:Wt):(eP l x).line=l.line:=by unfold eP;split<;>rfl
def Hd(l:Lk)(x:Wt):(eP l x).r=(eP ⟨l.r,l.w,[]⟩ x).r/\(eP l x).w=(eP ⟨l.r,l.w,[]⟩ x).w:=by unfold eP;split<;>exact⟨rfl,rfl⟩
def mA.TL{x:Wt}{L:List Wt}{g off:Nat}(h:mA w B o ty cs (.slice (some ⟨g,off,none⟩) (L.length+1) c) l)(hl:l.line=x::L):
 bW w (w.setCell ⟨B,o+2,none⟩ (.slice (some ⟨g,off+2,none⟩) L.length (c-1))) B o ty cs (.slice (some ⟨g,off,none⟩) (L.length+1) c) (cs.setIfInBounds (o+2) (.slice (some ⟨g,off+2,none⟩) L.length (c-1))) (.slice (some ⟨g,off+2,none⟩) L.length (c-1)) {l with line:=L}/\
 (c=1->bW w (w.setCell ⟨B,o+2,none⟩ (.slice (some ⟨g,off,none⟩) L.length (c-1))) B o ty cs (.slice (some ⟨g,off,none⟩) (L.length+1) c) (cs.setIfInBounds (o+2) (.slice (some ⟨g,off,none⟩) L.length (c-1))) (.slice (some ⟨g,off,none⟩) L.length (c-1)) {l with line:=L}):=by
 have ho:=h.own;rw[hl]at ho;obtain⟨h1,h2⟩:=aK.tail qR ho;exact⟨h.wI (ah.refl _ w) h1 (.inl rfl),λhc=>h.wI (ah.refl _ w) (h2 hc) (.inl rfl)⟩
theorem KI(B o:Nat)(ty:TypeId)(cs:Array Value)(v:Value)(l:Lk)(t:Int)(w:World)(h:mA w B o ty cs v l)(ht:aw t)(h1:dh l t=0) :
 Calls prog 350 #[.pointer (some ⟨B,o,none⟩),I6 t] w (TK B o ty cs v (5,l) w):=by
 have HH:=jy B o ty cs v l t w h ht;rw[h1]at HH;have HS:=h.stay (Below.refl _ w);clear h h1;go_enter func350,ntmps350;go_wp2_with(go_at_call 254;refine HH.mono ?_;rintro e v5 ⟨rfl,rfl⟩);go_ret2;exact⟨_,_,_,_,_,rfl,HS⟩
theorem He(B o:Nat)(ty:TypeId)(cs:Array Value)(v:Value)(l:Lk)(t:Int)(w:World)(h:mA w B o ty cs v l)(ht:aw t)(hl:l.line.length<=1000)(hg:∀x∈l.line,aw x.task)(h1:¬dh l t=0) :
 Calls prog 350 #[.pointer (some ⟨B,o,none⟩),I6 t] w (TK B o ty cs v (0,nE l.line (l.r &&& ~~~b7 t) (l.w &&& ~~~b7 t)) w):=by
 have HH:=zD (jy B o ty cs v l t w h ht);have HB:=zD (λW=>mV t W ht);have M4:=si l.r (b7 t);have H0:=zD h;have HG:=zD hg;have HL:=zD hl;obtain⟨R,hR⟩:=zE (nE l.line (l.r &&& ~~~b7 t) (l.w &&& ~~~b7 t));rw[<-hR];have HR:=zD hR;have HW:=zD (si l.w (b7 t));generalize dh l t=H at *;generalize b7 t=b at *;clear h hR hg hl;go_enter func350,ntmps350;go_upto_region 3 with(go_at_call 254;refine HH.out.mono ?_;rintro e v5 ⟨rfl,rfl⟩)
 have fz:=H0.out.blk.frozen o;have cz:=H0.out.blk.ar H0.out.c0;refine zr (λj=>[9].contains j) (λwS=>Bl w wS) ?_;have S0:=(Below.refl w.heap.size w).drew;refine zk 5 [0,1,2,3,4] [_,.pointer (some ⟨B,o,none⟩),.pointer (some ⟨B,o,none⟩),fU l.r,_] (.q zK<|.q zK<|.q zK<|.c rfl rfl (zl λ_ h=>by have c:=(H0.out.blk.call h).ar H0.out.c0;go_simp)<|.f) S0 ?_;refine zQ 5 ?_;go_wp2_with(go_at_call 297;refine zN (HB.out _) ?_);refine .i S0 ?_;refine zk 3 [6] [fU (l.r &&& ~~~b)] .f S0 ?_;refine zQ 7 ?_;go_wp2_with fail;refine .i S0 ?_;refine zk 1 [8] [.pointer (some ⟨B,o,none⟩)] .f S0 ?_;refine aq _ _ _ _ kZ ?_;refine zO 9 (λQ2 aI=>?_);go_wp2_with fail;(try refine aI _ _ ?_);(try clear aI Q2)
 refine wpAny_done kZ ?_ _;have X1:=zD (show bW w (w.setCell ⟨B,o,none⟩ (.int .u32 ↑(l.r.toNat &&& 4294967295-b.toNat))).drew B o ty cs v (cs.setIfInBounds o (fU (l.r &&& ~~~b))) v {l with r:=l.r &&& ~~~b} from by
  have e:Value.int .u32 ↑(l.r.toNat &&& 4294967295-b.toNat)=fU (l.r &&& ~~~b):=by simp[fU]
  rw[e];exact(H0.out.ao4 (l.r &&& ~~~b)).drewN 1)
 clear fz cz S0;generalize cs.setIfInBounds o (fU (l.r &&& ~~~b))=cs1 at *;generalize(w.setCell ⟨B,o,none⟩ (.int .u32 ↑(l.r.toNat &&& 4294967295-b.toNat))).drew=W1 at *;go_upto_region 4 with fail
 have H1:=zD X1.out.lk;have fz:=H1.out.blk.frozen (o+1);have cz:=H1.out.blk.ar H1.out.c1;have M4:=HW.out;dsimp only at cz;refine zr (λj=>[9].contains j) (λwS=>Bl W1 wS) ?_;have S0:=(Below.refl W1.heap.size W1).drew;refine zk 5 [0,1,2,3,4] [_,.pointer (some ⟨B,o,none⟩),.pointer (some ⟨B,o+1,none⟩),fU l.w,_] (.q zK<|.q zK<|.q zK<|.c rfl rfl (zl λ_ h=>by have c:=(H1.out.blk.call h).ar H1.out.c1;go_simp)<|.f) S0 ?_;refine zQ 5 ?_;go_wp2_with(go_at_call 297;refine zN (HB.out _) ?_);refine .i S0 ?_;refine zk 3 [6] [fU (l.w &&& ~~~b)] .f S0 ?_;refine zQ 7 ?_;go_wp2_with fail;refine .i S0 ?_;refine zk 1 [8] [.pointer (some ⟨B,o+1,none⟩)] .f S0 ?_;refine aq _ _ _ _ kZ ?_;refine zO 9 (λQ2 aI=>?_);go_wp2_with fail;(try refine aI _ _ ?_);(try clear aI Q2)
 refine wpAny_done kZ ?_ _;have X2:=zD (show bW w (W1.setCell ⟨B,o+1,none⟩ (.int .u32 ↑(l.w.toNat &&& 4294967295-b.toNat))).drew B o ty cs v (cs1.setIfInBounds (o+1) (fU (l.w &&& ~~~b))) v ⟨l.r &&& ~~~b,l.w &&& ~~~b,l.line⟩from by
  have e:Value.int .u32 ↑(l.w.toNat &&& 4294967295-b.toNat)=fU (l.w &&& ~~~b):=by simp[fU]
  rw[e];exact X1.out.trans ((H1.out.ao3 (l.w &&& ~~~b)).drewN 1))
 clear fz cz S0 H1 X1 M4 HW;generalize cs1.setIfInBounds (o+1) (fU (l.w &&& ~~~b))=Am at *;generalize(W1.setCell ⟨B,o+1,none⟩ (.int .u32 ↑(l.w.toNat &&& 4294967295-b.toNat))).drew=W2 at *;go_wp2;go_loopw[6] (λo6 wr=>∃(cs' : Array Value)(v' : Value)(l' : Lk)(A:Option Addr)(n c:Nat)(out:List Int),o6=.slice A n c/\tX wr w.heap.size (.slice A n c) out/\bW w wr B o ty cs v cs' v' l'/\v'.ownBlock=v.ownBlock/\nE l'.line l'.r l'.w=R/\out.length+l'.line.length<=1000/\∀x∈l'.line,aw x.task) (λ_ wr=>x7 wr B o)
 case atStart=>exact⟨Am,v,_,none,0,0,[],rfl,Own.nil _ _ _ _ _,X2.out,rfl,HR.out.symm,by simpa using HL.out,HG.out⟩
 case round=>
  obtain⟨cs',v',l',A,n,c,out,rfl,hown,hst,hvb,hp,hlen,hgd⟩:=hrel;have HO:=zD hown;have ST:=zD hst;have HP:=zD hp;have Ko:=zD hgd;obtain⟨A2,n2,c2',rfl,fo,hs2⟩:=hst.lk.own.shape qR;have cl:=hst.lk.blk.ar hst.lk.c2;have HM:=zD (show x7 wr B o=n2 from by unfold x7;rw[cl]);cases oL:l'.line with
  |nil=>
   have h0:n2=0:=by rw[fo,oL];rfl
   subst h0;have HE:=zD (show l' = R from by
    rw[<-hp,oL];obtain⟨a,b,c⟩:=l';simp only at oL;rw[oL];rfl)
   clear hown hst hp hgd hs2 fo;go_wp2;go_ret2;exact⟨_,_,_,_,_,rfl,by rw[<-HE.out];exact ST.out⟩
  |cons x L=>
   have Tg:n2=L.length+1:=by rw[fo,oL];rfl
   rw[oL]at hs2 hp hlen hgd;obtain⟨b2,gY,y,hA,hy,hb2,d0,d1⟩:=Wts.at_ hs2 (k:=0) oM;simp only[List.getElem?_cons_zero,Option.some.injEq]at hy;subst hy;subst hA;have Hf:=hgd x sI;obtain⟨xt,xw⟩:=x;dsimp only at d0 d1 Hf;simp only[Nat.zero_mul,aH9]at d0 d1;have HF:=zD (Ds B o ty cs' _ l' xw wr hst.lk);have hfe:j0 l' xw=j0 ⟨l'.r,l'.w,[]⟩ xw:=rfl
   by_cases iD:j0 l' xw=true
   ·subst Tg
    have EA:=zD (zW wr (.cells #[I6 xt,.bool xw] AJ));have STA:=zD (hst.call EA.out);have BXA:=zD (ai.new wr AJ #[I6 xt,.bool xw]);have fzl:=STA.out.lk.blk.frozen (o+2);have czl:=STA.out.lk.blk.ar STA.out.lk.c2;have HT:=zD (STA.out.lk.TL oL);have HQ:=zD (show nE L (eP ⟨l'.r,l'.w,L⟩ ⟨xt,xw⟩).r (eP ⟨l'.r,l'.w,L⟩ ⟨xt,xw⟩).w=R from by
     rw[<-hp,nE,if_pos (by rw[<-hfe];exact iD),(Hd ⟨l'.r,l'.w,L⟩ ⟨xt,xw⟩).1,(Hd ⟨l'.r,l'.w,L⟩ ⟨xt,xw⟩).2])
    have HGL:=zD (x9 ⟨l'.r,l'.w,L⟩ ⟨xt,xw⟩);have HGv:=zD (λcs v W hW=>Nr B o ty cs v ⟨l'.r,l'.w,L⟩ xt xw W hW Hf);have ao5:=zD (λy (hy:y∈L)=>hgd y (by simp[hy]));have qB:=zD (show(out++[xt]).length+L.length<=1000 from by simp at hlen |-;omega);have Fj:=zD (show out.length<1000000 from by simp at hlen;omega);have HOA:=zD (hown.alloc (.cells #[I6 xt,.bool xw] AJ));have qg:=zD H0.out.blk.lt;have HVl:=zD (λk (hk:v.ownBlock=some k)=>(H0.out.own.lt k hk).2);have HBx:=zD hst.upd.size;have HVb:=zD hvb;have hcc:L.length+1<=c2':=hs2.2.1;have hcm:c2'<=9223372036854775807:=by have:=hs2.2.2.1;unfold maxLen at this;omega
    have:(0:Int)<(L.length:Int)+1:=oM
    rw[iD]at HF;clear hown hst hp hgd hs2 fo iD hfe oL hlen hvb
    by_cases hc:c2' = 1
    ·subst hc
     go_upto_region 9 with(go_at_call 356;refine HF.out.mono ?_;rintro e v8 ⟨rfl,rfl⟩)
     have hL0:L.length=0:=oM
     have h9:=HT.out.2 (by first|rfl|trivial);have e2:Value.slice (some ⟨b2,gY,none⟩) L.length (1-1)=Value.slice (some ⟨b2,gY,none⟩) 0 0:=by rw[hL0]
     rw[e2]at h9;have T1:=zD h9;clear h9 e2;have ST3:=zD (STA.out.trans T1.out);have tY:¬(wr.heap.size=B\/(Value.slice (some ⟨b2,gY,none⟩) (L.length+1) 1).ownBlock=some wr.heap.size):=λe=>by
      rcases e with e|e
      ·have:=qg.out;have:=HBx.out;omega
      ·simp[Value.ownBlock]at e;omega
     have Ni:=zD (BXA.out.upd T1.out.upd tY);have hno:∀k,(Value.slice A n c).ownBlock=some k->¬(k=B\/(Value.slice (some ⟨b2,gY,none⟩) (L.length+1) 1).ownBlock=some k):=λk hk e=>by
      have:=(World.ownsRow.lt HOA.out k hk).1;rcases e with e|e
      ·have:=qg.out;omega
      ·rw[HVb.out]at e;have:=HVl.out k e;omega
     have HO3:=zD (HOA.out.upd T1.out.upd hno);have HNO:=zD hno;have HNB:=zD tY;have x0:=Ni.out.z 0 (I6 xt);have x1:=Ni.out.z 1 (.bool xw);clear fzl czl cl d0 d1 hno tY HT STA BXA HOA HF;generalize(wr.alloc (.cells #[I6 xt,.bool xw] AJ)).setCell ⟨B,o+2,none⟩ (.slice (some ⟨b2,gY,none⟩) 0 0)=W3 at *;go_wp2_with(first
      |go_at_call 357;refine(HGv.out _ _ _ T1.out.lk).mono ?_;rintro e v9 ⟨rfl,Nh,mz⟩;have ST9:=zD (ST3.out.trans mz);have KJ:ah (λk=>k=B\/(Value.slice (some ⟨b2,gY,none⟩) (L.length+1) 1).ownBlock=some k) W3 v9:=mz.upd;have HO9:=zD (HO3.out.upd KJ HNO.out);have BX9:=Ni.out.upd KJ HNB.out;have:=BX9.z 0 (I6 xt);clear mz KJ BX9 x0 x1
      |(at_builtin;refine pF _ rfl (.tmp 64) (.tmp 67) rfl w.heap.size (.slice A n c) out rfl (HO9.out.alloc _) v9.heap.size 3 1 xt rfl (ai.new v9 _ _) Fj.out (by have:=ST9.out.upd.size;simp;omega) ?_;intro v' w5 kG dx iK;obtain⟨A5,n5,c5,rfl,-,-⟩:=kG.shape (λ_=>rfl);have O5:=zD kG;have ST5:=zD (ST9.out.keep (((Below.refl w.heap.size v9).alloc ST9.out.upd.size _).trans dx) qg.out (λk hk=>HVl.out k (by rw[<-HVb.out];exact hk)));clear kG dx iK))
     go_roundw
     case rel=>exact⟨Nh,_,_,A5,n5,c5,_,rfl,O5.out,ST5.out,HVb.out,by rw[HGL.out];exact HQ.out,by rw[HGL.out];exact qB.out,by rw[HGL.out];exact ao5.out⟩
     case measure=>
      have cx:=ST5.out.lk.blk.ar ST5.out.lk.c2;have e1:x7 w5 B o=0:=by unfold x7;rw[cx]
      rw[e1,HM.out];simp
    ·have: ¬(c2' : Int)=1:=oM
     go_upto_region 9 with(go_at_call 356;refine HF.out.mono ?_;rintro e v8 ⟨rfl,rfl⟩)
     have T1:=zD (HT.out.1);have ST3:=zD (STA.out.trans T1.out);have tY:¬(wr.heap.size=B\/(Value.slice (some ⟨b2,gY,none⟩) (L.length+1) c2').ownBlock=some wr.heap.size):=λe=>by
      rcases e with e|e
      ·have:=qg.out;have:=HBx.out;omega
      ·simp[Value.ownBlock]at e;omega
     have Ni:=zD (BXA.out.upd T1.out.upd tY);have hno:∀k,(Value.slice A n c).ownBlock=some k->¬(k=B\/(Value.slice (some ⟨b2,gY,none⟩) (L.length+1) c2').ownBlock=some k):=λk hk e=>by
      have:=(World.ownsRow.lt HOA.out k hk).1;rcases e with e|e
      ·have:=qg.out;omega
      ·rw[HVb.out]at e;have:=HVl.out k e;omega
     have HO3:=zD (HOA.out.upd T1.out.upd hno);have HNO:=zD hno;have HNB:=zD tY;have x0:=Ni.out.z 0 (I6 xt);have x1:=Ni.out.z 1 (.bool xw);clear fzl czl cl d0 d1 hno tY HT STA BXA HOA HF;generalize(wr.alloc (.cells #[I6 xt,.bool xw] AJ)).setCell ⟨B,o+2,none⟩ (.slice (some ⟨b2,gY+2,none⟩) L.length (c2'-1))=W3 at *;go_wp2_with(first
      |go_at_call 357;refine(HGv.out _ _ _ T1.out.lk).mono ?_;rintro e v9 ⟨rfl,Nh,mz⟩;have ST9:=zD (ST3.out.trans mz);have KJ:ah (λk=>k=B\/(Value.slice (some ⟨b2,gY,none⟩) (L.length+1) c2').ownBlock=some k) W3 v9:=mz.upd;have HO9:=zD (HO3.out.upd KJ HNO.out);have BX9:=Ni.out.upd KJ HNB.out;have:=BX9.z 0 (I6 xt);clear mz KJ BX9 x0 x1
      |(at_builtin;refine pF _ rfl (.tmp 64) (.tmp 67) rfl w.heap.size (.slice A n c) out rfl (HO9.out.alloc _) v9.heap.size 3 1 xt rfl (ai.new v9 _ _) Fj.out (by have:=ST9.out.upd.size;simp;omega) ?_;intro v' w5 kG dx iK;obtain⟨A5,n5,c5,rfl,-,-⟩:=kG.shape (λ_=>rfl);have O5:=zD kG;have ST5:=zD (ST9.out.keep (((Below.refl w.heap.size v9).alloc ST9.out.upd.size _).trans dx) qg.out (λk hk=>HVl.out k (by rw[<-HVb.out];exact hk)));clear kG dx iK))
     go_roundw
     case rel=>exact⟨Nh,_,_,A5,n5,c5,_,rfl,O5.out,ST5.out,HVb.out,by rw[HGL.out];exact HQ.out,by rw[HGL.out];exact qB.out,by rw[HGL.out];exact ao5.out⟩
     case measure=>
      have cx:=ST5.out.lk.blk.ar ST5.out.lk.c2;have e1:x7 w5 B o=L.length:=by unfold x7;rw[cx]
      rw[e1,HM.out];simp
   ·have hff:j0 l' xw=false:=by simpa using iD
    rw[hff]at HF;have HE:=zD (show l' = R from by
     rw[<-hp,nE,if_neg (by rw[<-hfe];exact iD)];obtain⟨a,b,c⟩:=l';simp only at oL;rw[oL])
    have:(0:Int)<(n2:Int):=oM
    clear hown hst hp hgd hs2 fo iD hff hfe Tg oL hlen;go_wp2_with(go_at_call 356;refine HF.out.mono ?_;rintro e v8 ⟨rfl,rfl⟩);go_ret2;exact⟨_,_,_,_,_,rfl,by rw[<-HE.out];exact ST.out⟩
def Ns(B o:Nat)(ty:TypeId)(cs:Array Value)(v:Value)(l:Lk)(t:Int)(w:World)(h:mA w B o ty cs v l)(ht:aw t)(hl:l.line.length<=1000)(hg:∀x∈l.line,aw x.task) :
 Calls prog 350 #[.pointer (some ⟨B,o,none⟩),I6 t] w (TK B o ty cs v (mb l t) w):=by
 unfold mb
 by_cases h1:dh l t=0
 ·rw[if_pos h1]
  exact KI B o ty cs v l t w h ht h1
 ·rw[if_neg h1]
  exact He B o ty cs v l t w h ht hl hg h1
section
def aK.wJ{α β:Type}{w:World}{b b' e e' s s' : Nat}{c:α->List Value}{c' : β->List Value}{v v' : Value}{l:List α}{l' : List β}(h:aK w b e s c v l)(h' : aK w b' e' s' c' v' l')(hne:e≠e'):∀k,v.ownBlock=some k->v'.ownBlock≠some k:=by
 intro k hk Sv;rcases h with⟨rfl,_⟩|⟨g,off,cap,cur,rfl,_,hg,_⟩
 ·cases hk
 ·rcases h' with⟨rfl,_⟩|⟨g',tL,cap',cur',rfl,_,hg',_⟩
  ·cases Sv
  ·simp[Value.ownBlock]at hk Sv
   subst hk;subst Sv;rw[hg]at hg';injection hg' with h1
   injection h1 with h1 h2
   exact hne h2
structure Mo where
 lk:Lk
 asleep:List Int
deriving DecidableEq
abbrev AL:TypeId:=3
structure tZ(w:World)(B o:Nat)(ty:TypeId)(cs:Array Value)(v va:Value)(m:Mo):Prop where
 lk:mA w B o ty cs v m.lk
 c3:cs[o+3]? = some va
 own:aK w 0 AL 1 gv va m.asleep
 ne:va.ownBlock≠some B
structure fV(w w' : World)(B o:Nat)(ty:TypeId)(cs:Array Value)(v va:Value)(cs' : Array Value)(v' rq : Value)(m' : Mo):Prop where
 mo:tZ w' B o ty cs' v' rq m'
 upd:ah (λk=>k=B\/v.ownBlock=some k\/va.ownBlock=some k) w w'
 own:v'.ownBlock=v.ownBlock\/∃g,v'.ownBlock=some g/\w.heap.size<=g
 PI:rq.ownBlock=va.ownBlock\/∃g,rq.ownBlock=some g/\w.heap.size<=g
 size:cs'.size=cs.size
 rest:∀i,i≠o->i≠o+1->i≠o+2->i≠o+3->cs'[i]? = cs[i]?
section
variable{w w' w3:World}{B o:Nat}{ty:TypeId}{cs cs' : Array Value}{v va v' rq : Value}{m:Mo}
def tZ.call(h:tZ w B o ty cs v va m)(hb:Bl w w'):tZ w' B o ty cs v va m:=⟨h.lk.call hb,h.c3,h.own.call hb,h.ne⟩
def tZ.apart(h:tZ w B o ty cs v va m):∀k,va.ownBlock=some k->v.ownBlock≠some k:=h.own.wJ h.lk.own dC
def tZ.stay(h:tZ w B o ty cs v va m)(hb:Bl w w'):fV w w' B o ty cs v va cs v va m:=⟨h.call hb,ah.aa hb,.inl rfl,.inl rfl,rfl,λ_ _ _ _ _=>rfl⟩
def fV.trans{Am:Array Value}{v2 va1 va2:Value}{m1 m2:Mo}(h1:fV w w1 B o ty cs v va cs1 v1 va1 m1)(h2:fV w1 w2 B o ty cs1 v1 va1 Am v2 va2 m2):fV w w2 B o ty cs v va Am v2 va2 m2:=by
 refine⟨h2.mo,h1.upd.trans h2.upd ?_,?_,?_,h2.size.trans h1.size,λi e0 e1 e2 e3=>(h2.rest i e0 e1 e2 e3).trans (h1.rest i e0 e1 e2 e3)⟩
 ·rintro k (rfl|hk|hk)
  ·exact .inl (.inl rfl)
  ·rcases h1.own with e|⟨g,e,hg⟩
   ·exact .inl (.inr (.inl (e▸hk)))
   ·rw[e]at hk;injection hk with hk;exact .inr oM
  ·rcases h1.PI with e|⟨g,e,hg⟩
   ·exact .inl (.inr (.inr (e▸hk)))
   ·rw[e]at hk;injection hk with hk;exact .inr oM
 ·rcases h2.own with e|⟨g,e,hg⟩
  ·rw[e];exact h1.own
  ·exact .inr ⟨g,e,aB4 h1.upd.size hg⟩
 ·rcases h2.PI with e|⟨g,e,hg⟩
  ·rw[e];exact h1.PI
  ·exact .inr ⟨g,e,aB4 h1.upd.size hg⟩
def tZ.lock(h:tZ w B o ty cs v va m)(hs:bW w w' B o ty cs v cs1 v1 l1):fV w w' B o ty cs v va cs1 v1 va {m with lk:=l1}:=by
 have hu:aK w' 0 AL 1 gv va m.asleep:=h.own.upd hs.upd (λk hk e=>by
  rcases e with e|e
  ·exact h.ne (by rw[hk,e])
  ·exact h.apart k hk e)
 exact⟨⟨hs.lk,(hs.rest _ oM oM oM).trans h.c3,hu,h.ne⟩,hs.upd.mono (λk hk=>hk.elim .inl (λe=>.inr (.inl e))),hs.own,.inl rfl,hs.size,λi e0 e1 e2 e3=>hs.rest i e0 e1 e2⟩
def tZ.ya{L' : List Int}(h:tZ w B o ty cs v va m)(hu:ah (λk=>va.ownBlock=some k) w w3)(ho:aK w3 0 AL 1 gv rq L')(hw:rq.ownBlock=va.ownBlock\/∃g,rq.ownBlock=some g/\w.heap.size<=g) :
 fV w (w3.setCell ⟨B,o+3,none⟩ rq) B o ty cs v va (cs.setIfInBounds (o+3) rq) v rq {m with asleep:=L'}:=by
 have hne:rq.ownBlock≠some B:=by
  rcases hw with e|⟨g,e,hg⟩
  ·rw[e];exact h.ne
  ·rw[e];intro e2;have:=h.lk.blk.lt;cases e2;omega
 have hl:=h.lk.upd hu h.ne (λk hk e=>h.apart k e hk);exact⟨⟨⟨hl.blk.aX _ _,(fw oM).trans h.lk.c0,(fw oM).trans h.lk.c1,(fw oM).trans h.lk.c2,hl.own.far (λk hk e=>hl.ne (by rw[hk,e])) _,hl.ne⟩,Dt h.c3,ho.far (λk hk e=>hne (by rw[hk,e])) _,hne⟩,
  (hu.mono (λk hk=>.inr (.inr hk))).setCell (.inl (.inl rfl)) _,.inl rfl,hw,sI,λi h0 h1 h2 h3=>fw (Ne.symm h3)⟩
end
def lK(m:Mo)(t:Int):Mo:=if dh m.lk t≠2 then m else⟨(mb m.lk t).2,m.asleep++[t]⟩
def iP(m:Mo):Mo:=match m.asleep with|[]=>m|t::rest=>⟨(oK m.lk t true).2,rest⟩
def TM(w:World)(B o:Nat)(ty:TypeId)(cs:Array Value)(v va:Value)(m' : Mo)(w' : World):Prop:=∃cs' v' rq,fV w w' B o ty cs v va cs' v' rq m'
def KM(w:World)(B o:Nat)(ty:TypeId)(cs:Array Value)(v va:Value)(m' : Mo)(e:Ending)(w' : World):Prop:=∃A n c x,e=.returned (.tuple #[.slice A n c,I6 x])/\TM w B o ty cs v va m' w'
theorem Dv(B o:Nat)(ty:TypeId)(cs:Array Value)(v va:Value)(m:Mo)(t:Int)(w:World)(h:tZ w B o ty cs v va m)(ht:aw t)(h1:dh m.lk t≠2) :
 Calls prog 382 #[.pointer (some ⟨B,o,none⟩),I6 t] w (KM w B o ty cs v va m):=by
 have HH:=jy B o ty cs v m.lk t w h.lk ht;have HS:=h.stay (Below.refl _ w);generalize dh m.lk t=H at *;clear h;go_enter func382,ntmps382;go_wp2_with(go_at_call 254;refine HH.mono ?_;rintro e v5 ⟨rfl,rfl⟩);go_ret2;exact⟨_,_,_,_,rfl,_,_,_,HS⟩
theorem AO(B o:Nat)(ty:TypeId)(cs:Array Value)(v va:Value)(m:Mo)(t:Int)(w:World)(h:tZ w B o ty cs v va m)(ht:aw t)(hl:m.lk.line.length<=1000)(ha:m.asleep.length<=1000)(hg:∀x∈m.lk.line,aw x.task)(h1:dh m.lk t=2) :
 Calls prog 382 #[.pointer (some ⟨B,o,none⟩),I6 t] w (KM w B o ty cs v va ⟨(mb m.lk t).2,m.asleep++[t]⟩):=by
 have HH:=jy B o ty cs v m.lk t w h.lk ht;rw[h1]at HH;have HD:=(λcs v W hW=>Ns B o ty cs v m.lk t W hW ht hl hg);have HM:=h;obtain⟨A,n,c,hv,hn,-⟩:=h.own.shape (λ_=>rfl);have fJ:m.asleep.length<1000000:=oM
 subst hv;have c3:=h.lk.blk.ar h.c3;have HC3:=h.c3;generalize mb m.lk t=D at *;clear h h1 hn;go_enter func382,ntmps382;go_wp2_with(first
  |go_at_call 254;refine HH.mono ?_;rintro e v5 ⟨rfl,rfl⟩
  |at_builtin;refine cX _ rfl (.tmp 20) (.tmp 22) 25 rfl 0 3 _ 1 8 gv underlying25 jL rF dC (λ_=>rfl) ma (.slice A n c) m.asleep rfl (HM.own.alloc _) ⟨w.heap.size,0,none⟩ 1 t rfl (br (α:=Int) (vs:=[I6 t]) (ai.new w _ _) rfl) fJ dC (aB6 _) ?_;intro v' w3 kJ jP hw3;have hU:=((ah.refl (λk=>(Value.slice A n c).ownBlock=some k) w).alloc (.cells #[I6 t] AL)).trans jP iL;have hW3:v'.ownBlock=(Value.slice A n c).ownBlock\/∃g,v'.ownBlock=some g/\w.heap.size<=g:=hw3.imp id (λe=>⟨_,e,sI⟩);have X3:=HM.ya hU kJ hW3;have xC:=HM.lk.blk.upd hU HM.ne;have:=xC.ar HC3;have:=xC.frozen (o+3);obtain⟨A',n',c',rfl,-,-⟩:=kJ.shape (λ_=>rfl);clear hU hW3 xC kJ hw3 jP
  |(go_at_call 350;refine(HD _ _ _ X3.mo.lk).mono ?_;rintro e v9 ⟨Nh,v9',A9,n9,c9,rfl,mz⟩;have X9:=X3.trans (X3.mo.lock mz);clear mz))
 go_ret2;exact⟨_,_,_,_,rfl,_,_,_,X9⟩
def PJ(B o:Nat)(ty:TypeId)(cs:Array Value)(v va:Value)(m:Mo)(t:Int)(w:World)(h:tZ w B o ty cs v va m)(ht:aw t)(hl:m.lk.line.length<=1000)(ha:m.asleep.length<=1000)(hg:∀x∈m.lk.line,aw x.task) :
 Calls prog 382 #[.pointer (some ⟨B,o,none⟩),I6 t] w (KM w B o ty cs v va (lK m t)):=by
 unfold lK
 by_cases h1:dh m.lk t=2
 ·rw[if_neg (λe=>e h1)]
  exact AO B o ty cs v va m t w h ht hl ha hg h1
 ·rw[if_pos h1]
  exact Dv B o ty cs v va m t w h ht h1
end
def TN(w:World)(B o:Nat)(ty:TypeId)(cs:Array Value)(v va:Value)(m' : Mo)(e:Ending)(w' : World):Prop:=∃t b,e=.returned (.tuple #[I6 t,.bool b])/\aw t/\TM w B o ty cs v va m' w'
theorem Hg(B o:Nat)(ty:TypeId)(cs:Array Value)(v va:Value)(m:Mo)(w:World)(h:tZ w B o ty cs v va m)(h1:m.asleep=[]) :
 Calls prog 352 #[.pointer (some ⟨B,o,none⟩)] w (TN w B o ty cs v va m):=by
 have HS:=h.stay (Below.refl _ w);obtain⟨A,n,c,hv,hn,-⟩:=h.own.shape (λ_=>rfl);have hn0:n=0:=by rw[hn,h1];rfl
 subst hn0;subst hv;have c3:=h.lk.blk.ar h.c3;clear h h1 hn;go_enter func352,ntmps352;go_wp2;go_ret2;exact⟨-1,false,rfl,by unfold aw;decide,_,_,_,HS⟩
def ag1.at_{len cap:Nat}{l:List Int}(h:dt w A len cap l)(hk:k<len):
 ∃(b off:Nat)(x:Int),A=some ⟨b,off,none⟩/\l[k]? = some x/\b<w.heap.size/\w.cell? ⟨b,off+k,none⟩=some (I6 x):=by
 obtain⟨b,off,x,h1,h2,h3,h4⟩:=ag.at_ h hk;exact⟨b,off,x,h1,h2,h3,sH (h4 0 _ rfl)⟩
def tZ.TL{m:Mo}{x:Int}{L:List Int}{g off:Nat}(h:tZ w B o ty cs v (.slice (some ⟨g,off,none⟩) (L.length+1) c) m)(hl:m.asleep=x::L):
 fV w (w.setCell ⟨B,o+3,none⟩ (.slice (some ⟨g,off+1,none⟩) L.length (c-1))) B o ty cs v (.slice (some ⟨g,off,none⟩) (L.length+1) c) (cs.setIfInBounds (o+3) (.slice (some ⟨g,off+1,none⟩) L.length (c-1))) v (.slice (some ⟨g,off+1,none⟩) L.length (c-1)) {m with asleep:=L}/\
 (c=1->fV w (w.setCell ⟨B,o+3,none⟩ (.slice (some ⟨g,off,none⟩) L.length (c-1))) B o ty cs v (.slice (some ⟨g,off,none⟩) (L.length+1) c) (cs.setIfInBounds (o+3) (.slice (some ⟨g,off,none⟩) L.length (c-1))) v (.slice (some ⟨g,off,none⟩) L.length (c-1)) {m with asleep:=L}):=by
 have ho:=h.own;rw[hl]at ho;obtain⟨h1,h2⟩:=aK.tail (size:=1) (cells:=gv) (λ_=>rfl) ho;exact⟨h.ya (ah.refl _ w) h1 (.inl rfl),λhc=>h.ya (ah.refl _ w) (h2 hc) (.inl rfl)⟩
theorem Dw(B o:Nat)(ty:TypeId)(cs:Array Value)(v va:Value)(m:Mo)(t:Int)(L:List Int)(w:World)(h:tZ w B o ty cs v va m)(ht:aw t)(hl:m.lk.line.length<=1000)(h1:m.asleep=t::L) :
 Calls prog 352 #[.pointer (some ⟨B,o,none⟩)] w (TN w B o ty cs v va ⟨(oK m.lk t true).2,L⟩):=by
 have HA:=(λcs v W hW=>TJ B o ty cs v m.lk t true W hW ht hl);obtain⟨A,n,c,hv,hn,hs⟩:=h.own.shape (λ_=>rfl);have fo:n=L.length+1:=by rw[hn,h1];rfl
 subst fo;obtain⟨b2,gY,y,hA,hy,hb2,d0⟩:=ag1.at_ hs (k:=0) oM;rw[h1]at hy;simp only[List.getElem?_cons_zero,Option.some.injEq]at hy;subst hy;subst hA;subst hv;rw[aH9]at d0;have HT:=h.TL h1;have c3:=h.lk.blk.ar h.c3;have f3:=h.lk.blk.frozen (o+3);have hcc:L.length+1<=c:=hs.2.1;have hcm:c<=9223372036854775807:=by have:=hs.2.2.1;unfold maxLen at this;omega
 have:(0:Int)<(L.length:Int)+1:=oM
 generalize oK m.lk t true=Q at *;clear h h1 hs hn
 by_cases hc:c=1
 ·subst hc
  have hL0:L.length=0:=oM
  have h9:=HT.2 (by first|rfl|trivial);have e2:Value.slice (some ⟨b2,gY,none⟩) L.length (1-1)=Value.slice (some ⟨b2,gY,none⟩) 0 0:=by rw[hL0]
  rw[e2]at h9;have T1:=h9;clear h9 e2 HT;go_enter func352,ntmps352;go_wp2_with(go_at_call 353;refine(HA _ _ _ T1.mo.lk).mono ?_;rintro e v9 ⟨Nh,v9',rfl,mz⟩;have X9:=T1.trans (T1.mo.lock mz);clear mz);go_ret2;exact⟨_,_,rfl,ht,_,_,_,X9⟩
 ·have: ¬(c:Int)=1:=oM
  have T1:=HT.1;clear HT;go_enter func352,ntmps352;go_wp2_with(go_at_call 353;refine(HA _ _ _ T1.mo.lk).mono ?_;rintro e v9 ⟨Nh,v9',rfl,mz⟩;have X9:=T1.trans (T1.mo.lock mz);clear mz);go_ret2;exact⟨_,_,rfl,ht,_,_,_,X9⟩
theorem Hh(B o:Nat)(ty:TypeId)(cs:Array Value)(v va:Value)(m:Mo)(w:World)(h:tZ w B o ty cs v va m)(ha:∀x∈m.asleep,aw x)(hl:m.lk.line.length<=1000) :
 Calls prog 352 #[.pointer (some ⟨B,o,none⟩)] w (TN w B o ty cs v va (iP m)):=by
 unfold iP;cases h1:m.asleep with
 |nil=>exact Hg B o ty cs v va m w h h1
 |cons t L=>exact Dw B o ty cs v va m t L w h (ha t (by rw[h1];simp)) hl h1
theorem yb(A:Option Addr)(n c:Nat)(l:List Int)(w:World)(hs:dt w A n c l)(hl:n<=100000):Calls prog 360 #[.slice A n c] w λe w'=>∃A' c',e=.returned (.slice A' n c')/\dt w' A' n c' l/\Bl w w':=by
 obtain⟨h1,h2,h3,h4,h5⟩:=hs;cases A with
 |none=>
  obtain⟨rfl,rfl⟩:=h4 rfl;have:l=[]:=aC0 h1;subst this;refine(aQ4 0 0 w).mono ?_;rintro e w' ⟨rfl,rfl⟩;exact⟨none,0,rfl,⟨rfl,aC2 _,aB6 _,λ_=>⟨rfl,rfl⟩,λa ha=>by cases ha⟩,Below.refl _ _⟩
 |some a=>
  by_cases h0:n=0
  ·subst h0
   have:l=[]:=aC0 h1;subst this;refine(aQ5 a c w).mono ?_;rintro e w' ⟨v',rfl,ho,hne,hb⟩;obtain⟨A',n',c',rfl,hn,hs'⟩:=Own.shape (α:=Int) (cells:=gv) (size:=1) (l:=[]) (show tX w' w.heap.size v' []from ho) (λ_=>rfl);obtain rfl:n' = 0:=hn;exact⟨A',c',rfl,hs',hb⟩
  ·obtain⟨k1,k2⟩:=h5 a rfl
   obtain⟨b,off,q⟩:=a;have hq:q=none:=(k2 oM).2;subst hq;have hc:∀j,j<l.length->w.cell? ⟨b,off+j,none⟩=some (I6 (l.getD j 0)):=λj hj=>by
    have:=k1 j (l[j]) (aB3 hj) 0 _ rfl;rw[Addr.add_lit]at this;rw[aB7,aB3 hj]
    simpa using this
   refine(aQ3 b off n c l w oM oM hc).mono ?_;rintro e w' ⟨v',rfl,ho,hne,hb⟩;rw[aB5 oM]at ho;have mv:tX w' w.heap.size v' l:=by
    show w'.ownsRow _ _ _ _ l.length (l.flatMap gv)
    have e9:l.flatMap gv=l.map (Value.int .i64):=by
     clear h1 h3 h4 h5 k1 k2 hc ho
     induction l with
     |nil=>rfl
     |cons x l ih=>rw[aE8,ih];rfl
    rw[e9,h1];exact ho
   obtain⟨A',n',c',rfl,hn,hs'⟩:=mv.shape (λ_=>rfl);obtain rfl:n' = n:=by rw[hn,h1]
   exact⟨A',c',rfl,hs',hb⟩
theorem Dx(B o:Nat)(ty:TypeId)(cs:Array Value)(v va:Value)(m:Mo)(w:World)(h:tZ w B o ty cs v va m)(ha:m.asleep.length<=1000) :
 Calls prog 359 #[.pointer (some ⟨B,o,none⟩)] w λe w'=>∃A n c,e=.returned (.slice A n c)/\n=m.asleep.length/\dt w' A n c m.asleep/\Bl w w':=by
 obtain⟨A,n,c,hv,hn,hs⟩:=h.own.shape (λ_=>rfl);subst hv;have c3:=h.lk.blk.ar h.c3;have HC:=zD (yb A n c m.asleep w hs oM);have HN:=zD hn;clear h hs hn;go_enter func359,ntmps359;go_wp2_with(go_at_call 360;refine HC.out.mono ?_;rintro e v9 ⟨A9,c9,rfl,hs9,b8⟩);go_ret;exact⟨_,_,_,rfl,HN.out,hs9,b8⟩
def j4:Nat->Mo->Mo
 |0,m=>m
 |k+1,m=>j4 k (iP m)
theorem qU(k:Nat)(m:Mo):j4 (k+1) m=iP (j4 k m):=by
 induction k generalizing m with
 |zero=>rfl
 |succ k ih=>exact ih (iP m)
def j5(m:Mo):Mo:=j4 m.asleep.length m
def PK(l:Lk)(t:Int)(wr:Bool):(oK l t wr).2.line=l.line\/(oK l t wr).2.line=l.line++[⟨t,wr⟩]:=by
 unfold oK
 split
 ·exact .inl rfl
 ·split
  ·exact .inl rfl
  ·split
   ·exact .inl rfl
   ·split
    ·exact .inl (x9 _ _)
    ·exact .inr rfl
def TP(l:Lk)(t:Int)(wr:Bool):(oK l t wr).2.line.length<=l.line.length+1:=by
 rcases PK l t wr with e|e<;>rw[e]<;>simp
def PL(m:Mo):(iP m).lk.line.length<=m.lk.line.length+1:=by
 unfold iP
 split
 ·exact aC5 _
 ·exact TP _ _ _
def PM(m:Mo):∀x∈(iP m).asleep,x∈m.asleep:=by
 unfold iP
 split
 ·exact λx h=>h
 ·rename_i t rest h;exact λx hx=>by rw[h];simp[hx]
theorem PN(k:Nat)(m:Mo):(j4 k m).lk.line.length<=m.lk.line.length+k:=by
 induction k with
 |zero=>exact aC2 _
 |succ k ih=>rw[qU];have:=PL (j4 k m);omega
theorem PO(k:Nat)(m:Mo):∀x∈(j4 k m).asleep,x∈m.asleep:=by
 induction k with
 |zero=>exact λx h=>h
 |succ k ih=>rw[qU];exact λx h=>ih x (PM _ x h)
def fV.keep{va va1:Value}{m1:Mo}(h1:fV w w1 B o ty cs v va cs1 v1 va1 m1)(hb:ah (λk=>w.heap.size<=k/\v1.ownBlock≠some k/\va1.ownBlock≠some k) w1 w2)(hB:B<w.heap.size):fV w w2 B o ty cs v va cs1 v1 va1 m1:=
 ⟨⟨h1.mo.lk.upd hb (λh=>oH h.1) (λk hk h=>h.2.1 hk),h1.mo.c3,h1.mo.own.upd hb (λk hk h=>h.2.2 hk),h1.mo.ne⟩,h1.upd.trans hb (λk hk=>.inr hk.1),h1.own,h1.PI,h1.size,h1.rest⟩
theorem Hk(B o:Nat)(ty:TypeId)(cs:Array Value)(v va:Value)(m:Mo)(w:World)(h:tZ w B o ty cs v va m)(ha:∀x∈m.asleep,aw x)(hn:m.asleep.length<=400)(hl:m.lk.line.length<=400) :
 Calls prog 355 #[.pointer (some ⟨B,o,none⟩)] w λe w'=>∃A n c,e=.returned (.slice A n c)/\TM w B o ty cs v va (j5 m) w':=by
 have Pt:=Dx B o ty cs v va m w h oM;have H0:=h;have HW:=(λ(k:Nat) cs v va W hW (hk:k<=400)=>Hh B o ty cs v va (j4 k m) W hW (λx hx=>ha x (PO k m x hx)) (oH (PN k m)));have qg:=h.lk.blk.lt;obtain⟨N,hN⟩:∃N,m.asleep.length=N:=⟨_,rfl⟩
 have HQ:j5 m=j4 N m:=by unfold j5;rw[hN]
 rw[hN]at hn Pt;rw[HQ];clear h ha hl hN;go_enter func355,ntmps355;go_wp2_with(go_at_call 359;refine Pt.mono ?_;rintro e v1 ⟨A1,n1,c1,rfl,M4,hs1,hb1⟩;obtain rfl:n1=N:=M4;have S0:=H0.stay hb1;clear hs1 hb1);go_loopw[3,9] (λo3 i wr=>∃(k:Nat)(cs' : Array Value)(v' rq : Value)(A:Option Addr)(n c:Nat)(out:List Int),k<=n1/\i = I6 k/\o3=.slice A n c/\tX wr w.heap.size (.slice A n c) out/\fV w wr B o ty cs v va cs' v' rq (j4 k m)/\out.length<=k/\(∀j,(Value.slice A n c).ownBlock=some j->v'.ownBlock≠some j/\rq.ownBlock≠some j)) (λ_ i _=>n1-(intOf i).toNat)
 case atStart=>exact⟨0,cs,v,va,none,0,0,[],aB6 _,rfl,rfl,Own.nil _ _ _ _ _,S0,aC2 _,λj h=>by cases h⟩
 case round=>
  obtain⟨k,cs',v',rq,A,n,c,out,hk,rfl,rfl,hown,hst,hlo,hap⟩:=hrel;have ST:=hst;have HO:=hown;have RV:=hap;clear hown hst hap
  by_cases hlt:k<n1
  ·have:(k:Int)<(n1:Int):=oM
   go_wp2_with(first
    |go_at_call 352;refine(HW k cs' v' rq wr ST.mo oM).mono ?_;rintro e v2 ⟨t2,b2,rfl,oD,Am,v2',ag2,hm2⟩;have hno:∀j,(Value.slice A n c).ownBlock=some j->¬(j=B\/v'.ownBlock=some j\/rq.ownBlock=some j):=(λj hj e=>by {have:=(World.ownsRow.lt HO j hj).1;have:=qg;have h7:=RV j hj;rcases e with e|e|e;omega;exact h7.1 e;exact h7.2 e});have iO:ah (λk=>k=B\/v'.ownBlock=some k\/rq.ownBlock=some k) wr v2:=hm2.upd;have Fk:=HO.upd iO hno;have Xm:∀j,(Value.slice A n c).ownBlock=some j->v2'.ownBlock≠some j/\ag2.ownBlock≠some j:=(λj hj=>by {have:=(World.ownsRow.lt HO j hj).2;have h7:=RV j hj;refine⟨?_,?_⟩;rcases hm2.own with e|⟨g,e,hg⟩;rw[e];exact h7.1;rw[e];intro e2;injection e2 with e2;omega;rcases hm2.PI with e|⟨g,e,hg⟩;rw[e];exact h7.2;rw[e];intro e2;injection e2 with e2;omega});have ST2:=ST.trans hm2;clear hm2 hno iO
    |(at_builtin;refine cU _ rfl (.tmp 16) (.tmp 18) 25 rfl w.heap.size 3 _ 1 8 gv underlying25 jL rF dC (λ_=>rfl) ma (.slice A n c) out rfl (Fk.alloc _) ⟨v2.heap.size,0,none⟩ 1 t2 rfl (br (α:=Int) (vs:=[I6 t2]) (ai.new v2 _ _) rfl) oM dC (by have:=ST2.upd.size;simp;omega) ?_;intro v' w5 kG Co wK;obtain⟨A5,n5,c5,rfl,-,-⟩:=kG.shape (λ_=>rfl);have O5:=kG;have U5:=((ah.refl (λk=>(Value.slice A n c).ownBlock=some k) v2).alloc (.cells #[I6 t2] AL)).trans Co iL;have Z5:=wK;clear kG Co wK))
   have X5:=ST2.keep (U5.mono (λj hj=>⟨(World.ownsRow.lt HO j hj).1,(Xm j hj).1,(Xm j hj).2⟩)) qg;have A5':=(show ∀j,(Value.slice A5 n5 c5).ownBlock=some j->v2'.ownBlock≠some j/\ag2.ownBlock≠some j from λj hj=>by
    rcases Z5 with e|e
    ·rw[e]at hj;exact Xm j hj
    ·rw[e]at hj
     injection hj with hj
     refine⟨λe2=>?_,λe2=>?_⟩
     ·have:=(ST2.mo.lk.own.lt j e2).2;simp at hj;omega
     ·have:=(ST2.mo.own.lt j e2).2;simp at hj;omega)
   have aw5:(out++[t2]).length<=k+1:=by simp;omega
   go_roundw
   case rel=>exact⟨k+1,Am,v2',ag2,A5,n5,c5,_,oM,by go_num,rfl,O5,by rw[qU];exact X5,aw5,A5'⟩
   case measure=>simp[intOf];omega
  ·obtain rfl:k=n1:=oM
   go_wp2;go_ret;exact⟨_,_,_,rfl,_,_,_,ST⟩
def cO(p n:Int):Int:=if n<1 then -1 else p % n
def pG(h:¬n<1):0<=cO p n/\cO p n<n:=by
 unfold cO;rw[if_neg h];exact⟨Int.emod_nonneg _ oM,Int.emod_lt_of_pos _ oM⟩
def tmod_neg(h:1<=n)(h2:p.tmod n<0):p.tmod n+n=p % n:=by
 rw[Int.tmod_eq_emod]at h2 |-;have:=Int.emod_nonneg p (show n≠0 by omega)
 split at h2
 ·omega
 ·rename_i h4
  rw[if_neg h4];have:(n.natAbs:Int)=n:=oM
  omega
def Hr(h:1<=n)(h2:¬p.tmod n<0):p.tmod n=p % n:=by
 rw[Int.tmod_eq_emod]at h2 |-;have:=Int.emod_lt_of_pos p (show 0<n by omega)
 split
 ·omega
 ·rename_i h4
  rw[if_neg h4]at h2;have:(n.natAbs:Int)=n:=oM
  omega
theorem oN(p n:Int)(w:World)(hp:aw p)(hn:aw n):Calls prog 91 #[I6 p,I6 n] w λe w'=>e=.returned (I6 (cO p n))/\w=w':=by
 by_cases h1:n<1
 ·have HQ:=zD (show cO p n = -1 from if_pos h1)
  go_enter func91,ntmps91;go_wp2;go_ret;exact⟨by rw[HQ.out];rfl,rfl⟩
 ·have: ¬n=0:=oM
  have hq:cO p n=p % n:=if_neg h1;have: -n<=p.tmod n/\p.tmod n<n:=by
   have:=Int.emod_nonneg p (show n≠0 by omega);have:=Int.emod_lt_of_pos p (show 0<n by omega)
   by_cases h2:p.tmod n<0
   ·have:=tmod_neg oM h2;omega
   ·have:=Hr oM h2;omega
  unfold aw at hn hp
  by_cases h2:p.tmod n<0
  ·have HQ:=zD (hq.trans (tmod_neg oM h2).symm)
   clear hq;go_enter func91,ntmps91;go_wp2;go_ret;exact⟨by rw[HQ.out];rfl,rfl⟩
  ·have HQ:=zD (hq.trans (Hr oM h2).symm)
   clear hq;go_enter func91,ntmps91;go_wp2;go_ret;exact⟨by rw[HQ.out];rfl,rfl⟩
def sr(long:Int):Nat:=(min long 1048576).toNat
def mX(n long:Int):List Int:=(List.range (sr long)).map λi:Nat=>cO (i:Int) n
def Hs(n:Int)(k:Nat):((List.range (k+1)).map λi:Nat=>cO i n)=((List.range k).map λi:Nat=>cO i n)++[cO k n]:=by simp[List.range_succ]
def KZ(w:World)(l:List Int)(e:Ending)(w' : World):Prop:=∃A n c,e=.returned (.slice A n c)/\tX w' w.heap.size (.slice A n c) l/\Bl w w'
theorem Ht(n long:Int)(w:World)(hn:aw n)(hl:long<=1000)(hl2:aw long):Calls prog 90 #[I6 n,I6 long] w (KZ w (mX n long)):=by
 have HF:=(λ(k:Nat) W (hk:k<=1000)=>oN (k:Int) n W (by unfold aw;omega) hn);have ag5:min long 1048576=long:=oM
 have HQ:mX n long=(List.range long.toNat).map λi:Nat=>cO i n:=by unfold mX sr;rw[ag5]
 obtain⟨N,hN⟩:∃N:Nat,long.toNat=N:=⟨_,rfl⟩
 have HN:=zD hN;have:N<=1000:=oM
 unfold aw at hl2;rw[HQ,hN];clear hN hn;go_enter func90,ntmps90;go_wp2;go_loopw[5,9] (λo i wr=>∃(k no co:Nat)(Ao:Option Addr),k<=N/\i = I6 k/\o=.slice Ao no co/\tX wr w.heap.size (.slice Ao no co) ((List.range k).map λi:Nat=>cO i n)/\Bl w wr) (λ_ i _=>N-(intOf i).toNat)
 case atStart=>exact⟨0,0,0,none,aB6 _,rfl,rfl,Own.nil _ _ _ _ _,Below.refl _ _⟩
 case round=>
  obtain⟨k,no,co,Ao,hk,rfl,rfl,hown,aT⟩:=hrel;have HO:=hown;have HB:=aT;clear hown aT
  by_cases hlt:k<N
  ·have:(k:Int)<long:=by have:=HN.out;omega
   have Xo:=(λW=>HF k W oM);have fG:=Hs n k;have fJ:((List.range k).map λi:Nat=>cO i n).length<1000000:=by simp;omega
   generalize cO (k:Int) n=FK at *;generalize((List.range k).map λi:Nat=>cO i n)=LK at *;go_wp2_with(first
    |go_at_call 91;refine zN (Xo _) ?_
    |(at_builtin;refine pF _ rfl (.tmp 12) (.tmp 16) rfl w.heap.size (.slice Ao no co) LK rfl (HO.alloc _) wr.heap.size 3 1 FK rfl (ai.new wr _ _) fJ (by have:=HB.size;simp;omega) ?_;intro v' w5 kG dx iK;obtain⟨A5,n5,c5,rfl,-,-⟩:=kG.shape (λ_=>rfl);have O5:=kG;have B5:=(HB.alloc HB.size _).trans dx;clear kG dx iK))
   go_roundw
   case rel=>exact⟨k+1,n5,c5,A5,oM,by go_num,rfl,by rw[fG];exact O5,B5⟩
   case measure=>simp[intOf];omega
  ·obtain rfl:k=N:=oM
   have:long<=(k:Int):=by have:=HN.out;omega
   go_wp2;go_ret;exact⟨_,_,_,rfl,HO,HB⟩
def mf(raw:List Int)(i:Nat):Int:=if raw=[]then 0 else raw.getD (i % raw.length) 0
def fE(n:Int)(left:List Int):List Int:=if left=[]then mX n n else left
def uf(n:Int)(raw:List Int)(i:Nat)(left:List Int):Nat:=(cO (mf raw i) (fE n left).length).toNat
def cQ(n:Int)(raw:List Int):Nat->List Int×List Int
 |0=>([],[])
 |k+1=>((cQ n raw k).1++[(fE n (cQ n raw k).2).getD (uf n raw k (cQ n raw k).2) 0],(fE n (cQ n raw k).2).eraseIdx (uf n raw k (cQ n raw k).2))
def gL(n long:Int)(raw:List Int):List Int:=(cQ n raw (sr long)).1
def Lb(h:1<=n/\n<=32):(mX n n).length=n.toNat:=by
 unfold mX sr;have:min n 1048576=n:=oM
 rw[this];simp
def pH(h:1<=n/\n<=32){l:List Int}(hl:l.length<=32):1<=(fE n l).length/\(fE n l).length<=32:=by
 unfold fE
 split
 ·rw[Lb h];omega
 ·rename_i h2
  have:=aV3.2 h2;omega
theorem qW(h:1<=n/\n<=32)(raw:List Int)(k:Nat):(cQ n raw k).1.length=k/\(cQ n raw k).2.length<=32:=by
 induction k with
 |zero=>exact⟨rfl,by simp[cQ]⟩
 |succ k ih=>
  refine⟨by simp[cQ,ih.1],?_⟩;exact aB4 (List.length_eraseIdx_le (fE n (cQ n raw k).2) (uf n raw k (cQ n raw k).2)) (pH h ih.2).2
def YA(h:1<=n/\n<=32)(raw:List Int)(k:Nat){l:List Int}(hl:l.length<=32):uf n raw k l<(fE n l).length:=by
 have h1:=pH h hl;have h2:=pG (p:=mf raw k) (n:=((fE n l).length:Int)) oM;unfold uf;omega
def YB(h:1<=n/\n<=32)(raw:List Int)(k:Nat){l:List Int}(hl:l.length<=32):cO (mf raw k) ((fE n l).length:Int)=(uf n raw k l:Nat):=by
 have h1:=pH h hl;have h2:=pG (p:=mf raw k) (n:=((fE n l).length:Int)) oM;unfold uf;omega
def Qb{raw:List Int}(h:∀x∈raw,aw x)(i:Nat):aw (mf raw i):=by
 unfold mf
 split
 ·unfold aw;decide
 ·rename_i hne
  have hl:i % raw.length<raw.length:=aS9 _ (aV3.2 hne);rw[aB7,aB3 hl];exact h _ (List.getElem_mem hl)
def erase_eq(l:List Int)(k:Nat):l.eraseIdx k=l.take k++l.drop (k+1):=List.eraseIdx_eq_take_drop_succ l k
def Hu{W:World}{base n:Nat}{L:List Int}(h:aK W base AL 1 gv (.slice A n c) L){t:Nat}(ht:t<L.length):
 ∃(g off:Nat)(x:Int),A=some ⟨g,off,none⟩/\L.getD t 0=x/\n=L.length/\n<=c/\c<=9223372036854775807/\W.cell? ⟨g,off+t,none⟩=some (I6 x)/\g<W.heap.size/\dt W A n c L:=by
 obtain⟨A',n',c',he,hn,hs⟩:=h.shape (λ_=>rfl);injection he with e1 e2 e3
 subst e1;subst e2;subst e3;obtain⟨g,off,x,hA,hx,hg,hc⟩:=ag1.at_ hs (k:=t) oM;refine⟨g,off,x,hA,?_,hn,hs.2.1,?_,hc,hg,hs⟩
 ·rw[aB7,hx];rfl
 ·have:=hs.2.2.1;unfold maxLen at this;omega
def YC(k len:Nat):(k:Int).tmod (len:Int)=((k % len:Nat):Int):=by
 rw[Int.tmod_eq_emod_of_nonneg oM];exact(Int.natCast_emod k len).symm
structure WvI(w wr:World)(n:Int)(raw:List Int)(k:Nat)(vo vl:Value):Prop where
 out:tX wr w.heap.size vo (cQ n raw k).1
 left:aK wr w.heap.size AL 1 gv vl (cQ n raw k).2
 apart:∀j,vl.ownBlock=some j->vo.ownBlock≠some j
 CR:Bl w wr
theorem Hv(n long:Int)(A:Option Addr)(len cap:Nat)(raw:List Int)(w:World)(hn:1<=n/\n<=32)(hl:long<=100000)(hl2:aw long)(hs:dt w A len cap raw)(hr:∀x∈raw,aw x) :
 Calls prog 29 #[I6 n,I6 long,.slice A len cap] w (KZ w (gL n long raw)):=by
 have HS:=zD hs;have HR:=zD hr;have HN:=zD hn;have ag5:min long 1048576=long:=oM
 obtain⟨N,hN⟩:∃N:Nat,long.toNat=N:=⟨_,rfl⟩
 have HQ:=zD (show gL n long raw=(cQ n raw N).1 from by unfold gL sr;rw[ag5,hN]);have HNN:=zD hN;have Th:N<=100000:=oM
 have Nu:=zD (λW=>Ht n n W (by unfold aw;omega) oM (by unfold aw;omega));have Xg:=zD hs.1;have hcap:cap<=9223372036854775807:=by have:=hs.2.2.1;unfold maxLen at this;omega
 have hlc:len<=cap:=hs.2.1;unfold aw at hl2;obtain⟨M4,fo⟩:=hn;rw[HQ.out];clear hs hr hN;go_enter func29,ntmps29;go_wp2;go_loopw[7,8,14] (λo l i wr=>∃(k no co nl cl:Nat)(Ao Al:Option Addr),k<=N/\i = I6 k/\o=.slice Ao no co/\l=.slice Al nl cl/\WvI w wr n raw k (.slice Ao no co) (.slice Al nl cl)) (λ_ _ i _=>N-(intOf i).toNat)
 case atStart=>exact⟨0,0,0,0,0,none,none,aB6 _,rfl,rfl,rfl,Own.nil _ _ _ _ _,aK.nil _ _ _ _ _,(λj h=>by cases h),Below.refl _ _⟩
 case round=>
  obtain⟨k,no,co,nl,cl,Ao,Al,hk,rfl,rfl,rfl,hin⟩:=hrel;have HI:=zD hin
  by_cases hlt:k<N
  ·have Fb:(k:Int)<long:=by have:=HNN.out;omega
   obtain⟨LL,hLL⟩:∃LL,(cQ n raw k).2=LL:=⟨_,rfl⟩
   have YD:LL.length<=32:=by rw[<-hLL];exact(qW HN.out raw k).2
   have hWL:=pH HN.out YD;have hat:=YA HN.out raw k YD;have hae:=YB HN.out raw k YD;have fG:=zD (show cQ n raw (k+1)=((cQ n raw k).1++[(fE n LL).getD (uf n raw k LL) 0],(fE n LL).eraseIdx (uf n raw k LL))from by rw[cQ,hLL]);have hol:=hin.left;rw[hLL]at hol;have Xp:=zD hol;have hfi:=λW=>oN (mf raw k) ((fE n LL).length:Int) W (Qb HR.out k) (by unfold aw;omega)
   rw[hae]at hfi;have HFi:=zD hfi;have Fj:=zD (show(cQ n raw k).1.length<1000000 from by rw[(qW HN.out raw k).1];omega);have HD0:=zD (λ(h:len=0)=>(show mf raw k=0 from by
    have:raw=[]:=aC0 (by have:=Xg.out;omega);unfold mf;rw[if_pos this]))
   have HD1:=zD (λ(h:¬len=0)=>(show ∃b off,A=some ⟨b,off,none⟩/\∀W,Bl w W->W.cell? ⟨b,off+k % len,none⟩=some (I6 (mf raw k))from by
    have zt:k % len<len:=aS9 _ oM;obtain⟨b,off,x,h1,h2,h3,h4⟩:=ag1.at_ HS.out zt;refine⟨b,off,h1,λW hW=>?_⟩;have h5:mf raw k=x:=by
     unfold mf;have hne:raw≠[]:=λe=>by have:=Xg.out;rw[e]at this;simp at this;omega
     rw[if_neg hne,show raw.length=len from Xg.out,aB7,h2];rfl
    rw[h5];exact(hW.cell (p:=⟨b,off+k % len,none⟩) h3).trans h4))
   have aw9:=zD (λ(h:LL=[])=>(show fE n LL=mX n n from if_pos h));have ax0:=zD (λ(h:¬LL=[])=>(show fE n LL=LL from if_neg h));have sj:=zD hin.CR;have Uf:=zD hin.out;have RV:=zD hin.apart;have Nv:=zD (show nl=LL.length from by
    obtain⟨A',n',c',he,XQ,-⟩:=hol.shape (λ_=>rfl);injection he with e1 e2 e3
    omega)
   have HG:=zD (λ(wr' : World)(vo vl:Value)(h1:tX wr' w.heap.size vo ((cQ n raw k).1++[(fE n LL).getD (uf n raw k LL) 0]))(h2:aK wr' w.heap.size AL 1 gv vl ((fE n LL).eraseIdx (uf n raw k LL)))(h3:∀j,vl.ownBlock=some j->vo.ownBlock≠some j)(h4:Bl w wr')=>(show WvI w wr' n raw (k+1) vo vl from⟨by rw[fG.out];exact h1,by rw[fG.out];exact h2,h3,h4⟩));generalize mf raw k=D at *;generalize uf n raw k LL=AT at *;generalize fE n LL=L at *;generalize(cQ n raw k).1=OL at *;clear hin hol hLL hae YD hfi fG;have HL0:=Nv.out
   by_cases hLe:LL=[]<;>by_cases hd:len=0
   all_goals first
    |have hD:=HD0.out hd;subst hD;subst hd
    |(obtain⟨rb,ro,rfl,hrc⟩:=HD1.out hd;have HRc:=zD hrc;have:=YC k len;have:k % len<len:=aS9 _ oM;have:(0:Int)<(len:Int):=oM;have: ¬(len:Int)=0:=oM;clear hrc)
   all_goals first
    |have kX:nl=0:=(by rw[HL0,hLe];rfl);subst kX
    |(have: ¬(nl:Int)=0:=(by have:LL.length≠0:=λe=>hLe (aC0 e);omega);have Fk:=zD (show aK wr w.heap.size AL 1 gv (.slice Al nl cl) L from by rw[ax0.out hLe];exact Xp.out);obtain⟨g,off,x,rfl,hgx,hgn,hgc,hgm,Ug,ag7,Nw⟩:=Hu Fk.out hat;subst hgn;have BEL:=zD sj.out;have OUT:=zD Uf.out;have APT:=zD RV.out;have GX:=zD hgx;(try have:=HRc.out wr BEL.out);clear ag7 hgx Nw;generalize wr=w2 at *;generalize cl=c2 at *)
   all_goals
    clear HL0;go_upto_region 14 with(first
     |go_at_call 90;refine(Nu.out _).mono ?_;rintro e w2 ⟨A2,n2,c2,rfl,mv,hb2⟩;rw[<-aw9.out hLe]at mv;have Fk:=zD (aK.of (mv.mono sj.out.size));obtain⟨g,off,x,rfl,hgx,hgn,hgc,hgm,Ug,ag7,Nw⟩:=Hu Fk.out hat;subst hgn;have BEL:=zD (zT sj.out hb2);have OUT:=zD (Uf.out.call hb2);have APT:=zD (show ∀j,(Value.slice (some ⟨g,off,none⟩) L.length c2).ownBlock=some j->(Value.slice Ao no co).ownBlock≠some j from λj hj e=>by {have:=(World.ownsRow.lt mv j hj).1;have h2:=(World.ownsRow.lt Uf.out j e).2;omega});have GX:=zD hgx;(try have:=HRc.out w2 BEL.out);clear mv hb2 ag7 hgx Nw
     |go_at_call 91;refine zN (HFi.out _) ?_
     |(at_builtin;refine cU _ rfl (.tmp 43) (.tmp 48) 25 rfl w.heap.size 3 _ 1 8 gv underlying25 jL rF dC (λ_=>rfl) ma (.slice Ao no co) OL rfl (OUT.out.alloc _) ⟨w2.heap.size,0,none⟩ 1 x rfl (br (α:=Int) (vs:=[I6 x]) (ai.new w2 _ _) rfl) Fj.out dC (by have:=BEL.out.size;simp;omega) ?_;intro v' w5 kG Co wK;obtain⟨A5,n5,c5,rfl,-,-⟩:=kG.shape (λ_=>rfl);have O5:=zD kG;have U5:=zD (((ah.refl (λk=>(Value.slice Ao no co).ownBlock=some k) w2).alloc (.cells #[I6 x] AL)).trans Co iL);have Z5:=zD wK;clear kG Co wK))
    have LO5:=zD (Fk.out.upd U5.out (λk hk e=>APT.out k hk e));have GS5:=zD (show dt w5 (some ⟨g,off,none⟩) L.length c2 L from by
     obtain⟨A',n',c',he,-,hs⟩:=LO5.out.shape (λ_=>rfl);injection he with e1 e2 e3
     subst e1;subst e2;subst e3;exact hs)
    have AP5:=zD (show(Value.slice A5 n5 c5).ownBlock≠some g from λe=>by
     rcases Z5.out with h2|h2
     ·exact APT.out g rfl (by rw[<-h2];exact e)
     ·rw[h2]at e;injection e with e;have:=(Fk.out.lt g rfl).2;simp at e;omega)
    have Uh:=zD (BEL.out.trans (U5.out.below (λk hk=>(World.ownsRow.lt OUT.out k hk).1) BEL.out.size));have CUT:=zD (aK.cut (size:=1) (cells:=gv) (n:=L.length) (cap:=c2) (λ_=>rfl) LO5.out (k:=AT) (c:=AT) (aU3 hat) lR oM);have HER:=zD (erase_eq L AT);have HW5:=zD Uh.out.size;have:=hWL.2;have:IntKind.i64.wrap ((AT:Int)+1)=(AT:Int)+1:=by rw[IntKind.wrap_i64];omega
    clear Ug BEL U5 Z5 OUT APT Fk
    by_cases hce:c2=AT+1
    ·have HDr:=zD (show L.drop (AT+1)=[]from aG3 oM)
     have:L.length=AT+1:=oM
     refine zr (λ_=>false) (λwS=>ah (λk=>k=g) w5 wS) ?_;have S0:=(ah.refl (λk=>k=g) w5).drew;refine zk 5 [0,1,2,3,4] [_,_,_,.slice (some ⟨g,off,none⟩) AT AT,_] (.q zK<|.q zK<|.q zK<|.c rfl rfl zFF<|.f) S0 ?_;refine zk 2 [5,6,7] [_,I6 ((AT+1:Nat):Int),.slice (some ⟨g,off,none⟩) 0 0] (.q zK<|.q zK<|.c rfl rfl zFF .nil) S0 ?_;refine zQ 8 ?_;go_wp2_with(refine vq _ rfl (.tmp 53) (.tmp 57) 25 rfl w.heap.size 3 _ 1 8 gv underlying25 jL rF dC (λ_=>rfl) ma g off AT AT (L.take AT) rfl (CUT.out.cD 1) ⟨g,off,none⟩ 0 0 (L.drop (AT+1)) rfl (by rw[HDr.out];exact⟨rfl,aC2 _,aB6 _,(λh=>by cases h),λa ha=>⟨λi x hi=>by simp at hi,λh=>absurd h oM⟩⟩) sM dC HW5.out ?_;intro v' w6 tA Fc Nx;obtain⟨A6,n6,c6,rfl,-,-⟩:=tA.shape (λ_=>rfl));refine .i (S0.trans Fc iL) ?_;have S6:=S0.trans Fc iL;refine zk 0 [9] [.slice A6 n6 c6] .f S6 ?_;refine zd ?_;have X6:=zD (HG.out w6 (.slice A5 n5 c5) (.slice A6 n6 c6) (by rw[GX.out];exact O5.out.upd S6 (λk hk e=>AP5.out (by rw[hk,e]))) (by rw[HER.out];exact tA) (λj hj e=>by
      rcases Nx with h2|h2
      ·rw[h2]at hj;injection hj with hj;exact AP5.out (by rw[e,hj])
      ·rw[h2]at hj;injection hj with hj;have:=(World.ownsRow.lt O5.out j e).2;simp at hj;omega) (Uh.out.trans ((S6).below (λk hk=>by have:=(LO5.out.lt g rfl).1;omega) Uh.out.size)))
     clear tA Fc Nx;go_wp2;go_roundw
     case rel=>exact⟨k+1,n5,c5,n6,c6,A5,A6,by omega,by go_num,rfl,rfl,X6.out⟩
     case measure=>simp[intOf];omega
    ·have:AT+1<c2:=oM
     refine zr (λ_=>false) (λwS=>ah (λk=>k=g) w5 wS) ?_;have S0:=(ah.refl (λk=>k=g) w5).drew;refine zk 5 [0,1,2,3,4] [_,_,_,.slice (some ⟨g,off,none⟩) AT AT,_] (.q zK<|.q zK<|.q zK<|.c rfl rfl zFF<|.f) S0 ?_;refine zk 2 [5,6,7] [_,I6 ((AT+1:Nat):Int),.slice (some ⟨g,off+(AT+1),none⟩) (L.length-(AT+1)) (c2-(AT+1))] (.q zK<|.q zK<|.c rfl rfl zFF .nil) S0 ?_;refine zQ 8 ?_;go_wp2_with(refine vq _ rfl (.tmp 53) (.tmp 57) 25 rfl w.heap.size 3 _ 1 8 gv underlying25 jL rF dC (λ_=>rfl) ma g off AT AT (L.take AT) rfl (CUT.out.cD 1) ⟨g,off+(AT+1),none⟩ (L.length-(AT+1)) (c2-(AT+1)) (L.drop (AT+1)) rfl (by have h9:=yg (w:=w5.drew) GS5.out (k:=AT+1) oM;simpa using h9) sM dC HW5.out ?_;intro v' w6 tA Fc Nx;obtain⟨A6,n6,c6,rfl,-,-⟩:=tA.shape (λ_=>rfl));refine .i (S0.trans Fc iL) ?_;have S6:=S0.trans Fc iL;refine zk 0 [9] [.slice A6 n6 c6] .f S6 ?_;refine zd ?_;have X6:=zD (HG.out w6 (.slice A5 n5 c5) (.slice A6 n6 c6) (by rw[GX.out];exact O5.out.upd S6 (λk hk e=>AP5.out (by rw[hk,e]))) (by rw[HER.out];exact tA) (λj hj e=>by
      rcases Nx with h2|h2
      ·rw[h2]at hj;injection hj with hj;exact AP5.out (by rw[e,hj])
      ·rw[h2]at hj;injection hj with hj;have:=(World.ownsRow.lt O5.out j e).2;simp at hj;omega) (Uh.out.trans ((S6).below (λk hk=>by have:=(LO5.out.lt g rfl).1;omega) Uh.out.size)))
     clear tA Fc Nx;go_wp2;go_roundw
     case rel=>exact⟨k+1,n5,c5,n6,c6,A5,A6,by omega,by go_num,rfl,rfl,X6.out⟩
     case measure=>simp[intOf];omega
  ·obtain rfl:k=N:=oM
   have:long<=(k:Int):=by have:=HNN.out;omega
   clear hin;go_wp2;go_ret;exact⟨_,_,_,rfl,HI.out.out,HI.out.CR⟩
end Go.Proofs.YtjgmjohiehbgaaaGreat
