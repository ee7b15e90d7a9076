/- Part 5. -/
import Derived.Test.YtjgmjohiehbgaaaGreatQ3
import Derived.Test.YtjgmjohiehbgaaaGreatQ4
import Derived.Sort.MapsRangeIn
namespace Go.Proofs.YtjgmjohiehbgaaaGreat
open Go.RowKit Go.Proofs.Tryz
set_option maxHeartbeats 20000000
set_option maxRecDepth 100000
set_option linter.all false
variable{F:Nat->Prop}{Q X d g k r x:Nat}{l xs:List aD}{p:Option Addr}{room t:Int}{v:Value}{w w':World}
open Nat (pow_add pow_pos)
section
open Go.RowKit Go.Shelf Go.Maps
attribute [local go_sem] Oper.semAt_some
section
variable{α:Type}[DecidableEq α]{P:Program}{k:TypeId}(E:mK P k α)(w:World){F:Fence}{n:Nat}{ops:Array Oper}{rest:List Oper}{o:Oper}{a:Act}{Q:Exit->Act->World->Prop}
theorem pR(hg:o.guard=none)(m:Operand)(t:TypeId)(hop:o.op=Op.range t m)(e:TypeId)(ht:P.underlying t=some (.map k e))
 (b:Nat) (f:α->Option Value) (ks:List α) (hm:a.eval m=.map (some b)) (h:bP E w b f ks)
 (hK:∀w',lh E w' b w.heap.size f ks (λx=>decide (x∈ks)) ks.length->w.grownBy w' none->w'.heap.size=w.heap.size+1->wpListIn F n P ops Q rest (a.put o.dst (pt w.heap.size)) w') :
 wpListIn F n P ops Q (o::rest) a w:=by
 obtain⟨D,h1,h2⟩:=h;have h2':=h2;obtain⟨e1,e2,e3,e4,e5,e6⟩:=h2';refine wpListIn_range_own w hg m t hop k e E.kd ht tH b _ D hm h1 ?_;intro w' r1 r2 r3;refine hK w' ⟨D,_,by rw[e1]at r1;exact r1,h2,λx hgx=>?_,λx hx=>by simpa using hx⟩ r2 r3;cases hf:f x with
 |none=>
  rw[e4 x hgx hf];have:x ∉ ks:=λhm=>by have:=(e3 x).1 hm;rw[hf]at this;cases this
  simp[this]
 |some u=>
  rw[has_true_of_atKey (e5 x u hf)];have:x∈ks:=(e3 x).2 (by rw[hf];rfl);simp[this]
def qD(hg:o.guard=none)(it:Operand)(hop:o.op=Op.next it false)(b r:Nat)(f:α->Option Value)(ks:List α)(lf:α->Bool)(cnt:Nat)
 (hit:a.eval it = pt r) (h:lh E w b r f ks lf cnt)
 (hDone:(∀x∈ks,lf x=false)->wpListIn F n P ops Q rest (a.put o.dst (.tuple #[.bool false])) w)
 (hMore:∀(x:α)(v:Value)(w' : World)(cnt' : Nat),E.good x->x∈ks->lf x=true->f x=some v->lh E w' b r f ks (λy=>lf y&&decide (y≠x)) cnt'->cnt' < cnt->w.grownBy w' (some r)->w'.heap.size=w.heap.size->
  (Instr.entry (pt r)).run P w'=.ok (.tuple #[E.v x,v]) w'->wpListIn F n P ops Q rest (a.put o.dst (.tuple #[.bool true,E.v x,v])) w') :
 wpListIn F n P ops Q (o::rest) a w:=by
 obtain⟨D,left,h1,h2,h3,h4⟩:=h;refine wpListIn_next_ranges w hg it hop k E.kd tH E.v (λv:Value=>v) (λkey kl hkey=>by obtain⟨x,_,rfl,_⟩:=E.inv hkey;exact⟨x,rfl⟩) (λv y _=>⟨v,rfl⟩) b r _ D left cnt hit h1 ?_ ?_
 ·intro _ hl
  exact hDone λx hx=>by rw[h3 x (h2.2.2.2.2.2 x hx)];exact hl _
 ·intro x v kl y w' cnt' hkey hlk hv hat hrg hlt hgr hsz hen
  obtain⟨x',hgx,ex,rfl⟩:=E.inv hkey;have hlx:lf x' = true:=by rw[h3 x' hgx];exact hlk
  have hm:=h4 x' hlx;have hfx:f x' = some v:=by
   obtain⟨u,hu⟩:=Option.isSome_iff_exists.1 ((h2.2.2.1 x').1 hm);have:=hat .nil;rw[h2.2.2.2.2.1 x' u hu]at this;unfold tH at hv;injection hv with hv
   rw[<-congrArg Prod.fst hv]at this;injection this with this
   rw[hu,this]
  rw[ex]at hen |-;refine hMore x' v w' cnt' hgx hm hlx hfx ⟨D,_,hrg,h2,λy hy=>?_,λy hy=>?_⟩ hlt hgr hsz hen
  ·simp only
   rw[h3 y hy]
   by_cases e:y=x'
   ·subst e;rw[WideAt.sameKey_self (E.isKey hgx)];simp
   ·rw[Maps.sameKey_ne (λh=>e (E.inj hy hgx h))];simp[e]
  ·simp at hy
   exact h4 y hy.1
end
section
variable{α:Type}{P:Program}{k:TypeId}{E:mK P k α}{w w' : World}{b r:Nat}{f:α->Option Value}{ks:List α}{lf:α->Bool}{cnt:Nat}
def lh.of_walks(h:lh E w b r f ks lf cnt)(hk:KeepsWalks w w'):lh E w' b r f ks lf cnt:=by
 obtain⟨D,left,h1,h2⟩:=h;exact⟨D,left,h1.of_walks hk,h2⟩
def lh.iter_walk(h:lh E w b r f ks lf cnt):∃o:Obj,w.heap[r]? = some o/\o.isWalk=true:=by
 obtain⟨D,left,h1,h2⟩:=h;exact h1.iter_walk
end
def Nb(n₀:Nat)(A B:World):Prop:=Below n₀ A B/\KeepsWalks A B
def Nb.trans{n₀:Nat}{A B C:World}(h:Nb n₀ A B)(h' : Nb n₀ B C):Nb n₀ A C:=⟨h.1.trans h'.1,h.2.trans h'.2⟩
def Nb.put{n₀:Nat}{w:World}(hn:n₀<=w.heap.size)(W:World)(l:Nat)(o o' : Obj)(hl:w.heap.size<=l)(h1:W.heap[l]? = some o)(h2:o.isCells=false)(h3:o.isWalk=false):Nb n₀ W (W.putObj l o'):=
 ⟨belowK_b (w:=w) hn W l o o' hl h1 h2 h3,walksK_b (w:=w) W l o o' hl h1 h2 h3⟩
def xA(n:Nat)(hn:2<=n)(g:Nat)(lb:Array Value)(hFg:Fence.wide.fn g)(eg:∀args w,(callFunc g args).run prog w=.ok (.enter g args) w)
 (S Sp:List Key->Prop) (N:Nat) (hN:N<=1000000) (w w0:World) (hb0:Bl w0 w) (hseq:SeqStopsK Fence.wide (n-1) prog g lb (λx:Key=>#[Value.agg x.row]) (Nb w.heap.size) S Sp N w0) :
 CallsIn Fence.wide n prog 249 #[.slice none 0 0,.func (.func g) #[] lb] w λe W'=>∃v xs,e=.returned v/\S xs/\Own W' w.heap.size aS 2 Key.cells v xs/\Bl w W':=by
 have h1:1<=n:=oM
 obtain⟨i0,hi,hz0,hz1,hz2⟩:=info_parts FQ;refine callsIn_of_wp_marks func249 rfl trivial ?_ rfl;simp only[ntmps249,aF1,aC4,aG6,Nat.reduceAdd,Nat.reduceSub,aF7,aF8,aG7,aG2,aD4,aE0]
 gi_wp2
 have bO:=Boxed.new w 29 (.slice none 0 0);have RO:Bl w (w.alloc (.cells #[.slice none 0 0] 29)):=(Below.refl _ w).alloc lR _;have hsz:(w.alloc (.cells #[.slice none 0 0] 29)).heap.size=w.heap.size+1:=sI
 obtain⟨W0,hW0⟩:∃W0,w.alloc (.cells #[.slice none 0 0] 29)=W0:=⟨_,rfl⟩
 rw[hW0]at bO RO hsz |-;clear hW0;refine wpIn_rangeFunc_ownH rfl h1 (gf:=g) (lb:=lb) rfl hFg eg
  hseq Nb.trans (Nb.put (w:=W0) oM) (zT hb0 RO) (λ_=>rfl)
  (λpre W=>(∃v,Boxed W w.heap.size 29 v/\W.ownsRow w.heap.size aS 2 v pre.length (pre.flatMap Key.cells)/\True)/\Bl w W)
  (λ_ _ _=>False)
  (OwnFrom.and (Own.from (holdsRow_own w.heap.size w.heap.size 29 aS 2 (λpre:List Key=>pre.length) (λpre:List Key=>pre.flatMap Key.cells) (λ_ _=>True)) _) (ownFrom_below lR oM))
  (λ_ _ _ _ _ hs _ _=>hs)
  ⟨⟨_,bO,World.ownsRow_nil _ _ _ _,trivial⟩,RO⟩
  (λx a' W=>∃Bx,w.heap.size<Bx/\ai W Bx aS x.row/\a' = {tmps:=#[.slice none 0 0,.func (.func g) #[] lb,pt w.heap.size,undef,.slice none 0 0,pt Bx,.func (.func g) #[] lb,.agg x.row,undef,undef,undef,undef,undef],defers:=[]})
  (λx a' _ X Y row hs hg hr=>by
   obtain⟨Bx,h1,h2,h3⟩:=hs;refine⟨Bx,h1,h2.grown hg (λe=>?_),h3⟩;obtain⟨o,ho,hc⟩:=(hr Bx e.symm).2;rw[show X.heap[Bx]? = _ from h2]at ho;cases ho;cases hc)
  ?assign ?body ?done ?stop
 case assign=>
  rintro l pre x W K ⟨⟨v,hv,hrow,-⟩,hB⟩ hK
  gi_wp2
  exact hK _ _ ((KeepsOthers.alloc _ _).from _) ⟨(Below.refl _ W).alloc hB.size _,(KeepsOthers.alloc _ _).walks⟩ ⟨⟨v,hv.alloc _,hrow.alloc _,trivial⟩,hB.alloc hB.size _⟩ ⟨W.heap.size,hv.lt,ai.new W _ _,rfl⟩
 case body=>
  rintro l pre x a' W hl ⟨r,hr⟩ ⟨⟨v,hv,hrow,-⟩,hB⟩ ⟨Bx,hBx,bX,rfl⟩ hlt;have:=hv.cell;have:=bX.ar (i:=0) rfl;have:=bX.ar (i:=1) rfl
  gi_wp2_with(gi_at_builtin;refine wpListIn_append_own _ rfl _ _ 29 rfl w.heap.size aS i0 _ 2 16 underlying29 hi hz0 hz1 hz2 rfl dC _ _ _ rfl (hrow.alloc _) ⟨W.heap.size,0,none⟩ 1 1 x.cells rfl rfl (br (α:=Key) (vs:=x.cells) (ai.new _ _ _) rfl) (wE x) (by unfold maxLen;omega) oM (by have:=hB.size;simp;omega) ?_;intro v' w1 hown' hgrow _;obtain⟨g',cap',rfl⟩:=ownsRow_succ hown';obtain⟨hv1,hv2,hr2,hk2,hb2⟩:=hv.appended dC hrow hB.size lR hown' hgrow;have:=hv1.cell;have:=hv1.frozen)
  exact⟨hk2.from _,⟨hb2,hk2.walks⟩,⟨⟨_,hv2,sH hr2,trivial⟩,hB.trans hb2⟩⟩
 case done=>
  rintro D ys W hD hS ⟨⟨v,hv,hrow,-⟩,hB⟩ hK;have:=hv.cell
  gi_wp2
  refine⟨sI,.inl ⟨_,_,rfl,run_takeDeferred hK,?_⟩⟩;exact⟨_,results_tmp rfl _ _ _,v,ys,rfl,hS,ownsRow_putObj hrow _ hK rfl,hB.trans (belowK_b (w:=w) lR W D _ _ oM hK rfl rfl)⟩
 case stop=>
  rintro D c pre W _ _ h _;exact h.elim
theorem rM(n:Nat)(hn:3<=n)(g:Nat)(lb:Array Value)(hFg:Fence.wide.fn g)(eg:∀args w,(callFunc g args).run prog w=.ok (.enter g args) w)
 (S Sp:List Key->Prop) (N:Nat) (hN:N<=1000000) (w w0:World) (hb0:Bl w0 w) (hseq:SeqStopsK Fence.wide (n-1-1) prog g lb (λx:Key=>#[Value.agg x.row]) (Nb w.heap.size) S Sp N w0) :
 CallsIn Fence.wide n prog 197 #[.func (.func g) #[] lb] w λe W'=>∃v xs,e=.returned v/\S xs/\Own W' w.heap.size aS 2 Key.cells v xs/\Bl w W':=by
 refine callsIn_of_wp func197 rfl trivial ?_ rfl;simp only[ntmps197,aF1,aC4,aG6,Nat.reduceAdd,Nat.reduceSub,aF7,aF8,aG7,aG2,aD4,aE0];have:1<=n:=oM
 gi_wp2_with(refine⟨trivial,?_⟩;gi_at_call 249;refine(xA (n-1) oM g lb hFg eg S Sp N hN w w0 hb0 hseq).mono ?_;rintro e w' ⟨v,xs,rfl,hS,hO,hB⟩)
 go_ret;exact⟨_,_,rfl,hS,hO,hB⟩
end
def cV.cD(h:cV w g v l room)(n:Nat):cV (w.drewN n) g v l room:=h
def Sz(l:List aD)(room tick value:Int):List aD:=if room.toNat<l.length+1 then(l.take (aH l tick)++⟨tick,value⟩::l.drop (aH l tick)).drop 1 else l.take (aH l tick)++⟨tick,value⟩::l.drop (aH l tick)
theorem xG(g:Nat)(v:Value)(l:List aD)(room tick value:Int)(w:World)(h:cV w g v l room)(hs:pP l)(hn:l.length<=10000)(he:bU tick value=0)(hr:1<=room)(hlr:l.length<=room.toNat)
 (hy:∀y,l[aH l tick]? = some y->y.tick≠tick) :
 Calls prog 179 #[.pointer (some ⟨g,0,none⟩),.int .i64 tick,.int .i64 value] w (jt g v (Sz l room tick value) room w (.int .i64 0)):=by
 have HC:=zD (dA tick value w)
 rw[he]at HC
 have HS:=zD h
 have HP:=zD (mH g v l room tick w h hs (oM))
 have hKl:=oa l tick
 have hlen:(l.take (aH l tick)++(⟨tick,value⟩:aD)::l.drop (aH l tick)).length=l.length+1:=by simp;omega
 obtain⟨A,n,c,rfl,kX,gU⟩:=h.2.1.shape aA
 have XP:∀W,cV W g (.slice A n c) l room->W.cell? ⟨g,0,none⟩=some (.slice A n c)/\W.cell? ⟨g,1,none⟩=some (.int .i64 room):=λW hW=>⟨hW.1.ar rfl,hW.1.ar rfl⟩
 have HF:=zD XP
 have d1:(room==0)=false:=by simp;omega
 have HL:=zD kX
 have HN:=zD hn
 have Qn:=zD hKl
 have HR:=zD hlr
 have qB:=zD hlen
 have HI:=zD (show Sz l room tick value=if room.toNat<l.length+1 then(l.take (aH l tick)++(⟨tick,value⟩:aD)::l.drop (aH l tick)).drop 1 else l.take (aH l tick)++(⟨tick,value⟩:aD)::l.drop (aH l tick)from rfl)
 have HY:Hid (aH l tick<n->∃(b:Nat)(y:aD),A=some ⟨b,0,none⟩/\y.tick≠tick/\∀W,cV W g (.slice A n c) l room->W.cell? ⟨b,aH l tick*2,none⟩=some (.int .i64 y.tick)):=λhk=>by
  obtain⟨b,off,y,rfl,hy',hb,u0,u1⟩:=cH.at_ gU hk
  have h0:off=0:=by
   rcases h.2.1.2 with⟨e,_⟩|⟨b',cap,cur,e,_⟩
   ·cases e
   ·cases e;rfl
  subst h0
  refine⟨b,y,rfl,hy y hy',λW hW=>?_⟩
  obtain⟨A2,n2,c2,he2,fo,hs2⟩:=hW.2.1.shape aA
  cases he2
  obtain⟨b2,gY,y2,hA2,hy2,_,k0,_⟩:=cH.at_ hs2 hk
  cases hA2
  rw[hy']at hy2
  cases hy2
  rw[aR9]at k0
  exact k0
 have mF:n<=c:=gU.2.1
 have hcm:c<=9223372036854775807:=by have:=gU.2.2.1;unfold maxLen at this;omega
 have fo:n<=10000:=oM
 have hg:=h.1.lt
 have c3:=(XP w h).1
 have c4:=(XP w h).2
 clear h hs hn he hy gU kX hKl hlr hlen XP
 generalize aH l tick=K at *
 generalize Sz l room tick value=RES at *
 generalize hLq:l.take K++(⟨tick,value⟩:aD)::l.drop K=L at *
 have HLq:=zD hLq
 clear hLq
 go_enter func179,ntmps179
 go_wp2_with(go_at_call 78;refine HC.out.mono ?_;rintro e w1 ⟨rfl,rfl⟩)
 clear c3 c4
 refine HP.out.mono ?_
 rintro e w1 ⟨rfl,hb1⟩
 have S2:=zD ((HS.out.call hb1).call (w':=w1.alloc (.cells #[.int .i64 tick,.int .i64 value] 183)) ((Below.refl _ w1).alloc (aC2 _) _))
 have U2:=zD (hb1.alloc hb1.size (.cells #[.int .i64 tick,.int .i64 value] 183))
 have X2:=zD ((HS.out.call hb1).2.1.Sk (aC2 _))
 have X1:=zD (ai.new w1 183 #[.int .i64 tick,.int .i64 value])
 clear hb1
 have c3:=(HF.out _ S2.out).1
 by_cases hlt:K<n
 rotate_left
 have d0:decide ((K:Int)<(n:Int))=false:=by simp;omega
 focus(go_upto_region 10 with(fail))
 clear d0 hlt c3
 rotate_left
 obtain⟨b,y,rfl,hyt,hcl⟩:=HY.out hlt
 have t0:=hcl _ S2.out
 have d0:decide ((K:Int)<(n:Int))=true:=by simp;omega
 have d2:(y.tick==tick)=false:=by simpa using hyt
 have hk1:(K:Int)<(n:Int):=oM
 clear hcl hyt
 focus(go_upto_region 10 with(fail))
 clear t0 d0 hlt d2 hk1 c3
 generalize(some (⟨b,0,none⟩:Addr))=A at *
 all_goals
  clear HY HC HP mF d1
  generalize w1.alloc (.cells #[.int .i64 tick,.int .i64 value] 183)=w2 at *
  generalize w1.heap.size=gx at *
  refine zr (λj=>[11].contains j) (λwS=>ah (λk=>(Value.slice A n c).ownBlock=some k) w2 wS) ?_
  have S0:=(ah.refl (λk=>(Value.slice A n c).ownBlock=some k) w2).drew
  refine zk 7 [0,1,2,3,4] [_,_,_,_,.slice A n c] (.q zX<|.q zX<|.q zX<|.q zX<|.q (zS λ_ h=>(S2.out.1.upd h (λe=>S2.out.2.2 e)).z 0 (.slice A n c)) .nil) S0 ?_
  refine zk 5 [5,6] [_,_] (.q zX<|.c rfl rfl (zl λ_ h=>zb (X1.out.upd h (λe=>X2.out e)) underlying183) .nil) S0 ?_
  refine zQ 7 ?_
  have nG:=iA (S:=S0) (#[.int .i64 tick,.int .i64 value]) 183
  obtain⟨G,hG,bG,lG⟩:=nG
  go_wp2_with fail
  refine .i (S0.alloc _) ?_
  (try simp only[hG])
  clear hG
  have SG:=S0.alloc (.cells (#[.int .i64 tick,.int .i64 value]) 183)
  refine zQ 8 ?_;go_wp2_with(go_at_call 230;refine(z7 _ l K G ⟨tick,value⟩ _ (S2.out.2.1.Sj.alloc _) (by have:=HN.out;omega) Qn.out (aB6 _) bG (S2.out.2.1.Sk lG)).mono ?_;rintro e w3 ⟨v',rfl,kJ,hw3,jP⟩;obtain⟨A',n',c',rfl,XQ,-⟩:=kJ.shape aA;have HN':=zD XQ;clear XQ;obtain⟨p1,p2,p3,p4,p5⟩:=cV.put (S2.out.call ((Below.refl _ _).drew.alloc (aC2 _) _)) jP kJ (hw3.imp id (λe=>⟨_,e,aC2 _⟩));have P1:=zD p1;have P2:=zD p2;have P3:=zD p3;clear p1 p2 p3);refine .i (SG.trans jP (λk hk=>.inl hk)) ?_
  have S3:=SG.trans jP (λk hk=>.inl hk)
  refine zQ 9 ?_;go_wp2_with fail;refine .i S3 ?_
  refine zq 1 [10] [_] S3 ?_
  refine aq _ _ _ _ (kZ) ?_
  refine zO 11 (λQ2 aI=>?_);go_wp2_with fail;(try refine aI _ _ ?_);(try clear aI Q2)
  refine wpAny_done (kZ) ?_ _
  have hq:n' = l.length+1:=by rw[HN'.out,HLq.out];exact qB.out
  have Q1:=zD (HLq.out ▸ P1.out)
  have Q2:=zD ((ah.aa (S:=foot g (Value.slice A n c)) (U2.out.trans (((Below.refl _ w2).drew.alloc (aC2 _) (.cells #[.int .i64 tick,.int .i64 value] 183)).mono U2.out.size))).trans P2.out (λk hk=>.inl hk))
  have Q3:=zD (λk hk=>(P3.out k hk).imp id (λh=>aB4 (aB4 U2.out.size ((Below.refl w2.heap.size w2).drew.alloc (aC2 _) (.cells #[.int .i64 tick,.int .i64 value] 183)).size) h))
  have e0:=Q1.out.1.z 0 (.slice A' n' c')
  have e1:=Q1.out.1.z 1 (.int .i64 room)
  have ef:=Q1.out.1.frozen 0
  clear P1 P2 P3 jP kJ hw3 HN' p4 p5 S3 SG bG lG S0 HF HS S2 U2 X1 X2 HLq
  generalize w3.setCell ⟨g,0,none⟩ (.slice A' n' c')=w5 at *
  have XQ : n'<=10001:=by have:=HN.out;omega
  by_cases JL:room.toNat<l.length+1
  ·have HE:=zD (show RES=L.drop 1 by rw[HI.out,if_pos JL])
   have d1:decide (room<(n' : Int))=true:=by simp;omega
   have av6:room<(n' : Int):=oM
   have H1:=zD (show 1<=L.length by rw[qB.out];omega)
   have zu:=zD (show L.length<=100000 by rw[qB.out];have:=HN.out;omega)
   clear hq JL HN HR HL qB HI
   go_wp2
   go_quiet(fail)
   go_wp2_with fail
   refine(slices_Delete (base:=0) (.slice A' n' c') L 1 _ (Own.cD Q1.out.2.1 _) zu.out H1.out).mono ?_
   rintro e w6 ⟨v6,rfl,tA,hv6,Fc⟩
   obtain⟨A6,n6,c6,rfl,-,-⟩:=tA.shape aA
   obtain⟨p1,p2,p3,p4,p5⟩:=cV.put (cV.cD Q1.out _) Fc tA (.inl hv6)
   have P1:=zD p1
   have P2:=zD p2
   have P3:=zD p3
   clear p1 p2 p3 tA hv6 Fc e0 e1 ef
   go_wp2
   go_ret
   refine⟨_,rfl,HE.out ▸ P1.out,(ah.cD Q2.out _).trans (P2.out) ?_,?_⟩
   ·exact λk hk=>Q3.out k hk
   ·exact λk hk=>(P3.out k hk).elim (λh=>Q3.out k h) (λh=>.inr (aB4 Q2.out.size h))
  ·have HE:=zD (show RES=L by rw[HI.out,if_neg JL])
   have d1:decide (room<(n' : Int))=false:=by simp;omega
   have av6:¬room<(n' : Int):=oM
   clear hq JL HN HR HL qB HI
   go_wp2
   go_quiet(fail)
   go_wp2
   go_ret
   exact⟨_,rfl,cV.cD (HE.out ▸ Q1.out) _,ah.cD Q2.out _,λk hk=>Q3.out k hk⟩
def Ge(hs:pP l)(x:aD):((∃y,l[aH l x.tick]? = some y/\y.tick=x.tick)/\(rE l x).length=l.length)\/((∀y,l[aH l x.tick]? = some y->y.tick≠x.tick)/\(rE l x).length=l.length+1):=by
 by_cases h:∃y,l[aH l x.tick]? = some y/\y.tick=x.tick
 ·obtain⟨y,h1,h2⟩:=h
  exact .inl ⟨⟨y,h1,h2⟩,by rw[<-MW hs h1 h2,aF3]⟩
 ·have h2:∀y,l[aH l x.tick]? = some y->y.tick≠x.tick:=λy h1 h3=>h ⟨y,h1,h3⟩
  have:=oa l x.tick;exact .inr ⟨h2,by rw[<-MX hs h2];simp;omega⟩
def Kc(g:Nat)(v:Value)(l:List aD)(room:Nat)(x:aD)(w:World)(h:cV w g v l room)(hs:pP l)(hlr:l.length<=room)(h1:1<=room)(h2:room<=10000)(he:bU x.tick x.value=0) :
 Calls prog 179 #[pt g,I6 x.tick,I6 x.value] w (jt g v (nY l room x) room w (I6 0)):=by
 rcases Ge hs x with⟨⟨y,hy,hyt⟩,hl⟩|⟨hy,hl⟩
 ·have e:nY l room x=l.set (aH l x.tick) x:=by
   unfold nY;rw[if_neg oM,MW hs hy hyt]
  rw[e];exact xo g v l room x.tick x.value y w h hs oM he oM hy hyt
 ·have e:nY l room x=Sz l room x.tick x.value:=by
   unfold nY Sz;rw[hl]
   show _=if(room:Int).toNat<l.length+1 then(l.take (aH l x.tick)++x::l.drop (aH l x.tick)).drop 1 else l.take (aH l x.tick)++x::l.drop (aH l x.tick)
   rw[MX hs hy,aU4]
  rw[e];exact xG g v l room x.tick x.value w h hs oM he oM (sH hlr) hy
def jt.same{ret:Value}(h:cV w g v l room):jt g v l room w ret (.returned ret) w:=⟨v,rfl,h,ah.refl _ _,λ_ hk=>.inl hk⟩
def uU(g:Nat)(v:Value)(l:List aD)(room:Nat)(x:aD)(w:World)(h:cV w g v l room)(hs:pP l)(hlr:l.length<=room)(h1:1<=room)(h2:room<=10000) :
 Calls prog 179 #[pt g,I6 x.tick,I6 x.value] w (jt g v (nZ l room x) room w (I6 (bU x.tick x.value))):=by
 by_cases he:bU x.tick x.value=0
 ·have:=Kc g v l room x w h hs hlr h1 h2 he
  unfold nZ;rw[if_pos he,he];exact this
 ·unfold nZ
  rw[if_neg he];refine(om (some ⟨g,0,none⟩) x.tick x.value _ w he rfl).mono ?_;rintro e w' ⟨rfl,rfl⟩;exact jt.same h
def vL(x:aD)(w:World) :
 Calls prog 179 #[.pointer none,I6 x.tick,I6 x.value] w λe w'=>e=.returned (I6 (if bU x.tick x.value=0 then 5 else bU x.tick x.value))/\w=w':=by
 by_cases he:bU x.tick x.value=0
 ·rw[if_pos he];exact xn x.tick x.value w he
 ·rw[if_neg he];exact om none x.tick x.value _ w he rfl
def Gf(hs:pP l)(room:Nat)(x:aD):pP (nZ l room x):=by
 unfold nZ;split
 ·exact FE hs room x
 ·exact hs
def Gg{room:Nat}(h:l.length<=room)(h1:1<=room)(x:aD):(nZ l room x).length<=room:=by
 unfold nZ;split
 ·exact FJ h h1 x
 ·exact h
def OZ(h:∀y∈l,y.good){x:aD}(hx:x.good)(room:Nat): ∀y∈nZ l room x,y.good:=by
 unfold nZ;split
 ·exact BN h hx room
 ·exact h
def O0{x:aD}(room:Nat)(h:l[k]? = some x):xb room (l.take (k+1))=nZ (xb room (l.take k)) room x:=by
 unfold xb;rw[ie h,aU5];rfl
theorem xH{P:List aD->Prop}{room:Nat}(hp:∀a x,P a->P (nZ a room x)):∀(l a:List aD),P a->P (l.foldl (λa x=>nZ a room x) a)
 |[],a,h=>h
 |x::l,a,h=>xH hp l _ (hp a x h)
def SB(room:Nat)(l:List aD):pP (xb room l):=xH (P:=pP) (λa x h=>Gf h room x) l [] List.Pairwise.nil
def xI{room:Nat}(h1:1<=room)(l:List aD):(xb room l).length<=room:=xH (P:=λa=>a.length<=room) (λa x h=>Gg h h1 x) l [] (aB6 _)
theorem Pb(room:Nat)(hg:∀y∈l,y.good): ∀y∈xb room l,y.good:=by
 have key:∀(l a:List aD),(∀y∈l,y.good)->(∀y∈a,y.good)->∀y∈l.foldl (λa x=>nZ a room x) a,y.good:=by
  intro l
  induction l with
  |nil=>intro a _ h;exact h
  |cons x l ih=>intro a hl ha;exact ih _ (λy hy=>hl y (by simp[hy])) (OZ ha (hl x sI) room)
 exact key l [] hg (λy hy=>by simp at hy)
def ou(B:Nat)(w wr:World)(g:Nat)(v:Value)(l:List aD)(room:Int):Prop:=cV wr g v l room/\(∀k,foot g v k->B<=k)/\Below B w wr/\B<=wr.heap.size
def ou.call{B:Nat}{wr: World}(h:ou B w wr g v l room)(hb:Bl wr w'):ou B w w' g v l room:=
 ⟨h.1.call hb,h.2.1,h.2.2.1.trans (hb.mono h.2.2.2),aB4 h.2.2.2 hb.size⟩
def ou.post{B:Nat}{wr: World}{l': List aD}{ret:Value}{e:Ending}(h:ou B w wr g v l room)(hp:jt g v l' room wr ret e w'):e=.returned ret/\∃v',ou B w w' g v' l' room:=by
 obtain⟨v',he,h1,h2,h3⟩:=hp;refine⟨he,v',h1,λk hk=>(h3 k hk).elim (λhk=>h.2.1 k hk) (λhk=>aB4 h.2.2.2 hk),h.2.2.1.trans (h2.below h.2.1 h.2.2.2),aB4 h.2.2.2 h2.size⟩
def ou.new(w:World)(room:Int):ou w.heap.size w (w.alloc (.cells #[.slice none 0 0,I6 room] 301)) w.heap.size (.slice none 0 0) [] room:=
 ⟨cV.new w room,λk hk=>by
  rcases hk with rfl|hk
  ·exact aC2 _
  ·simp[Value.ownBlock]at hk,gW,sI⟩
def OfS(w:World)(l:List aD)(room:Int)(e:Ending)(w' : World):Prop:=∃g v,e=.returned (pt g)/\ou w.heap.size w w' g v l room
theorem Pc(room:Nat)(A:Option Addr)(len cap:Nat)(l:List aD)(w:World)(hs:cH w A len cap l)(hn:len<=10000)(h1:1<=room)(h2:room<=256) :
 Calls prog 126 #[I6 room,.slice A len cap] w (OfS w (xb room l) room):=by
 have HS:=zD hs
 have HL:=zD hs.1
 have HC:=zD (λw=>xk room w oM oM)
 have HP:=zD (λg v l x w h hs hlr=>uU g v l room x w h hs hlr h1 oM)
 have fJ:=zD (λk=>xI h1 (l.take k))
 clear hs
 go_enter func126,ntmps126
 go_wp2_with(go_at_call 178;refine(HC.out _).mono ?_;rintro e w1 ⟨rfl,rfl⟩)
 go_loopw[12] (λi wr=>∃k:Nat,∃v:Value,k<=len/\i = I6 k/\ou w.heap.size w wr w.heap.size v (xb room (l.take k)) room) (λi _=>len-(intOf i).toNat)
 case atStart=>exact⟨0,_,aB6 _,rfl,ou.new w room⟩
 case round=>
  obtain⟨k,v,hk,rfl,hin⟩:=hrel
  have HI:=zD hin
  clear hin
  by_cases hlt:k<len
  ·obtain⟨b,off,x,rfl,hx,hb,t0,t1⟩:=HS.out.at_ hlt
   have:=(HI.out.2.2.1.cell (p:=⟨b,off+k*2,none⟩) hb).trans t0
   have:=(HI.out.2.2.1.cell (p:=⟨b,off+k*2+1,none⟩) hb).trans t1
   have:(k:Int)<(len:Int):=oM
   have HN:=zD (O0 room hx)
   have I2:=zD (HI.out.call (w':=wr.alloc (.cells #[I6 x.tick,I6 x.value] 183)) ((Below.refl _ wr).alloc lR _))
   clear hx hb t0 t1
   go_wp2_with(go_at_call 179;refine(HP.out w.heap.size v _ x _ I2.out.1 (SB _ _) (fJ.out k)).mono ?_;intro e w1 hp;obtain⟨rfl,v',hi⟩:=I2.out.post hp;have I3:=zD hi;clear hi hp)
   go_roundw
   case rel=>exact⟨k+1,v',oM,by go_num,HN.out▸I3.out⟩
   case measure=>simp[intOf];omega
  ·have hE:l.take k=l:=aB5 (oH HL.out)
   rw[hE]at HI
   clear hE
   go_wp2
   go_ret
   exact⟨_,v,rfl,HI.out⟩
def iH(room:Int):Prop:=1<=room/\room<=256
instance(room:Int):Decidable (iH room):=by unfold iH;infer_instance
def Pd(l:List aD)(room:Int)(x:aD):List aD:=if iH room then nZ l room.toNat x else l
def ae9(room:Int)(x:aD):Int:=if bU x.tick x.value=0 then(if iH room then 0 else 5)else bU x.tick x.value
def jS(w:World)(p:Option Addr)(F:Nat->Prop)(xs:List aD)(room:Int):Prop:=
 ((p=none/\xs=[]/\¬iH room)\/∃(g:Nat)(v:Value)(rm:Nat),p=some ⟨g,0,none⟩/\room=rm/\1<=rm/\rm<=256/\cV w g v xs rm/\(∀k,foot g v k->F k)/\pP xs/\xs.length<=rm)/\∀k,F k->k<w.heap.size
def jS.upd{S:Nat->Prop}(h:jS w p F xs room)(hu:ah S w w')(hn:∀k,F k->¬S k):jS w' p F xs room:=by
 refine⟨?_,λk hk=>aB9 (h.2 k hk) hu.size⟩;rcases h.1 with h|⟨g,v,rm,e1,e2,e3,e4,e5,e6,e7⟩
 ·exact .inl h
 ·exact .inr ⟨g,v,rm,e1,e2,e3,e4,e5.upd hu (λk hk=>hn k (e6 k hk)),e6,e7⟩
def jS.call(h:jS w p F xs room)(hb:Bl w w'):jS w' p F xs room:=
 h.upd (S:=λ_=>False) (ah.aa hb) (λ_ _ hk=>hk)
def jS.len(h:jS w p F xs room):xs.length<=256:=by
 rcases h.1 with⟨-,rfl,-⟩|⟨g,v,rm,e1,e2,e3,e4,e5,e6,e7,e8⟩
 ·simp
 ·omega
def av7(w:World)(room:Int)(e:Ending)(w' : World):Prop:=∃p F,e=.returned (.pointer p)/\jS w' p F [] room/\(∀k,F k->w.heap.size<=k)/\Bl w w'
def SC(room:Int)(w:World):Calls prog 178 #[I6 room] w (av7 w room):=by
 by_cases hr:iH room
 ·obtain⟨rm,rfl⟩:∃rm:Nat,room=rm:=⟨room.toNat,by unfold iH at hr;omega⟩
  have h1:1<=rm:=by unfold iH at hr;omega
  have h2:rm<=256:=by unfold iH at hr;omega
  refine(xk rm w oM oM).mono ?_;rintro e w' ⟨rfl,rfl⟩;refine⟨_,λk=>k=w.heap.size,rfl,⟨.inr ⟨_,_,rm,rfl,rfl,h1,h2,cV.new w rm,?_,List.Pairwise.nil,sI⟩,?_⟩,?_,gW⟩
  ·rintro k (rfl|hk)
   ·rfl
   ·simp[Value.ownBlock]at hk
  ·rintro k rfl;simp
  ·rintro k rfl;exact aC2 _
 ·refine(Aa room w (by unfold iH at hr;omega)).mono ?_
  rintro e w' ⟨rfl,rfl⟩;exact⟨none,λ_=>False,rfl,⟨.inl ⟨rfl,rfl,hr⟩,λ_ hk=>hk.elim⟩,λ_ hk=>hk.elim,Below.refl _ _⟩
def av8(p:Option Addr)(F:Nat->Prop)(xs:List aD)(room:Int)(x:aD)(w:World)(e:Ending)(w' : World):Prop:=∃F',e=.returned (I6 (ae9 room x))/\jS w' p F' (Pd xs room x) room/\ah F w w'/\∀k,F' k->F k\/w.heap.size<=k
def SE(p:Option Addr)(F:Nat->Prop)(xs:List aD)(room:Int)(x:aD)(w:World)(h:jS w p F xs room) :
 Calls prog 179 #[.pointer p,I6 x.tick,I6 x.value] w (av8 p F xs room x w):=by
 rcases h.1 with⟨rfl,rfl,hr⟩|⟨g,v,rm,rfl,rfl,e3,e4,e5,e6,e7,e8⟩
 ·refine(vL x w).mono ?_
  rintro e w' ⟨rfl,rfl⟩;refine⟨F,?_,⟨.inl ⟨rfl,?_,hr⟩,h.2⟩,ah.refl _ _,λk hk=>.inl hk⟩
  ·unfold ae9;rw[if_neg hr]
  ·unfold Pd;rw[if_neg hr]
 ·refine(uU g v xs rm x w e5 e7 e8 e3 oM).mono ?_
  rintro e w' ⟨v',rfl,k1,k2,k3⟩;have hg:iH rm:=by unfold iH;omega
  have hp:Pd xs rm x=nZ xs rm x:=by unfold Pd;rw[if_pos hg];rfl
  refine⟨λk=>F k\/foot g v' k,?_,⟨.inr ⟨g,v',rm,rfl,rfl,e3,e4,hp▸k1,λk hk=>.inr hk,hp▸Gf e7 rm x,hp▸Gg e8 e3 x⟩,?_⟩,k2.mono e6,?_⟩
  ·unfold ae9;rw[if_pos hg];split
   ·rename_i h0;rw[h0]
   ·rfl
  ·rintro k (hk|hk)
   ·exact aB9 (h.2 k hk) k2.size
   ·exact k1.lt k hk
  ·rintro k (hk|hk)
   ·exact .inl hk
   ·exact(k3 k hk).imp (e6 k) id
def Cb(p:Option Addr)(F:Nat->Prop)(xs:List aD)(room:Int)(w:World)(h:jS w p F xs room) :
 Calls prog 127 #[.pointer p] w (iY w xs):=by
 rcases h.1 with⟨rfl,rfl,hr⟩|⟨g,v,rm,rfl,rfl,e3,e4,e5,e6,e7,e8⟩
 ·refine(vJ w).mono ?_
  rintro e w' ⟨rfl,rfl⟩;exact iY.mk (Own.nil _ _ _ _ _) bR
 ·exact oh g v xs rm w e5 oM
structure jh(X d k Q r x:Nat):Prop where
 eq:X*2 ^ k=(Q*d+r)*2 ^ 128+x
 rest:r<d
 low:x<2 ^ 128
def jh.start(hX:X<2 ^ 128)(hd:0<d):jh X d 0 0 0 X:=⟨oM,hd,hX⟩
def jh.step0(h:jh X d k Q r x)(hlt:2*r+x / 2 ^ 127<d):jh X d (k+1) (2*Q) (2*r+x / 2 ^ 127) (2*x % 2 ^ 128):=by
 obtain⟨e,hr,hx⟩:=h;refine⟨?_,hlt,aS9 _ dC⟩;rw[aT7,<-aH7,e,aH7 2 Q d];generalize Q*d=P;omega
def jh.an1(h:jh X d k Q r x)(hge:d<=2*r+x / 2 ^ 127):jh X d (k+1) (2*Q+1) (2*r+x / 2 ^ 127-d) (2*x % 2 ^ 128):=by
 obtain⟨e,hr,hx⟩:=h;refine⟨?_,oM,aS9 _ dC⟩;rw[aT7,<-aH7,e,aD6 (2*Q) 1 d,aI4,aH7 2 Q d];generalize Q*d=P;omega
def jh.done(h:jh X d 128 Q r x):Q=X / d/\r=X % d:=by
 obtain⟨e,hr,hx⟩:=h;have e2:X=Q*d+r:=by
  generalize Q*d+r=S at *;omega
 subst e2;rw[aF9 Q d,Nat.mul_add_div oM,Nat.div_eq_of_lt hr,Nat.mul_add_mod,aW8 hr];exact⟨oM,rfl⟩
def jh.small(h:jh X d k Q r x)(hX:X<2 ^ 128)(hk:k<=128):Q<2 ^ k:=by
 obtain⟨e,hr,hx⟩:=h;have hd:0<d:=oM
 have:Q<=Q*d:=Nat.le_mul_of_pos_right Q hd;have:X*2 ^ k<2 ^ 128*2 ^ k:=aS1 hX (pow_pos dC);have:Q*2 ^ 128<=(Q*d+r)*2 ^ 128:=aE9 _ oM;have h4:2 ^ 128*Q<2 ^ 128*2 ^ k:=by rw[aF9 (2 ^ 128) Q];omega
 exact Nat.lt_of_mul_lt_mul_left h4
def Ta(hk:k<128):2*Q*2 ^ (128-(k+1))=Q*2 ^ (128-k):=by
 rw[show 128-k=(128-(k+1))+1 by omega,aT7,aF9 2 Q,aH7,aF9 2]
def Tb{qh ql:Nat}(hk:k<64)(hQ:Q<2 ^ k)(hl:ql<2 ^ 64)(h:qh*2 ^ 64+ql=Q*2 ^ (128-k)):
 (qh ||| 2 ^ (63-k))*2 ^ 64+ql=(2*Q+1)*2 ^ (128-(k+1))/\ql=0/\qh<2 ^ 64/\(qh ||| 2 ^ (63-k))<2 ^ 64:=by
 have e1:Q*2 ^ (128-k)=Q*2 ^ (64-k)*2 ^ 64:=by rw[aH7,<-pow_add];congr 2;omega
 rw[e1]at h;have hql:ql=0:=by
  generalize Q*2 ^ (64-k)=S at h;omega
 have hqh:qh=Q*2 ^ (64-k):=by
  generalize Q*2 ^ (64-k)=S at h;omega
 have hlt:qh<2 ^ 64:=by
  rw[hqh,show(64:Nat)=k+(64-k) by omega];rw[show k+(64-k)-k=64-k by omega,pow_add];exact aS1 hQ (pow_pos dC)
 have hm:qh % 2 ^ (64-k)=0:=by rw[hqh];exact Nat.mul_mod_left _ _
 have hor:qh ||| 2 ^ (63-k)=qh+2 ^ (63-k):=nat_join (64-k) _ _ hm (aU6 dC oM)
 refine⟨?_,hql,hlt,Nat.or_lt_two_pow hlt (aU6 dC oM)⟩;rw[hor,hql,hqh,show 64-k=(63-k)+1 by omega,aT7,show 128-(k+1)=(63-k)+64 by omega,pow_add (m:=63-k) (n:=64)];generalize 2 ^ (63-k)=p;rw[<-aH7,<-aH7,aD6 (2*Q) 1 p,aI4,aH7 2 Q p];rw[aH9,aF9 2 (Q*p)]
def XW{qh ql:Nat}(hk:k<128)(hk2:64<=k)(hQ:Q<2 ^ k)(hl:ql<2 ^ 64)(h:qh*2 ^ 64+ql=Q*2 ^ (128-k)):
 qh*2 ^ 64+(ql ||| 2 ^ (127-k))=(2*Q+1)*2 ^ (128-(k+1))/\qh<2 ^ 64/\(ql ||| 2 ^ (127-k))<2 ^ 64:=by
 have hm:ql % 2 ^ (128-k)=0:=by
  have e:(2:Nat) ^ 64=2 ^ (128-k)*2 ^ (k-64):=by rw[<-pow_add];congr 1;omega
  have h2:ql % 2 ^ (128-k)=(qh*2 ^ 64+ql) % 2 ^ (128-k):=by
   rw[e,<-aH7,aF9 qh,aH7,Nat.mul_add_mod]
  rw[h2,h];exact Nat.mul_mod_left _ _
 have hor:ql ||| 2 ^ (127-k)=ql+2 ^ (127-k):=nat_join (128-k) _ _ hm (aU6 dC oM)
 have hlt:qh*2 ^ 64<2 ^ 128:=by
  have:Q*2 ^ (128-k)<2 ^ k*2 ^ (128-k):=aS1 hQ (pow_pos dC);rw[<-pow_add,show k+(128-k)=128 by omega]at this;omega
 refine⟨?_,oM,Nat.or_lt_two_pow hl (aU6 dC oM)⟩;rw[hor,<-aD9,h,show 128-k=(127-k)+1 by omega,aT7,show 128-(k+1)=127-k by omega];generalize 2 ^ (127-k)=p;rw[aD6,aI4,aF9 2 Q,aH7,aF9 2 p]
def Ng(n d:Nat):Nat:=(n+d-1) / d
def rT{n q:Nat}(hd:0<d):(n<=q*d/\(q=0\/(q-1)*d<n))↔q=Ng n d:=by
 unfold Ng;have hdm:=Nat.div_add_mod (n+d-1) d;have hlt:=aS9 (n+d-1) hd;generalize(n+d-1) / d=c at *;generalize(n+d-1) % d=r at *
 constructor
 ·rintro⟨h1,h2⟩
  rcases Nat.lt_trichotomy q c with h|h|h
  ·exfalso
   have:=aE9 d (show q+1<=c from h);rw[aD6,aF9 c d]at this;omega
  ·exact h
  ·exfalso
   rcases h2 with h2|h2
   ·omega
   ·have:=aE9 d (show c<=q-1 by omega)
    rw[aF9 c d]at this;omega
 ·rintro rfl
  rw[aF9];refine⟨oM,?_⟩;rcases aV9 q with h|h
  ·exact .inl h
  ·right
   obtain⟨m,rfl⟩:∃m,q=m+1:=⟨q-1,oM⟩
   rw[aT0,aF9 m];rw[Nat.mul_add]at hdm;omega
structure aM where
 str:Int
 dE:Int
 lW:Int
 iI:Int
abbrev aM.row(c:aM):Array Value:=#[I6 c.str,I6 c.dE,I6 c.lW,I6 c.iI]
def aM.fit(c:aM):Prop:=aw c.str/\aw c.dE/\aw c.lW/\aw c.iI
def aM.gV(c:aM):Prop:=dD c.str=true/\1<=c.dE/\c.dE<=256/\1<=c.lW/\c.lW<=256/\1<=c.iI/\c.iI<=64
instance(c:aM):Decidable c.gV:=by unfold aM.gV;infer_instance
def im(c:aM):Int:=if c.gV then 0 else 1
theorem fQ(c:aM)(w:World)(hc:c.fit) :
 Calls prog 53 #[.agg c.row] w (Rt (I6 (im c)) (Bl w)):=by
 cases hr:dD c.str
 ·have HE:=zD (show im c=1 from if_neg (by unfold aM.gV;rw[hr];simp))
  have HC:=zD (λW=>gm c.str W hc.1);rw[hr]at HC;clear hr;go_enter func53,ntmps53;go_wp2_with(go_at_call 123;refine zN (HC.out _) ?_);go_ret;exact⟨au HE.out.symm,by go_grown⟩
 ·have HC:=zD (λW=>gm c.str W hc.1)
  rw[hr]at HC;have HE1:=zD (λ(h:c.dE<1\/256<c.dE\/c.lW<1\/256<c.lW\/c.iI<1\/64<c.iI)=>(show im c=1 from if_neg (by unfold aM.gV;omega)));have HE0:=zD (λ(h:1<=c.dE/\c.dE<=256/\1<=c.lW/\c.lW<=256/\1<=c.iI/\c.iI<=64)=>(show im c=0 from if_pos ⟨hr,h⟩));clear hr;go_enter func53,ntmps53;go_wp2_with(go_at_call 123;refine zN (HC.out _) ?_)
  all_goals
   go_ret;refine⟨au ?_,by go_grown⟩
   first
    |exact(HE1.out oM).symm
    |exact(HE0.out oM).symm
def xY(tick value:Int):Int:=if tick<0 then 3 else if value<0 then 4 else 0
def PC{v:Int}(h:t<0):xY t v=3:=if_pos h
def KC{v:Int}(h:¬t<0)(h2:v<0):xY t v=4:=by unfold xY;rw[if_neg h,if_pos h2]
def Yj{v:Int}(h:¬t<0)(h2:¬v<0):xY t v=0:=by unfold xY;rw[if_neg h,if_neg h2]
theorem Cj(tick value:Int)(w:World) :
 Calls prog 78 #[I6 tick,I6 value] w λe w'=>e=.returned (I6 (xY tick value))/\w=w':=by
 by_cases h1:tick<0
 ·rw[PC h1]
  go_enter func78,ntmps78;go_wp2;go_ret;exact⟨rfl,rfl⟩
 ·by_cases h2:value<0
  ·rw[KC oM h2]
   go_enter func78,ntmps78;go_wp2;go_ret;exact⟨rfl,rfl⟩
  ·rw[Yj oM oM]
   go_enter func78,ntmps78;go_wp2;go_ret;exact⟨rfl,rfl⟩
abbrev aj(k:Int)(s:ByteArray)(t v h:Int)(p:dI):Array Value:=#[I6 k,.string s,I6 t,I6 v,I6 h,I6 p.min,I6 p.max,I6 p.target,I6 p.lz,I6 p.bp,I6 p.hold]
def bJ(k:Int)(s:ByteArray)(t v:Int)(p:dI):Int:=
 if k<1\/8<k then 14 else if(k=1\/k=5\/k=6\/k=7)/\eO s=false then 2 else if k=1 then xY t v else if k=2/\t<0 then 3 else if k=6 then dy p else 0
def TA{t:TypeId}{k:Int}{s:ByteArray}{t1 v h:Int}{p:dI}(hb:ai w g t (aj k s t1 v h p)):
 w.cell? ⟨g,0,none⟩=some (I6 k)/\w.cell? ⟨g,1,none⟩=some (.string s)/\w.cell? ⟨g,2,none⟩=some (I6 t1)/\w.cell? ⟨g,3,none⟩=some (I6 v)/\w.cell? ⟨g,5,none⟩=some (I6 p.min)/\w.cell? ⟨g,6,none⟩=some (I6 p.max)/\w.cell? ⟨g,7,none⟩=some (I6 p.target)/\w.cell? ⟨g,8,none⟩=some (I6 p.lz)/\w.cell? ⟨g,9,none⟩=some (I6 p.bp)/\w.cell? ⟨g,10,none⟩=some (I6 p.hold):=
 ⟨hb.ar rfl,hb.ar rfl,hb.ar rfl,hb.ar rfl,hb.ar rfl,hb.ar rfl,hb.ar rfl,hb.ar rfl,hb.ar rfl,hb.ar rfl⟩
section
def iM.cells(o:iM):List Value:=[I6 o.kind,I6 o.lock]
abbrev iM.row(o:iM):Array Value:=#[I6 o.kind,I6 o.lock]
abbrev Yk(w:World)(A:Option Addr)(len cap:Nat)(l:List iM):Prop:=ag w 2 iM.cells A len cap l
def bK:∀x:iM,x.cells.length=2:=λ_=>rfl
def Nj:∀x:iM,∀u∈x.cells,u.oneCell' = true:=by
 intro x u hu;simp[iM.cells]at hu;rcases hu with rfl|rfl<;>rfl
abbrev qL(w:World)(base:Nat)(v:Value)(l:List iM):Prop:=Own w base 334 2 iM.cells v l
def GK:(prog.info? 334).map (λi=>(i.zero,i.size,i.bytes))=some (some (.agg #[I6 0,I6 0]),2,16):=kZ
section
variable{ops:Array Oper}{rest:List Oper}{o:Oper}{a:Act}{Q:Exit->Act->World->Prop}
def xZ(w:World)(hgd:o.guard=none)(s x:Operand)(ho:o.op=.call {callee:=.builtin .append,args:=#[s,x],argTypes:=#[271,271]})(base:Nat)(v:Value)(l:List iM)(hs:a.eval s=v)(hown:qL w base v l)
 (g:Nat) (t:TypeId) (c:Nat) (y:iM) (hx:a.eval x=.slice (some ⟨g,0,none⟩) 1 c) (hnews:ai w g t #[I6 y.kind,I6 y.lock]) (hlen:l.length<1000000) (hbase:base<=w.heap.size)
 (h:∀v' w',qL w' base v' (l++[y])->Below base w w'->w.grownBy w' v.ownBlock->wpList prog ops Q rest (a.put o.dst v') w'):wpList prog ops Q (o::rest) a w:=
 iC w hgd s x _ ho base 334 _ 2 16 _ underlying271 GK rF dC (λ_=>rfl) Nj v l hs hown ⟨g,0,none⟩ c y hx (br (α:=iM) hnews rfl) hlen dC hbase h
def x4(w:World)(hgd:o.guard=none)(s x:Operand)(ho:o.op=.call {callee:=.builtin .append,args:=#[s,x],argTypes:=#[271,271]})(base:Nat)(v:Value)(l:List iM)(hs:a.eval s=v)(hown:qL w base v l)
 (A:Option Addr) (m c:Nat) (ys:List iM) (hx:a.eval x=.slice A m c) (RM:Yk w A m c ys) (hlen:l.length+m<1000000) (hbase:base<=w.heap.size)
 (h:∀v' w',qL w' base v' (l++ys)->Below base w w'->w.grownBy w' v.ownBlock->wpList prog ops Q rest (a.put o.dst v') w'):wpList prog ops Q (o::rest) a w:=
 fP w hgd s x _ ho base 334 _ 2 16 _ underlying271 GK rF dC (λ_=>rfl) Nj v l hs hown A m c ys hx RM hlen dC hbase h
end
def Dr{α:Type}{base:Nat}{t:TypeId}{cs:Array Value}{size:Nat}{cells:α->List Value}{l:List α}(hsz:∀x,(cells x).length=size)(h:ai w g t cs)(hc:cs=(l.flatMap cells).toArray)(hm:l.length<=maxLen)(hb:base<=g):
 Own w base t size cells (.slice (some ⟨g,0,none⟩) l.length l.length) l:=by
 have hl:=aZ hsz l;refine⟨hl,.inr ⟨g,l.length,cs,rfl,hb,h,aC2 _,hm,by rw[hc];simpa using hl,?_⟩⟩;rw[hc];simp[aB5,hl]
def Own.se{α:Type}{base e size:Nat}{cells:α->List Value}{l:List α}(h:Own w base e size cells v l): ∀k,v.ownBlock=some k->base<=k/\k<w.heap.size:=λk hk=>World.ownsRow.lt h k hk
def mS(w:World)(l:List iM)(e:Ending)(w' : World):Prop:=∃v,e=.returned v/\qL w' w.heap.size v l/\Bl w w'
theorem pC(k h:Int)(w:World):Calls prog 262 #[I6 k,I6 h] w (mS w (lI k h)):=by
 have HO:=Dr (base:=w.heap.size) (l:=lI k h) bK (ai.new w 334 #[I6 k,I6 h,I6 4,I6 0,I6 5,I6 h]) rfl (by unfold lI maxLen;simp) lR;go_enter func262,ntmps262;go_wp2;go_ret;exact⟨_,rfl,HO,gW⟩
theorem qM(c:aM)(w:World):Calls prog 265 #[.agg c.row] w (Rt (I6 c.str) (Bl w)):=by
 go_enter func265,ntmps265;go_wp2;go_ret;exact⟨rfl,gW⟩
theorem iq(c:aM)(w:World)(h:c.str<=64)(h0 : -1<=c.str):Calls prog 171 #[.agg c.row] w (Rt (I6 (c.str+1)) (Bl w)):=by
 go_enter func171,ntmps171;go_wp2;go_ret;exact⟨rfl,gW⟩
theorem pD(c:aM)(k:Int)(s:Nat)(w:World)(hs:c.str=s)(qd:s<=64):Calls prog 264 #[.agg c.row,I6 k] w (mS w (l7 s k)):=by
 obtain⟨str,dE,lW,iI⟩:=c;simp only at hs;subst hs;have X:=And.intro (ai.new w 23 (aM.row ⟨s,dE,lW,iI⟩)) (show Bl w (w.alloc (.cells (aM.row ⟨s,dE,lW,iI⟩) 23)) by go_grown);go_enter func264,ntmps264;go_wp2;go_loopw[5,9] (λv i wr=>∃j:Nat,j<=s/\i = I6 j/\(∃A n c,v=.slice A n c)/\qL wr w.heap.size v (l7 j k)/\Bl w wr) (λ_ i _=>s-(intOf i).toNat)
 case atStart=>exact⟨0,aB6 _,rfl,⟨_,_,_,rfl⟩,Own.nil _ _ _ _ _,X.2⟩
 case round=>
  obtain⟨j,hj,rfl,⟨A,n,c,rfl⟩,ho,hb⟩:=hrel;have HO:=ho;have HB:=hb;have:=hb.size;clear ho hb
  by_cases hlt:j<s
  ·have:(j:Int)<(s:Int):=oM
   have fJ:=(show(l7 j k).length<1000000 by rw[jW];omega);go_wp2_with(at_builtin;refine xZ _ rfl (.tmp 12) (.tmp 16) rfl w.heap.size (.slice A n c) _ rfl (HO.alloc _) wr.heap.size 334 1 ⟨k,(j:Int)⟩ rfl (ai.new _ _ _) fJ sM ?_;intro v' w1 ho hb2 hg2;obtain⟨A2,n2,c2,rfl,-,-⟩:=ho.shape bK;have O2:=ho;have B2:=(HB.alloc HB.size _).trans hb2;clear ho hb2 hg2);go_roundw
   case rel=>exact⟨j+1,oM,by go_num,⟨_,_,_,rfl⟩,(PA j k)▸O2,B2⟩
   case measure=>simp[intOf];omega
  ·obtain rfl:j=s:=oM
   go_wp2;go_ret;exact⟨_,rfl,HO,HB⟩
end
def dZ(c:aM)(s:ByteArray):Int:=if eO s then Fe (aO s) (aP s) c.str else -1
theorem qN(c:aM)(s:ByteArray)(w:World)(hs:s.size<=maxLen)(hc:c.fit) :
 Calls prog 263 #[.agg c.row,.string s] w (Rt (I6 (dZ c s)) (Bl w)):=by
 have HP:=(λW=>fT s W hs);have hk1:=jY s;have hk2:=jZ s;have HO:=(λW=>xO (aO s) (aP s) c.str W hc.1 oM oM);have X:=And.intro (ai.new w 23 c.row) (show Bl w (w.alloc (.cells c.row 23)) by go_grown);clear hk1 hk2;cases hi:eO s
 ·have HE:dZ c s = -1:=by unfold dZ;rw[hi];rfl
  have he:cT s=2:=by unfold cT;rw[hi];rfl
  rw[he]at HP;clear hi he hc;go_enter func263,ntmps263;go_wp2_with(go_at_call 32;refine zM (HP _) λw1 hb1=>?_;have D1:=zT X.2 hb1;have B1:=X.1.call hb1;have z1:=B1.lt;clear hb1);go_ret;exact⟨au HE.symm,by have:=D1.alloc D1.size;exact this _⟩
 ·have HE:dZ c s=Fe (aO s) (aP s) c.str:=by unfold dZ;rw[hi];rfl
  have he:cT s=0:=by unfold cT;rw[hi];rfl
  rw[he]at HP;clear hi he hc;generalize Fe (aO s) (aP s) c.str=R at *;go_enter func263,ntmps263;go_wp2_with(first
   |go_at_call 32;refine zM (HP _) λw1 hb1=>?_;have D1:=zT X.2 hb1;have B1:=X.1.call hb1;have:=B1.lt;have:=B1.z 0 (I6 c.str);clear hb1
   |(go_at_call 134;refine zM (HO _) λw2 hb2=>?_;have D2:=(D1.alloc D1.size _).trans (hb2.mono (D1.alloc D1.size _).size);clear hb2))
  go_ret;exact⟨au HE.symm,D2⟩
def pE{w1 w2:World}{v1 v2:Value}{l1 l2:List iM}{b1:Nat}(h1:qL w1 b1 v1 l1)(h2:qL w2 w1.heap.size v2 l2):∀k,v1.ownBlock=some k->v2.ownBlock≠some k:=λk hk hk2=>by
 have:=(h1.se k hk).2;have:=(h2.se k hk2).1;omega
def qO{w1 w2:World}{v1 v2:Value}{l1 l2:List iM}{b1:Nat}(h1:qL w1 b1 v1 l1)(h2:qL w2 w1.heap.size v2 l2):∀k,v2.ownBlock=some k->v1.ownBlock≠some k:=λk hk hk2=>pE h1 h2 k hk2 hk
theorem Yl(c:aM)(k:Int)(s:ByteArray)(t v h:Int)(p:dI)(n:Nat)(w:World)(hs:s.size<=maxLen)(hc:c.fit)(hn:c.str=n)(qd:n<=64)(hk:k=1) :
 Calls prog 216 #[.agg c.row,.agg (aj k s t v h p)] w (mS w (gI (dZ c s) n k)):=by
 have HH:=zD (λW=>qN c s W hs hc)
 have HO:=zD (λW=>pC 3 (dZ c s) W)
 have HL:=zD (λW=>iq c W (oM) (oM))
 have HQ:=zD (show gI (dZ c s) n k=lI 3 (dZ c s)++[⟨3,c.str+1⟩,⟨6,0⟩,⟨5,c.str+1⟩]from by unfold gI;rw[if_pos (oM),hn])
 have X:=zD (And.intro ((ai.new w 23 c.row).alloc (.cells (aj k s t v h p) 65)) (And.intro (ai.dR w (.cells c.row 23) 65 (aj k s t v h p)) (show Below w.heap.size w ((w.alloc (.cells c.row 23)).alloc (.cells (aj k s t v h p) 65)) by go_grown)))
 generalize dZ c s=H at *
 generalize gI H n k=R at *
 obtain⟨L,hL⟩:∃L,L=c.str+1:=⟨_,rfl⟩
 rw[<-hL]at HL HQ
 have d1:(k==1)=true:=by subst hk;rfl
 clear hc hn qd hL hk
 go_enter func216,ntmps216
 focus(go_upto_region 4 with(fail))
 obtain⟨w0,hw0⟩:∃w0,w0=(w.alloc (.cells c.row 23)).alloc (.cells (aj k s t v h p) 65):=⟨_,rfl⟩
 rw[<-hw0]at X |-
 clear hw0
 refine zr (λ_=>false) (λwS=>Below w0.heap.size w0 wS) ?_
 have S0:=(Below.refl w0.heap.size w0).drew
 refine zk 10 [0,1,2,5,8] [_,_,.string s,_,_] (.c rfl rfl (zl λ_ h=>zb (X.out.1.call h) underlying23)<|.q zX<|.q (zS λ_ h=>(X.out.2.1.call h).ar (i:=1) (v:=.string s) rfl)<|.c rfl rfl (zl λ_ h=>zb (X.out.1.call h) underlying23)<|.e) S0 ?_
 refine zk 9 [9] [_] (.c rfl rfl (zl λ_ h=>zb (X.out.1.call h) underlying23) .nil) S0 ?_
 refine zo 3 (λQ2 aI=>?_);go_wp2_with(go_at_call 263;refine(HH.out _).mono ?_;rintro e v3 ⟨rfl,hb3⟩);refine aI _ _ (λ_=>S0.trans (hb3.mono S0.size)) ?_;clear aI Q2
 have S3:=S0.trans (hb3.mono S0.size)
 refine zo 4 (λQ2 aI=>?_);go_wp2_with(go_at_call 262;refine(HO.out _).mono ?_;rintro e v4 ⟨V,rfl,oV,hb4⟩;obtain⟨A4,n4,c4,rfl,-,-⟩:=oV.shape bK;have oV:=oV.mono (S3).size);refine aI _ _ (λ_=>S3.trans (hb4.mono S3.size)) ?_;clear aI Q2
 have S4:=S3.trans (hb4.mono S3.size)
 refine zo 6 (λQ2 aI=>?_);go_wp2_with(go_at_call 171;refine(HL.out _).mono ?_;rintro e v6 ⟨rfl,dJ⟩;(try have oV:=(by first|exact oV.call dJ|exact(oV.alloc _).call dJ)));refine aI _ _ (λ_=>S4.trans (dJ.mono S4.size)) ?_;clear aI Q2
 have S6:=S4.trans (dJ.mono S4.size)
 refine zq 5 [7] [_] S6 ?_
 refine zo 10 (λQ2 aI=>?_);go_wp2_with(go_at_call 171;refine(HL.out _).mono ?_;rintro e v10 ⟨rfl,lJ⟩;(try have oV:=(by first|exact oV.call lJ|exact(oV.alloc _).call lJ)));refine aI _ _ (λ_=>S6.trans (lJ.mono S6.size)) ?_;clear aI Q2
 have AB:=S6.trans (lJ.mono S6.size)
 refine zq 3 [11] [_] AB ?_
 refine zo 12 (λQ2 aI=>?_)
 have nG:=dp (S:=AB) (#[.int .i64 3,.int .i64 L,.int .i64 6,.int .i64 0,.int .i64 5,.int .i64 L]) 334
 obtain⟨G,hG,bG,lG⟩:=nG
 go_wp2_with fail
 refine aI _ _ (λ_=>AB.alloc AB.size _) ?_
 clear aI Q2
 (try simp only[hG])
 clear hG
 have SG:=AB.alloc AB.size (.cells (#[.int .i64 3,.int .i64 L,.int .i64 6,.int .i64 0,.int .i64 5,.int .i64 L]) 334)
 refine zo 13 (λQ2 aI=>?_);go_wp2_with(refine x4 _ rfl (.tmp 14) (.tmp 22) rfl w0.heap.size (.slice A4 n4 c4) _ rfl (by first|exact oV|exact oV.alloc _) (some ⟨G,0,none⟩) 3 3 [⟨3,L⟩,⟨6,0⟩,⟨5,L⟩] rfl (lS (l:=[(⟨3,L⟩:iM),⟨6,0⟩,⟨5,L⟩]) bK (bG) rfl (by unfold maxLen;simp)) (by simp[lI]) (SG).size ?_;intro v5 w5 kG dx iK;obtain⟨A5,n5,c5,rfl,-,-⟩:=kG.shape bK);refine aI _ _ (λ_=>SG.trans dx) ?_;clear aI Q2
 have S5:=SG.trans dx
 refine zq 0 [14] [.slice A5 n5 c5] S5 ?_
 refine eQ (kZ) ?_ _
 have O5:=zD kG
 have E5:=zD S5
 go_wp2
 go_ret
 exact⟨_,rfl,by rw[HQ.out];exact O5.out.mono X.out.2.2.size,X.out.2.2.trans (E5.out.mono X.out.2.2.size)⟩
theorem Ym(c:aM)(k:Int)(s:ByteArray)(t v h:Int)(p:dI)(n:Nat)(w:World)(hn:c.str=n)(qd:n<=64)(H:Int)(hk:k=2) :
 Calls prog 216 #[.agg c.row,.agg (aj k s t v h p)] w (mS w (gI H n k)):=by
 have HA:=zD (λW=>pD c 3 n W hn qd)
 have HB:=zD (λW=>pD c 5 n W hn qd)
 have HQ:=zD (show gI H n k=l7 n 3++[⟨4,0⟩]++l7 n 5 from by unfold gI;rw[if_neg (oM),if_pos hk])
 have X:=zD (And.intro ((ai.new w 23 c.row).alloc (.cells (aj k s t v h p) 65)) (show Below w.heap.size w ((w.alloc (.cells c.row 23)).alloc (.cells (aj k s t v h p) 65)) by go_grown))
 have HN:=zD (And.intro (jW n 3) (And.intro (jW n 5) qd))
 generalize gI H n k=R at *
 generalize l7 n 3=L3 at *
 generalize l7 n 5=L5 at *
 have d1:(k==1)=false:=by subst hk;rfl
 have d6:(k==6)=false:=by subst hk;rfl
 have d2:(k==2)=true:=by subst hk;rfl
 clear hn qd hk
 go_enter func216,ntmps216
 focus(go_upto_region 6 with(fail))
 obtain⟨w0,hw0⟩:∃w0,w0=(w.alloc (.cells c.row 23)).alloc (.cells (aj k s t v h p) 65):=⟨_,rfl⟩
 rw[<-hw0]at X |-
 clear hw0
 refine zr (λ_=>false) (λwS=>Below w0.heap.size w0 wS) ?_
 have S0:=(Below.refl w0.heap.size w0).drew
 refine zk 6 [0,2,5] [_,_,_] (.c rfl rfl (zl λ_ h=>zb (X.out.1.call h) underlying23)<|.q zX<|.c rfl rfl (zl λ_ h=>zb (X.out.1.call h) underlying23) .nil) S0<|FN (i:=1) (j:=3) (kZ) rfl (by rfl) rfl (by rfl) (λQ2 aI=>?_) (λQ2 aI=>?_)
 ·
  go_wp2_with(go_at_call 264;refine(HA.out _).mono ?_;rintro e v1 ⟨V,rfl,oA,hb1⟩;obtain⟨A1,n1,c1,rfl,-,-⟩:=oA.shape bK;(try have nAB:=qO (w1:=_) (w2:=v1) (by first|exact oB|exact oB.alloc _) oA);have oA:=oA.mono (S0).size;(try have oB:=(by first|exact oB.call hb1|exact(oB.alloc _).call hb1)))
  refine aI _ _ (λ_=>S0.trans (hb1.mono S0.size)) ?_
  clear aI Q2
  have S1:=S0.trans (hb1.mono S0.size)
  refine zo 3 (λQ2 aI=>?_)
  have nG:=dp (S:=S1) (#[.int .i64 4,.int .i64 0]) 334
  obtain⟨G,hG,bG,lG⟩:=nG
  go_wp2_with fail
  refine aI _ _ (λ_=>S1.alloc S1.size _) ?_
  clear aI Q2
  (try simp only[hG])
  clear hG
  have SG:=S1.alloc S1.size (.cells (#[.int .i64 4,.int .i64 0]) 334)
  refine zo 4 (λQ2 aI=>?_);go_wp2_with(refine xZ _ rfl (.tmp 27) (.tmp 29) rfl w0.heap.size (.slice A1 n1 c1) _ rfl (by first|exact oA|exact oA.alloc _) G _ 1 ⟨4,0⟩ rfl (bG) (oH HN.out) (SG).size ?_;intro v4 w4 qP hb4 hg4;obtain⟨A4,n4,c4,rfl,-,-⟩:=qP.shape bK);refine aI _ _ (λ_=>SG.trans hb4) ?_;clear aI Q2
  have S4:=SG.trans hb4
  refine zo 6 (λQ2 aI=>?_);go_wp2_with(go_at_call 264;refine(HB.out _).mono ?_;rintro e v6 ⟨VB,rfl,oB,dJ⟩;obtain⟨A6,n6,c6,rfl,Xk,-⟩:=oB.shape bK;have N6:=zD Xk;clear Xk;(try have nAB:=pE (w2:=v6) (by first|exact oA|exact oA.alloc _) oB);have oB:=oB.mono (S4).size;(try have qP:=(by first|exact qP.call dJ|exact(qP.alloc _).call dJ));(try have oA:=(by first|exact oA.call dJ|exact(oA.alloc _).call dJ)));refine aI _ _ (λ_=>S4.trans (dJ.mono S4.size)) ?_;clear aI Q2
  have S6:=S4.trans (dJ.mono S4.size)
  refine zo 7 (λQ2 aI=>?_);go_wp2_with(refine x4 _ rfl (.tmp 30) (.tmp 32) rfl w0.heap.size (.slice A4 n4 c4) _ rfl (by first|exact qP|exact qP.alloc _) A6 n6 c6 L5 rfl (by obtain⟨A9,n9,c9,e9,-,h9⟩:=(show qL _ _ (.slice A6 n6 c6) L5 from by first|exact oB|exact oB.alloc _).shape bK;cases e9;exact h9) (by have:=HN.out;have:=N6.out;simp;omega) (S6).size ?_;intro v7 w7 Ck lV Yn;obtain⟨A7,n7,c7,rfl,-,-⟩:=Ck.shape bK);refine aI _ _ (λ_=>S6.trans lV) ?_;clear aI Q2
  have S7:=S6.trans lV
  refine zq 0 [8] [.slice A7 n7 c7] S7<|eQ (kZ) ?_ _
  have O7:=zD Ck
  have E7:=zD S7
  go_wp2
  go_ret
  exact⟨_,rfl,HQ.out▸O7.out.mono X.out.2.size,X.out.2.trans (E7.out.mono X.out.2.size)⟩
 ·
  skip
  obtain⟨G,hG,bG,lG⟩:=dp (S:=S0) (#[.int .i64 4,.int .i64 0]) 334
  go_wp2_with fail
  refine aI _ _ (λ_=>S0.alloc S0.size _) ?_
  clear aI Q2
  (try simp only[hG])
  clear hG
  have SG:=S0.alloc S0.size (.cells (#[.int .i64 4,.int .i64 0]) 334)
  refine zo 1 (λQ2 aI=>?_);go_wp2_with(go_at_call 264;refine(HA.out _).mono ?_;rintro e v1 ⟨V,rfl,oA,hb1⟩;obtain⟨A1,n1,c1,rfl,-,-⟩:=oA.shape bK;(try have nAB:=qO (w1:=_) (w2:=v1) (by first|exact oB|exact oB.alloc _) oA);have oA:=oA.mono (SG).size;(try have oB:=(by first|exact oB.call hb1|exact(oB.alloc _).call hb1)));refine aI _ _ (λ_=>SG.trans (hb1.mono SG.size)) ?_;clear aI Q2
  have S1:=SG.trans (hb1.mono SG.size)
  refine zo 4 (λQ2 aI=>?_);go_wp2_with(refine xZ _ rfl (.tmp 27) (.tmp 29) rfl w0.heap.size (.slice A1 n1 c1) _ rfl (by first|exact oA|exact oA.alloc _) G _ 1 ⟨4,0⟩ rfl ((bG).call hb1) (oH HN.out) (S1).size ?_;intro v4 w4 qP hb4 hg4;obtain⟨A4,n4,c4,rfl,-,-⟩:=qP.shape bK);refine aI _ _ (λ_=>S1.trans hb4) ?_;clear aI Q2
  have S4:=S1.trans hb4
  refine zo 6 (λQ2 aI=>?_);go_wp2_with(go_at_call 264;refine(HB.out _).mono ?_;rintro e v6 ⟨VB,rfl,oB,dJ⟩;obtain⟨A6,n6,c6,rfl,Xk,-⟩:=oB.shape bK;have N6:=zD Xk;clear Xk;(try have nAB:=pE (w2:=v6) (by first|exact oA|exact oA.alloc _) oB);have oB:=oB.mono (S4).size;(try have qP:=(by first|exact qP.call dJ|exact(qP.alloc _).call dJ));(try have oA:=(by first|exact oA.call dJ|exact(oA.alloc _).call dJ)));refine aI _ _ (λ_=>S4.trans (dJ.mono S4.size)) ?_;clear aI Q2
  have S6:=S4.trans (dJ.mono S4.size)
  refine zo 7 (λQ2 aI=>?_);go_wp2_with(refine x4 _ rfl (.tmp 30) (.tmp 32) rfl w0.heap.size (.slice A4 n4 c4) _ rfl (by first|exact qP|exact qP.alloc _) A6 n6 c6 L5 rfl (by obtain⟨A9,n9,c9,e9,-,h9⟩:=(show qL _ _ (.slice A6 n6 c6) L5 from by first|exact oB|exact oB.alloc _).shape bK;cases e9;exact h9) (by have:=HN.out;have:=N6.out;simp;omega) (S6).size ?_;intro v7 w7 Ck lV Yn;obtain⟨A7,n7,c7,rfl,-,-⟩:=Ck.shape bK);refine aI _ _ (λ_=>S6.trans lV) ?_;clear aI Q2
  have S7:=S6.trans lV
  refine zq 0 [8] [.slice A7 n7 c7] S7<|eQ (kZ) ?_ _
  go_wp2
  go_ret
  exact⟨_,rfl,HQ.out▸Ck.mono X.out.2.size,X.out.2.trans (S7.mono X.out.2.size)⟩
theorem Yo(c:aM)(k:Int)(s:ByteArray)(t v h:Int)(p:dI)(n:Nat)(w:World)(hn:c.str=n)(qd:n<=64)(H:Int)(hk:k=3) :
 Calls prog 216 #[.agg c.row,.agg (aj k s t v h p)] w (mS w (gI H n k)):=by
 have HA:=zD (λW=>pD c 2 n W hn qd)
 have HB:=zD (λW=>pD c 5 n W hn qd)
 have HC:=zD (λW=>qM c W)
 have HO:=zD (λW=>pC 3 c.str W)
 have HQ:=zD (show gI H n k=l7 n 2++lI 3 c.str++l7 n 5 from by unfold gI;rw[if_neg (by omega),if_neg (by omega),if_pos hk,hn])
 have X:=zD (And.intro ((ai.new w 23 c.row).alloc (.cells (aj k s t v h p) 65)) (show Below w.heap.size w ((w.alloc (.cells c.row 23)).alloc (.cells (aj k s t v h p) 65)) by go_grown))
 have HN:=zD (And.intro (jW n 2) (And.intro (jW n 5) (And.intro qd (show(lI 3 c.str).length=3 from rfl))))
 generalize gI H n k=R at *
 generalize l7 n 2=L3 at *
 generalize l7 n 5=L5 at *
 obtain⟨CS,hCS⟩:∃CS,CS=c.str:=⟨_,rfl⟩
 rw[<-hCS]at HC HO HQ HN
 generalize lI 3 CS=LO at *
 have d1:(k==1)=false:=by subst hk;rfl
 have d6:(k==6)=false:=by subst hk;rfl
 have d2:(k==2)=false:=by subst hk;rfl
 have d3:(k==3)=true:=by subst hk;rfl
 clear hn qd hk hCS
 go_enter func216,ntmps216
 focus(go_upto_region 8 with(fail))
 obtain⟨w0,hw0⟩:∃w0,w0=(w.alloc (.cells c.row 23)).alloc (.cells (aj k s t v h p) 65):=⟨_,rfl⟩
 rw[<-hw0]at X |-
 clear hw0
 refine zr (λ_=>false) (λwS=>Below w0.heap.size w0 wS) ?_
 have S0:=(Below.refl w0.heap.size w0).drew
 refine zk 7 [0,2,6] [_,_,_] (.c rfl rfl (zl λ_ h=>zb (X.out.1.call h) underlying23)<|.c rfl rfl (zl λ_ h=>zb (X.out.1.call h) underlying23)<|.c rfl rfl (zl λ_ h=>zb (X.out.1.call h) underlying23) .nil) S0 ?_
 refine zo 1 (λQ2 aI=>?_);go_wp2_with(go_at_call 264;refine(HA.out _).mono ?_;rintro e v1 ⟨V,rfl,oA,hb1⟩;obtain⟨A1,n1,c1,rfl,-,-⟩:=oA.shape bK;(try have nAB:=qO oB oA);have oA:=oA.mono (S0).size;(try have oB:=oB.call hb1);(try have oO:=oO.call hb1));refine aI _ _ (λ_=>S0.trans (hb1.mono S0.size)) ?_;clear aI Q2
 have S1:=S0.trans (hb1.mono S0.size)
 refine zo 3 (λQ2 aI=>?_);go_wp2_with(go_at_call 265;refine(HC.out _).mono ?_;rintro e v3 ⟨rfl,hb3⟩;(try have oA:=oA.call hb3);(try have oB:=oB.call hb3));refine aI _ _ (λ_=>S1.trans (hb3.mono S1.size)) ?_;clear aI Q2
 have S3:=S1.trans (hb3.mono S1.size)
 refine zo 4 (λQ2 aI=>?_);go_wp2_with(go_at_call 262;refine(HO.out _).mono ?_;rintro e v4 ⟨VO,rfl,oO,hb4⟩;obtain⟨A2,n2,c2,rfl,fo,-⟩:=oO.shape bK;have N2:=zD fo;clear fo;(try have oA:=oA.call hb4);(try have oB:=oB.call hb4));refine aI _ _ (λ_=>S3.trans (hb4.mono S3.size)) ?_;clear aI Q2
 have S4:=S3.trans (hb4.mono S3.size)
 refine zo 5 (λQ2 aI=>?_);go_wp2_with(refine x4 _ rfl (.tmp 37) (.tmp 40) rfl w0.heap.size (.slice A1 n1 c1) _ rfl oA A2 n2 c2 LO rfl (by obtain⟨A9,n9,c9,e9,-,h9⟩:=oO.shape bK;cases e9;exact h9) (by have:=HN.out;have:=N2.out;omega) (S4).size ?_;intro v4 w4 qP hb4 hg4;obtain⟨A4,n4,c4,rfl,-,-⟩:=qP.shape bK);refine aI _ _ (λ_=>S4.trans hb4) ?_;clear aI Q2
 have S4:=S4.trans hb4
 refine zo 7 (λQ2 aI=>?_);go_wp2_with(go_at_call 264;refine(HB.out _).mono ?_;rintro e v6 ⟨VB,rfl,oB,dJ⟩;obtain⟨A6,n6,c6,rfl,Xk,-⟩:=oB.shape bK;have N6:=zD Xk;clear Xk;(try have nAB:=pE oA oB);have oB:=oB.mono (S4).size;(try have qP:=qP.call dJ);(try have oA:=oA.call dJ);(try have oO:=oO.call dJ));refine aI _ _ (λ_=>S4.trans (dJ.mono S4.size)) ?_;clear aI Q2
 have S6:=S4.trans (dJ.mono S4.size)
 refine zo 8 (λQ2 aI=>?_);go_wp2_with(refine x4 _ rfl (.tmp 41) (.tmp 43) rfl w0.heap.size (.slice A4 n4 c4) _ rfl qP A6 n6 c6 L5 rfl (by obtain⟨A9,n9,c9,e9,-,h9⟩:=oB.shape bK;cases e9;exact h9) (by have:=HN.out;have:=N6.out;simp;omega) (S6).size ?_;intro v7 w7 Ck lV Yn;obtain⟨A7,n7,c7,rfl,-,-⟩:=Ck.shape bK);refine aI _ _ (λ_=>S6.trans lV) ?_;clear aI Q2
 have S7:=S6.trans lV
 refine zq 0 [9] [.slice A7 n7 c7] S7 ?_
 refine eQ (by kernel_rfl) ?_ _
 have O7:=zD Ck
 have E7:=zD S7
 go_wp2
 go_ret
 exact⟨_,rfl,by rw[HQ.out];exact O7.out.mono X.out.2.size,X.out.2.trans (E7.out.mono X.out.2.size)⟩
end Go.Proofs.YtjgmjohiehbgaaaGreat
