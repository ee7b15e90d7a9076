/- Part 5. -/
import Derived.Test.YtjgmjohiehbgaaaGreatQ4
import Derived.Sort.MapsRangeIn
namespace Go.Proofs.YtjgmjohiehbgaaaGreat
open Go.RowKit Go.Proofs.Tryz
set_option maxHeartbeats 20000000
set_option maxRecDepth 100000
set_option linter.all false
variable {B B7 B8 H cap g k n size:Nat} {F:Nat->Prop} {L:List Int} {e t:TypeId} {fp:Int->Option Nat} {l xs:List aD} {lf room x:Int} {p:Option Addr} {v:Value} {w w':World} {α:Type}
section
open Go.RowKit Go.Shelf Go.Maps
attribute [local go_sem] Oper.semAt_some
section
variable {α:Type} [DecidableEq α] {P:Program} {k:TypeId} (E:mK P k α) (w:World) {F:Fence} {n:Nat} {ops:Array Oper} {rest:List Oper} {o:Oper} {a:Act} {Q:Exit->Act->World->Prop}
theorem pR (hg:o.guard=none) (m:Operand) (t:TypeId) (hop:o.op=Op.range t m) (e:TypeId) (ht:P.underlying t=some (.map k e))
 (b:Nat) (f:α->Option Value) (ks:List α) (hm:a.eval m=.map (some b)) (h:bP E w b f ks)
 (hK:∀w',lh E w' b w.heap.size f ks (fun x=>decide (x∈ks)) ks.length->w.grownBy w' none->w'.heap.size=w.heap.size+1->wpListIn F n P ops Q rest (a.put o.dst (pt w.heap.size)) w') :
 wpListIn F n P ops Q (o::rest) a w:=by
 obtain⟨D,h1,h2⟩:=h;have h2':=h2;obtain⟨e1,e2,e3,e4,e5,e6⟩:=h2';refine wpListIn_range_own w hg m t hop k e E.kd ht tH b _ D hm h1 ?_;intro w' r1 r2 r3;refine hK w' ⟨D,_,by rw[e1]at r1;exact r1,h2,fun x hgx=>?_,fun x hx=>by simpa using hx⟩ r2 r3;cases hf:f x with
 |none=>
  rw[e4 x hgx hf];have:x ∉ ks:=fun hm=>by have:=(e3 x).1 hm;rw[hf]at this;cases this
  simp[this]
 |some u=>
  rw[has_true_of_atKey (e5 x u hf)];have:x∈ks:=(e3 x).2 (by rw[hf];rfl);simp[this]
theorem qD (hg:o.guard=none) (it:Operand) (hop:o.op=Op.next it false) (b r:Nat) (f:α->Option Value) (ks:List α) (lf:α->Bool) (cnt:Nat)
 (hit:a.eval it = pt r) (h:lh E w b r f ks lf cnt)
 (hDone:(∀x∈ks,lf x=false)->wpListIn F n P ops Q rest (a.put o.dst (.tuple #[.bool false])) w)
 (hMore:∀(x:α) (v:Value) (w' : World) (cnt' : Nat),E.good x->x∈ks->lf x=true->f x=some v->lh E w' b r f ks (fun y=>lf y&&decide (y≠x)) cnt'->cnt' < cnt->w.grownBy w' (some r)->w'.heap.size=w.heap.size->
  (Instr.entry (pt r)).run P w'=.ok (.tuple #[E.v x,v]) w'->wpListIn F n P ops Q rest (a.put o.dst (.tuple #[.bool true,E.v x,v])) w') :
 wpListIn F n P ops Q (o::rest) a w:=by
 obtain⟨D,left,h1,h2,h3,h4⟩:=h;refine wpListIn_next_ranges w hg it hop k E.kd tH E.v (fun v:Value=>v) (fun key kl hkey=>by obtain⟨x,_,rfl,_⟩:=E.inv hkey;exact⟨x,rfl⟩) (fun v y _=>⟨v,rfl⟩) b r _ D left cnt hit h1 ?_ ?_
 ·intro _ hl
  exact hDone fun x hx=>by rw[h3 x (h2.2.2.2.2.2 x hx)];exact hl _
 ·intro x v kl y w' cnt' hkey hlk hv hat hrg hlt hgr hsz hen
  obtain⟨x',hgx,ex,rfl⟩:=E.inv hkey;have hlx:lf x' = true:=by rw[h3 x' hgx];exact hlk
  have hm:=h4 x' hlx;have hfx:f x' = some v:=by
   obtain⟨u,hu⟩:=Option.isSome_iff_exists.1 ((h2.2.2.1 x').1 hm);have:=hat .nil;rw[h2.2.2.2.2.1 x' u hu]at this;unfold tH at hv;injection hv with hv
   rw[<-congrArg Prod.fst hv]at this;injection this with this
   rw[hu,this]
  rw[ex]at hen |-;refine hMore x' v w' cnt' hgx hm hlx hfx ⟨D,_,hrg,h2,fun y hy=>?_,fun y hy=>?_⟩ hlt hgr hsz hen
  ·simp only
   rw[h3 y hy]
   by_cases e:y=x'
   ·subst e;rw[WideAt.sameKey_self (E.isKey hgx)];simp
   ·rw[Maps.sameKey_ne (fun h=>e (E.inj hy hgx h))];simp[e]
  ·simp at hy
   exact h4 y hy.1
end
section
variable {α:Type} {P:Program} {k:TypeId} {E:mK P k α} {w w' : World} {b r:Nat} {f:α->Option Value} {ks:List α} {lf:α->Bool} {cnt:Nat}
theorem lh.of_walks (h:lh E w b r f ks lf cnt) (hk:KeepsWalks w w'):lh E w' b r f ks lf cnt:=by
 obtain⟨D,left,h1,h2⟩:=h;exact⟨D,left,h1.of_walks hk,h2⟩
theorem lh.iter_walk (h:lh E w b r f ks lf cnt):∃o:Obj,w.heap[r]? = some o/\o.isWalk=true:=by
 obtain⟨D,left,h1,h2⟩:=h;exact h1.iter_walk
end
def Nb (n₀:Nat) (A B:World):Prop:=Below n₀ A B/\KeepsWalks A B
theorem Nb.trans {n₀:Nat} {A B C:World} (h:Nb n₀ A B) (h' : Nb n₀ B C):Nb n₀ A C:=⟨h.1.trans h'.1,h.2.trans h'.2⟩
theorem Nb.put {n₀:Nat} {w:World} (hn:n₀<=w.heap.size) (W:World) (l:Nat) (o o' : Obj) (hl:w.heap.size<=l) (h1:W.heap[l]? = some o) (h2:o.isCells=false) (h3:o.isWalk=false):Nb n₀ W (W.putObj l o'):=
 ⟨belowK_b (w:=w) hn W l o o' hl h1 h2 h3,walksK_b (w:=w) W l o o' hl h1 h2 h3⟩
theorem xA (n:Nat) (hn:2<=n) (g:Nat) (lb:Array Value) (hFg:Fence.wide.fn g) (eg:∀args w,(callFunc g args).run prog w=.ok (.enter g args) w)
 (S Sp:List Key->Prop) (N:Nat) (hN:N<=1000000) (w w0:World) (hb0:Bl w0 w) (hseq:SeqStopsK Fence.wide (n-1) prog g lb (fun x:Key=>#[Value.agg x.row]) (Nb w.heap.size) S Sp N w0) :
 CallsIn Fence.wide n prog 249 #[.slice none 0 0,.func (.func g) #[] lb] w fun e W'=>∃v xs,e=.returned v/\S xs/\Own W' w.heap.size aS 2 Key.cells v xs/\Bl w W':=by
 have h1:1<=n:=oM
 obtain⟨i0,hi,hz0,hz1,hz2⟩:=info_parts FQ;refine callsIn_of_wp_marks func249 rfl trivial ?_ rfl;simp only[ntmps249,aE9,aC4,aG5,Nat.reduceAdd,Nat.reduceSub,aF3,aF4,aG6,aG0,aD7,aE1]
 gi_wp2
 have bO:=Boxed.new w 29 (.slice none 0 0);have RO:Bl w (w.alloc (.cells #[.slice none 0 0] 29)):=(Below.refl _ w).alloc lR _;have hsz:(w.alloc (.cells #[.slice none 0 0] 29)).heap.size=w.heap.size+1:=sI
 obtain⟨W0,hW0⟩:∃W0,w.alloc (.cells #[.slice none 0 0] 29)=W0:=⟨_,rfl⟩
 rw[hW0]at bO RO hsz |-;clear hW0;refine wpIn_rangeFunc_ownH rfl h1 (gf:=g) (lb:=lb) rfl hFg eg
  hseq Nb.trans (Nb.put (w:=W0) oM) (zT hb0 RO) (fun _=>rfl)
  (fun pre W=>(∃v,Boxed W w.heap.size 29 v/\W.ownsRow w.heap.size aS 2 v pre.length (pre.flatMap Key.cells)/\True)/\Bl w W)
  (fun _ _ _=>False)
  (OwnFrom.and (Own.from (holdsRow_own w.heap.size w.heap.size 29 aS 2 (fun pre:List Key=>pre.length) (fun pre:List Key=>pre.flatMap Key.cells) (fun _ _=>True)) _) (ownFrom_below lR oM))
  (fun _ _ _ _ _ hs _ _=>hs)
  ⟨⟨_,bO,World.ownsRow_nil _ _ _ _,trivial⟩,RO⟩
  (fun x a' W=>∃Bx,w.heap.size<Bx/\ai W Bx aS x.row/\a' = {tmps:=#[.slice none 0 0,.func (.func g) #[] lb,pt w.heap.size,undef,.slice none 0 0,pt Bx,.func (.func g) #[] lb,.agg x.row,undef,undef,undef,undef,undef],defers:=[]})
  (fun x a' _ X Y row hs hg hr=>by
   obtain⟨Bx,h1,h2,h3⟩:=hs;refine⟨Bx,h1,h2.grown hg (fun e=>?_),h3⟩;obtain⟨o,ho,hc⟩:=(hr Bx e.symm).2;rw[show X.heap[Bx]? = _ from h2]at ho;cases ho;cases hc)
  ?assign ?body ?done ?stop
 case assign=>
  rintro l pre x W K ⟨⟨v,hv,hrow,-⟩,hB⟩ hK
  gi_wp2
  exact hK _ _ ((KeepsOthers.alloc _ _).from _) ⟨(Below.refl _ W).alloc hB.size _,(KeepsOthers.alloc _ _).walks⟩ ⟨⟨v,hv.alloc _,hrow.alloc _,trivial⟩,hB.alloc hB.size _⟩ ⟨W.heap.size,hv.lt,ai.new W _ _,rfl⟩
 case body=>
  rintro l pre x a' W hl ⟨r,hr⟩ ⟨⟨v,hv,hrow,-⟩,hB⟩ ⟨Bx,hBx,bX,rfl⟩ hlt;have:=hv.cell;have:=bX.ar (i:=0) rfl;have:=bX.ar (i:=1) rfl
  gi_wp2_with(gi_at_builtin;refine wpListIn_append_own _ rfl _ _ 29 rfl w.heap.size aS i0 _ 2 16 underlying29 hi hz0 hz1 hz2 rfl dC _ _ _ rfl (hrow.alloc _) ⟨W.heap.size,0,none⟩ 1 1 x.cells rfl rfl (br (α:=Key) (vs:=x.cells) (ai.new _ _ _) rfl) (wE x) (by unfold maxLen;omega) oM (by have:=hB.size;simp;omega) ?_;intro v' w1 hown' hgrow _;obtain⟨g',cap',rfl⟩:=ownsRow_succ hown';obtain⟨hv1,hv2,hr2,hk2,hb2⟩:=hv.appended dC hrow hB.size lR hown' hgrow;have:=hv1.cell;have:=hv1.frozen)
  exact⟨hk2.from _,⟨hb2,hk2.walks⟩,⟨⟨_,hv2,sH hr2,trivial⟩,hB.trans hb2⟩⟩
 case done=>
  rintro D ys W hD hS ⟨⟨v,hv,hrow,-⟩,hB⟩ hK;have:=hv.cell
  gi_wp2
  refine⟨sI,.inl ⟨_,_,rfl,run_takeDeferred hK,?_⟩⟩;exact⟨_,results_tmp rfl _ _ _,v,ys,rfl,hS,ownsRow_putObj hrow _ hK rfl,hB.trans (belowK_b (w:=w) lR W D _ _ oM hK rfl rfl)⟩
 case stop=>
  rintro D c pre W _ _ h _;exact h.elim
theorem rM (n:Nat) (hn:3<=n) (g:Nat) (lb:Array Value) (hFg:Fence.wide.fn g) (eg:∀args w,(callFunc g args).run prog w=.ok (.enter g args) w)
 (S Sp:List Key->Prop) (N:Nat) (hN:N<=1000000) (w w0:World) (hb0:Bl w0 w) (hseq:SeqStopsK Fence.wide (n-1-1) prog g lb (fun x:Key=>#[Value.agg x.row]) (Nb w.heap.size) S Sp N w0) :
 CallsIn Fence.wide n prog 197 #[.func (.func g) #[] lb] w fun e W'=>∃v xs,e=.returned v/\S xs/\Own W' w.heap.size aS 2 Key.cells v xs/\Bl w W':=by
 refine callsIn_of_wp func197 rfl trivial ?_ rfl;simp only[ntmps197,aE9,aC4,aG5,Nat.reduceAdd,Nat.reduceSub,aF3,aF4,aG6,aG0,aD7,aE1];have:1<=n:=oM
 gi_wp2_with(refine⟨trivial,?_⟩;gi_at_call 249;refine(xA (n-1) oM g lb hFg eg S Sp N hN w w0 hb0 hseq).mono ?_;rintro e w' ⟨v,xs,rfl,hS,hO,hB⟩)
 go_ret;exact⟨_,_,rfl,hS,hO,hB⟩
end
theorem cV.cD (h:cV w g v l room) (n:Nat):cV (w.drewN n) g v l room:=h
def Sz (l:List aD) (room tick value:Int):List aD:=if room.toNat<l.length+1 then(l.take (aH l tick)++⟨tick,value⟩::l.drop (aH l tick)).drop 1 else l.take (aH l tick)++⟨tick,value⟩::l.drop (aH l tick)
theorem xG (g:Nat) (v:Value) (l:List aD) (room tick value:Int) (w:World) (h:cV w g v l room) (hs:pP l) (hn:l.length<=10000) (he:bU tick value=0) (hr:1<=room) (hlr:l.length<=room.toNat)
 (hy:∀y,l[aH l tick]? = some y->y.tick≠tick) :
 Calls prog 179 #[.pointer (some ⟨g,0,none⟩),.int .i64 tick,.int .i64 value] w (jt g v (Sz l room tick value) room w (.int .i64 0)):=by
 have HC:=zD (dA tick value w)
 rw[he]at HC
 have HS:=zD h
 have HP:=zD (mH g v l room tick w h hs (oM))
 have hKl:=oa l tick
 have hlen:(l.take (aH l tick)++(⟨tick,value⟩:aD)::l.drop (aH l tick)).length=l.length+1:=by simp;omega
 obtain⟨A,n,c,rfl,kX,gU⟩:=h.2.1.shape aA
 have XP:∀W,cV W g (.slice A n c) l room->W.cell? ⟨g,0,none⟩=some (.slice A n c)/\W.cell? ⟨g,1,none⟩=some (.int .i64 room):=fun W hW=>⟨hW.1.ar rfl,hW.1.ar rfl⟩
 have HF:=zD XP
 have d1:(room==0)=false:=by simp;omega
 have HL:=zD kX
 have HN:=zD hn
 have Qn:=zD hKl
 have HR:=zD hlr
 have qB:=zD hlen
 have HI:=zD (show Sz l room tick value=if room.toNat<l.length+1 then(l.take (aH l tick)++(⟨tick,value⟩:aD)::l.drop (aH l tick)).drop 1 else l.take (aH l tick)++(⟨tick,value⟩:aD)::l.drop (aH l tick)from rfl)
 have HY:Hid (aH l tick<n->∃(b:Nat) (y:aD),A=some ⟨b,0,none⟩/\y.tick≠tick/\∀W,cV W g (.slice A n c) l room->W.cell? ⟨b,aH l tick*2,none⟩=some (.int .i64 y.tick)):=fun hk=>by
  obtain⟨b,off,y,rfl,hy',hb,u0,u1⟩:=cH.at_ gU hk
  have h0:off=0:=by
   rcases h.2.1.2 with⟨e,_⟩|⟨b',cap,cur,e,_⟩
   ·cases e
   ·cases e;rfl
  subst h0
  refine⟨b,y,rfl,hy y hy',fun W hW=>?_⟩
  obtain⟨A2,n2,c2,he2,fo,hs2⟩:=hW.2.1.shape aA
  cases he2
  obtain⟨b2,gY,y2,hA2,hy2,_,k0,_⟩:=cH.at_ hs2 hk
  cases hA2
  rw[hy']at hy2
  cases hy2
  rw[Nat.zero_add]at k0
  exact k0
 have mF:n<=c:=gU.2.1
 have hcm:c<=9223372036854775807:=by have:=gU.2.2.1;unfold maxLen at this;omega
 have fo:n<=10000:=oM
 have hg:=h.1.lt
 have c3:=(XP w h).1
 have c4:=(XP w h).2
 clear h hs hn he hy gU kX hKl hlr hlen XP
 generalize aH l tick=K at *
 generalize Sz l room tick value=RES at *
 generalize hLq:l.take K++(⟨tick,value⟩:aD)::l.drop K=L at *
 have HLq:=zD hLq
 clear hLq
 go_enter func179,ntmps179
 go_wp2_with(go_at_call 78;refine HC.out.mono ?_;rintro e w1 ⟨rfl,rfl⟩)
 clear c3 c4
 refine HP.out.mono ?_
 rintro e w1 ⟨rfl,hb1⟩
 have S2:=zD ((HS.out.call hb1).call (w':=w1.alloc (.cells #[.int .i64 tick,.int .i64 value] 183)) ((Below.refl _ w1).alloc (aC1 _) _))
 have U2:=zD (hb1.alloc hb1.size (.cells #[.int .i64 tick,.int .i64 value] 183))
 have X2:=zD ((HS.out.call hb1).2.1.Sk (aC1 _))
 have X1:=zD (ai.new w1 183 #[.int .i64 tick,.int .i64 value])
 clear hb1
 have c3:=(HF.out _ S2.out).1
 by_cases hlt:K<n
 rotate_left
 have d0:decide ((K:Int)<(n:Int))=false:=by simp;omega
 focus(go_upto_region 10 with(fail))
 clear d0 hlt c3
 rotate_left
 obtain⟨b,y,rfl,hyt,hcl⟩:=HY.out hlt
 have t0:=hcl _ S2.out
 have d0:decide ((K:Int)<(n:Int))=true:=by simp;omega
 have d2:(y.tick==tick)=false:=by simpa using hyt
 have hk1:(K:Int)<(n:Int):=oM
 clear hcl hyt
 focus(go_upto_region 10 with(fail))
 clear t0 d0 hlt d2 hk1 c3
 generalize(some (⟨b,0,none⟩:Addr))=A at *
 all_goals
  clear HY HC HP mF d1
  generalize w1.alloc (.cells #[.int .i64 tick,.int .i64 value] 183)=w2 at *
  generalize w1.heap.size=gx at *
  refine zr (fun j=>[11].contains j) (fun wS=>ah (fun k=>(Value.slice A n c).ownBlock=some k) w2 wS) ?_
  have S0:=(ah.refl (fun k=>(Value.slice A n c).ownBlock=some k) w2).drew
  refine zk 7 [0,1,2,3,4] [_,_,_,_,.slice A n c] (.q zX<|.q zX<|.q zX<|.q zX<|.q (zS fun _ h=>(S2.out.1.upd h (fun e=>S2.out.2.2 e)).z 0 (.slice A n c)) .nil) S0 ?_
  refine zk 5 [5,6] [_,_] (.q zX<|.c rfl rfl (zl fun _ h=>zb (X1.out.upd h (fun e=>X2.out e)) underlying183) .nil) S0 ?_
  refine zQ 7 ?_
  have nG:=iA (S:=S0) (#[.int .i64 tick,.int .i64 value]) 183
  obtain⟨G,hG,bG,lG⟩:=nG
  go_wp2_with fail
  refine .i (S0.alloc _) ?_
  (try simp only[hG])
  clear hG
  have SG:=S0.alloc (.cells (#[.int .i64 tick,.int .i64 value]) 183)
  refine zQ 8 ?_;go_wp2_with(go_at_call 230;refine(z7 _ l K G ⟨tick,value⟩ _ (S2.out.2.1.Sj.alloc _) (by have:=HN.out;omega) Qn.out (aB6 _) bG (S2.out.2.1.Sk lG)).mono ?_;rintro e w3 ⟨v',rfl,kJ,hw3,jP⟩;obtain⟨A',n',c',rfl,XQ,-⟩:=kJ.shape aA;have HN':=zD XQ;clear XQ;obtain⟨p1,p2,p3,p4,p5⟩:=cV.put (S2.out.call ((Below.refl _ _).drew.alloc (aC1 _) _)) jP kJ (hw3.imp id (fun e=>⟨_,e,aC1 _⟩));have P1:=zD p1;have P2:=zD p2;have P3:=zD p3;clear p1 p2 p3);refine .i (SG.trans jP (fun k hk=>.inl hk)) ?_
  have S3:=SG.trans jP (fun k hk=>.inl hk)
  refine zQ 9 ?_;go_wp2_with fail;refine .i S3 ?_
  refine zq 1 [10] [_] S3 ?_
  refine aq _ _ _ _ (kZ) ?_
  refine zO 11 (fun Q2 aI=>?_);go_wp2_with fail;(try refine aI _ _ ?_);(try clear aI Q2)
  refine wpAny_done (kZ) ?_ _
  have hq:n' = l.length+1:=by rw[HN'.out,HLq.out];exact qB.out
  have Q1:=zD (HLq.out ▸ P1.out)
  have Q2:=zD ((ah.aa (S:=foot g (Value.slice A n c)) (U2.out.trans (((Below.refl _ w2).drew.alloc (aC1 _) (.cells #[.int .i64 tick,.int .i64 value] 183)).mono U2.out.size))).trans P2.out (fun k hk=>.inl hk))
  have Q3:=zD (fun k hk=>(P3.out k hk).imp id (fun h=>aB4 (aB4 U2.out.size ((Below.refl w2.heap.size w2).drew.alloc (aC1 _) (.cells #[.int .i64 tick,.int .i64 value] 183)).size) h))
  have e0:=Q1.out.1.z 0 (.slice A' n' c')
  have e1:=Q1.out.1.z 1 (.int .i64 room)
  have ef:=Q1.out.1.frozen 0
  clear P1 P2 P3 jP kJ hw3 HN' p4 p5 S3 SG bG lG S0 HF HS S2 U2 X1 X2 HLq
  generalize w3.setCell ⟨g,0,none⟩ (.slice A' n' c')=w5 at *
  have XQ : n'<=10001:=by have:=HN.out;omega
  by_cases JL:room.toNat<l.length+1
  ·have HE:=zD (show RES=L.drop 1 by rw[HI.out,if_pos JL])
   have d1:decide (room<(n' : Int))=true:=by simp;omega
   have av6:room<(n' : Int):=oM
   have H1:=zD (show 1<=L.length by rw[qB.out];omega)
   have zu:=zD (show L.length<=100000 by rw[qB.out];have:=HN.out;omega)
   clear hq JL HN HR HL qB HI
   go_wp2
   go_quiet(fail)
   go_wp2_with fail
   refine(slices_Delete (base:=0) (.slice A' n' c') L 1 _ (Own.cD Q1.out.2.1 _) zu.out H1.out).mono ?_
   rintro e w6 ⟨v6,rfl,tA,hv6,Fc⟩
   obtain⟨A6,n6,c6,rfl,-,-⟩:=tA.shape aA
   obtain⟨p1,p2,p3,p4,p5⟩:=cV.put (cV.cD Q1.out _) Fc tA (.inl hv6)
   have P1:=zD p1
   have P2:=zD p2
   have P3:=zD p3
   clear p1 p2 p3 tA hv6 Fc e0 e1 ef
   go_wp2
   go_ret
   refine⟨_,rfl,HE.out ▸ P1.out,(ah.cD Q2.out _).trans (P2.out) ?_,?_⟩
   ·exact fun k hk=>Q3.out k hk
   ·exact fun k hk=>(P3.out k hk).elim (fun h=>Q3.out k h) (fun h=>.inr (aB4 Q2.out.size h))
  ·have HE:=zD (show RES=L by rw[HI.out,if_neg JL])
   have d1:decide (room<(n' : Int))=false:=by simp;omega
   have av6:¬room<(n' : Int):=oM
   clear hq JL HN HR HL qB HI
   go_wp2
   go_quiet(fail)
   go_wp2
   go_ret
   exact⟨_,rfl,cV.cD (HE.out ▸ Q1.out) _,ah.cD Q2.out _,fun k hk=>Q3.out k hk⟩
theorem Ge (hs:pP l) (x:aD):((∃y,l[aH l x.tick]? = some y/\y.tick=x.tick)/\(rE l x).length=l.length)\/((∀y,l[aH l x.tick]? = some y->y.tick≠x.tick)/\(rE l x).length=l.length+1):=by
 by_cases h:∃y,l[aH l x.tick]? = some y/\y.tick=x.tick
 ·obtain⟨y,h1,h2⟩:=h
  exact .inl ⟨⟨y,h1,h2⟩,by rw[<-MW hs h1 h2,aF2]⟩
 ·have h2:∀y,l[aH l x.tick]? = some y->y.tick≠x.tick:=fun y h1 h3=>h ⟨y,h1,h3⟩
  have:=oa l x.tick;exact .inr ⟨h2,by rw[<-MX hs h2];simp;omega⟩
theorem Kc (g:Nat) (v:Value) (l:List aD) (room:Nat) (x:aD) (w:World) (h:cV w g v l room) (hs:pP l) (hlr:l.length<=room) (h1:1<=room) (h2:room<=10000) (he:bU x.tick x.value=0) :
 Calls prog 179 #[pt g,I6 x.tick,I6 x.value] w (jt g v (nY l room x) room w (I6 0)):=by
 rcases Ge hs x with⟨⟨y,hy,hyt⟩,hl⟩|⟨hy,hl⟩
 ·have e:nY l room x=l.set (aH l x.tick) x:=by
   unfold nY;rw[if_neg oM,MW hs hy hyt]
  rw[e];exact xo g v l room x.tick x.value y w h hs oM he oM hy hyt
 ·have e:nY l room x=Sz l room x.tick x.value:=by
   unfold nY Sz;rw[hl]
   show _=if(room:Int).toNat<l.length+1 then(l.take (aH l x.tick)++x::l.drop (aH l x.tick)).drop 1 else l.take (aH l x.tick)++x::l.drop (aH l x.tick)
   rw[MX hs hy,Int.toNat_natCast]
  rw[e];exact xG g v l room x.tick x.value w h hs oM he oM (sH hlr) hy
theorem jt.same {ret:Value} (h:cV w g v l room):jt g v l room w ret (.returned ret) w:=⟨v,rfl,h,ah.refl _ _,fun _ hk=>.inl hk⟩
theorem uU (g:Nat) (v:Value) (l:List aD) (room:Nat) (x:aD) (w:World) (h:cV w g v l room) (hs:pP l) (hlr:l.length<=room) (h1:1<=room) (h2:room<=10000) :
 Calls prog 179 #[pt g,I6 x.tick,I6 x.value] w (jt g v (nZ l room x) room w (I6 (bU x.tick x.value))):=by
 by_cases he:bU x.tick x.value=0
 ·have:=Kc g v l room x w h hs hlr h1 h2 he
  unfold nZ;rw[if_pos he,he];exact this
 ·unfold nZ
  rw[if_neg he];refine(om (some ⟨g,0,none⟩) x.tick x.value _ w he rfl).mono ?_;rintro e w' ⟨rfl,rfl⟩;exact jt.same h
theorem vL (x:aD) (w:World) :
 Calls prog 179 #[.pointer none,I6 x.tick,I6 x.value] w fun e w'=>e=.returned (I6 (if bU x.tick x.value=0 then 5 else bU x.tick x.value))/\w=w':=by
 by_cases he:bU x.tick x.value=0
 ·rw[if_pos he];exact xn x.tick x.value w he
 ·rw[if_neg he];exact om none x.tick x.value _ w he rfl
theorem Gf (hs:pP l) (room:Nat) (x:aD):pP (nZ l room x):=by
 unfold nZ;split
 ·exact FE hs room x
 ·exact hs
theorem Gg {room:Nat} (h:l.length<=room) (h1:1<=room) (x:aD):(nZ l room x).length<=room:=by
 unfold nZ;split
 ·exact FJ h h1 x
 ·exact h
theorem OZ (h:∀y∈l,y.good) {x:aD} (hx:x.good) (room:Nat): ∀y∈nZ l room x,y.good:=by
 unfold nZ;split
 ·exact BN h hx room
 ·exact h
theorem O0 {x:aD} (room:Nat) (h:l[k]? = some x):xb room (l.take (k+1))=nZ (xb room (l.take k)) room x:=by
 unfold xb;rw[ie h,List.foldl_append];rfl
theorem xH {P:List aD->Prop} {room:Nat} (hp:∀a x,P a->P (nZ a room x)):∀(l a:List aD),P a->P (l.foldl (fun a x=>nZ a room x) a)
 |[],a,h=>h
 |x::l,a,h=>xH hp l _ (hp a x h)
theorem SB (room:Nat) (l:List aD):pP (xb room l):=xH (P:=pP) (fun a x h=>Gf h room x) l [] List.Pairwise.nil
theorem xI {room:Nat} (h1:1<=room) (l:List aD):(xb room l).length<=room:=xH (P:=fun a=>a.length<=room) (fun a x h=>Gg h h1 x) l [] (aB6 _)
theorem Pb (room:Nat) (hg:∀y∈l,y.good): ∀y∈xb room l,y.good:=by
 have key:∀(l a:List aD),(∀y∈l,y.good)->(∀y∈a,y.good)->∀y∈l.foldl (fun a x=>nZ a room x) a,y.good:=by
  intro l
  induction l with
  |nil=>intro a _ h;exact h
  |cons x l ih=>intro a hl ha;exact ih _ (fun y hy=>hl y (by simp[hy])) (OZ ha (hl x sI) room)
 exact key l [] hg (fun y hy=>by simp at hy)
def ou (B:Nat) (w wr:World) (g:Nat) (v:Value) (l:List aD) (room:Int):Prop:=cV wr g v l room/\(∀k,foot g v k->B<=k)/\Below B w wr/\B<=wr.heap.size
theorem ou.call {wr: World} (h:ou B w wr g v l room) (hb:Bl wr w'):ou B w w' g v l room:=
 ⟨h.1.call hb,h.2.1,h.2.2.1.trans (hb.mono h.2.2.2),aB4 h.2.2.2 hb.size⟩
theorem ou.post {wr: World} {l': List aD} {ret:Value} {e:Ending} (h:ou B w wr g v l room) (hp:jt g v l' room wr ret e w'):e=.returned ret/\∃v',ou B w w' g v' l' room:=by
 obtain⟨v',he,h1,h2,h3⟩:=hp;refine⟨he,v',h1,fun k hk=>(h3 k hk).elim (fun hk=>h.2.1 k hk) (fun hk=>aB4 h.2.2.2 hk),h.2.2.1.trans (h2.below h.2.1 h.2.2.2),aB4 h.2.2.2 h2.size⟩
theorem ou.new (w:World) (room:Int):ou w.heap.size w (w.alloc (.cells #[.slice none 0 0,I6 room] 301)) w.heap.size (.slice none 0 0) [] room:=
 ⟨cV.new w room,fun k hk=>by
  rcases hk with rfl|hk
  ·exact aC1 _
  ·simp[Value.ownBlock]at hk,gW,sI⟩
def OfS (w:World) (l:List aD) (room:Int) (e:Ending) (w' : World):Prop:=∃g v,e=.returned (pt g)/\ou w.heap.size w w' g v l room
theorem Pc (room:Nat) (A:Option Addr) (len cap:Nat) (l:List aD) (w:World) (hs:cH w A len cap l) (hn:len<=10000) (h1:1<=room) (h2:room<=256) :
 Calls prog 126 #[I6 room,.slice A len cap] w (OfS w (xb room l) room):=by
 have HS:=zD hs
 have HL:=zD hs.1
 have HC:=zD (fun w=>xk room w oM oM)
 have HP:=zD (fun g v l x w h hs hlr=>uU g v l room x w h hs hlr h1 oM)
 have fJ:=zD (fun k=>xI h1 (l.take k))
 clear hs
 go_enter func126,ntmps126
 go_wp2_with(go_at_call 178;refine(HC.out _).mono ?_;rintro e w1 ⟨rfl,rfl⟩)
 go_loopw[12] (fun i wr=>∃k:Nat,∃v:Value,k<=len/\i = I6 k/\ou w.heap.size w wr w.heap.size v (xb room (l.take k)) room) (fun i _=>len-(intOf i).toNat)
 case atStart=>exact⟨0,_,aB6 _,rfl,ou.new w room⟩
 case round=>
  obtain⟨k,v,hk,rfl,hin⟩:=hrel
  have HI:=zD hin
  clear hin
  by_cases hlt:k<len
  ·obtain⟨b,off,x,rfl,hx,hb,t0,t1⟩:=HS.out.at_ hlt
   have:=(HI.out.2.2.1.cell (p:=⟨b,off+k*2,none⟩) hb).trans t0
   have:=(HI.out.2.2.1.cell (p:=⟨b,off+k*2+1,none⟩) hb).trans t1
   have:(k:Int)<(len:Int):=oM
   have HN:=zD (O0 room hx)
   have I2:=zD (HI.out.call (w':=wr.alloc (.cells #[I6 x.tick,I6 x.value] 183)) ((Below.refl _ wr).alloc lR _))
   clear hx hb t0 t1
   go_wp2_with(go_at_call 179;refine(HP.out w.heap.size v _ x _ I2.out.1 (SB _ _) (fJ.out k)).mono ?_;intro e w1 hp;obtain⟨rfl,v',hi⟩:=I2.out.post hp;have I3:=zD hi;clear hi hp)
   go_roundw
   case rel=>exact⟨k+1,v',oM,by go_num,HN.out▸I3.out⟩
   case measure=>simp[intOf];omega
  ·have hE:l.take k=l:=aB5 (oH HL.out)
   rw[hE]at HI
   clear hE
   go_wp2
   go_ret
   exact⟨_,v,rfl,HI.out⟩
def iH (room:Int):Prop:=1<=room/\room<=256
instance (room:Int):Decidable (iH room):=by unfold iH;infer_instance
def Pd (l:List aD) (room:Int) (x:aD):List aD:=if iH room then nZ l room.toNat x else l
def ae9 (room:Int) (x:aD):Int:=if bU x.tick x.value=0 then(if iH room then 0 else 5)else bU x.tick x.value
def jS (w:World) (p:Option Addr) (F:Nat->Prop) (xs:List aD) (room:Int):Prop:=
 ((p=none/\xs=[]/\¬iH room)\/∃(g:Nat) (v:Value) (rm:Nat),p=some ⟨g,0,none⟩/\room=rm/\1<=rm/\rm<=256/\cV w g v xs rm/\(∀k,foot g v k->F k)/\pP xs/\xs.length<=rm)/\∀k,F k->k<w.heap.size
theorem jS.upd {S:Nat->Prop} (h:jS w p F xs room) (hu:ah S w w') (hn:∀k,F k->¬S k):jS w' p F xs room:=by
 refine⟨?_,fun k hk=>aB8 (h.2 k hk) hu.size⟩;rcases h.1 with h|⟨g,v,rm,e1,e2,e3,e4,e5,e6,e7⟩
 ·exact .inl h
 ·exact .inr ⟨g,v,rm,e1,e2,e3,e4,e5.upd hu (fun k hk=>hn k (e6 k hk)),e6,e7⟩
theorem jS.call (h:jS w p F xs room) (hb:Bl w w'):jS w' p F xs room:=
 h.upd (S:=fun _=>False) (ah.aa hb) (fun _ _ hk=>hk)
theorem jS.len (h:jS w p F xs room):xs.length<=256:=by
 rcases h.1 with⟨-,rfl,-⟩|⟨g,v,rm,e1,e2,e3,e4,e5,e6,e7,e8⟩
 ·simp
 ·omega
def av7 (w:World) (room:Int) (e:Ending) (w' : World):Prop:=∃p F,e=.returned (.pointer p)/\jS w' p F [] room/\(∀k,F k->w.heap.size<=k)/\Bl w w'
theorem SC (room:Int) (w:World):Calls prog 178 #[I6 room] w (av7 w room):=by
 by_cases hr:iH room
 ·obtain⟨rm,rfl⟩:∃rm:Nat,room=rm:=⟨room.toNat,by unfold iH at hr;omega⟩
  have h1:1<=rm:=by unfold iH at hr;omega
  have h2:rm<=256:=by unfold iH at hr;omega
  refine(xk rm w oM oM).mono ?_;rintro e w' ⟨rfl,rfl⟩;refine⟨_,fun k=>k=w.heap.size,rfl,⟨.inr ⟨_,_,rm,rfl,rfl,h1,h2,cV.new w rm,?_,List.Pairwise.nil,sI⟩,?_⟩,?_,gW⟩
  ·rintro k (rfl|hk)
   ·rfl
   ·simp[Value.ownBlock]at hk
  ·rintro k rfl;simp
  ·rintro k rfl;exact aC1 _
 ·refine(Aa room w (by unfold iH at hr;omega)).mono ?_
  rintro e w' ⟨rfl,rfl⟩;exact⟨none,fun _=>False,rfl,⟨.inl ⟨rfl,rfl,hr⟩,fun _ hk=>hk.elim⟩,fun _ hk=>hk.elim,Below.refl _ _⟩
def av8 (p:Option Addr) (F:Nat->Prop) (xs:List aD) (room:Int) (x:aD) (w:World) (e:Ending) (w' : World):Prop:=∃F',e=.returned (I6 (ae9 room x))/\jS w' p F' (Pd xs room x) room/\ah F w w'/\∀k,F' k->F k\/w.heap.size<=k
theorem SE (p:Option Addr) (F:Nat->Prop) (xs:List aD) (room:Int) (x:aD) (w:World) (h:jS w p F xs room) :
 Calls prog 179 #[.pointer p,I6 x.tick,I6 x.value] w (av8 p F xs room x w):=by
 rcases h.1 with⟨rfl,rfl,hr⟩|⟨g,v,rm,rfl,rfl,e3,e4,e5,e6,e7,e8⟩
 ·refine(vL x w).mono ?_
  rintro e w' ⟨rfl,rfl⟩;refine⟨F,?_,⟨.inl ⟨rfl,?_,hr⟩,h.2⟩,ah.refl _ _,fun k hk=>.inl hk⟩
  ·unfold ae9;rw[if_neg hr]
  ·unfold Pd;rw[if_neg hr]
 ·refine(uU g v xs rm x w e5 e7 e8 e3 oM).mono ?_
  rintro e w' ⟨v',rfl,k1,k2,k3⟩;have hg:iH rm:=by unfold iH;omega
  have hp:Pd xs rm x=nZ xs rm x:=by unfold Pd;rw[if_pos hg];rfl
  refine⟨fun k=>F k\/foot g v' k,?_,⟨.inr ⟨g,v',rm,rfl,rfl,e3,e4,hp▸k1,fun k hk=>.inr hk,hp▸Gf e7 rm x,hp▸Gg e8 e3 x⟩,?_⟩,k2.mono e6,?_⟩
  ·unfold ae9;rw[if_pos hg];split
   ·rename_i h0;rw[h0]
   ·rfl
  ·rintro k (hk|hk)
   ·exact aB8 (h.2 k hk) k2.size
   ·exact k1.lt k hk
  ·rintro k (hk|hk)
   ·exact .inl hk
   ·exact(k3 k hk).imp (e6 k) id
theorem Cb (p:Option Addr) (F:Nat->Prop) (xs:List aD) (room:Int) (w:World) (h:jS w p F xs room) :
 Calls prog 127 #[.pointer p] w (iY w xs):=by
 rcases h.1 with⟨rfl,rfl,hr⟩|⟨g,v,rm,rfl,rfl,e3,e4,e5,e6,e7,e8⟩
 ·refine(vJ w).mono ?_
  rintro e w' ⟨rfl,rfl⟩;exact iY.mk (Own.nil _ _ _ _ _) bR
 ·exact oh g v xs rm w e5 oM
theorem vq {P:Program} (w:World) {ops:Array Oper} {rest:List Oper} {o:Oper} {a:Act} {Q:Exit->Act->World->Prop} (hgd:o.guard=none) (s x:Operand) (t:TypeId) (ho:o.op=.call {callee:=.builtin .append,args:=#[s,x],argTypes:=#[t,t]}) (base:Nat) (e:TypeId) (z:Value) (size bytes:Nat) (cells:α->List Value) (ht:P.underlying t=some (.slice e)) (hi:(P.info? e).map (fun i=>(i.zero,i.size,i.bytes))=some (some z,size,bytes)) (hzs:z.cells.size=size) (hsz:0<size) (hcs:∀x,(cells x).length=size) (vH:∀x,∀u∈cells x,u.oneCell' = true) (g off n cap:Nat) (l:List α) (hs:a.eval s=.slice (some ⟨g,off,none⟩) n cap) (hown:aK w base e size cells (.slice (some ⟨g,off,none⟩) n cap) l) (ad:Addr) (m c:Nat) (ys:List α) (hx:a.eval x=.slice (some ad) m c) (RM:ag w size cells (some ad) m c ys) (hlen:l.length+m<1000000) (hby:bytes<=100000) (hbase:base<=w.heap.size) (h:∀v' w',aK w' base e size cells v' (l++ys)->ah (fun k=>k=g) w w'->(v'.ownBlock=some g\/v'.ownBlock=some w.heap.size)->wpList P ops Q rest (a.put o.dst v') w'):wpList P ops Q (o::rest) a w:=by
 obtain⟨i,h1,h2,h3,h4⟩:=info_parts hi;have Fa:ys.length=m:=RM.1;have hb1:(l.length+m)*bytes<=140737488355328:=by have:=Nat.mul_le_mul (show l.length+m<=1000000 by omega) hby;omega
 have hfy:(ys.flatMap cells).length=m*size:=by rw[aZ hcs,Fa]
 have kX:(ys.flatMap cells).length=m*i.size:=by rw[hfy,h3]
 have hm:l.length+m<=maxLen:=by unfold maxLen;omega
 have xB:(l.flatMap cells).length=l.length*size:=aZ hcs l;have Su:((l++ys).flatMap cells)=l.flatMap cells++ys.flatMap cells:=sI
 have ao6:∀u∈ys.flatMap cells,u.oneCell' = true:=fun u hu=>by obtain⟨y,_,hy⟩:=List.mem_flatMap.1 hu;exact vH y u hy
 have ag6:=hown.Dc (a:=⟨g,off,none⟩) rfl;rcases hown with⟨hv,_⟩|⟨g',tL,cap',cur,hv,hbg,hg,mF,hcm,hcz,eM⟩
 ·cases hv
 injection hv with e1 e2 e3
 injection e1 with e1
 injection e1 with e1 e4
 subst e1;subst e4;subst e3;subst e2
 by_cases hroom:l.length+m<=cap
 ·have iD:off+l.length*i.size+(ys.flatMap cells).length<=cur.size:=by
   rw[hfy,h3];have:=aE6 size hroom;rw[aD8]at this;omega
  have hr2:=je (P:=P) w t o.type e i ht h1 g off l.length cap cur hg ad m c (ys.flatMap cells) kX (RM.cells hcs) ao6 hroom iD;refine Lib.wpList_append_run w hgd s x t t ho _ _ hs hx _ _ hr2 ?_;rw[h3]at iD |-;refine h _ _ (.inr ⟨g,off,cap,_,by simp[Fa],hbg,setRow_heap w g cur _ e _ hg,by simpa[Fa]using hroom,hcm,?_,?_⟩) ⟨rfl,rfl,rfl,sI,fun k _ hk=>setRow_other w g k _ hk⟩ (.inl rfl)
  ·simp only[aE9,aB9,aC3,aD2,Array.length_toList]
   omega
  ·rw[Su]
   have e6:(l++ys).length*size=(l.flatMap cells++ys.flatMap cells).length:=by
    rw[aB9,aB9,xB,hfy,aD8,Fa]
   rw[e6];simp only[aC7];have:off<=cur.toList.length:=by simp;omega
   have e7:cur.toList.take (off+l.length*size)=cur.toList.take off++l.flatMap cells:=by
    rw[List.take_add,eM]
   rw[e7,aC7,List.drop_append_of_le_length (by rw[aC3];omega),aG1 (by rw[aC3];omega),aD7,<-aC7];exact List.take_left
 ·have hr2:=run_append_grow (P:=P) w t o.type e i z ht h1 h2 ⟨g,off,none⟩ l.length cap (l.flatMap cells) (by rw[xB,h3]) ag6 ad m c (ys.flatMap cells) kX (RM.cells hcs) oM oM (growslice_fits oM (by rw[h4];exact hb1))
  refine Lib.wpList_append_run w hgd s x t t ho _ _ hs hx _ _ hr2 ?_;have hge:=grownCap_ge w (l.length+m) cap e;have aw8:grownCap w (l.length+m) cap e<=maxLen:=grownCap_le_maxLen w (l.length+m) cap e hm;refine h _ _ (.inr ⟨w.heap.size,0,_,_,by simp[Fa],hbase,heap_alloc_new w.drew _,by simpa[Fa]using hge,aw8,?_,?_⟩) ((ah.refl _ w).drew.alloc _) (.inr rfl)
  ·simp only[Array.size_append,aE9,size_zeroCells,hzs,xB,hfy,Nat.zero_add]
   have:grownCap w (l.length+m) cap e*size=l.length*size+m*size+(grownCap w (l.length+m) cap e-(l.length+m))*size:=by
    conv=>lhs;rw[show grownCap w (l.length+m) cap e=(l.length+m)+(grownCap w (l.length+m) cap e-(l.length+m)) by omega]
    rw[aD8,aD8]
   omega
  ·have e6:(l++ys).length*size=(l.flatMap cells++ys.flatMap cells).length:=by
    rw[aB9,aB9,xB,hfy,aD8,Fa]
   rw[Su,e6,List.drop_zero];simp only[Array.toList_append];exact List.take_left
theorem Cs {α:Type} {cells:α->List Value} {size:Nat} (hsz:∀x,(cells x).length=size):∀(l:List α) (k:Nat),k<=l.length->(l.flatMap cells).take (k*size)=(l.take k).flatMap cells
 |l,0,_=>by simp
 |[],k+1,h=>by simp at h
 |x::l,k+1,h=>by
  rw[aE5,List.take_succ_cons,aE5,aD8,aI5,List.take_append,aB5 (by rw[hsz];omega),hsz,Nat.add_sub_cancel,Cs hsz l k (by simpa using h)]
theorem aK.cut {base e off:Nat} {cells:α->List Value} {l:List α} (hsz:∀x,(cells x).length=size) (h:aK w base e size cells (.slice (some ⟨g,off,none⟩) n cap) l) {c:Nat} (hk:k<=n) (hkc:k<=c) (hc:c<=cap):aK w base e size cells (.slice (some ⟨g,off,none⟩) k c) (l.take k):=by
 rcases h with⟨h,_⟩|⟨g',tL,cap',cur,hv,hb,hg,mF,hcm,hcs,EZ⟩
 ·cases h
 injection hv with e1 e2 e3
 injection e1 with e1
 injection e1 with e1 e4
 subst e1;subst e4;subst e3;subst e2;have zt:(l.take k).length=k:=by rw[aC3];omega
 have:c*size<=cap*size:=aE6 _ hc;refine .inr ⟨g,off,c,cur,by rw[zt],hb,hg,by rw[zt];exact hkc,oM,oM,?_⟩;rw[zt,<-Cs hsz l k hk,<-EZ,aH6,aH2 (aE6 _ hk)]
theorem La {cells:α->List Value} {A:Option Addr} {len:Nat} {l:List α} (h:ag w size cells A len cap l) (hk:k<=len):ag w size cells A k cap (l.take k):=by
 obtain⟨h1,h2,h3,h4,h5⟩:=h;refine⟨by rw[aC3];omega,oM,h3,(fun ha=>oH (h4 ha)),fun a ha=>?_⟩;obtain⟨k1,k2⟩:=h5 a ha;refine⟨fun i x hi j v hj=>?_,fun hl=>k2 oM⟩;rw[aE2]at hi
 split at hi
 ·exact k1 i x hi j v hj
 ·cases hi
theorem yg {cells:α->List Value} {b off len:Nat} {l:List α} (h:ag w size cells (some ⟨b,off,none⟩) len cap l) (hk:k<=len):ag w size cells (some ⟨b,off+k*size,none⟩) (len-k) (cap-k) (l.drop k):=by
 obtain⟨h1,h2,h3,h4,h5⟩:=h;refine⟨by rw[aD2];omega,oM,by unfold maxLen at *;omega,(fun h=>by cases h),fun a ha=>?_⟩;obtain⟨k1,k2⟩:=h5 _ rfl;cases ha;refine⟨fun i x hi j v hj=>?_,fun hl=>⟨(k2 oM).1,rfl⟩⟩;rw[aE3]at hi;have:=k1 (k+i) x hi j v hj;rw[Addr.add_lit]at this |-;rw[show off+k*size+(i*size+j)=off+((k+i)*size+j) by rw[aD8];omega];exact this
section
theorem su {α:Type} {motive:List α->Prop} (nil:motive []) (snoc:∀l x,motive l->motive (l++[x])) (l:List α):motive l:=by
 have h:∀(n:Nat) (l:List α),l.length=n->motive l:=by
  intro n
  induction n with
  |zero=>intro l hl;rw[aC0 hl];exact nil
  |succ n ih=>
   intro l hl;rcases List.eq_nil_or_concat l with rfl|⟨m,x,rfl⟩
   ·simp at hl
   ·rw[List.concat_eq_append]at *
    exact snoc m x (ih m (sH hl))
 exact h l.length l rfl
section
variable {α:Type} (le:α->α->Bool)
def mg:List α->List α->List α
 |[],Y=>Y
 |X,[]=>X
 |x::X,y::Y=>if le x y then x::mg X (y::Y)else y::mg (x::X) Y
termination_by X Y=>X.length+Y.length
theorem j7 (X:List α):mg le X []=X:=by cases X<;>simp[mg]
theorem ir (Y:List α):mg le [] Y=Y:=by simp[mg]
theorem jB (x y:α) (X Y:List α):mg le (x::X) (y::Y)=if le x y then x::mg le X (y::Y)else y::mg le (x::X) Y:=by rw[mg]
theorem Lc:∀(X Y:List α),(mg le X Y).length=X.length+Y.length
 |[],Y=>by simp[ir]
 |x::X,[]=>by simp[j7]
 |x::X,y::Y=>by
  rw[jB]
  split
  ·rw[aC4,Lc X (y::Y)];simp;omega
  ·rw[aC4,Lc (x::X) Y];simp;omega
termination_by X Y=>X.length+Y.length
theorem DA {z:α} : ∀(X Y:List α),z∈mg le X Y↔z∈X\/z∈Y
 |[],Y=>by simp[ir]
 |x::X,[]=>by simp[j7]
 |x::X,y::Y=>by
  rw[jB]
  split
  ·rw[aE7,DA X (y::Y)];simp[or_assoc]
  ·rw[aE7,DA (x::X) Y];simp only[aE7]
   constructor
   ·rintro(h|h|h)
    ·exact .inr (.inl h)
    ·exact .inl h
    ·exact .inr (.inr h)
   ·rintro(h|h|h)
    ·exact .inr (.inl h)
    ·exact .inl h
    ·exact .inr (.inr h)
termination_by X Y=>X.length+Y.length
theorem gM {X2 Y2:List α} : ∀(X1 Y1:List α),(∀x∈X2,∀y∈Y1,le x y=false)->(∀x∈X1,∀y∈Y2,le x y=true)->mg le (X1++X2) (Y1++Y2)=mg le X1 Y1++mg le X2 Y2
 |[],[],_,_=>by simp[ir]
 |x::X,[],h1,h2=>by
  rw[j7,aD7];cases Y2 with
  |nil=>simp[j7]
  |cons y Y=>
   rw[aE1,jB,if_pos (h2 x sI y sI)];have:=gM X [] (X2:=X2) (Y2:=y::Y) sI (fun a ha b hb=>h2 a (by simp[ha]) b hb);rw[aD7,j7]at this;rw[this];rfl
 |[],y::Y,h1,h2=>by
  rw[ir,aD7];cases X2 with
  |nil=>simp[ir]
  |cons x X=>
   rw[aE1,jB,if_neg (by rw[h1 x sI y sI];simp)];have:=gM [] Y (X2:=x::X) (Y2:=Y2) (fun a ha b hb=>h1 a ha b (by simp[hb])) sI;rw[aD7,ir]at this;rw[this];rfl
 |x::X,y::Y,h1,h2=>by
  rw[aE1,aE1,jB,jB]
  by_cases h:le x y=true
  ·rw[if_pos h,if_pos h]
   have:=gM X (y::Y) (X2:=X2) (Y2:=Y2) h1 (fun a ha b hb=>h2 a (by simp[ha]) b hb);rw[aE1]at this;rw[this];rfl
  ·rw[if_neg h,if_neg h]
   have:=gM (x::X) Y (X2:=X2) (Y2:=Y2) (fun a ha b hb=>h1 a ha b (by simp[hb])) h2;rw[aE1]at this;rw[this];rfl
termination_by X1 Y1=>X1.length+Y1.length
theorem ag8 {x:α} {Y1 Y2:List α} (h1:∀y∈Y1,le x y=false) (h2:∀y∈Y2,le x y=true):mg le [x] (Y1++Y2)=Y1++x::Y2:=by
 have h:=gM le [] Y1 (X2:=[x]) (Y2:=Y2) (sH h1) sI;rw[aD7,ir]at h;rw[h]
 congr 1
 cases Y2 with
 |nil=>simp[j7]
 |cons y Y=>rw[jB,if_pos (h2 y sI),ir]
theorem YE {y:α} {X1 X2:List α} (h1:∀x∈X1,le x y=true) (h2:∀x∈X2,le x y=false):mg le (X1++X2) [y]=X1++y::X2:=by
 have h:=gM le X1 [] (X2:=X2) (Y2:=[y]) sI (sH h1);rw[aD7,j7]at h;rw[h]
 congr 1
 cases X2 with
 |nil=>simp[ir]
 |cons x X=>rw[jB,if_neg (by rw[h2 x sI];simp),j7]
def nP (x:α) (S:List α):List α:=S.takeWhile (fun y=>le y x)++x::S.dropWhile (fun y=>le y x)
def bL (l:List α):List α:=l.foldl (fun s x=>nP le x s) []
theorem iu (l:List α) (x:α):bL le (l++[x])=nP le x (bL le l):=by simp[bL]
def ja (l:List α):Prop:=l.Pairwise (fun x y=>le x y=true)
variable {le}
variable (nT:∀x y,le x y=true\/le y x=true) (tr:∀x y z,le x y=true->le y z=true->le x z=true)
include nT tr
omit nT tr in
theorem lL {S:List α} (p:α->Bool):∀y∈S.takeWhile p,p y=true:=by
 intro y hy
 induction S with
 |nil=>simp at hy
 |cons a S ih=>
  rw[List.takeWhile_cons]at hy
  split at hy
  ·rcases aE7.1 hy with rfl|h
   ·assumption
   ·exact ih h
  ·simp at hy
omit nT in
theorem sy {x:α} : ∀{S:List α},ja le S->∀y∈S.dropWhile (fun y=>le y x),le y x=false
 |[],_,y,hy=>by simp at hy
 |a::S,h,y,hy=>by
  obtain⟨h1,h2⟩:=aI6.1 h;rw[List.dropWhile_cons]at hy
  split at hy
  ·exact sy h2 y hy
  ·rename_i ha
   rcases aE7.1 hy with rfl|hm
   ·simpa using ha
   ·cases hyx:le y x
    ·rfl
    ·exact absurd (tr _ _ _ (h1 y hm) hyx) ha
theorem Uj {x:α} {S:List α} (h:ja le S):ja le (nP le x S):=by
 unfold nP ja;have e:=aI4 (p:=fun y=>le y x) (l:=S);have h':(S.takeWhile (fun y=>le y x)++S.dropWhile (fun y=>le y x)).Pairwise (fun x y=>le x y=true):=by rw[e];exact h
 obtain⟨p1,p2,p3⟩:=aH7.1 h';refine aH7.2 ⟨p1,aI6.2 ⟨fun y hy=>?_,p2⟩,fun a ha b hb=>?_⟩
 ·have:=sy tr h y hy
  rcases nT x y with h0|h0
  ·exact h0
  ·rw[this]at h0;cases h0
 ·rcases aE7.1 hb with rfl|hb
  ·exact lL (fun y=>le y b) a ha
  ·exact p3 a ha b hb
theorem jM (l:List α):ja le (bL le l):=by
 induction l using su with
 |nil=>exact List.Pairwise.nil
 |snoc l x ih=>rw[iu];exact Uj nT tr ih
omit nT tr in
theorem Ny {x:α} {S1 S2:List α} (h1:∀y∈S1,le y x=true) (h2:∀y∈S2,le y x=false):nP le x (S1++S2)=S1++x::S2:=by
 unfold nP;have e1:(S1++S2).takeWhile (fun y=>le y x)=S1:=by
  rw[List.takeWhile_append_of_pos h1];cases S2 with
  |nil=>simp
  |cons a S=>rw[List.takeWhile_cons,if_neg (by rw[h2 a sI];simp)];simp
 have e2:(S1++S2).dropWhile (fun y=>le y x)=S2:=by
  rw[List.dropWhile_append_of_pos h1];cases S2 with
  |nil=>simp
  |cons a S=>rw[List.dropWhile_cons,if_neg (by rw[h2 a sI];simp)]
 rw[e1,e2]
theorem YF {x:α} {S T:List α} (hS:ja le S) (hT:ja le T):mg le S (nP le x T)=nP le x (mg le S T):=by
 have eS:=aI4 (p:=fun y=>le y x) (l:=S);have eT:=aI4 (p:=fun y=>le y x) (l:=T);have s1:=lL (S:=S) (fun y=>le y x);have s2:=sy tr (x:=x) hS;have t1:=lL (S:=T) (fun y=>le y x);have t2:=sy tr (x:=x) hT;unfold nP;generalize S.takeWhile (fun y=>le y x)=S1 at *;generalize S.dropWhile (fun y=>le y x)=S2 at *;generalize T.takeWhile (fun y=>le y x)=T1 at *;generalize T.dropWhile (fun y=>le y x)=T2 at *;subst eS;subst eT;have c1:∀a∈S2,∀b∈T1,le a b=false:=fun a ha b hb=>by
  cases h:le a b
  ·rfl
  ·have:=tr _ _ _ h (t1 b hb);rw[s2 a ha]at this;cases this
 have c2:∀a∈S1,∀b∈T2,le a b=true:=fun a ha b hb=>by
  rcases nT a b with h|h
  ·exact h
  ·have:=tr _ _ _ h (s1 a ha);rw[t2 b hb]at this;cases this
 have c3:∀a∈S1,∀b∈x::T2,le a b=true:=fun a ha b hb=>by
  rcases aE7.1 hb with rfl|hb
  ·exact s1 a ha
  ·exact c2 a ha b hb
 rw[gM le S1 T1 c1 c3,gM le S1 T1 c1 c2];have e:mg le S2 (x::T2)=x::mg le S2 T2:=by
  cases S2 with
  |nil=>rw[ir,ir]
  |cons a S2=>rw[jB,if_neg (by rw[s2 a sI];simp)]
 rw[e];have:=Ny (le:=le) (x:=x) (S1:=mg le S1 T1) (S2:=mg le S2 T2) (fun y hy=>by
  rcases(DA le _ _).1 hy with h|h
  ·exact s1 y h
  ·exact t1 y h) (fun y hy=>by
  rcases(DA le _ _).1 hy with h|h
  ·exact s2 y h
  ·exact t2 y h)
 unfold nP at this;exact this.symm
theorem DB (X Y:List α):bL le (X++Y)=mg le (bL le X) (bL le Y):=by
 induction Y using su with
 |nil=>rw[List.append_nil];exact(j7 le _).symm
 |snoc Y y ih=>rw[<-aC7,iu,iu,YF nT tr (jM nT tr X) (jM nT tr Y),ih]
end
theorem fx {α:Type} (le:α->α->Bool) (l:List α):(bL le l).length=l.length:=by
 induction l using su with
 |nil=>rfl
 |snoc l x ih=>
  rw[iu,nP,aB9,aC4,<-aD0,<-aB9,aI4,ih];simp
end
section
open Go.RowKit Go.Maps
def ah6 (v:Value):Option (DataW Value×List MemPlace):=some (.held v,[])
def iB (D:DataW Value) (f:Int->Option Value) (ks:List Int):Prop:=
 Maps.size D=ks.length/\ks.Nodup/\(∀x,x∈ks↔(f x).isSome=true)/\(∀x,f x=none->Maps.has D (.int .i64 x)=false)/\∀x v,f x=some v->∀z,D.atKey (.int .i64 x) z=.held v
def cw (P:Program) (w:World) (k:TypeId) (b:Nat) (f:Int->Option Value) (ks:List Int):Prop:=
 ∃D:DataW Value,w.ownsMap P k ah6 b ks.length D/\iB D f ks
theorem DK {P:Program} {k:TypeId} (hk:P.underlying k=some (.int .i64)) (hx:aw x):keyOf P k (.int .i64 x)=some (.int .i64 x):=keyOf_int_mk hk (WalkArith.wf_i64 hx)
theorem qi {H:Type} {P:Program} {k:TypeId} {R:Value->Option (DataW H×List MemPlace)} {w:World} {b:Nat} {D:DataW H} (h:w.ownsMap P k R b n D):w.ownsMap P k R b (Maps.size D) D:=by
 obtain⟨es,clock,hb,F,hs,rfl⟩:=h;exact⟨es,clock,hb,F,by show es.size<=List.length _;rw[length_sorted];simp,rfl⟩
section
variable {P:Program} {k:TypeId} {w w' : World} {b:Nat} {f:Int->Option Value} {ks:List Int}
theorem iB.made:iB (.map []) (fun _=>none) []:=⟨rfl,List.nodup_nil,sI,fun _ _=>rfl,fun x v h=>by cases h⟩
theorem cw.made (P:Program) (w:World) (k:TypeId):cw P (w.alloc (.map #[] 0)) k w.heap.size (fun _=>none) []:=
 ⟨.map [],World.ownsMap_made w P k ah6,iB.made⟩
theorem cw.lt (h:cw P w k b f ks):b<w.heap.size:=by obtain⟨D,h,_⟩:=h;exact h.lt
theorem cw.grown {row:Option Nat} (h:cw P w k b f ks) (hg:w.grownBy w' row) (hne:some b≠row):cw P w' k b f ks:=by
 obtain⟨D,h1,h2⟩:=h;exact⟨D,h1.kept hg hne,h2⟩
theorem cw.block (h:cw P w k b f ks) (hb:w'.heap[b]? = w.heap[b]?):cw P w' k b f ks:=by
 obtain⟨D,⟨es,clock,h1,h2⟩,h3⟩:=h;exact⟨D,⟨es,clock,hb.trans h1,h2⟩,h3⟩
theorem cw.below (h:cw P w k b f ks) (hb:Below B w w') (hB:b<B):cw P w' k b f ks:=h.block (hb.block b hB)
theorem cw.call (h:cw P w k b f ks) (hb:Bl w w'):cw P w' k b f ks:=h.below hb h.lt
theorem cw.alloc (h:cw P w k b f ks) (o:Obj):cw P (w.alloc o) k b f ks:=h.grown (World.grownBy_alloc w o none) sI
theorem cw.far (h:cw P w k b f ks) {p:Addr} (hp:b≠p.block) (u:Value):cw P (w.setCell p u) k b f ks:=h.block (Below.heap_setCell w p u b hp)
theorem cw.len_ (h:cw P w k b f ks) (ht:P.underlying t=some (.map k e)) (ty:TypeId):(Builtin.len_ #[t] ty #[.map (some b)]).run P w=.ok (I6 (ks.length:Int)) w:=by
 obtain⟨D,h1,h2,_⟩:=h;rw[<-h2];exact h1.len ht ty
theorem cw.look (h:cw P w k b f ks) (hk:P.underlying k=some (.int .i64)) (ht:P.underlying t=some (.map k e)) {z:Value} (hz:(zeroValue e).run P w=.ok z w) (hx:aw x):
 (Instr.lookup t (.map (some b)) (.int .i64 x) false).run P w=.ok ((f x).getD z) w:=by
 obtain⟨D,h1,_,_,_,h3,h4⟩:=h;obtain⟨v,ps,hrun,hv⟩:=h1.lookup (int_keyed hk) ht hz (zd:=.held z) (zp:=[]) rfl (DK hk hx);rw[hrun];have e:DataW.held v=D.atKey (.int .i64 x) (.held z):=by
  unfold ah6 at hv;injection hv with hv
  exact congrArg Prod.fst hv
 cases hf:f x with
 |none=>rw[atKey_of_not_has (h3 x hf)]at e;injection e with e;rw[e];rfl
 |some u=>rw[h4 x u hf]at e;injection e with e;rw[e];rfl
def oU (ks:List Int) (x:Int):List Int:=if x∈ks then ks else ks++[x]
def Im (f:Int->Option Value) (x:Int) (v:Value):Int->Option Value:=fun y=>if y=x then some v else f y
def Io (f:Int->Option Value) (x:Int):Int->Option Value:=fun y=>if y=x then none else f y
theorem DL {y:Int} (h:y≠x):(Lit.int .i64 y)≠.int .i64 x:=fun e=>h (by injection e)
theorem iB.put {D:DataW Value} (hT:Maps.Tidy D) (h:iB D f ks) (x:Int) (v:Value):iB (D.put (.int .i64 x) (.held v)) (Im f x v) (oU ks x):=by
 obtain⟨h1,h2,h3,h4,h5⟩:=h;have hx:Maps.has D (.int .i64 x)=decide (x∈ks):=by
  cases hf:f x with
  |none=>
   rw[h4 x hf];have:x ∉ ks:=fun hm=>by have:=(h3 x).1 hm;rw[hf]at this;cases this
   simp[this]
  |some u=>
   rw[has_true_of_atKey (h5 x u hf)];have:x∈ks:=(h3 x).2 (by rw[hf];rfl);simp[this]
 refine⟨?_,?_,fun y=>?_,fun y hy=>?_,fun y u hy z=>?_⟩
 ·rw[size_put hT,hx,h1]
  unfold oU
  by_cases hm:x∈ks<;>simp[hm]
 ·unfold oU
  split
  ·exact h2
  ·rename_i hm
   exact aI2.2 ⟨h2,sI,by simp;exact fun a ha e=>hm (e ▸ ha)⟩
 ·unfold Im oU
  by_cases e:y=x
  ·subst e
   by_cases hm:y∈ks<;>simp[hm]
  ·rw[if_neg e,<-h3 y]
   by_cases hm:x∈ks<;>simp[hm,e]
 ·unfold Im at hy
  by_cases e:y=x
  ·rw[if_pos e]at hy;cases hy
  ·rw[if_neg e]at hy
   rw[has_put_other (DL e),h4 y hy]
 ·unfold Im at hy
  by_cases e:y=x
  ·rw[if_pos e]at hy
   cases hy;subst e;exact atKey_put_same hT.isMap (show WideAt.IsKeyLit (Lit.int .i64 y)from trivial) _ _
  ·rw[if_neg e]at hy
   rw[atKey_put_other (DL e),h5 y u hy]
theorem iB.del {D:DataW Value} (hT:Maps.Tidy D) (h:iB D f ks) (x:Int):iB (D.del (.int .i64 x)) (Io f x) (ks.filter fun y=>decide (y≠x)):=by
 obtain⟨h1,h2,h3,h4,h5⟩:=h;refine⟨?_,h2.filter _,fun y=>?_,fun y hy=>?_,fun y u hy z=>?_⟩
 ·have e:=size_del (k:=.int .i64 x) hT
  rw[h1]at e;cases hf:f x with
  |none=>
   have hm:x ∉ ks:=fun hm=>by have:=(h3 x).1 hm;rw[hf]at this;cases this
   rw[h4 x hf]at e;simp at e;rw[e,List.filter_eq_self.2];intro a ha;simp;exact fun e=>hm (e ▸ ha)
  |some u=>
   have hm:x∈ks:=(h3 x).2 (by rw[hf];rfl);rw[has_true_of_atKey (h5 x u hf)]at e;simp at e;have hl:(ks.filter fun y=>decide (y≠x)).length+1=ks.length:=by
    have:=h2.erase_eq_filter x;have e2:(ks.filter fun y=>decide (y≠x))=ks.erase x:=by rw[this];congr 1;funext y;simp[bne,BEq.beq]
    rw[e2,List.length_erase_of_mem hm];have:=List.length_pos_of_mem hm;omega
   omega
 ·unfold Io
  by_cases e:y=x
  ·subst e;simp
  ·rw[if_neg e,<-h3 y];simp[e]
 ·unfold Io at hy
  by_cases e:y=x
  ·subst e;exact has_del_same
  ·rw[if_neg e]at hy
   rw[has_del_other (DL e),h4 y hy]
 ·unfold Io at hy
  by_cases e:y=x
  ·rw[if_pos e]at hy;cases hy
  ·rw[if_neg e]at hy
   rw[atKey_del_other (DL e),h5 y u hy]
theorem cw.put (h:cw P w k b f ks) (hk:P.underlying k=some (.int .i64)) (ht:P.underlying t=some (.map k e)) (hn:ks.length<maxLen) (hx:aw x) (v:Value):
 ∃w',(Instr.mapUpdate t (.map (some b)) (.int .i64 x) v).run P w=.ok () w'/\cw P w' k b (Im f x v) (oU ks x)/\w.grownBy w' (some b):=by
 obtain⟨D,h1,h2⟩:=h;obtain⟨w',r1,r2,r3⟩:=h1.update (int_keyed hk) ht hn (DK hk hx) (d:=.held v) (ps:=[]) (val:=v) rfl;have hv:=h2.put (h1.tidy (int_keyed hk)) x v;exact⟨w',r1,⟨_,by have:=qi r2;rw[hv.1]at this;exact this,hv⟩,r3⟩
theorem cw.del (h:cw P w k b f ks) (hk:P.underlying k=some (.int .i64)) (ht:P.underlying t=some (.map k e)) (hx:aw x) (ty:TypeId):
 ∃w',(Builtin.delete_ #[t,k] ty #[.map (some b),.int .i64 x]).run P w=.ok (.tuple #[]) w'/\cw P w' k b (Io f x) (ks.filter fun y=>decide (y≠x))/\w.grownBy w' (some b):=by
 obtain⟨D,h1,h2⟩:=h;obtain⟨w',r1,r2,r3⟩:=h1.drop (int_keyed hk) ht (DK hk hx) ty;have hv:=h2.del (h1.tidy (int_keyed hk)) x;exact⟨w',r1,⟨_,by have:=qi r2;rw[hv.1]at this;exact this,hv⟩,r3.grown⟩
theorem cw.tI (h:cw P w k b f ks) {f' : Int->Option Value} {ks' : List Int} (hf:f=f') (hk:ks=ks'):cw P w k b f' ks':=by subst hf;subst hk;exact h
end
section
variable {P:Program} (w:World) {ops:Array Oper} {rest:List Oper} {o:Oper} {a:Act} {Q:Exit->Act->World->Prop}
theorem jc (hg:o.guard=none) (m x:Operand) (t:TypeId) (hop:o.op=Op.lookup t m x false) (k e:TypeId) (hk:P.underlying k=some (.int .i64)) (ht:P.underlying t=some (.map k e)) (z:Value) (hz:(zeroValue e).run P w=.ok z w)
 (b:Nat) (f:Int->Option Value) (ks:List Int) (hm:a.eval m=.map (some b)) (h:cw P w k b f ks) (y:Int) (hx:a.eval x = I6 y) (hy:aw y)
 (hK:wpList P ops Q rest (a.put o.dst ((f y).getD z)) w):wpList P ops Q (o::rest) a w:=by
 refine wpList_plain hg fun K' hK'=>?_
 unfold Oper.wp;simp[execOp,hop,hm,hx,(h.look hk ht hz hy),Result.andThen];exact hK' _ _ hK
theorem yr (hg:o.guard=none) (m x v:Operand) (t:TypeId) (hop:o.op=Op.mapUpdate t m x v) (k e:TypeId) (hk:P.underlying k=some (.int .i64)) (ht:P.underlying t=some (.map k e))
 (b:Nat) (f:Int->Option Value) (ks:List Int) (hm:a.eval m=.map (some b)) (h:cw P w k b f ks) (hn:ks.length<maxLen) (y:Int) (hx:a.eval x = I6 y) (hy:aw y) (u:Value) (hv:a.eval v=u)
 (hK:∀w',cw P w' k b (Im f y u) (oU ks y)->w.grownBy w' (some b)->wpList P ops Q rest (a.put o.dst undef) w'):wpList P ops Q (o::rest) a w:=by
 refine wpList_plain hg fun K' hK'=>?_
 obtain⟨w',hrun,r1,r2⟩:=h.put hk ht hn hy u;unfold Oper.wp;simp[execOp,hop,hm,hx,hv,hrun,Result.andThen];exact hK' _ _ (hK w' r1 r2)
theorem yt (hg:o.guard=none) (m x:Operand) (t k:TypeId) (hop:o.op=Op.call {callee:=Callee.builtin Builtin.delete,args:=#[m,x],argTypes:=#[t,k]}) (e:TypeId) (hk:P.underlying k=some (.int .i64)) (ht:P.underlying t=some (.map k e))
 (b:Nat) (f:Int->Option Value) (ks:List Int) (hm:a.eval m=.map (some b)) (h:cw P w k b f ks) (y:Int) (hx:a.eval x = I6 y) (hy:aw y)
 (hK:∀w',cw P w' k b (Io f y) (ks.filter fun z=>decide (z≠y))->w.grownBy w' (some b)->wpList P ops Q rest (a.put o.dst (.tuple #[])) w'):wpList P ops Q (o::rest) a w:=by
 refine wpList_plain hg fun K' hK'=>?_
 obtain⟨w',hrun,r1,r2⟩:=h.del hk ht hy o.type;unfold Oper.wp;simp[execOp,hop,resolve,invoke,builtin,hm,hx,hrun,Result.andThen];exact hK' _ _ (hK w' r1 r2)
theorem oW (hg:o.guard=none) (m:Operand) (t:TypeId) (hop:o.op=Op.call {callee:=Callee.builtin Builtin.len,args:=#[m],argTypes:=#[t]}) (k e:TypeId) (ht:P.underlying t=some (.map k e))
 (b:Nat) (f:Int->Option Value) (ks:List Int) (hm:a.eval m=.map (some b)) (h:cw P w k b f ks)
 (hK:wpList P ops Q rest (a.put o.dst (I6 (ks.length:Int))) w):wpList P ops Q (o::rest) a w:=by
 refine wpList_plain hg fun K' hK'=>?_
 unfold Oper.wp;simp[execOp,hop,resolve,invoke,builtin,hm,(h.len_ ht o.type),Result.andThen];exact hK' _ _ hK
end
section
variable {P:Program} {k:TypeId} {w w' : World} {b r:Nat} {f:Int->Option Value} {ks:List Int} {lf:Int->Bool} {cnt:Nat}
end
section
variable {P:Program} (w:World) {ops:Array Oper} {rest:List Oper} {o:Oper} {a:Act} {Q:Exit->Act->World->Prop}
end
end
def vV (fp:Int->Option Nat):Int->Option Value:=fun x=>(fp x).map fun g=>pt g
def yu (fp:Int->Option Nat) (x:Int) (g:Nat):Int->Option Nat:=fun y=>if y=x then some g else fp y
def Cx (fp:Int->Option Nat) (x:Int):Int->Option Nat:=fun y=>if y=x then none else fp y
theorem UF (fp:Int->Option Nat) (x:Int) (g:Nat):Im (vV fp) x (pt g)=vV (yu fp x g):=by
 funext y;unfold Im vV yu;split<;>rfl
theorem UH (fp:Int->Option Nat) (x:Int):Io (vV fp) x=vV (Cx fp x):=by
 funext y;unfold Io vV Cx;split<;>rfl
theorem Cy (h:fp x=some g):(vV fp x).getD (.pointer none) = pt g:=by unfold vV;rw[h];rfl
theorem Qi (h:fp x=none):(vV fp x).getD (.pointer none)=.pointer none:=by unfold vV;rw[h];rfl
theorem yv (w:World):(zeroValue 232).run prog w=.ok (.pointer none) w:=kZ
def gQ (w:World) (g b:Nat) (fp:Int->Option Nat) (ks:List Int) (next:Int):Prop:=ai w g 210 #[.map (some b),I6 next]/\cw prog w 3 b (vV fp) ks/\g≠b
theorem gQ.call {b:Nat} {ks:List Int} {next:Int} (h:gQ w g b fp ks next) (hb:Bl w w'):gQ w' g b fp ks next:=⟨h.1.call hb,h.2.1.call hb,h.2.2⟩
theorem Ln (w:World):Calls prog 54 #[] w fun e w'=>e=.returned (pt (w.heap.size+1))/\gQ w' (w.heap.size+1) w.heap.size (fun _=>none) [] 1/\Bl w w':=by
 have:=@run_makeMap prog;go_enter func54,ntmps54;go_wp2;go_ret;exact⟨rfl,⟨(ai.dR w (.map #[] 0) 210 #[.map (some w.heap.size),I6 1]),((cw.made prog w 3).alloc (.cells #[.map (some w.heap.size),I6 1] 210)).tI (by funext x;rfl) rfl,oM⟩,gW⟩
def oX (fp:Int->Option Nat) (next n:Int):Int:=if n<1\/next<=n then 5 else if fp n=none then 8 else 0
theorem kQ (g b:Nat) (fp:Int->Option Nat) (ks:List Int) (next n:Int) (w:World) (h:gQ w g b fp ks next) (hn:aw n) :
 Calls prog 192 #[pt g,I6 n] w fun e w'=>e=.returned (I6 (oX fp next n))/\w=w':=by
 have:=h.1.z 0 (.map (some b));have:=h.1.z 1 (I6 next);have HM:=h.2.1;clear h
 by_cases h1:n<1
 ·have HE:oX fp next n=5:=if_pos (.inl h1)
  have:decide (n<1)=true:=sH h1
  clear h1;go_enter func192,ntmps192;go_wp2;go_ret;exact⟨au HE.symm,rfl⟩
 have:decide (n<1)=false:=sH h1
 by_cases h2:next<=n
 ·have HE:oX fp next n=5:=if_pos (.inr h2)
  have:decide (next<=n)=true:=sH h2
  clear h1 h2;go_enter func192,ntmps192;go_wp2;go_ret;exact⟨au HE.symm,rfl⟩
 have:decide (next<=n)=false:=sH h2
 cases hf:fp n with
 |none=>
  have HE:oX fp next n=8:=by unfold oX;rw[if_neg oM,if_pos hf]
  have HL:=Qi hf;clear h1 h2 hf;go_enter func192,ntmps192;go_wp2_with(at_lookup;refine jc _ rfl _ _ 208 rfl 3 232 underlying3 underlying208 (.pointer none) (yv _) b _ _ rfl HM n rfl hn ?_;rw[HL]);go_ret;exact⟨au HE.symm,rfl⟩
 |some g1=>
  have HE:oX fp next n=0:=by unfold oX;rw[if_neg oM,if_neg (by rw[hf];simp)]
  have HL:=Cy hf;clear h1 h2 hf;go_enter func192,ntmps192;go_wp2_with(at_lookup;refine jc _ rfl _ _ 208 rfl 3 232 underlying3 underlying208 (.pointer none) (yv _) b _ _ rfl HM n rfl hn ?_;rw[HL]);go_ret;exact⟨au HE.symm,rfl⟩
theorem Bb (g b:Nat) (fp:Int->Option Nat) (ks:List Int) (next n:Int) (w:World) (h:gQ w g b fp ks next) (hn:aw n) (he:oX fp next n≠0) :
 Calls prog 193 #[pt g,I6 n] w fun e w'=>e=.returned (.tuple #[.pointer none,I6 (oX fp next n)])/\w=w':=by
 have HF:=kQ g b fp ks next n w h hn;generalize oX fp next n=E at *;have:(E != 0)=true:=sH he
 clear he h;go_enter func193,ntmps193;go_wp2_with(go_at_call 192;refine HF.mono ?_;rintro e w1 ⟨rfl,rfl⟩);go_ret2;exact⟨rfl,rfl⟩
theorem Lp (g b g1:Nat) (fp:Int->Option Nat) (ks:List Int) (next n:Int) (w:World) (h:gQ w g b fp ks next) (hn:aw n) (he:oX fp next n=0) (hf:fp n=some g1) :
 Calls prog 193 #[pt g,I6 n] w fun e w'=>e=.returned (.tuple #[pt g1,I6 0])/\w=w':=by
 have HF:=kQ g b fp ks next n w h hn;rw[he]at HF;have HL:=Cy hf;have:=h.1.z 0 (.map (some b));have HM:=h.2.1;clear he h hf;go_enter func193,ntmps193;go_wp2_with(first
  |go_at_call 192;refine HF.mono ?_;rintro e w1 ⟨rfl,rfl⟩
  |(at_lookup;refine jc _ rfl _ _ 208 rfl 3 232 underlying3 underlying208 (.pointer none) (yv _) b _ _ rfl HM n rfl hn ?_;rw[HL]))
 go_ret2;exact⟨rfl,rfl⟩
theorem yw (g b:Nat) (fp:Int->Option Nat) (ks:List Int) (next n:Int) (w:World) (h:gQ w g b fp ks next) (hn:aw n) (he:oX fp next n≠0) :
 Calls prog 142 #[pt g,I6 n] w fun e w'=>e=.returned (I6 (oX fp next n))/\w=w':=by
 have HF:=kQ g b fp ks next n w h hn;generalize oX fp next n=E at *;have:(E==0)=false:=sH he
 clear he h;go_enter func142,ntmps142;go_wp2_with(go_at_call 192;refine HF.mono ?_;rintro e w1 ⟨rfl,rfl⟩);go_ret;exact⟨rfl,rfl⟩
def ao8 (w:World) (g b:Nat) (fp:Int->Option Nat) (ks:List Int) (next:Int) (e:Ending) (w' : World):Prop:=e=.returned (I6 0)/\gQ w' g b fp ks next/\w.grownBy w' (some b)
theorem Ip (g b:Nat) (fp:Int->Option Nat) (ks:List Int) (next n:Int) (w:World) (h:gQ w g b fp ks next) (hn:aw n) (he:oX fp next n=0) :
 Calls prog 142 #[pt g,I6 n] w (ao8 w g b (Cx fp n) (ks.filter fun y=>decide (y≠n)) next):=by
 have HF:=kQ g b fp ks next n w h hn;rw[he]at HF;have:=h.1.z 0 (.map (some b));have HM:=h.2.1;have HT:=h;clear he h;go_enter func142,ntmps142;go_wp2_with(first
  |go_at_call 192;refine HF.mono ?_;rintro e w1 ⟨rfl,rfl⟩
  |(at_delete;refine yt _ rfl _ _ 208 3 rfl 232 underlying3 underlying208 b _ _ rfl HM n rfl hn ?_;intro w5 Ay G5;have M5:=Ay.tI (UH fp n) rfl;clear Ay))
 go_ret;exact⟨rfl,⟨HT.1.grown G5 (fun e=>HT.2.2 (by injection e)),M5,HT.2.2⟩,G5⟩
theorem ur (g b g1:Nat) (fp:Int->Option Nat) (ks:List Int) (next:Int) (w:World) (h:gQ w g b fp ks next) (h1:1<=next) (hf:64<=ks.length) :
 Calls prog 190 #[pt g,pt g1] w fun e w'=>e=.returned (.tuple #[I6 0,I6 6])/\w=w':=by
 have:=h.1.z 0 (.map (some b));have:=h.1.z 1 (I6 next);have HM:=h.2.1;have:decide (next<1)=false:=by simp;omega
 have:decide ((64:Int)<=(ks.length:Int))=true:=by simp;omega
 clear h hf;go_enter func190,ntmps190;go_wp2_with(at_len;refine oW _ rfl _ 208 rfl 3 232 underlying208 b _ _ rfl HM ?_);go_ret2;exact⟨rfl,rfl⟩
def ao9 (w:World) (g b:Nat) (fp:Int->Option Nat) (ks:List Int) (next:Int) (e:Ending) (w' : World):Prop:=e=.returned (.tuple #[I6 next,I6 0])/\gQ w' g b fp ks (next+1)/\ah (fun k=>k=g\/k=b) w w'
theorem Iq (g b g1:Nat) (fp:Int->Option Nat) (ks:List Int) (next:Int) (w:World) (h:gQ w g b fp ks next) (h1:1<=next) (h2:next<=100000) (hf:ks.length<64) :
 Calls prog 190 #[pt g,pt g1] w (ao9 w g b (yu fp next g1) (oU ks next) next):=by
 have:=h.1.z 0 (.map (some b));have:=h.1.z 1 (I6 next);have HM:=h.2.1;have HT:=h;have:decide (next<1)=false:=by simp;omega
 have:decide ((64:Int)<=(ks.length:Int))=false:=by simp;omega
 have H64:aw next:=by unfold aw;omega
 clear h;go_enter func190,ntmps190;go_wp2_with(first
  |at_len;refine oW _ rfl _ 208 rfl 3 232 underlying208 b _ _ rfl HM ?_
  |(at_mapUpdate;refine yr _ rfl _ _ _ 208 rfl 3 232 underlying3 underlying208 b _ _ rfl HM (by unfold maxLen;omega) next rfl H64 (pt g1) rfl ?_;intro w5 Ay iK;have M5:=Ay.tI (UF fp next g1) rfl;have B5:=HT.1.grown iK (fun e=>HT.2.2 (by injection e));have U5:=(ah.refl (fun k=>k=g\/k=b) w).grown iK (fun k e=>by cases e;exact .inl (.inr rfl));have:=B5.z 1 (I6 next);have:=B5.frozen 1;clear Ay iK))
 go_ret2;exact⟨rfl,⟨B5.aX 1 _,M5.far (fun e=>HT.2.2 e.symm) _,HT.2.2⟩,U5.setCell (.inl (.inl rfl)) _⟩
abbrev wz:TypeId:=2
abbrev JG:TypeId:=107
def gT (L:List Int):Array Value:=(L.map fun x=>I6 x).toArray
theorem ab2:(prog.info? wz).map (fun i=>(i.zero,i.size,i.bytes))=some (some (I6 0),1,8):=kZ
theorem WO (n:Nat):madeCells #[I6 0] n=gT (List.replicate n 0):=by
 unfold madeCells gT;apply Array.ext
 ·simp
 ·intro i h1 h2
  simp[Nat.mod_one]
theorem ab3 (h:ai w H wz (gT L)) (k:Nat) (x:Int):ai (w.setCell ⟨H,k,none⟩ (I6 x)) H wz (gT (L.set k x)):=by
 have e:gT (L.set k x)=(gT L).setIfInBounds k (I6 x):=by
  unfold gT;rw[List.map_set];simp
 rw[e];exact h.aX k (I6 x)
theorem WQ (h:ai w H wz (gT L)) (hx:L[k]? = some x):w.cell? ⟨H,k,none⟩=some (I6 x):=by
 rw[h.cell];unfold gT;simp[hx]
structure JH (w:World) (H B7 B8 n:Nat) (L:List Int) (lf:Int):Prop where
 h:ai w H wz (gT L)
 s:ai w B7 JG #[.slice (some ⟨H,0,none⟩) n n]
 f:ai w B8 wz #[I6 lf]
 len:L.length=n
 ne:H≠B7/\H≠B8/\B7≠B8
theorem JH.call (h:JH w H B7 B8 n L lf) (hb:Bl w w'):JH w' H B7 B8 n L lf:=⟨h.h.call hb,h.s.call hb,h.f.call hb,h.len,h.ne⟩
theorem JH.has (h:JH w H B7 B8 n L lf) (k:Nat) (x:Int):JH (w.setCell ⟨H,k,none⟩ (I6 x)) H B7 B8 n (L.set k x) lf:=
 ⟨ab3 h.h k x,h.s.far h.ne.1.symm _,h.f.far h.ne.2.1.symm _,by rw[aF2];exact h.len,h.ne⟩
theorem JH.left (h:JH w H B7 B8 n L lf) (x:Int):JH (w.setCell ⟨B8,0,none⟩ (I6 x)) H B7 B8 n L x:=
 ⟨h.h.far h.ne.2.1 _,h.s.far h.ne.2.2 _,h.f.aX 0 _,h.len,h.ne⟩
theorem JH.is (h:JH w H B7 B8 n L lf) (hn:n<=1000):ag w 1 MJ (some ⟨H,0,none⟩) n n L:=by
 have h1:=lS (l:=L) (cells:=MJ) (size:=1) (fun _=>rfl) h.h (by unfold gT;rw[Rz]) (by rw[h.len];unfold maxLen;omega);rw[h.len]at h1;exact h1
theorem ab4 (args:Array Value) (W:World):(callFunc 109 args).run prog W=.ok (.enter 109 args) W:=by rfl
theorem WR (H B7 B8 n k:Nat) (L:List Int) (lf x:Int) (w:World) (h:JH w H B7 B8 n L lf) (hx:L[k]? = some x) (b1:0<=x/\x<9223372036854775807) (b2:0<=lf/\lf<=4096) :
 Calls prog 109 #[I6 (k:Int),pt B7,pt B8] w fun e w'=>e=.returned (.tuple #[])/\JH w' H B7 B8 n (L.set k (x+1)) (lf-1)/\ah (fun j=>j=H\/j=B8) w w':=by
 have:=h.s.z 0 (.slice (some ⟨H,0,none⟩) n n);have hk:k<n:=oI (d9.1 hx).1 h.len
 have:(k:Int)<(n:Int):=oM
 have:=WQ h.h hx;have:=h.h.frozen k;have:=(h.has k (x+1)).f.z 0 (I6 lf);have:=(h.has k (x+1)).f.frozen 0;have HH:=(h.has k (x+1)).left (lf-1);have:wrap64 (x+1)=x+1:=IntWalk.wrap64_in _ oM;have:wrap64 (lf-1)=lf-1:=IntWalk.wrap64_in _ oM;have HU:=(((ah.refl (fun j=>j=H\/j=B8) w).setCell (p:=⟨H,k,none⟩) (.inl (.inl rfl)) (I6 (x+1))).setCell (p:=⟨B8,0,none⟩) (.inl (.inr rfl)) (I6 (lf-1)));clear h hx hk;go_enter func109,ntmps109;go_wp2;go_end0;exact⟨rfl,HH,HU⟩
def RD (l:List o9) (L:List Int):Prop:=∀(i:Nat) (x:o9) (h:Int),l[i]? = some x->L[i]? = some h->x.mn<=h/\h<=x.wa
theorem OD:∀{L:List Int} {k:Nat} {x:Int} (y:Int),L[k]? = some x->(L.set k y).sum=L.sum-x+y
 |[],_,_,_,h=>by simp at h
 |a::L,0,x,y,h=>by simp at h;subst h;simp;omega
 |a::L,k+1,x,y,h=>by
  have:=OD (L:=L) y (by simpa using h);simp[this];omega
theorem RD.give {l:List o9} (h:RD l L) {x:o9} {y:Int} (hx:l[k]? = some x) (hy:L[k]? = some y) (hl:y<x.wa):RD l (L.set k (y+1)):=fun i a b ha hb=>by
 rw[aG3]at hb
 split at hb
 ·rename_i e
  subst e;rw[hx]at ha;injection ha with ha
  subst ha
  split at hb
  ·injection hb with hb
   have:=h k x y hx hy;omega
  ·cases hb
 ·exact h i a b ha hb
def at7 (total:Int) (l:List o9) (w:World) (e:Ending) (w' : World):Prop:=
 (∃E:Int,E≠0/\e=.returned (.tuple #[.slice none 0 0,I6 E])/\Bl w w')\/
 ∃(A:Option Addr) (n:Nat) (L:List Int),e=.returned (.tuple #[.slice A n n,I6 0])/\ag w' 1 MJ A n n L/\L.length=l.length/\RD l L/\L.sum<=total/\(∀x∈l,0<=x.mn)/\Bl w w'
theorem RF (total:Int) (A:Option Addr) (n c:Nat) (l:List o9) (w:World) (hs:ag w 2 o9.cells A n c l) (hg:∀x∈l,x.good) (ht:aw total) :
 Calls prog 42 #[I6 total,.slice A n c] w (at7 total l w):=by
 have wN:=zD (Ry total A n c l w hs hg ht);have HS:=zD hs;have fJ:=zD (show l.length=n from hs.1);have HG:=zD hg;clear hs hg ht;go_enter func42,ntmps42;go_upto_region 2 with(go_at_call 108;refine wN.out.mono ?_;rintro e w1 ⟨E,rfl,hE,hb1⟩;have B1:=zD hb1;have H1:=zD hE;clear hb1 hE)
 by_cases hE:E=0
 ·subst hE
  have hW:=H1.out rfl;have HW:=zD hW;have:n<=64:=by have h1:=hW.len;have h2:=fJ.out;omega
  have:=hW.nT;have hmk:∀W:World,(Instr.makeSlice JG (I6 (n:Int)) (I6 (n:Int))).run prog W=.ok (.slice (some ⟨W.heap.size,0,none⟩) n n) (W.alloc (.cells (gT (List.replicate n 0)) wz)):=fun W=>by
   obtain⟨i0,hi0,hz0,hz1,hz2⟩:=info_parts ab2;have h9:=run_make (P:=prog) W JG wz i0 (I6 0) underlying107 hi0 hz0 .i64 .i64 n n oM (Int.le_refl _) (by rw[hz2];omega) oM;rw[hz1,Int.toNat_natCast,Nat.mul_one,show(I6 0).cells=#[I6 0]from rfl,WO]at h9;exact h9
  clear hW;go_upto_region 8 with fail
  obtain⟨W0,hW0⟩:=zE (((w1.alloc (.cells (gT (List.replicate n 0)) wz)).alloc (.cells #[.slice (some ⟨w1.heap.size,0,none⟩) n n] JG)).alloc (.cells #[I6 total] wz));rw[<-hW0];have S0:JH W0 w1.heap.size (w1.heap.size+1) (w1.heap.size+1+1) n (List.replicate n 0) total:=by
   rw[hW0];refine⟨((ai.new w1 _ _).alloc _).alloc _,(ai.dR w1 _ _ _).alloc _,?_,sI,oM⟩;have h9:=ai.dR (w1.alloc (.cells (gT (List.replicate n 0)) wz)) (.cells #[.slice (some ⟨w1.heap.size,0,none⟩) n n] JG) wz #[I6 total]
   simpa using h9
  have E0:=zD (show Bl w W0 from by rw[hW0];exact((B1.out.alloc B1.out.size _).alloc (aB4 B1.out.size sI) _).alloc (aB4 B1.out.size sM) _);have S0':=zD S0;obtain⟨B8,hB8⟩:=zE (w1.heap.size+1+1);obtain⟨B7,hB7⟩:=zE (w1.heap.size+1);obtain⟨H,hH⟩:=zE w1.heap.size;have HH:=zD (show w.heap.size<=H/\w.heap.size<=B8 from by have:=B1.out.size;omega);rw[<-hB8,<-hB7,<-hH]at S0' |-;clear hmk hW0 S0 hH wN H1 B1 hB7 hB8;go_loopw[26] (fun is wr=>∃(k:Nat) (L:List Int) (lf:Int),k<=n/\is = I6 (k:Int)/\JH wr H B7 B8 n L lf/\(∀i x,i<k->l[i]? = some x->L[i]? = some x.mn)/\lf=total-mr (l.take k)/\Bl w wr) (fun is _=>n-(intOf is).toNat)
  case atStart=>exact⟨0,List.replicate n 0,total,aB6 _,rfl,S0'.out,fun i x hi=>absurd hi (Nat.not_lt_zero _),by simp[mr],E0.out⟩
  case round=>
   obtain⟨k,L,lf,hk,rfl,hS,hL,hlf,hb⟩:=hrel;have AK:=zD hS;have HL:=zD hL;have HLf:=zD hlf;have HB:=zD hb;have hsm:0<=mr (l.take k)/\mr (l.take k)<=total:=by
    have h1:=wV (l:=l.take k) (fun x hx=>(HW.out.each x (aG4 hx)).1);have h2:=HW.out.sum;have:mr l=mr (l.take k)+mr (l.drop k):=by unfold mr;rw[<-List.sum_append,<-aE8,aD9]
    have:=wV (l:=l.drop k) (fun x hx=>(HW.out.each x (aI7 hx)).1);omega
   have hlb:0<=lf/\lf<=4096:=oM
   have Kt:=zD hlb;clear hS hL hlf hb hsm
   by_cases hlt:k<n
   ·obtain⟨b,off,x,rfl,hx,fH,hcl⟩:=ag.at_ (af HS.out HB.out) hlt
    have mC:=zD (show wr.rangeAt b (off+k*2) [I6 x.mn,I6 x.wa]from fun j v hv=>by have h9:=hcl j v hv;rw[<-aD0]at h9;exact h9);have HX:=zD hx;have hxe:=HW.out.each x (aB7 hx);have hxg:=HG.out x (aB7 hx);have:x.mn<=lf:=by
     have h1:=HLf.out;have h2:=HW.out.sum;have:mr l=mr (l.take (k+1))+mr (l.drop (k+1)):=by unfold mr;rw[<-List.sum_append,<-aE8,aD9]
     have:=wV (l:=l.drop (k+1)) (fun x hx=>(HW.out.each x (aI7 hx)).1);have h5:=uS hx;omega
    have:=zD hxe;have:(k:Int)<(n:Int):=oM
    have:wrap64 (lf-x.mn)=lf-x.mn:=IntWalk.wrap64_in _ oM;obtain⟨W1,hW1⟩:=zE (wr.alloc (.cells #[I6 x.mn,I6 x.wa] OC));have E1:=zD (show Bl wr W1 from by rw[hW1];exact(Below.refl _ wr).alloc lR _);have S1:=zD (AK.out.call E1.out);have X1:=zD (show ai W1 wr.heap.size OC #[I6 x.mn,I6 x.wa]from by rw[hW1];exact ai.new _ _ _);obtain⟨y,hy⟩:∃y,L[k]? = some y:=⟨L[k]'(by have:=AK.out.len;omega),aB3 _⟩
    have HY:=zD hy;clear hx fH hcl hxg hy hxe;go_upto_region 10 with(refine wpList_load_mid rfl OC (.tmp 29) rfl b (off+k*2) rfl [I6 x.mn,I6 x.wa] _ mC.out underlying106 rfl kZ ?_)
    rw[<-hW1];clear hW1;have s0:=S1.out.s.z 0 (.slice (some ⟨H,0,none⟩) n n);have:=X1.out.z 0 (I6 x.mn);have h0:=WQ S1.out.h HY.out;have hz:=S1.out.h.frozen k;go_upto_region 11 with fail
    obtain⟨W2,hW2⟩:=zE (W1.setCell ⟨H,k,none⟩ (I6 x.mn));rw[<-hW2];have S2:=zD (show JH W2 H B7 B8 n (L.set k x.mn) lf from by rw[hW2];exact S1.out.has k x.mn);have X2:ai W2 wr.heap.size OC #[I6 x.mn,I6 x.wa]:=by rw[hW2];exact X1.out.far (by have h1:=AK.out.h.lt;show wr.heap.size≠H;omega) _
    have E2:=zD (show Bl w W2 from by
     rw[hW2];exact(((ah.aa HB.out:ah (fun j=>j=H) w wr).call E1.out).setCell (p:=⟨H,k,none⟩) (.inl rfl) _).below (fun j e=>e ▸ HH.out.1) lR)
    have:=X2.z 0 (I6 x.mn);have f0:=S2.out.f.z 0 (I6 lf);have:=S2.out.f.frozen 0;have S3:=zD (S2.out.left (lf-x.mn));have E3:=zD (show Bl w (W2.setCell ⟨B8,0,none⟩ (I6 (lf-x.mn)))from
     ((ah.aa E2.out:ah (fun j=>j=B8) w W2).setCell (p:=⟨B8,0,none⟩) (.inl rfl) _).below (fun j e=>by have:=HH.out;omega) lR)
    clear hW2 X2 s0 h0 hz;go_wp2;go_roundw
    case rel=>
     refine⟨k+1,L.set k x.mn,lf-x.mn,oM,by go_num,S3.out,fun i z hi hz=>?_,by rw[uS HX.out];have:=HLf.out;omega,E3.out⟩;rw[aG3]
     split
     ·rename_i e
      subst e;rw[HX.out]at hz;injection hz with hz
      rw[if_pos (by have:=AK.out.len;omega),hz]
     ·exact HL.out i z oM hz
    case measure=>simp[intOf];omega
   ·have: ¬(k:Int)<(n:Int):=oM
    have DJ:k=n:=oM
    have hLm:L=l.map o9.mn:=by
     apply List.ext_getElem?;intro i;rw[List.getElem?_map];cases hx:l[i]? with
     |none=>rw[aF6 (by have h1:=List.getElem?_eq_none_iff.1 hx;have h2:=fJ.out;have:=AK.out.len;omega)];rfl
     |some x=>rw[HL.out i x (by have h1:=(d9.1 hx).1;have h2:=fJ.out;omega) hx];rfl
    have at8:RD l L:=fun i x h hx hh=>by
     rw[hLm,List.getElem?_map,hx]at hh;injection hh with hh
     subst hh;exact⟨Int.le_refl _,(HW.out.each x (aB7 hx)).2⟩
    have JI:L.sum=total-lf:=by
     have h1:=HLf.out;rw[aB5 (by have:=fJ.out;omega)]at h1;rw[hLm];unfold mr at h1;omega
    have HA:=zD (And.intro at8 JI);clear at8 JI hLm DJ;go_wp2;go_loopg[] lf.toNat (fun gk wr2=>∃(L:List Int) (lf:Int),gk=lf.toNat/\0<=lf/\lf<=4096/\JH wr2 H B7 B8 n L lf/\RD l L/\L.sum=total-lf/\Bl w wr2)
    case atStart=>exact⟨L,lf,rfl,Kt.out.1,Kt.out.2,AK.out,HA.out.1,HA.out.2,HB.out⟩
    case round=>
     obtain⟨L2,lf2,rfl,h1,h2,hS2,hA2,hs2,hb2⟩:=hrel;have ab5:=zD hS2;have Xm:=zD (And.intro hA2 hs2);have tG:=zD hb2;have f0:=hS2.f.z 0 (I6 lf2);have s0:=hS2.s.z 0 (.slice (some ⟨H,0,none⟩) n n);have hn9:n<=1000:=oM
     have HIs:=zD (hS2.is hn9);have YU:=zD (show ∀w',Bl wr w'->at7 total l w (.returned (.tuple #[.slice (some ⟨H,0,none⟩) n n,I6 0])) w' from fun w' e=>
      .inr ⟨some ⟨H,0,none⟩,n,L2,rfl,af HIs.out e,by have:=ab5.out.len;have:=fJ.out;omega,Xm.out.1,by have:=Xm.out.2;omega,fun x hx=>(HW.out.each x hx).1,zT tG.out e⟩)
     clear hS2 hA2 hs2 hb2
     by_cases hp:0<lf2
     ·have HNd:=zD (EP A n c l (some ⟨H,0,none⟩) n L2 wr (af HS.out tG.out) HIs.out (fun x hx=>by have:=HW.out.each x hx;exact⟨oM,(HG.out x hx).2⟩) (fun y hy=>by
       obtain⟨i,hi⟩:=aD1 hy;obtain⟨x,hx⟩:∃x,l[i]? = some x:=⟨l[i]'(by have:=(d9.1 hi).1;have:=ab5.out.len;have h5:=fJ.out;omega),aB3 _⟩
       have:=Xm.out.1 i x y hx hi;have:=HW.out.each x (aB7 hx);have h5:=(HG.out x (aB7 hx)).2;unfold aw at *;omega))
      have HGv:=zD (fun k x W (hb:Bl wr W) (hx:L2[k]? = some x) (b1:0<=x/\x<9223372036854775807)=>WR H B7 B8 n k L2 lf2 x W (ab5.out.call hb) hx b1 ⟨h1,h2⟩);have:=ab4;go_upto_region 15 with(go_at_call 110;refine HNd.out.mono ?_;rintro e w3 ⟨E,rfl,hE,hb3⟩;have B3:=zD hb3;have HE:=zD hE;clear hb3 hE)
      have S3:=ab5.out.call B3.out;have:=S3.s.z 0 (.slice (some ⟨H,0,none⟩) n n);clear f0 s0 S3;rcases HE.out with rfl|⟨k,x,y,rfl,hx,hy,hl⟩
      ·go_wp2
       go_ret2;exact YU.out _ B3.out
      ·have HXY:=zD (And.intro hx (And.intro hy hl))
       have hyb:0<=y/\y<9223372036854775807:=by
        have:=Xm.out.1 k x y hx hy;have:=HW.out.each x (aB7 hx);have h5:=(HG.out x (aB7 hx)).2;unfold aw at h5;omega
       have HYb:=zD hyb;clear hx hy hl hyb;have: ¬((k:Int)<0):=oM
       go_wp2_with fail;refine(HGv.out k y w3 B3.out HXY.out.2.1 HYb.out).mono ?_;rintro e w4 ⟨rfl,hs4,ki⟩;have S4:=zD hs4;have U4:=zD ki;clear hs4 ki;go_wp2;go_roundg(lf2-1).toNat
       case measure=>omega
       case rel=>exact⟨_,_,rfl,oM,oM,S4.out,Xm.out.1.give HXY.out.1 HXY.out.2.1 HXY.out.2.2,by rw[OD _ HXY.out.2.1,Xm.out.2];omega,(((ah.aa tG.out:ah (fun j=>j=H\/j=B8) w wr).call B3.out).trans U4.out iL).below (fun j e=>by have:=HH.out;omega) lR⟩
     ·go_wp2
      go_ret2;exact YU.out _ bR
 ·have:(E != 0)=true:=by simpa using hE
  go_wp2;go_ret2;exact .inl ⟨E,hE,rfl,B1.out⟩
end Go.Proofs.YtjgmjohiehbgaaaGreat
