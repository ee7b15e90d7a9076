/- Part 10. -/
import Derived.Test.YtjgmjohiehbgaaaGreatQ8
import Derived.Test.YtjgmjohiehbgaaaGreatQ9
import Derived.StillTailTactics
namespace Go.Proofs.YtjgmjohiehbgaaaGreat
open Go.RowKit Go.Proofs.Tryz
set_option maxHeartbeats 20000000
set_option maxRecDepth 100000
set_option linter.all false
variable{F:Nat->Prop}{b g i k n:Nat}{c:bh}{f:Key->Option Value}{fr:Bool}{l:List aD}{p:dI}{past:List aU}{t:Int}{w w':World}{x:aD}{α β:Type}
section
open Go.RowKit Go.Maps
abbrev zx:TypeId:=211
def fu:prog.underlying zx=some (.map aS 158):=underlying211
def mP(w:World):(zeroValue 158).run prog w=.ok (.pointer none) w:=kZ
def aJ{β:Type}(l:List (Key×β))(k:Key):Option β:=(l.find? λy=>decide (y.1=k)).map Prod.snd
def rX{β:Type}(l:List (Key×β))(k:Key)(x:β):List (Key×β):=if k∈l.map Prod.fst then l.map λy=>if y.1=k then(k,x)else y else l++[(k,x)]
def lY(l:List (Key×β))(k:Key)(x:β):(rX l k x).map Prod.fst=cE (l.map Prod.fst) k:=by
 unfold rX cE
 split
 ·rw[List.map_map]
  refine List.map_congr_left λy _=>?_
  simp only[Function.comp]
  split
  ·rename_i e;exact e.symm
  ·rfl
 ·simp
def jV{l:List (Key×β)}{k:Key}: aJ l k=none↔k ∉ l.map Prod.fst:=by
 unfold aJ;simp[aW2]
 constructor
 ·intro h x hx;exact h k x hx rfl
 ·intro h a b hab e;subst e;exact h b hab
def tW{l:List (Key×β)}{k:Key}{x:β}(h:aJ l k=some x):(k,x)∈l:=by
 unfold aJ at h;obtain⟨y,hy,rfl⟩:=aS3.1 h;have h1:=List.find?_some hy;have h2:=List.mem_of_find?_eq_some hy;have:y.1=k:=of_decide_eq_true h1;rw[<-this];exact h2
theorem lZ(l:List (Key×β))(k:Key)(x:β)(j:Key):aJ (rX l k x) j=if j=k then some x else aJ l j:=by
 unfold rX
 split
 ·rename_i hm
  by_cases e:j=k
  ·subst e
   rw[if_pos rfl]
   induction l with
   |nil=>simp at hm
   |cons y l ih=>
    unfold aJ at ih |-;simp only[aH1,aT5]
    by_cases e:y.1=j
    ·simp[e]
    ·simp[e]
     simp[e]at hm;have:=ih (by simpa[Ne.symm e]using hm)
     simpa using this
  ·rw[if_neg e]
   clear hm;unfold aJ
   induction l with
   |nil=>rfl
   |cons y l ih=>
    simp only[aH1,aT5]
    by_cases e2:y.1=k
    ·simp only[if_pos e2]
     have h3:¬y.1=j:=λh=>e (by rw[<-h,e2])
     have h4:¬k=j:=λh=>e h.symm
     simpa[h3,h4]using ih
    ·simp only[if_neg e2]
     by_cases e3:y.1=j
     ·simp[e3]
     ·simpa[e3]using ih
 ·rename_i hm
  unfold aJ;rw[List.find?_append]
  by_cases e:j=k
  ·subst e
   rw[if_pos rfl];have:l.find? (λy=>decide (y.1=j))=none:=by
    have:=(jV (l:=l) (k:=j)).2 hm;unfold aJ at this
    simpa using this
   rw[this];simp
  ·rw[if_neg e]
   have h4:¬k=j:=λh=>e h.symm
   cases h5:l.find? (λy=>decide (y.1=j))<;>simp[h4]
structure bF where
 cfg:aM
 loads:List (Key×Ld)
 fK:Int
abbrev bF.keys(s:bF):List Key:=s.loads.map Prod.fst
def bF.put(s:bF)(k:Key)(x:Ld):bF:=⟨s.cfg,rX s.loads k x,s.fK+1⟩
abbrev spT:TypeId:=213
abbrev aw4(b:Nat)(s:bF):Array Value:=#[.map (some b),I6 s.cfg.str,I6 s.cfg.dE,I6 s.cfg.lW,I6 s.cfg.iI,I6 s.fK]
def rY(i:Nat)(k:Key)(fr:Bool):Tag:=if fr then .nS else .nd i k
def jx(i:Nat)(t:Tag):Prop:=t=.st i\/∃k,t=.nd i k
def bS(i:Nat):¬jx i .nS:=by rintro(h|⟨k,h⟩)<;>cases h
structure dU(w:World)(c:bh)(i g b:Nat)(f:Key->Option Value)(s:bF)(ex:Key->Prop):Prop where
 blk:ai w g spT (aw4 b s)
 map:bP ll w b f s.keys
 ne:b≠g
 cg:c g=some (.st i)
 cb:c b=some (.st i)
 wH:∀k x,¬ex k->aJ s.loads k=some x->∃p F fr,f k=some (.pointer p)/\aR w p F s.cfg x fr/\∀j,F j->c j=some (rY i k fr)
def dN(w:World)(c:bh)(i g:Nat)(s:bF):Prop:=∃b f,dU w c i g b f s (λ_=>False)
section
variable{T:Tag->Prop}{w w' : World}{c c' : bh}{i g b:Nat}{f:Key->Option Value}{s:bF}{ex ex' : Key->Prop}
def dU.step(h:dU w c i g b f s ex)(hs:ae T w w' c c')(h1:¬T (.st i))(h2:¬T .nS)(h3:∀k,T (.nd i k)->ex' k)(h4:∀k,ex k->ex' k):dU w' c' i g b f s ex':=
 ⟨hs.blk h.blk h.cg h1,hs.aw0 h.map h.cb h1,h.ne,hs.keep h.blk.lt h.cg h1,hs.keep h.map.lt h.cb h1,λk x hk hx=>by
  obtain⟨p,F,fr,e1,e2,e3⟩:=h.wH k x (λe=>hk (h4 k e)) hx;have ht:¬T (rY i k fr):=by
   unfold rY;cases fr
   ·exact λe=>hk (h3 k e)
   ·exact h2
  obtain⟨k1,k2⟩:=hs.node e2 e3 ht;exact⟨p,F,fr,e1,k1,k2⟩⟩
def dN.step(h:dN w c i g s)(hs:ae T w w' c c')(h1:∀t,T t->¬jx i t)(h2:¬T .nS):dN w' c' i g s:=by
 obtain⟨b,f,h⟩:=h;exact⟨b,f,h.step hs (λe=>h1 _ e (.inl rfl)) h2 (λk e=>h1 _ e (.inr ⟨k,rfl⟩)) (λ_ e=>e)⟩
def dU.call(h:dU w c i g b f s ex)(hb:Bl w w'):dU w' c i g b f s ex:=
 ⟨h.blk.call hb,h.map.call hb,h.ne,h.cg,h.cb,λk x hk hx=>by
  obtain⟨p,F,fr,e1,e2,e3⟩:=h.wH k x hk hx;exact⟨p,F,fr,e1,e2.call hb,e3⟩⟩
def dN.call(h:dN w c i g s)(hb:Bl w w'):dN w' c i g s:=by
 obtain⟨b,f,h⟩:=h;exact⟨b,f,h.call hb⟩
def dU.drewN(h:dU w c i g b f s ex)(n:Nat):dU (w.drewN n) c i g b f s ex:=h.call (below_drewN bR n)
def dU.look(h:dU w c i g b f s ex){k:Key}(hk:k.good):(Instr.lookup zx (.map (some b)) (.agg k.row) false).run prog w=.ok ((f k).getD (.pointer none)) w:=h.map.look (E:=ll) fu (mP w) hk
def dU.Ku(h:dU w c i g b f s ex){k:Key}(hk:k.good):(Instr.lookup zx (.map (some b)) (.agg k.row) true).run prog w=.ok (.tuple #[(f k).getD (.pointer none),.bool (f k).isSome]) w:=h.map.look_ok (E:=ll) fu (mP w) hk
theorem dU.GA(h:dU w c i g b f s ex){k:Key}(hn:aJ s.loads k=none):f k=none:=by
 cases e:f k with
 |none=>rfl
 |some v=>exact absurd ((h.map.mem k).2 (by rw[e];rfl)) (jV.1 hn)
def dU.good(h:dU w c i g b f s ex):∀k∈s.keys,k.good:=h.map.good
end
def Kv(b:Nat) :
 (∀(W:World)(op:BinOp)(o1 o2:Operand),(eqGuard op zx o1 o2 (.map (some b)) (.map none)).run prog W=.ok () W)/\
 (∀W:World,(binOp .neq zx (.map (some b)) (.map none)).run prog W=.ok (.bool true) W):=by
 refine⟨λW op o1 o2=>?_,λW=>?_⟩
 ·simp[eqGuard,run_underlying fu]
 ·kernel_rfl
theorem kM{c:bh}{i g b:Nat}{f:Key->Option Value}{s:bF}{ex:Key->Prop}(w:World)(h:dU w c i g b f s ex):Calls prog 135 #[pt g] w λe w'=>e=.returned (.bool true)/\w=w':=by
 have:=h.blk.z 0 (.map (some b));obtain⟨q1,q2⟩:=Kv b;clear h;go_enter func135,ntmps135;go_wp2;go_ret;exact⟨rfl,rfl⟩
theorem mQ{c:bh}{i g b:Nat}{f:Key->Option Value}{s:bF}{ex:Key->Prop}(k:Key)(w:World)(h:dU w c i g b f s ex)(hk:k.good):Calls prog 83 #[pt g,.agg k.row] w (Rt ((f k).getD (.pointer none)) (Bl w)):=by
 have EX:=zW w (.cells k.row aS);have H0:=h.call EX;have:=H0.blk.z 0 (.map (some b));have: ∀n,(Instr.lookup zx (.map (some b)) (.agg k.row) false).run prog ((w.alloc (.cells k.row aS)).drewN n)=.ok ((f k).getD (.pointer none)) ((w.alloc (.cells k.row aS)).drewN n):=λn=>(H0.drewN n).look hk
 have:=(ai.new w aS k.row).z 0 (V6 k.hi);have:=(ai.new w aS k.row).z 1 (V6 k.lo);have HM:=kM _ H0;have EX':=EX;clear h H0 EX;generalize(f k).getD (.pointer none)=V at *;go_enter func83,ntmps83;go_wp2_with(go_at_call 135;refine HM.mono ?_;rintro e w1 ⟨rfl,rfl⟩);go_quiet(fail);go_wp2;go_ret;exact⟨rfl,below_drewN EX' _⟩
def ae.same{S:Nat->Prop}{T:Tag->Prop}{w w' : World}{c:bh}(hu:ah S w w')(hS:∀k,S k->∃t,c k=some t/\T t)(hc:∀k,w.heap.size<=k->c k=none):ae T w w' c c:=
 ⟨hu.mono hS,λ_ _ _=>rfl,(ae.refl T w c hc).new,λk hk=>hc k (aB4 hu.size hk)⟩
def ah.bE{w w' : World}{b:Nat}(hg:w.grownBy w' (some b)):ah (λk=>k=b) w w':=⟨hg.os,hg.tape,hg.output,hg.size,λk hk hn=>hg.block k hk (λe=>hn (by injection e))⟩
def ao1(c:bh)(i g b:Nat)(f:Key->Option Value)(s:bF)(k:Key)(p:Option Addr)(x:Ld)(w:World)(e:Ending)(w' : World):Prop:=e=.returned (.tuple #[])/\dU w' c i g b (lg f k (.pointer p)) (s.put k x) (λ_=>False)/\ae (jx i) w w' c c
def dU.put{w w1:World}{c:bh}{i g b:Nat}{f:Key->Option Value}{s:bF}{k:Key}{p:Option Addr}{x:Ld}(h:dU w c i g b f s (λj=>j=k))(hn:aR w p F s.cfg x fr)(hF:∀j,F j->c j=some (rY i k fr))(hm:bP ll w1 b (lg f k (.pointer p)) (cE s.keys k))(hg:w.grownBy w1 (some b))(hc:∀k,w.heap.size<=k->c k=none):
 dU (w1.setCell ⟨g,5,none⟩ (I6 (s.fK+1))) c i g b (lg f k (.pointer p)) (s.put k x) (λ_=>False)/\ae (jx i) w (w1.setCell ⟨g,5,none⟩ (I6 (s.fK+1))) c c:=by
 have hu:ah (λj=>j=b\/j=g) w (w1.setCell ⟨g,5,none⟩ (I6 (s.fK+1))):=((ah.bE hg).mono iL).setCell (.inl (.inr rfl)) _;have hS:∀j,(j=b\/j=g)->∃t,c j=some t/\jx i t:=by
  rintro j (rfl|rfl)
  ·exact⟨_,h.cb,.inl rfl⟩
  ·exact⟨_,h.cg,.inl rfl⟩
 have nst:∀j k' Ae,c j=some (rY i k' Ae)->¬(j=b\/j=g):=by
  rintro j k' Ae e (rfl|rfl)
  ·rw[h.cb]at e;cases Ae<;>cases e
  ·rw[h.cg]at e;cases Ae<;>cases e
 refine⟨⟨((h.blk.grown hg (λe=>h.ne (by injection e with e;exact e.symm))).aX 5 _),?_,h.ne,h.cg,h.cb,λk' y _ hy=>?_⟩,ae.same hu hS hc⟩
 ·exact(hm.far (p:=⟨g,5,none⟩) h.ne _).tI rfl (lY _ _ _).symm
 ·change aJ (rX s.loads k x) k' = some y at hy
  rw[lZ]at hy
  by_cases e:k' = k
  ·subst e
   rw[if_pos rfl]at hy;injection hy with hy
   subst hy;exact⟨p,F,fr,by unfold lg;rw[if_pos rfl],hn.upd hu (λj hj=>nst j _ _ (hF j hj)),hF⟩
  ·rw[if_neg e]at hy
   obtain⟨p',F',Ae,e1,e2,e3⟩:=h.wH k' y e hy;exact⟨p',F',Ae,by unfold lg;rw[if_neg e];exact e1,e2.upd hu (λj hj=>nst j _ _ (e3 j hj)),e3⟩
theorem kN{c:bh}{i g b:Nat}{f:Key->Option Value}{s:bF}(k:Key)(p:Option Addr)(F:Nat->Prop)(x:Ld)(fr:Bool)(w:World)(h:dU w c i g b f s (λj=>j=k))(hk:k.good)(hn:aR w p F s.cfg x fr)(hF:∀j,F j->c j=some (rY i k fr))
 (hc:∀k,w.heap.size<=k->c k=none) (hv:0<=s.fK/\s.fK<=100000) (hl:s.keys.length<=100000) :
 Calls prog 138 #[pt g,.agg k.row,.pointer p] w (ao1 c i g b f s k p x w):=by
 have EX:=zW w (.cells k.row aS);have CX:=ae.aa (jx i) c hc EX;have H0:=h.call EX;have N0:=hn.call EX;have BX:=ai.new w aS k.row;have HK:=hk;have HF:=hF;have fJ:s.keys.length<maxLen:=by unfold maxLen;omega
 have:=hv.1;have:=hv.2;have HC:=(λj (hj:(w.alloc (.cells k.row aS)).heap.size<=j)=>hc j (by simp at hj;omega));clear h hn hk hF EX hl hv hc;go_enter func138,ntmps138;go_upto_region 1 with fail
 generalize w.alloc (.cells k.row aS)=W1 at *;generalize w.heap.size=gx at *;refine zr (λj=>[6].contains j) (λwS=>Bl W1 wS) ?_;have S0:=(Below.refl W1.heap.size W1).drew;refine zk 2 [0,1,2,3,4] [_,_,_,.map (some b),_] (.q zX<|.q zX<|.q zX<|.q (zS λ_ h=>(H0.blk.call h).z 0 (.map (some b)))<|.c rfl rfl (zl λ_ h=>zb (BX.call h) underlying83) .nil) S0 ?_;refine zq 1 [5] [_] S0 ?_;refine aq _ _ _ _ kZ ?_;refine zO 6 (λQ2 aI=>?_);go_wp2_with(refine df ll _ rfl _ _ _ zx rfl 158 fu b f s.keys rfl (H0.call (S0)).map fJ k rfl HK (.pointer p) rfl ?_;intro w5 Ay iK);(try refine aI _ _ ?_);(try clear aI Q2)
 refine wpAny_done kZ ?_ _;have HX:=(H0.call S0).put (N0.call S0) HF Ay iK (λj hj=>HC j (aB4 S0.size hj));have HX2:=HX;have:=((H0.call S0).blk.grown iK (λe=>H0.ne (by injection e with e;exact e.symm))).z 5 (I6 s.fK);have:=((H0.call S0).blk.grown iK (λe=>H0.ne (by injection e with e;exact e.symm))).frozen 5;have CS:=CX.trans (ae.aa (jx i) c HC S0) (bS i);clear HX Ay iK S0 H0 N0 CX BX;go_wp2;go_end0;exact⟨rfl,HX2.1,CS.trans HX2.2 (bS i)⟩
end
section
open Go.RowKit Go.Maps
def oC.GC{p' : Option Addr}{F': Nat->Prop}{k:Key}{cf:aM}{y:Ld}(h:oC F fr w w' F')(hn:aR w' p' F' cf y false)(hF:∀j,F j->c j=some (rY i k fr))(hc:∀k,w.heap.size<=k->c k=none):
 (∀j,F' j->ft F' (.nd i k) c j=some (rY i k false))/\ae (λt=>t=.nd i k) w w' c (ft F' (.nd i k) c):=by
 refine⟨λj hj=>bw hj,?_⟩;cases fr
 ·exact ae.one (T:=λt=>t=.nd i k) (t:=.nd i k) h.1 hF rfl F' (λj hj=>(h.2.1 j hj).imp (hF j) id) hn.lt hc
 ·obtain⟨h1,h2⟩:=h.2.2 rfl
  exact ae.one (T:=λt=>t=.nd i k) (t:=.nd i k) (S:=λ_=>False) (ah.aa h1) (λ_ h=>h.elim) rfl F' (λj hj=>.inr (h2 j hj)) hn.lt hc
def Pu.GC{p p' : Option Addr}{k:Key}{cf:aM}{x y:Ld}(h:Pu p F cf x fr y w p' w')(hF:∀j,F j->c j=some (rY i k fr))(hc:∀k,w.heap.size<=k->c k=none):
 ∃F' Ae c',aR w' p' F' cf y Ae/\(∀j,F' j->c' j=some (rY i k Ae))/\ae (λt=>t=.nd i k) w w' c c':=by
 rcases h with⟨F',h1,h2,-⟩|⟨rfl,rfl,h1,h2⟩
 ·obtain⟨k1,k2⟩:=h2.GC h1 hF hc
  exact⟨F',false,_,h1,k1,k2⟩
 ·exact⟨F,fr,c,h1,hF,ae.aa _ c hc h2⟩
def gH(s:bF)(k:Key):Option Ld:=match aJ s.loads k with
 |some x=>some x
 |none=>if s.cfg.lW<=(s.loads.length:Nat)then none else some Ff
def Tn(c:bh)(i g b:Nat)(f:Key->Option Value)(s:bF)(k:Key)(x:Ld)(w:World)(e:Ending)(w' : World):Prop:=
 ∃p F fr c',e=.returned (.tuple #[.pointer p,I6 0])/\aR w' p F s.cfg x fr/\(∀j,F j->c' j=some (rY i k fr))/\dU w' c' i g b f s (λj=>j=k)/\ae (jx i) w w' c c'
theorem xU{s:bF}(k:Key)(x:Ld)(w:World)(h:dU w c i g b f s (λ_=>False))(hk:k.good)(hc:∀k,w.heap.size<=k->c k=none)(hx:aJ s.loads k=some x):
 Calls prog 136 #[pt g,.agg k.row] w (Tn c i g b f s k x w):=by
 have EX:=zW w (.cells k.row aS);have H0:=h.call EX;obtain⟨p,F,fr,e1,e2,e3⟩:=h.wH k x (λe=>e) hx;have c0:=H0.blk.z 0 (.map (some b));have hl:∀n,(Instr.lookup zx (.map (some b)) (.agg k.row) true).run prog ((w.alloc (.cells k.row aS)).drewN n)=.ok (.tuple #[.pointer p,.bool true]) ((w.alloc (.cells k.row aS)).drewN n):=λn=>by
  have:=(H0.drewN n).Ku hk;rw[e1]at this;exact this
 have:=(ai.new w aS k.row).z 0 (V6 k.hi);have:=(ai.new w aS k.row).z 1 (V6 k.lo);have R:=(λn=>(show aR ((w.alloc (.cells k.row aS)).drewN n) p F s.cfg x fr/\(∀j,F j->c j=some (rY i k fr))/\dU ((w.alloc (.cells k.row aS)).drewN n) c i g b f s (λj=>j=k)/\ae (jx i) w ((w.alloc (.cells k.row aS)).drewN n) c c from
  have hb:=below_drewN EX n
  ⟨e2.call hb,e3,(h.step (ae.aa (λ_=>False) c hc hb) (λe=>e) (λe=>e) (λ_ e=>e.elim) (λ_ e=>e.elim)),ae.aa _ c hc hb⟩))
 clear h H0 EX e1 e2 e3 hx hc;go_enter func136,ntmps136;go_wp2;go_quiet(fail);go_wp2;go_ret2;exact⟨_,_,_,_,rfl,R _⟩
theorem vQ{s:bF}(k:Key)(w:World)(h:dU w c i g b f s (λ_=>False))(hk:k.good)(hc:∀k,w.heap.size<=k->c k=none)(hx:aJ s.loads k=none)(hl:¬s.cfg.lW<=(s.loads.length:Nat))(hf:s.cfg.fit)(a8:s.cfg.gV):
 Calls prog 136 #[pt g,.agg k.row] w (Tn c i g b f s k Ff w):=by
 have EX:=zW w (.cells k.row aS);have HX:=EX;have H0:=h.call EX;have HH:=h;have H1:=H0;have HC:=hc;have c0:=H0.blk.z 0 (.map (some b));have hl0:∀n,(Instr.lookup zx (.map (some b)) (.agg k.row) true).run prog ((w.alloc (.cells k.row aS)).drewN n)=.ok (.tuple #[.pointer none,.bool false]) ((w.alloc (.cells k.row aS)).drewN n):=λn=>by
  have:=(H0.drewN n).Ku hk;rw[(h.GA hx)]at this;exact this
 have b0:=(ai.new w aS k.row).z 0 (V6 k.hi);have b1:=(ai.new w aS k.row).z 1 (V6 k.lo);have HN:=(λW=>Gq s.cfg W hf a8);have:decide (s.cfg.lW<=(s.loads.length:Nat))=false:=sH hl
 clear h H0 EX hx hc hl;go_enter func136,ntmps136;go_wp2;go_quiet(fail);have EX2:=below_drewN HX nq;have H2:=H1.drewN nq;clear c0 hl0 b0 b1 H1 HX;obtain⟨W1,hW1⟩:∃W1,(w.alloc (.cells k.row aS)).drewN nq=W1:=⟨_,rfl⟩
 rw[hW1]at EX2 H2 |-;clear hW1;obtain⟨gx,hgx⟩:=zE w.heap.size;rw[<-hgx];clear hgx;go_upto_region 4 with fail
 refine zB λS0=>?_
 refine zk 7 [0,1,2,3,5] [_,_,_,.map (some b),_] (.q zX<|.q zX<|.q zX<|.q (zS λ_ h=>(H2.blk.call h).z 0 (.map (some b)))<|.e) S0 ?_;refine zk 3 [6,7,8,9] [_,_,_,I6 s.cfg.lW] (.q zX<|.q zX<|.q zX<|.q (zS λ_ h=>(H2.blk.call h).z 3 (I6 s.cfg.lW)) .nil) S0 ?_;refine zQ 4 ?_;go_wp2_with(refine nw ll _ rfl _ zx rfl 158 fu b f s.keys rfl (H2.call (S0)).map ?_);refine .i S0 ?_;refine zq 0 [10,11] [.bool false,.bool false] S0 ?_;refine zd ?_;have EX3:=zT EX2 S0;have H3:=H2.call S0;have:=H3.blk.z 1 (I6 s.cfg.str);have:=H3.blk.z 2 (I6 s.cfg.dE);have:=H3.blk.z 3 (I6 s.cfg.lW);have:=H3.blk.z 4 (I6 s.cfg.iI);clear H2 EX2 S0;go_wp2_with(go_at_call 146;refine(HN _).mono ?_;rintro e w6 ⟨p,F,rfl,P6,F6,B6⟩);go_ret2;have hc:∀j,w.heap.size<=j->c j=none:=λj hj=>HC j oM
 have ey:∀j,F j->w.heap.size<=j:=λj hj=>by have h1:=F6 j hj;have h3:=EX3.size;simp at h1 h3;omega
 have hs:=ae.one (T:=λt=>t=.nd i k) (t:=.nd i k) (S:=λ_=>False) (ah.aa (Below.trans (EX3) (B6.mono EX3.size))) (λ_ h=>h.elim) rfl F (λj hj=>.inr (ey j hj)) P6.lt hc;exact⟨p,F,false,_,rfl,P6,λj hj=>bw hj,HH.step hs (λe=>by cases e) (λe=>by cases e) (λj e=>by injection e) (λ_ e=>e.elim),hs.mono (λt e=>.inr ⟨k,e⟩)⟩
theorem vg{s:bF}(k:Key)(x:Ld)(w:World)(h:dU w c i g b f s (λ_=>False))(hk:k.good)(hc:∀k,w.heap.size<=k->c k=none)(hf:s.cfg.fit)(a8:s.cfg.gV)(hx:gH s k=some x):
 Calls prog 136 #[pt g,.agg k.row] w (Tn c i g b f s k x w):=by
 unfold gH at hx;cases h1:aJ s.loads k with
 |some y=>rw[h1]at hx;injection hx with hx;subst hx;exact xU k y w h hk hc h1
 |none=>
  rw[h1]at hx;simp only at hx
  by_cases h2:s.cfg.lW<=(s.loads.length:Nat)
  ·rw[if_pos h2]at hx;cases hx
  ·rw[if_neg h2]at hx;injection hx with hx;subst hx;exact vQ k w h hk hc h1 h2 hf a8
theorem l6{s:bF}(k:Key)(w:World)(h:dU w c i g b f s (λ_=>False))(hk:k.good)(hq:gH s k=none):
 Calls prog 136 #[pt g,.agg k.row] w ((Rt (.tuple #[.pointer none,I6 6]) (Bl w))):=by
 have hx:aJ s.loads k=none:=by
  unfold gH at hq;cases h1:aJ s.loads k with
  |some y=>rw[h1]at hq;cases hq
  |none=>rfl
 have hl:s.cfg.lW<=(s.loads.length:Nat):=by
  unfold gH at hq;rw[hx]at hq;simp only at hq
  by_cases h2:s.cfg.lW<=(s.loads.length:Nat)
  ·exact h2
  ·rw[if_neg h2]at hq;cases hq
 have EX:=zW w (.cells k.row aS);have HX:=EX;have H0:=h.call EX;have H1:=H0;have c0:=H0.blk.z 0 (.map (some b));have hl0:∀n,(Instr.lookup zx (.map (some b)) (.agg k.row) true).run prog ((w.alloc (.cells k.row aS)).drewN n)=.ok (.tuple #[.pointer none,.bool false]) ((w.alloc (.cells k.row aS)).drewN n):=λn=>by
  have:=(H0.drewN n).Ku hk;rw[(h.GA hx)]at this;exact this
 have b0:=(ai.new w aS k.row).z 0 (V6 k.hi);have b1:=(ai.new w aS k.row).z 1 (V6 k.lo);have:decide (s.cfg.lW<=(s.loads.length:Nat))=true:=sH hl
 clear h H0 EX hx hq hl;go_enter func136,ntmps136;go_wp2;go_quiet(fail);have EX2:=below_drewN HX nq;have H2:=H1.drewN nq;clear c0 hl0 b0 b1 H1 HX;obtain⟨W1,hW1⟩:∃W1,(w.alloc (.cells k.row aS)).drewN nq=W1:=⟨_,rfl⟩
 rw[hW1]at EX2 H2 |-;clear hW1;obtain⟨gx,hgx⟩:=zE w.heap.size;rw[<-hgx];clear hgx;go_upto_region 4 with fail
 refine zB λS0=>?_
 refine zk 7 [0,1,2,3,5] [_,_,_,.map (some b),_] (.q zX<|.q zX<|.q zX<|.q (zS λ_ h=>(H2.blk.call h).z 0 (.map (some b)))<|.e) S0 ?_;refine zk 3 [6,7,8,9] [_,_,_,I6 s.cfg.lW] (.q zX<|.q zX<|.q zX<|.q (zS λ_ h=>(H2.blk.call h).z 3 (I6 s.cfg.lW)) .nil) S0 ?_;refine zQ 4 ?_;go_wp2_with(refine nw ll _ rfl _ zx rfl 158 fu b f s.keys rfl (H2.call (S0)).map ?_);refine .i S0 ?_;refine zq 0 [10,11] [.bool true,.bool true] S0 ?_;refine zd ?_;go_wp2;go_ret2;exact⟨rfl,(zT EX2 S0)⟩
end
section
open Go.RowKit Go.Maps
structure fL(s:bF)(n:Nat):Prop where
 fit:s.cfg.fit
 py:s.cfg.gV
 v0:0<=s.fK
 v1:s.fK<=n
 len:s.loads.length<=n
 wH:∀k x,aJ s.loads k=some x->lD s.cfg x n
def bF.eD(s:bF)(k:Key)(t v:Int):Int×bF:=if bU t v=0 then(match gH s k with
 |some x=>(0,s.put k (Dj s.cfg x t v))
 |none=>(6,s))else(bU t v,s)
def bF.note(s:bF)(k:Key)(a:aU):Int×bF:=match aJ s.loads k with
 |some x=>(0,s.put k (xS s.cfg x a))
 |none=>(5,s)
def af8(c:bh)(i g:Nat)(R:Int×bF)(w:World)(e:Ending)(w' : World):Prop:=∃c',e=.returned (I6 R.1)/\dN w' c' i g R.2/\ae (jx i) w w' c c'
theorem rZ{s:bF}(h:fL s n){k:Key}{x:Ld}(hx:gH s k=some x):lD s.cfg x n:=by
 unfold gH at hx;cases h1:aJ s.loads k with
 |some y=>rw[h1]at hx;injection hx with hx;subst hx;exact h.wH k y h1
 |none=>
  rw[h1]at hx;simp only at hx
  split at hx
  ·cases hx
  ·injection hx with hx;subst hx;exact(an5 s.cfg).mono (aB6 _)
def lD.fK{c:aM}{x:Ld}(h:lD c x n)(hn:n<=100000):0<=x.fK/\x.fK<=100000:=⟨h.v0,oH h.v1⟩
theorem AA{s:bF}(k:Key)(t v:Int)(w:World)(h:dN w c i g s)(hk:k.good)(hc:∀k,w.heap.size<=k->c k=none)(ho:fL s n)(hn:n<=100000):
 Calls prog 69 #[pt g,.agg k.row,I6 t,I6 v] w (af8 c i g (s.eD k t v) w):=by
 obtain⟨b,f,h⟩:=h;have EX:=zW w (.cells k.row aS);have CX:=ae.aa (jx i) c hc EX;have HA:dN (w.alloc (.cells k.row aS)) c i g s:=⟨b,f,h.call EX⟩;have BX:=ai.new w aS k.row;have mL:∀t,c w.heap.size≠some t:=λt e=>by rw[hc _ lR]at e;cases e
 have HM:=kM _ (h.call EX);have RQ:=(λW=>dA t v W);unfold bF.eD
 by_cases h1:bU t v=0
 ·rw[if_pos h1]
  rw[h1]at RQ;have HE:=h1;cases hq:gH s k with
  |none=>
   have HR:=l6 k _ (h.call EX) hk hq;clear h EX hc hq h1;go_enter func69,ntmps69;go_wp2_with(first
    |go_at_call 78;refine zN (RQ _) ?_
    |go_at_call 135;refine HM.mono ?_;rintro e w1 ⟨rfl,rfl⟩
    |refine zI BX underlying83 ?_
    |(go_at_call 136;refine HR.mono ?_;rintro e w3 ⟨rfl,B3⟩))
   go_ret;exact⟨c,rfl,HA.call B3,CX.trans (ae.aa _ c CX.fresh B3) (bS i)⟩
  |some x=>
   have HR:=vg k x _ (h.call EX) hk CX.fresh ho.fit ho.py hq;have HV:=(rZ ho hq).fK hn;have HO:=ho;have HK:=hk;have tB:=hn;clear h EX hc hq h1 ho hk hn;go_enter func69,ntmps69;go_wp2_with(first
    |go_at_call 78;refine zN (RQ _) ?_
    |go_at_call 135;refine HM.mono ?_;rintro e w1 ⟨rfl,rfl⟩
    |refine zI BX underlying83 ?_
    |go_at_call 136;refine HR.mono ?_;rintro e w3 ⟨p,F,fr,c3,rfl,P3,F3,S3,T3⟩;have Ni:=BX.upd T3.upd (λ⟨t,e,_⟩=>mL t e)
    |go_at_call 137;refine(Te p F s.cfg x fr t v _ P3 HO.py HV).mono ?_;rintro e w4 ⟨p4,rfl,hr⟩;rw[HE];obtain⟨F4,fr4,c4,P4,k2,k3⟩:=hr.GC F3 T3.fresh;have F4':=k2;have T4:=k3.mono (T2:=jx i) (λt e=>.inr ⟨k,e⟩);have S4:=S3.step (ex':=λj=>j=k) k3 (λe=>by cases e) (λe=>by cases e) (λj e=>by injection e) (λ_ e=>e);have hgx:=T3.old _ sI (λt e _=>mL t e);have tC:=Ni.upd k3.upd (λ⟨t,e,_⟩=>mL t (hgx▸e));clear hr k2 k3 hgx
    |refine zI tC underlying83 ?_
    |(go_at_call 138;refine(kN k p4 F4 (Dj s.cfg x t v) fr4 _ S4 HK P4 F4' T4.fresh ⟨HO.v0,(by have h1:=HO.v1;have:=tB;omega)⟩ (by have h1:=HO.len;have:=tB;unfold bF.keys;rw[aC8];omega)).mono ?_;rintro e w5 ⟨rfl,S5,T5⟩))
   go_ret;exact⟨c4,rfl,⟨b,_,S5⟩,((CX.trans T3 (bS i)).trans T4 (bS i)).trans T5 (bS i)⟩
 ·rw[if_neg h1]
  have: ¬(bU t v=0):=h1;generalize bU t v=E at *;clear h EX h1;go_enter func69,ntmps69;go_wp2_with(go_at_call 78;refine zN (RQ _) ?_);go_ret;exact⟨c,rfl,HA,CX⟩
end
section
open Go.RowKit Go.Maps
theorem GD{s:bF}(k:Key)(a:aU)(w:World)(h:dN w c i g s)(hk:k.good)(hc:∀k,w.heap.size<=k->c k=none)(ho:fL s n)(hn:n<=100000):
 Calls prog 378 #[pt g,.agg k.row,.agg (cI a)] w (af8 c i g (s.note k a) w):=by
 obtain⟨b,f,h⟩:=h;have EX:=(zW w (.cells k.row aS)).alloc sI (.cells (cI a) 49);have CX:=ae.aa (jx i) c hc EX;have HA:dN ((w.alloc (.cells k.row aS)).alloc (.cells (cI a) 49)) c i g s:=⟨b,f,h.call EX⟩;have H0:=h.call EX;have BX:=(ai.new w aS k.row).alloc (.cells (cI a) 49);have HG:=mQ k _ (h.call EX) hk;cases hx:aJ s.loads k with
 |none=>
  rw[(h.GA hx)]at HG;have HR:s.note k a=(5,s):=by unfold bF.note;rw[hx]
  rw[HR];clear h EX hc hx;go_enter func378,ntmps378;go_wp2_with(first
   |refine zI BX underlying83 ?_
   |(go_at_call 83;refine HG.mono ?_;rintro e w3 ⟨rfl,hb⟩;have B3:=hb;clear hb))
  go_ret;exact⟨c,rfl,HA.call B3,CX.trans (ae.aa _ c CX.fresh B3) (bS i)⟩
 |some x=>
  obtain⟨p,F,fr,e1,e2,e3⟩:=h.wH k x (λe=>e) hx;rw[e1]at HG;have HR:s.note k a=(0,s.put k (xS s.cfg x a)):=by unfold bF.note;rw[hx]
  rw[HR];have N0:=e2.call EX;have F0:=e3;obtain⟨gp,rfl⟩:∃gp,p=some ⟨gp,0,none⟩:=by obtain⟨g',_,_,e,_⟩:=e2.blk;exact⟨g',e⟩
  have HV:=(ho.wH k x hx).fK hn;have HO:=ho;have HK:=hk;have tB:=hn;have mL:(∀t,c w.heap.size≠some t)/\∀t,c (w.heap.size+1)≠some t:=⟨(λt e=>by rw[hc _ lR]at e;cases e),(λt e=>by rw[hc _ oM]at e;cases e)⟩
  clear h EX hc hx e1 e2 e3 hk ho hn;go_enter func378,ntmps378;go_upto_region 4 with(first
   |refine zI BX underlying83 ?_
   |(go_at_call 83;refine HG.mono ?_;rintro e w3 ⟨rfl,hb⟩;have B3:=hb;clear hb))
  have Ni:=BX.call B3;have BY3:=(ai.dR w (.cells k.row aS) 49 (cI a)).call B3;have N3:=N0.call B3;have T3:=CX.trans (ae.aa _ c CX.fresh B3) (bS i);have Z3:=H0.call B3;clear BX N0 CX H0 HA HG B3;obtain⟨gx,hgx⟩:=zE w.heap.size;rw[<-hgx]at Ni BY3 mL |-;clear hgx;refine zr (λ_=>false) (λwS=>ah (λj=>∃t,c j=some t/\jx i t) w3 wS) ?_;have S0:=(ah.refl (λj=>∃t,c j=some t/\jx i t) w3).drew;refine zk 2 [0,1,2,3] [_,_,_,_] (.q zX<|.c rfl rfl (zl λ_ h=>zb (Ni.upd h (λ⟨t,e,_⟩=>mL.1 t e)) underlying83)<|.q zX<|.c rfl rfl (zl λ_ h=>zb (BY3.upd h (λ⟨t,e,_⟩=>mL.2 t e)) underlying49) .nil) S0<|zQ 4 ?_;go_wp2_with(go_at_call 391;refine(Pw _ F s.cfg x fr a _ (N3.call (below_drewN bR 1)) HO.py HV).mono ?_;rintro e w4 ⟨p4,rfl,hr⟩;obtain⟨F4,fr4,c4,P4,k2,k3⟩:=hr.GC F0 (λj hj=>T3.fresh j hj);have F4':=k2;have T4:=k3.mono (T2:=jx i) (λt e=>.inr ⟨k,e⟩);have Z4:=(Z3.call (below_drewN bR 1)).step (ex':=λj=>j=k) k3 (λe=>by cases e) (λe=>by cases e) (λj e=>by injection e) (λ_ e=>e.elim);clear hr k2 k3);refine .i (S0.trans T4.upd iL)<|zQ 5 ?_;go_wp2_with(go_at_call 138;refine(kN k p4 F4 (xS s.cfg x a) fr4 _ Z4 HK P4 F4' T4.fresh ⟨HO.v0,(oI HO.v1 tB)⟩ (by have:=HO.len;have:=tB;unfold bF.keys;rw[aC8];omega)).mono ?_;rintro e w5 ⟨rfl,Z5,T5⟩;have U5:=(T4.trans T5 (bS i)).upd);refine .i (ah.trans (ah.drew (ah.refl _ _)) U5 iL)<|zd ?_;go_wp2;go_ret;exact⟨c4,rfl,⟨b,_,Z5⟩,(T3.trans (ae.aa _ c T3.fresh (below_drewN bR 1)) (bS i)).trans (T4.trans T5 (bS i)) (bS i)⟩
end
section
open Go.RowKit Go.Maps
def bF.set(s:bF)(k:Key)(q:dI):Int×bF:=if dy q=0 then(match gH s k with
 |some x=>(0,s.put k (Av x q))
 |none=>(6,s))else(dy q,s)
def Py:aM:=⟨1,1,1,1⟩
def Tp:Py.fit:=by unfold aM.fit Py aw;decide
def Yf:Py.gV:=⟨dC,dC,dC,dC,dC,dC,dC⟩
theorem Kw(cf:aM)(i:Nat)(c:bh)(w:World)(hf:cf.fit)(a8:cf.gV)(hc:∀k,w.heap.size<=k->c k=none) :
 Calls prog 55 #[.agg cf.row] w λe w'=>∃g c',e=.returned (pt g)/\dN w' c' i g ⟨cf,[],0⟩/\ae (jx i) w w' c c':=by
 have:=@run_makeMap prog;have HR:=(λW=>fQ cf W hf);rw[show im cf=0 from if_pos a8]at HR;have B0:=(show Bl w (w.alloc (.cells cf.row 23)) by go_grown);have BX:=ai.new w 23 cf.row;have HC:=hc;clear hc;go_enter func55,ntmps55;go_wp2_with(first
  |refine zI BX underlying23 ?_
  |go_at_call 53;refine zM (HR _) λw1 hb1=>?_;have E1:=zT B0 hb1;have X1:=(BX.call hb1).alloc (.map #[] 0);clear hb1
  |(refine zI X1 underlying23 ?_))
 go_ret;have hb:=(E1.alloc E1.size (.map #[] 0)).alloc (by have:=E1.size;simp;omega) (.cells #[.map (some w1.heap.size),I6 cf.str,I6 cf.dE,I6 cf.lW,I6 cf.iI,I6 0] spT);have hs:=ae.one (T:=jx i) (t:=.st i) (S:=λ_=>False) (ah.aa hb) (λ_ h=>h.elim) (.inl rfl) (λj=>j=w1.heap.size\/j=w1.heap.size+1) (λj hj=>.inr (oH E1.size)) (λj hj=>by simp;omega) HC;refine⟨w1.heap.size+1,_,rfl,⟨w1.heap.size,λ_=>none,⟨ai.dR w1 (.map #[] 0) spT _,(bP.made ll w1).alloc _,oM,bw (.inr rfl),bw (.inl rfl),λk x _ hx=>by cases hx⟩⟩,hs⟩
theorem Ky{s:bF}(k:Key)(q:dI)(w:World)(h:dN w c i g s)(hk:k.good)(hc:∀k,w.heap.size<=k->c k=none)(ho:fL s n)(hn:n<=100000):
 Calls prog 74 #[pt g,.agg k.row,(.agg #[I6 q.min,I6 q.max,I6 q.target,I6 q.lz,I6 q.bp,I6 q.hold])] w (af8 c i g (s.set k q) w):=by
 obtain⟨b,f,h⟩:=h;have EX:=(zW w (.cells k.row aS)).alloc sI (.cells q.row 43);have H0:=h.call EX;have BX:=(ai.new w aS k.row).alloc (.cells q.row 43);have BY:=ai.dR w (.cells k.row aS) 43 q.row;have mL:(∀t,c w.heap.size≠some t)/\∀t,c (w.heap.size+1)≠some t:=⟨(λt e=>by rw[hc _ lR]at e;cases e),(λt e=>by rw[hc _ oM]at e;cases e)⟩
 have HN:=(λW=>Gq Py W Tp Yf);have HC:=(λj (hj:((w.alloc (.cells k.row aS)).alloc (.cells q.row 43)).heap.size<=j)=>hc j (by simp at hj;omega));have CX:=ae.aa (jx i) c hc EX;have HO:=ho;have HK:=hk;have tB:=hn;obtain⟨R,hR⟩:=zE (s.set k q);rw[<-hR];have HRR:=zD hR;clear h EX hc hk ho hn hR;go_enter func74,ntmps74;go_upto_region 1 with fail
 generalize(w.alloc (.cells k.row aS)).alloc (.cells q.row 43)=W1 at *;obtain⟨gx,hgx⟩:=zE w.heap.size;rw[<-hgx]at BX BY mL |-;clear hgx;refine zB λS0=>?_
 refine zk 7 [0,2] [.agg Py.row,_] (.c rfl rfl (zl λ_ _=>by first|(go_simp;done)|kernel_rfl)<|.c rfl rfl (zl λ_ h=>zb (BY.call h) underlying43) .nil) S0<|zQ 1 ?_;go_wp2_with(go_at_call 146;refine(HN _).mono ?_;rintro e w6 ⟨p,F,rfl,hp,hF,hb⟩;have P6:=hp;have F6:=hF;have B6:=hb;clear hp hF hb);refine .i (zT S0 B6) ?_;have S6:=zT S0 B6;refine zQ 3 ?_;go_wp2_with(go_at_call 147;refine(Gr p F Py Ff false q _ P6 ⟨dC,dC⟩).mono ?_;rintro e w7 ⟨p7,rfl,hr⟩;have B7:Bl W1 w7:=(by {rcases hr with⟨F7,h1,h2,h3⟩|⟨h1,h2,h3,h4⟩;exact Below.trans (by first|exact B6|exact Below.trans (below_drewN bR 1) (B6.mono (by first|exact aC2 _|(simp;omega)))) (h2.1.below (λj hj=>by have:=F6 j hj;simp at this;omega) (by have:=B6.size;simp at this;omega));exact Below.trans (by first|exact B6|exact Below.trans (below_drewN bR 1) (B6.mono (by first|exact aC2 _|(simp;omega)))) (h4.mono (by have:=B6.size;simp at this;omega))});clear hr);refine .i B7<|zq 0 [4,5,6,7,8] [.tuple #[.pointer p7,I6 (dy q)],.pointer p7,I6 (dy q),.pointer p7,I6 (dy q)] B7<|zd ?_;have BX7:=BX.call B7;have BY7:=BY.call B7;have H7:=H0.call B7;have T7:=CX.trans (ae.aa (jx i) c HC B7) (bS i);have HM:=kM _ H7;clear S0 S6 B6 B7 P6 F6 BX BY H0 CX HC
 by_cases h1:dy q=0
 ·have HE:=h1
  rw[h1];cases hq:gH s k with
  |none=>
   have HQ:=zD (show R=(6,s)from by rw[HRR.out];unfold bF.set;rw[if_pos h1,hq]);have HR:=l6 k _ H7 HK hq;clear hq h1;go_wp2_with(first
    |go_at_call 135;refine HM.mono ?_;rintro e w1 ⟨rfl,rfl⟩
    |refine zI BX7 underlying83 ?_
    |(go_at_call 136;refine HR.mono ?_;rintro e w3 ⟨rfl,hb⟩;have B3:=hb;clear hb))
   go_ret;rw[HQ.out];exact⟨c,rfl,⟨b,f,H7.call B3⟩,T7.trans (ae.aa _ c T7.fresh B3) (bS i)⟩
  |some x=>
   have HQ:=zD (show R=(0,s.put k (Av x q))from by rw[HRR.out];unfold bF.set;rw[if_pos h1,hq]);have HR:=vg k x _ H7 HK T7.fresh HO.fit HO.py hq;have HV:=(rZ HO hq).fK tB;clear hq h1;go_wp2_with(first
    |go_at_call 135;refine HM.mono ?_;rintro e w1 ⟨rfl,rfl⟩
    |refine zI BX7 underlying83 ?_
    |go_at_call 136;refine HR.mono ?_;rintro e w3 ⟨p3,F,fr,c3,rfl,hp,hF,Z3,T3⟩;have Ni:=BX7.upd T3.upd (λ⟨t,e,_⟩=>mL.1 t e);have BY3:=BY7.upd T3.upd (λ⟨t,e,_⟩=>mL.2 t e);have G3:(∀t,c3 gx≠some t)/\∀t,c3 (gx+1)≠some t:=⟨(λt e=>mL.1 t (T3.old _ BX7.lt (λt e _=>mL.1 t e)▸e)),(λt e=>mL.2 t (T3.old _ BY7.lt (λt e _=>mL.2 t e)▸e))⟩;have P3:=hp;have F3:=hF;clear hp hF
    |refine zI BY3 underlying43 ?_
    |go_at_call 147;refine(Gr p3 F s.cfg x fr q _ P3 HV).mono ?_;rintro e w4 ⟨p4,rfl,hr⟩;rw[HE];obtain⟨F4,fr4,c4,P4,k2,k3⟩:=hr.GC F3 T3.fresh;have F4':=k2;have T4:=k3.mono (T2:=jx i) (λt e=>.inr ⟨k,e⟩);have Z4:=Z3.step (ex':=λj=>j=k) k3 (λe=>by cases e) (λe=>by cases e) (λj e=>by injection e) (λ_ e=>e);have tC:=Ni.upd k3.upd (λ⟨t,e,_⟩=>G3.1 t e);clear hr k2 k3
    |refine zI tC underlying83 ?_
    |(go_at_call 138;refine(kN k p4 F4 (Av x q) fr4 _ Z4 HK P4 F4' T4.fresh ⟨HO.v0,(by have h1:=HO.v1;have:=tB;omega)⟩ (by have h1:=HO.len;have:=tB;unfold bF.keys;rw[aC8];omega)).mono ?_;rintro e w5 ⟨rfl,Z5,T5⟩))
   go_ret;rw[HQ.out];exact⟨c4,rfl,⟨b,_,Z5⟩,((T7.trans T3 (bS i)).trans T4 (bS i)).trans T5 (bS i)⟩
 ·have HQ:=zD (show R=(dy q,s)from by rw[HRR.out];unfold bF.set;rw[if_neg h1])
  have: ¬(dy q=0):=h1;generalize dy q=E at *;clear h1;go_wp2;go_ret;rw[HQ.out];exact⟨c,rfl,⟨b,f,H7⟩,T7⟩
end
section
open Go.RowKit Go.Shelf Go.Maps
attribute [local go_sem] Oper.semAt_some
def Dp{ks pre:List Key}(h1:ks.Nodup)(h2:pre.Nodup)(h:∀x,x∈pre↔x∈ks):pre.Perm ks:=
 (aU2 h2 h1).2 h
theorem Tq(n:Nat)(hn:1<=n)(l Bn b n₀:Nat)(f:Key->Option Value)(ks:List Key)(J Jx:List Key->World->Prop)
 (hY:∀pre x W,J pre W->pre.length<ks.length->YieldAt Fence.wide (n-1) prog l #[.agg x.row] W λe W'=>
  (e=.returned (.bool true)/\J (pre++[x]) W'/\Nb n₀ W W')\/(e=.returned (.bool false)/\Jx (pre++[x]) W'))
 (W:World) (hJ:AbidesFrom W.heap.size J) (hBn:Boxed W Bn zx (.map (some b))) (hm:bP ll W b f ks) (h0:J [] W) :
 CallsIn Fence.wide n prog 199 #[.func (.yield l) #[] #[],pt Bn] W λe W'=>(∃v,e=.returned v)/\
  ((∃ys,ys.Perm ks/\J ys W')\/(∃pre,Jx pre W')):=by
 have HY:=hY;have HJ:=hJ;have c0:=hBn.cell;clear hY hJ;refine callsIn_of_wp func199 rfl trivial ?_ rfl;simp only[ntmps199,aF1,aC4,aG6,Nat.reduceAdd,Nat.reduceSub,aF7,aF8,aG7,aG2,aD4,aE0]
 gi_wp2_with(first
  |gi_at_range;refine pR ll _ rfl _ zx rfl _ fu b f ks rfl hm ?_;intro w0 hrg0 hg0 hs0
  |gi_in)
 go_frame
 gi_loopw[3] (λ_ wr=>∃(lf:Key->Bool)(cnt:Nat)(pre:List Key),lh ll wr b W.heap.size f ks lf cnt/\(∀x∈ks,lf x=decide (x ∉ pre))/\pre.Nodup/\(∀x∈pre,x∈ks)/\J pre wr) (λ_ wr=>wr.rangeLeft b W.heap.size)
 case atStart=>
  exact⟨_,_,[],hrg0,λx hx=>by simp[hx],aV7,λx hx=>by simp at hx,HJ [] W w0 none h0 hg0 (λr e=>by cases e)⟩
 case round=>
  obtain⟨lf,cnt,pre,hrg,hlf,RS,Tr,hJs⟩:=hrel
  gi_wp2_with(first
   |gi_at_next;refine qD ll _ rfl _ rfl b W.heap.size f ks lf cnt rfl hrg ?_ ?_
   |gi_in)
  ·intro hd
   gi_wp2
   go_end0;refine⟨⟨_,rfl⟩,.inl ⟨pre,Dp hm.nodup RS λx=>⟨Tr x,λhx=>?_⟩,hJs⟩⟩;have:=hd x hx;rw[hlf x hx]at this
   simpa using this
  ·intro x v w2 cnt2 hgx hxm hlx hfx hrg2 hlt hg2 hs2 hen
   have hxp:x ∉ pre:=by rw[hlf x hxm]at hlx;simpa using hlx
   have hJ2:J pre w2:=HJ pre wr w2 (some W.heap.size) hJs hg2 (λr e=>by cases e;exact⟨oM,hrg.iter_walk⟩);have hlen:pre.length<ks.length:=by
    have h1:(pre++[x]).Nodup:=aH5.2 ⟨RS,sI,by simp;exact λa ha e=>hxp (e ▸ ha)⟩;have h2:=h1.length_le_of_subset (l₂:=ks) (λy hy=>by rcases aD1.1 hy with hy|hy;exact Tr y hy;simp at hy;rw[hy];exact hxm);simp at h2;omega
   have:(Instr.entry (pt W.heap.size)).run prog w2=.ok (.tuple #[.agg #[V6 x.hi,V6 x.lo],v]) w2:=hen;have hJ3:J pre (w2.alloc (.cells x.row aS)):=HJ pre w2 _ none hJ2 (World.grownBy_alloc _ _ none) (λr e=>by cases e);obtain⟨fn,tmps,assign,body,hy,hR⟩:=HY pre x _ hJ3 hlen;clear hs2 hJ2 hJ3 hen;simp only[show(ll).v x=.agg #[V6 x.hi,V6 x.lo]from rfl]
   gi_wp2
   refine hR.mono ?_;rintro e W3 (⟨rfl,hJ4,hk4⟩|⟨rfl,Kz⟩)
   ·gi_wp2
    have ao2:=(hrg2.kept (World.grownBy_alloc w2 (.cells x.row aS) none) sI sI).of_walks hk4.2;go_roundw
    case rel=>
     refine⟨_,cnt2,pre++[x],ao2,λy hy=>?_,aH5.2 ⟨RS,sI,by simp;exact λa ha e=>hxp (e ▸ ha)⟩,λy hy=>?_,hJ4⟩
     ·rw[hlf y hy];simp
     ·rcases aD1.1 hy with hy|hy
      ·exact Tr y hy
      ·simp at hy;rw[hy];exact hxm
    case measure=>rw[ao2.left_eq,hrg.left_eq];exact hlt
   ·gi_wp2
    refine bodyPost_ret (results_none rfl _ _ _) rfl ?_;exact⟨⟨_,rfl⟩,.inr ⟨_,Kz⟩⟩
theorem Yg(n:Nat)(b:Nat)(w:World) :
 CallsIn Fence.wide n prog 151 #[.map (some b)] w λe w'=>e=.returned (.func (.func 199) #[] #[pt w.heap.size])/\w' = w.alloc (.cells #[.map (some b)] zx):=by
 refine callsIn_of_wp func151 rfl trivial ?_ rfl;simp only[ntmps151,aF1,aC4,aG6,Nat.reduceAdd,Nat.reduceSub,aF7,aF8,aG7,aG2,aD4,aE0]
 gi_wp2
 go_ret;exact⟨rfl,rfl⟩
end
section
open Go.RowKit Go.Shelf Go.Maps
def Ts(n:Nat)(hn:1<=n)(Bn b n₀:Nat)(f:Key->Option Value)(ks:List Key)(w:World)(hc:Boxed w Bn zx (.map (some b)))(hm:bP ll w b f ks) :
 SeqStopsK Fence.wide n prog 199 #[pt Bn] (λx:Key=>#[Value.agg x.row]) (Nb n₀) (λys=>ys.Perm ks) (λ_=>True) ks.length w:=λl J Jx W hW hJ _ hY h0=>
 (Tq n hn l Bn b n₀ f ks J Jx hY W hJ ((hW.block Bn hc.lt).trans hc) (hm.call hW) h0).mono λe W' ⟨he,hj⟩=>⟨he,hj.imp id (λ⟨pre,h⟩=>⟨pre,trivial,h⟩)⟩
def xV{l m:List Key}(h:l.Perm m):eW l=eW m:=ny ((fg l).trans h) (rO l)
def GF(w:World)(l:List Key)(e:Ending)(w' : World):Prop:=∃A n c,e=.returned (.slice A n c)/\aK w' w.heap.size aS 2 Key.cells (.slice A n c) l/\Bl w w'
def GF.mk{v:Value}{l:List Key}(h:aK w' w.heap.size aS 2 Key.cells v l)(hb:Bl w w'):GF w l (.returned v) w':=by
 obtain⟨A,n,c,rfl,-,-⟩:=h.shape cW;exact⟨A,n,c,rfl,h,hb⟩
theorem Pz(Bn b:Nat)(f:Key->Option Value)(ks:List Key)(w:World)(hc:Boxed w Bn zx (.map (some b)))(hm:bP ll w b f ks)(hl:ks.length<=100000) :
 Calls prog 150 #[.func (.func 199) #[] #[pt Bn],.func (.func 152) #[] #[]] w (GF w (eW ks)):=by
 have HC:=callsIn_wide.1 (rM 3 lR 199 #[pt Bn] trivial (enters_of func199 kZ rfl) _ _ ks.length oM w w bR (Ts 1 lR Bn b w.heap.size f ks w hc hm));have HL:=hl;clear hc hm hl;go_enter func150,ntmps150;go_wp2_with(first
  |go_at_call 197;refine HC.mono ?_;rintro e w1 ⟨v,ys,rfl,P1,ho,B1⟩;have O1:=aK.of ho;clear ho
  |(go_at_call 198;refine(Aq v ys _ O1 (P1.length_eq▸HL)).mono ?_;rintro e w2 ⟨rfl,ho,U2⟩;have O2:=ho;clear ho))
 go_ret;refine GF.mk (by rw[<-xV P1];exact O2) (B1.trans (U2.below (λk hk=>(O1.lt k hk).1) B1.size))
theorem vh{s:bF}{ex:Key->Prop}(w:World)(h:dU w c i g b f s ex)(hl:s.keys.length<=100000):
 Calls prog 82 #[pt g] w (GF w (eW s.keys)):=by
 have:=h.blk.z 0 (.map (some b))
 have HM:=zD (kM _ h)
 have HK:=zD (λW=>callsIn_wide.1 (Yg 0 b W))
 have HB:=zD (show Bl w (w.alloc (.cells #[.map (some b)] zx)) by go_grown)
 have HS:=zD (Pz w.heap.size b f s.keys (w.alloc (.cells #[.map (some b)] zx)) (Boxed.new w zx _) (h.call HB.out).map hl)
 clear h hl
 go_enter func82,ntmps82
 go_wp2_with(first
  |go_at_call 135;refine HM.out.mono ?_;rintro e w1 ⟨rfl,rfl⟩
  |go_at_call 151;refine(HK.out _).mono ?_;rintro e w2 ⟨rfl,rfl⟩
  |(go_at_call 150;refine HS.out.mono ?_;rintro e w3 ⟨A,n,cc,rfl,ho,hb⟩;have O3:=zD ho;have B3:=zD hb;clear ho hb))
 go_ret
 exact⟨A,n,cc,rfl,O3.out.mono HB.out.size,zT HB.out B3.out⟩
end
theorem gu(k:Int)(s:ByteArray)(t v h:Int)(p:dI)(w:World)(hs:s.size<=maxLen) :
 Calls prog 25 #[.agg (aj k s t v h p)] w (Rt (I6 (bJ k s t v p)) (Bl w)):=by
 have HI:=(λW=>iN s W hs);have HP:=(λW=>aY p W);have HR:=(λW=>Cj t v W);have HR0:=(λW=>Cj t 0 W);have hc:(k<1\/8<k)\/k=1\/k=6\/(k=5\/k=7)\/k=2\/(k=3\/k=4\/k=8):=oM
 have X:=And.intro (ai.new w 65 (aj k s t v h p)) (show Bl w (w.alloc (.cells (aj k s t v h p) 65)) by go_grown);rcases hc with hc|rfl|rfl|hc|rfl|hc
 ·have HE:bJ k s t v p=14:=if_pos hc
  have:(k==1)=false:=by simp;omega
  have:(k==2)=false:=by simp;omega
  have:(k==3)=false:=by simp;omega
  have:(k==4)=false:=by simp;omega
  have:(k==5)=false:=by simp;omega
  have:(k==6)=false:=by simp;omega
  have:(k==7)=false:=by simp;omega
  have:(k==8)=false:=by simp;omega
  clear hc;go_enter func25,ntmps25;go_wp2;go_ret;exact⟨au HE.symm,X.2⟩
 ·cases hi:eO s
  all_goals
   have HE:bJ 1 s t v p=if cT s=0 then xY t v else cT s:=by
    unfold bJ cT;rw[if_neg oM,hi];simp
   have JQ:(cT s != 0) = !eO s:=by unfold cT;cases eO s<;>rfl
   rw[hi]at JQ;simp only[Bool.not_true,Bool.not_false]at JQ;generalize cT s=IE at *;clear hi;generalize bJ 1 s t v p=R at *;generalize xY t v=SR at *;go_enter func25,ntmps25;go_upto_region 5 with(fail)
   obtain⟨w0,hw0⟩:=zE (w.alloc (.cells (aj 1 s t v h p) 65));rw[<-hw0]at X |-;clear hw0;refine zB λS0=>?_
   refine zk 5 [0,1,3,4,5] [_,.string s,_,I6 t,_] (.q zX<|.q (zS λ_ h=>(X.1.call h).z 1 (.string s))<|.q zX<|.q (zS λ_ h=>(X.1.call h).z 2 (I6 t))<|.e) S0 ?_;refine zk 4 [6] [I6 v] (.q (zS λ_ h=>(X.1.call h).z 3 (I6 v)) .nil) S0 ?_;refine zQ 2 ?_;go_wp2_with(go_at_call 58;refine zM (HI _) λv1 hb1=>?_);refine .i (zT S0 hb1) ?_;have S1:=zT S0 hb1;refine zQ 7 ?_;go_wp2_with(go_at_call 78;refine zN (HR _) ?_);refine .i S1 ?_;refine zq 0 [8,9] [I6 IE,I6 SR] S1 ?_;refine zd ?_;have E:=zT X.2 S1;go_wp2;go_ret;exact⟨au (by rw[HE];simp at JQ;simp[JQ]),E⟩
 ·cases hi:eO s
  all_goals
   have HE:bJ 6 s t v p=if cT s=0 then dy p else cT s:=by
    unfold bJ cT;rw[if_neg oM,hi];simp
   have JQ:(cT s != 0) = !eO s:=by unfold cT;cases eO s<;>rfl
   rw[hi]at JQ;simp only[Bool.not_true,Bool.not_false]at JQ;generalize cT s=IE at *;clear hi;generalize bJ 6 s t v p=R at *;generalize dy p=SR at *;go_enter func25,ntmps25;go_upto_region 9 with(fail)
   obtain⟨w0,hw0⟩:=zE (w.alloc (.cells (aj 6 s t v h p) 65));rw[<-hw0]at X |-;clear hw0;refine zB λS0=>?_
   refine zk 4 [0,1,3,4] [_,.string s,_,(.agg #[I6 p.min,I6 p.max,I6 p.target,I6 p.lz,I6 p.bp,I6 p.hold])] (.q zX<|.q (zS λ_ h=>(X.1.call h).z 1 (.string s))<|.q zX<|.c rfl rfl (zl λ_ h=>by obtain⟨c0,c1,c2,c3,c4,c5,c6,c7,c8,c9⟩:=TA (X.1.call h);go_simp) .nil) S0 ?_;refine zQ 2 ?_;go_wp2_with(go_at_call 58;refine zM (HI _) λv1 hb1=>?_);refine .i (zT S0 hb1) ?_;have S1:=zT S0 hb1;refine zQ 5 ?_;go_wp2_with(go_at_call 79;refine zM (HP _) λv2 hb2=>?_);refine .i (zT S1 hb2) ?_;have S2:=zT S1 hb2;refine zq 0 [6,7] [I6 IE,I6 SR] S2 ?_;refine zd ?_;have E:=zT X.2 S2;go_wp2;go_ret;exact⟨au (by rw[HE];simp at JQ;simp[JQ]),E⟩
 ·cases hi:eO s
  all_goals
   have JQ:cT s=if eO s then 0 else 2:=rfl
   rw[hi]at JQ;simp only[if_true,aG8,if_false]at JQ;rw[JQ]at HI;have HE:bJ k s t v p=cT s:=by
    unfold bJ;rw[if_neg oM,JQ,hi];rcases hc with rfl|rfl<;>simp
   rw[JQ]at HE;clear JQ hi;have hk:k=5\/k=7:=hc;clear hc;rcases hk with rfl|rfl
   all_goals
    have:=X.1.z 1 (.string s);go_enter func25,ntmps25;go_wp2_with(go_at_call 58;refine zM (HI _) λv1 hb1=>?_;have E:=zT X.2 hb1;clear hb1);go_ret;exact⟨au HE.symm,E⟩
 ·have HE:bJ 2 s t v p=xY t 0:=by
   unfold bJ xY;rw[if_neg oM]
   by_cases ht:t<0<;>simp[ht]
  go_enter func25,ntmps25;go_wp2_with(go_at_call 78;refine zN (HR0 _) ?_);go_ret;exact⟨au HE.symm,X.2⟩
 ·have HE:bJ k s t v p=0:=by
   unfold bJ;rw[if_neg oM,if_neg oM,if_neg oM,if_neg oM,if_neg oM]
  rcases hc with rfl|rfl|rfl
  all_goals
   go_enter func25,ntmps25;go_wp2;go_ret;exact⟨au HE.symm,X.2⟩
def cN(c:aM)(k:Int)(s:ByteArray)(t v:Int)(p:dI):List iM:=vR (decide c.gV) (bJ k s t v p) (dZ c s) c.str.toNat k
def x6(c:aM)(k:Int)(s:ByteArray)(t v:Int)(p:dI):(cN c k s t v p).length<=136:=by
 unfold cN
 by_cases h:c.gV
 ·have:=Tt (decide c.gV) (bJ k s t v p) (dZ c s) c.str.toNat k
  have:=a7 h.1;omega
 ·unfold vR
  rw[if_neg (sH h)];simp
theorem Cm(c:aM)(k:Int)(s:ByteArray)(t v h:Int)(p:dI)(w:World)(hs:s.size<=maxLen)(hc:c.fit) :
 Calls prog 166 #[.agg c.row,.agg (aj k s t v h p)] w (mS w (cN c k s t v p)):=by
 have HR:=zD (λW=>fQ c W hc);have HK:=zD (λW=>gu k s t v h p W hs);have X:=zD (And.intro ((ai.new w 23 c.row).alloc (.cells (aj k s t v h p) 65)) (And.intro (ai.dR w (.cells c.row 23) 65 (aj k s t v h p)) (show Bl w ((w.alloc (.cells c.row 23)).alloc (.cells (aj k s t v h p) 65)) by go_grown)))
 by_cases a8:c.gV
 ·obtain⟨n,hn,qd⟩:∃n:Nat,c.str=n/\n<=64:=by
   have:=a7 a8.1;exact⟨c.str.toNat,oM,oM⟩
  have HI:=zD (λW=>GM c k s t v h p n W hs hc hn qd);have hcE:im c=0:=if_pos a8;have hdE:decide c.gV=true:=decide_eq_true a8;have HQ:=zD (show cN c k s t v p=[⟨1,0⟩]++(if bJ k s t v p=0 then gI (dZ c s) n k else[])++[⟨7,0⟩]from by
   unfold cN vR;rw[hdE,if_pos rfl,hn];rfl)
  have fJ:=zD (GG (dZ c s) n k);rw[hcE]at HR;generalize cN c k s t v p=R at *;generalize gI (dZ c s) n k=LI at *;clear a8 hcE hdE hn hc;generalize hE:bJ k s t v p=CE at *;clear hE
  by_cases h0:CE=0
  ·have Fh:=zD (HQ.out.trans (by rw[if_pos h0]))
   subst h0;go_enter func166,ntmps166;go_wp2_with(first
    |refine zI X.out.1 underlying23 ?_
    |go_at_call 53;refine zM (HR.out _) λv1 hb1=>?_;have D1:=zD (zT X.out.2.2 hb1);have B1:=zD (X.out.1.call hb1);have C1:=zD (X.out.2.1.call hb1);clear hb1;have O1:=zD (Dr (base:=w.heap.size) (l:=[(⟨1,0⟩:iM)]) bK (ai.new v1 334 #[I6 1,I6 0]) rfl (by unfold maxLen;simp) D1.out.size);have D2:=zD (D1.out.alloc D1.out.size (.cells #[I6 1,I6 0] 334));have C2:=zD (C1.out.alloc (.cells #[I6 1,I6 0] 334))
    |refine zI C2.out underlying65 ?_
    |go_at_call 25;refine zM (HK.out _) λv2 hb2=>?_;have D3:=zD (zT D2.out hb2);have B3:=zD ((B1.out.alloc (.cells #[I6 1,I6 0] 334)).call hb2);have C3:=zD (C2.out.call hb2);have O2:=zD (O1.out.call hb2);clear hb2
    |refine zI B3.out underlying23 ?_
    |refine zI C3.out underlying65 ?_
    |go_at_call 216;refine(HI.out _).mono ?_;rintro e v3 ⟨V3,rfl,o3,hb3⟩;obtain⟨A3,n3,c3,rfl,Tg,hs3⟩:=o3.shape bK;have S3:=zD hs3;have N3:=zD Tg;have D4:=zD (zT D3.out hb3);have O3:=zD (O2.out.call hb3);clear hb3 Tg hs3 o3
    |at_builtin;refine x4 _ rfl (.tmp 14) (.tmp 17) rfl w.heap.size _ _ rfl O3.out A3 n3 c3 LI rfl S3.out (by have:=N3.out;have:=fJ.out;simp;omega) D4.out.size ?_;intro v' w5 ho dx iK;obtain⟨A5,n5,c5,rfl,-,-⟩:=ho.shape bK;have O5:=zD ho;have D5:=zD (D4.out.trans dx);clear ho dx iK
    |(at_builtin;refine xZ _ rfl (.tmp 19) (.tmp 21) rfl w.heap.size _ _ rfl (O5.out.alloc _) w5.heap.size 334 1 ⟨7,0⟩ rfl (ai.new _ _ _) (by have:=fJ.out;simp;omega) (by have:=D5.out.size;simp;omega) ?_;intro v' w6 ho dJ RU;obtain⟨A6,n6,c6,rfl,-,-⟩:=ho.shape bK;have O6:=zD ho;have D6:=zD ((D5.out.alloc D5.out.size _).trans dJ);clear ho dJ RU))
   go_ret;exact⟨_,rfl,Fh.out▸O6.out,D6.out⟩
  ·have Fh:=zD (HQ.out.trans (by rw[if_neg h0]))
   have:(CE==0)=false:=sH h0
   clear h0;go_enter func166,ntmps166;go_wp2_with(first
    |refine zI X.out.1 underlying23 ?_
    |go_at_call 53;refine zM (HR.out _) λv1 hb1=>?_;have D1:=zD (zT X.out.2.2 hb1);have C1:=zD (X.out.2.1.call hb1);clear hb1;have O1:=zD (Dr (base:=w.heap.size) (l:=[(⟨1,0⟩:iM)]) bK (ai.new v1 334 #[I6 1,I6 0]) rfl (by unfold maxLen;simp) D1.out.size)
    |refine zI (C1.out.alloc (.cells #[I6 1,I6 0] 334)) underlying65 ?_
    |go_at_call 25;refine zM (HK.out _) λv2 hb2=>?_;have D3:=zD (zT (D1.out.alloc D1.out.size (.cells #[I6 1,I6 0] 334)) hb2);have O2:=zD (O1.out.call hb2);clear hb2
    |(at_builtin;refine xZ _ rfl (.tmp 19) (.tmp 21) rfl w.heap.size _ _ rfl (O2.out.alloc _) v2.heap.size 334 1 ⟨7,0⟩ rfl (ai.new _ _ _) sI (by have:=D3.out.size;simp;omega) ?_;intro v' w6 ho dJ RU;obtain⟨A6,n6,c6,rfl,-,-⟩:=ho.shape bK;have O6:=zD ho;have D6:=zD ((D3.out.alloc D3.out.size _).trans dJ);clear ho dJ RU))
   go_ret;exact⟨_,rfl,Fh.out▸O6.out,D6.out⟩
 ·have hcE:im c=1:=if_neg a8
  have hdE:decide c.gV=false:=decide_eq_false a8;have HQ:=zD (show cN c k s t v p=[]from by unfold cN vR;rw[hdE];rfl);rw[hcE]at HR;clear a8 hcE hdE hc;go_enter func166,ntmps166;go_wp2_with(first
   |refine zI X.out.1 underlying23 ?_
   |(go_at_call 53;refine zM (HR.out _) λv1 hb1=>?_;have D1:=zD (zT X.out.2.2 hb1);clear hb1))
  go_ret;exact⟨_,rfl,HQ.out▸Own.nil _ _ _ _ _,D1.out⟩
def inq(f t:Int)(x:aD):Bool:=decide (f<=x.tick)&&decide (x.tick<=t)
def iQ(l:List aD)(f t:Int):List aD:=l.filter (inq f t)
def Hl(l:List aD)(f t:Int):(iQ l f t).length<=l.length:=aE7 _ _
def TQ{f:Int}(h:l[k]? = some x)(h1:f<=x.tick)(h2:x.tick<=t):iQ (l.take (k+1)) f t=iQ (l.take k) f t++[x]:=by
 rw[dP h];unfold iQ;rw[aT1];congr 1
 simp[inq,h1,h2]
def Nt{f:Int}(h:l[k]? = some x)(h1:¬(f<=x.tick/\x.tick<=t)):iQ (l.take (k+1)) f t=iQ (l.take k) f t:=by
 rw[dP h];unfold iQ;rw[aT1];have:inq f t x=false:=by
  unfold inq;rcases Int.lt_or_le x.tick f with h2|h2
  ·simp;omega
  ·simp;omega
 simp[this]
theorem KN(A:Option Addr)(len cap:Nat)(l:List aD)(f t:Int)(w:World)(hs:cH w A len cap l)(hn:len<=1000) :
 Calls prog 182 #[.slice A len cap,I6 f,I6 t] w λe w'=>∃v,e=.returned v/\kH w' w.heap.size v (iQ l f t)/\Bl w w':=by
 have HS:=hs;have HL:=hs.1;clear hs;go_enter func182,ntmps182;go_wp2;go_loopw[7,12] (λv i wr=>∃k:Nat,k<=len/\i = I6 k/\kH wr w.heap.size v (iQ (l.take k) f t)/\Bl w wr) (λ_ i _=>len-(intOf i).toNat)
 case atStart=>exact⟨0,aB6 _,rfl,Own.nil _ _ _ _ _,Below.refl _ _⟩
 case round=>
  obtain⟨k,hk,rfl,hown,aT⟩:=hrel
  by_cases hlt:k<len
  ·obtain⟨b,off,x,rfl,hx,hb,t0,t1⟩:=HS.at_ hlt
   have:=(aT.cell (p:=⟨b,off+k*2,none⟩) hb).trans t0;have:=(aT.cell (p:=⟨b,off+k*2+1,none⟩) hb).trans t1;have hle:(iQ (l.take k) f t).length<1000000:=by
    have h1:=Hl (l.take k) f t;have h2:(l.take k).length<=l.length:=by rw[aC3];omega
    have:=HL;omega
   have:(k:Int)<(len:Int):=oM
   have HX:=hx;have HB:=aT;clear hx hb t0 t1
   by_cases h1:f<=x.tick
   ·by_cases h2:x.tick<=t
    ·have HN:=TQ HX h1 h2
     have:=aT.size;clear aT;go_wp2_with(at_builtin;refine wY _ rfl _ _ rfl w.heap.size _ _ rfl ((hown.alloc _).alloc _) (wr.heap.size+1) _ 1 x rfl (ai.dR wr _ _ _) hle sM ?_;intro v2 w2 mv hb2 hg2);go_roundw
     case rel=>exact⟨k+1,oM,by go_num,HN▸mv,((HB.alloc HB.size _).alloc sM _).trans hb2⟩
     case measure=>simp[intOf];omega
    ·have HN:=Nt (f:=f) (t:=t) HX (λh=>h2 h.2)
     clear aT;go_wp2;go_roundw
     case rel=>exact⟨k+1,oM,by go_num,HN▸hown.alloc _,HB.alloc HB.size _⟩
     case measure=>simp[intOf];omega
   ·have HN:=Nt (f:=f) (t:=t) HX (λh=>h1 h.1)
    clear aT;go_wp2;go_roundw
    case rel=>exact⟨k+1,oM,by go_num,HN▸hown.alloc _,HB.alloc HB.size _⟩
    case measure=>simp[intOf];omega
  ·have hE:l.take k=l:=aB5 (oH HL)
   rw[hE]at hown;clear hE;go_wp2;go_ret;exact⟨_,rfl,hown,aT⟩
def kI(l:List aD):List Int:=l.map λx=>max x.value 0
def Hm(l:List aD):(kI l).length=l.length:=aC8 _
def PQ(h:l[k]? = some x):kI (l.take (k+1))=kI (l.take k)++[max x.value 0]:=by
 rw[dP h];unfold kI;simp
def Dy(hg:∀x∈l,x.good): ∀y∈kI l,0<=y/\y<=9223372036854775807:=by
 intro y hy;obtain⟨x,hx,rfl⟩:=aF2.1 hy;have:=(hg x hx).2;unfold aw at this;omega
theorem AP(A:Option Addr)(len cap:Nat)(l:List aD)(w:World)(hs:cH w A len cap l)(hn:len<=1000) :
 Calls prog 232 #[.slice A len cap] w λe w'=>∃v,e=.returned v/\Xz w' w.heap.size v (kI l)/\Bl w w':=by
 have HS:=hs;have HL:=hs.1;clear hs;go_enter func232,ntmps232;go_wp2;go_loopw[3,8] (λv i wr=>∃k:Nat,k<=len/\i = I6 k/\Xz wr w.heap.size v (kI (l.take k))/\Bl w wr) (λ_ i _=>len-(intOf i).toNat)
 case atStart=>exact⟨0,aB6 _,rfl,Own.nil _ _ _ _ _,Below.refl _ _⟩
 case round=>
  obtain⟨k,hk,rfl,hown,aT⟩:=hrel
  by_cases hlt:k<len
  ·obtain⟨b,off,x,rfl,hx,hb,t0,t1⟩:=HS.at_ hlt
   have:=(aT.cell (p:=⟨b,off+k*2,none⟩) hb).trans t0;have:=(aT.cell (p:=⟨b,off+k*2+1,none⟩) hb).trans t1;have hle:(kI (l.take k)).length<1000000:=by
    rw[Hm];have h2:(l.take k).length<=l.length:=by rw[aC3];omega
    have:=HL;omega
   have:(k:Int)<(len:Int):=oM
   have HN:=PQ hx;have HB:=aT;have:=aT.size;clear hx hb t0 t1 aT
   by_cases h1:x.value<0
   ·have HM:=(show max x.value 0=0 by omega)
    have d1:decide (0<x.value)=false:=by simp;omega
    go_wp2_with(at_builtin;refine wX _ rfl _ _ rfl w.heap.size _ _ rfl ((hown.alloc _).alloc _) ⟨wr.heap.size+1,0,none⟩ 1 0 rfl sI hle sM ?_;intro v2 w2 mv hb2);go_roundw
    case rel=>exact⟨k+1,oM,by go_num,by rw[HN,HM];exact mv,((HB.alloc HB.size _).alloc sM _).trans hb2⟩
    case measure=>simp[intOf];omega
   ·by_cases h2:x.value=0
    ·have HM:=(show max x.value 0=0 by omega)
     have d1:decide (x.value<0)=false:=by simp;omega
     have d2:decide (0<x.value)=false:=by simp;omega
     clear h2;go_wp2_with(at_builtin;refine wX _ rfl _ _ rfl w.heap.size _ _ rfl ((hown.alloc _).alloc _) ⟨wr.heap.size+1,0,none⟩ 1 _ rfl (by simp;rfl) hle sM ?_;intro v2 w2 mv hb2);go_roundw
     case rel=>
      refine⟨k+1,oM,by go_num,?_,((HB.alloc HB.size _).alloc sM _).trans hb2⟩;rw[HN,HM];have hz:x.value=0:=by simp at d1 d2;omega
      first|exact mv|(rw[hz]at mv;exact mv)
     case measure=>simp[intOf];omega
    ·have HM:=(show max x.value 0=x.value by omega)
     have:decide (x.value<0)=false:=by simp;omega
     have:decide (0<x.value)=true:=by simp;omega
     clear h2;go_wp2_with(at_builtin;refine wX _ rfl _ _ rfl w.heap.size _ _ rfl ((hown.alloc _).alloc _) ⟨wr.heap.size+1,0,none⟩ 1 x.value rfl sI hle sM ?_;intro v2 w2 mv hb2);go_roundw
     case rel=>exact⟨k+1,oM,by go_num,by rw[HN,HM];exact mv,((HB.alloc HB.size _).alloc sM _).trans hb2⟩
     case measure=>simp[intOf];omega
  ·have hE:l.take k=l:=aB5 (oH HL)
   rw[hE]at hown;clear hE;go_wp2;go_ret;exact⟨_,rfl,hown,aT⟩
def yc:List Int->Int
 |[]=>0
 |a::l=>l.foldl min a
def sq:List Int->Int
 |[]=>0
 |a::l=>l.foldl max a
def PT(a:Int)(l:List Int)(x:Int):yc (a::l++[x])=min (yc (a::l)) x:=by simp[yc]
def PU(a:Int)(l:List Int)(x:Int):sq (a::l++[x])=max (sq (a::l)) x:=by simp[sq]
theorem PV{l:List Int}{x:Int}(h:l[k]? = some x)(hk:1<=k):yc (l.take (k+1))=min (yc (l.take k)) x:=by
 rw[dP h];obtain⟨j,rfl⟩:∃j,k=j+1:=⟨k-1,oM⟩
 cases l with
 |nil=>simp at h
 |cons a l=>exact PT a (l.take j) x
theorem PW{l:List Int}{x:Int}(h:l[k]? = some x)(hk:1<=k):sq (l.take (k+1))=max (sq (l.take k)) x:=by
 rw[dP h];obtain⟨j,rfl⟩:∃j,k=j+1:=⟨k-1,oM⟩
 cases l with
 |nil=>simp at h
 |cons a l=>exact PU a (l.take j) x
theorem TY{l:List Int}{x:Int}(h:l[0]? = some x):yc (l.take 1)=x:=by
 cases l with
 |nil=>simp at h
 |cons a l=>simp at h;subst h;rfl
theorem TZ{l:List Int}{x:Int}(h:l[0]? = some x):sq (l.take 1)=x:=by
 cases l with
 |nil=>simp at h
 |cons a l=>simp at h;subst h;rfl
theorem KR(A:Option Addr)(len cap:Nat)(l:List Int)(w:World)(hs:gB w A len cap l)(h1:1<=len)(hn:len<=1000) :
 Calls prog 234 #[.slice A len cap] w λe w'=>e=.returned (I6 (yc l))/\w=w':=by
 have HS:=hs;have HL:=hs.1;obtain⟨b,off,x0,rfl,hx0,hb0,hc0⟩:=gB.at_ hs (show 0<len by omega);have TD:=TY hx0;rw[aH9]at hc0;clear hs hx0;go_enter func234,ntmps234;go_wp2;clear hc0;go_loop[3,4] (λm i=>∃k:Nat,1<=k/\k<=len/\i = I6 k/\m = I6 (yc (l.take k))) (λ_ i=>len-(intOf i).toNat)
 case atStart=>exact⟨1,oM,oM,rfl,by rw[TD]⟩
 case round=>
  obtain⟨k,hk1,hk,rfl,rfl⟩:=hrel
  by_cases hlt:k<len
  ·obtain⟨b',tL,x,hab,hx,hb,hc⟩:=gB.at_ HS hlt
   cases hab;have HN:=PV hx hk1;have:(k:Int)<(len:Int):=oM
   clear hx;generalize yc (l.take k)=m at *
   by_cases hlo:x<m
   ·have E:=(show min m x=x by omega)
    go_wp2;go_round
    case rel=>exact⟨k+1,oM,oM,by go_num,by rw[HN,E]⟩
    case measure=>simp[intOf];omega
   ·have E:=(show min m x=m by omega)
    go_wp2;go_round
    case rel=>exact⟨k+1,oM,oM,by go_num,by rw[HN,E]⟩
    case measure=>simp[intOf];omega
  ·have hE:l.take k=l:=aB5 (oH HL)
   rw[hE];clear hE;go_wp2;go_ret;exact⟨rfl,rfl⟩
theorem KS(A:Option Addr)(len cap:Nat)(l:List Int)(w:World)(hs:gB w A len cap l)(h1:1<=len)(hn:len<=1000) :
 Calls prog 235 #[.slice A len cap] w λe w'=>e=.returned (I6 (sq l))/\w=w':=by
 have HS:=hs;have HL:=hs.1;obtain⟨b,off,x0,rfl,hx0,hb0,hc0⟩:=gB.at_ hs (show 0<len by omega);have TD:=TZ hx0;rw[aH9]at hc0;clear hs hx0;go_enter func235,ntmps235;go_wp2;clear hc0;go_loop[3,4] (λm i=>∃k:Nat,1<=k/\k<=len/\i = I6 k/\m = I6 (sq (l.take k))) (λ_ i=>len-(intOf i).toNat)
 case atStart=>exact⟨1,oM,oM,rfl,by rw[TD]⟩
 case round=>
  obtain⟨k,hk1,hk,rfl,rfl⟩:=hrel
  by_cases hlt:k<len
  ·obtain⟨b',tL,x,hab,hx,hb,hc⟩:=gB.at_ HS hlt
   cases hab;have HN:=PW hx hk1;have:(k:Int)<(len:Int):=oM
   clear hx;generalize sq (l.take k)=m at *
   by_cases hlo:m<x
   ·have E:=(show max m x=x by omega)
    go_wp2;go_round
    case rel=>exact⟨k+1,oM,oM,by go_num,by rw[HN,E]⟩
    case measure=>simp[intOf];omega
   ·have E:=(show max m x=m by omega)
    go_wp2;go_round
    case rel=>exact⟨k+1,oM,oM,by go_num,by rw[HN,E]⟩
    case measure=>simp[intOf];omega
  ·have hE:l.take k=l:=aB5 (oH HL)
   rw[hE];clear hE;go_wp2;go_ret;exact⟨rfl,rfl⟩
structure Stat where
 count:Int
 sum:Int
 least:Int
 most:Int
 qV:Int
deriving DecidableEq
abbrev Stat.row(s:Stat):Array Value:=#[I6 s.count,I6 s.sum,I6 s.least,I6 s.most,I6 s.qV]
def iR(l:List aD):Stat:=if l.length=0 then⟨0,0,0,0,0⟩else⟨l.length,CU (kI l),yc (kI l),sq (kI l),ji (kI l)⟩
theorem PX(A:Option Addr)(len cap:Nat)(l:List aD)(w:World)(hs:cH w A len cap l)(hg:∀x∈l,x.good)(hn:len<=256) :
 Calls prog 181 #[.slice A len cap] w (Rt (.agg (iR l).row) (Bl w)):=by
 have HS:=hs;have HL:=hs.1;have HV:=Dy hg;clear hs hg;have E0:=(show Bl w (w.alloc (.cells #[I6 0,I6 0,I6 0,I6 0,I6 0] 68)) by go_grown);go_enter func181,ntmps181;go_wp2_with fail;refine(AP A len cap l _ (af HS E0) oM).mono ?_;rintro e w1 ⟨v,rfl,ho,hb1⟩;obtain⟨A',n',c',rfl,XQ,gU⟩:=ho.shape (λ_=>rfl);obtain rfl:n' = len:=by rw[XQ,Hm];exact HL
 have BR:=(ai.new w 68 #[I6 0,I6 0,I6 0,I6 0,I6 0]).call hb1;have E1:=zT E0 hb1;have SL:=gU;clear XQ ho gU hb1 E0
 by_cases h0:n' = 0
 ·have HQ:=(show iR l=⟨0,0,0,0,0⟩ by unfold iR;rw[if_pos (HL▸h0)])
  have:((n' : Int)==0)=true:=by simp;omega
  clear h0;go_wp2_with(refine zJ BR ?_;intro w9 b8 dM);refine zU b8 underlying68 ⟨by rw[HQ],E1.trans (Only.below dM lR E1.size)⟩
 ·have HQ:=(show iR l=⟨n',CU (kI l),yc (kI l),sq (kI l),ji (kI l)⟩ by unfold iR;rw[if_neg (HL▸h0),HL])
  have:((n' : Int)==0)=false:=by simp;omega
  have h1:1<=n':=oM
  have HG:=(λx hx=>(show aw x by have:=HV x hx;unfold aw;omega):∀x∈kI l,aw x);clear h0;go_wp2_with fail;refine(XC _ _ _ _ _ SL HG oM).mono ?_;rintro e w2 ⟨rfl,rfl⟩;go_wp2_with fail;refine(KR _ _ _ _ _ SL h1 oM).mono ?_;rintro e w2 ⟨rfl,rfl⟩;go_wp2_with fail;refine(KS _ _ _ _ _ SL h1 oM).mono ?_;rintro e w2 ⟨rfl,rfl⟩;go_wp2_with fail;refine(PS _ _ _ _ _ SL HG oM).mono ?_;rintro e w2 ⟨rfl,hb2⟩;go_wp2_with(refine zJ (BR.call hb2) ?_;intro w9 b8 dM);have E2:=zT E1 hb2;refine zU b8 underlying68 ⟨by rw[HQ],E2.trans (Only.below dM lR E2.size)⟩
def iT(to width:Int):Int:=nN (nN (to-width)+1)
theorem Ho(to width:Int)(w:World)(h1:aw to)(h2:aw width) :
 Calls prog 183 #[I6 to,I6 width] w λe w'=>e=.returned (I6 (iT to width))/\w=w':=by
 go_enter func183,ntmps183;go_wp2_with(first|(go_at_call 237;refine zN (MV _ _ _ h1 h2) ?_)|(go_at_call 170;refine zN (pd _ _ _ (nW _) (by unfold aw;omega)) ?_));go_ret;exact⟨rfl,rfl⟩
def ua(hg:∀x∈l,x.good)(f t:Int): ∀x∈iQ l f t,x.good:=λx hx=>hg x ((aD5.1 hx).1)
theorem ub(A:Option Addr)(len cap:Nat)(l:List aD)(to width:Int)(w:World)(hs:cH w A len cap l)(hg:∀x∈l,x.good)(hn:len<=256)(h1:aw to)(h2:aw width) :
 Calls prog 133 #[.slice A len cap,I6 to,I6 width] w (Rt (.agg (iR (iQ l (iT to width) to)).row) (Bl w)):=by
 have HS:=hs;have HL:=hs.1;have HG:=hg;clear hs hg;have E0:=(show Bl w (w.alloc (.cells #[I6 0,I6 0,I6 0,I6 0,I6 0] 68)) by go_grown);go_enter func133,ntmps133;go_wp2_with fail;refine(Ho to width _ h1 h2).mono ?_;rintro e w1 ⟨rfl,rfl⟩;go_wp2_with fail;refine(KN A len cap l _ to _ (af HS E0) oM).mono ?_;rintro e w1 ⟨v,rfl,ho,hb1⟩;obtain⟨A',n',c',rfl,XQ,gU⟩:=ho.shape (λ_=>rfl);have fo:n'<=256:=oI (Hl l (iT to width) to) HL
 have BR:=(ai.new w 68 #[I6 0,I6 0,I6 0,I6 0,I6 0]).call hb1;have E1:=zT E0 hb1;have SL:=gU;clear XQ ho gU hb1 E0;go_wp2_with fail;refine(PX A' n' c' _ _ SL (ua HG _ _) fo).mono ?_;rintro e w2 ⟨rfl,hb2⟩;have E2:=zT E1 hb2;go_wp2_with(refine zJ (BR.call hb2) ?_;intro w9 b8 dM);refine zU b8 underlying68 ⟨rfl,E2.trans (Only.below dM lR E2.size)⟩
def dV(l:List aD):Int:=sq (l.map aD.tick)
def PY{a:Int}(h:l[k]? = some x):((l.take (k+1)).map aD.tick).foldl max a=max (((l.take k).map aD.tick).foldl max a) x.tick:=by
 rw[dP h,aG4,aU5];rfl
theorem KT(h:l[0]? = some x):(l.map aD.tick).foldl max x.tick=dV l:=by
 cases l with
 |nil=>simp at h
 |cons a l=>simp at h;subst h;simp[dV,sq]
theorem ud(cap:Nat)(A:Option Addr)(w:World) :
 Calls prog 383 #[.slice A 0 cap] w λe w'=>e=.returned (.tuple #[I6 0,.bool false])/\w=w':=by
 go_enter func383,ntmps383;go_wp2;go_ret2;exact⟨rfl,rfl⟩
theorem AQ(A:Option Addr)(len cap:Nat)(l:List aD)(w:World)(hs:cH w A len cap l)(h1:1<=len)(hn:len<=1000) :
 Calls prog 383 #[.slice A len cap] w (Rt (.tuple #[I6 (dV l),.bool true]) (Bl w)):=by
 have HS:=hs;have HL:=hs.1;obtain⟨b,off,x0,rfl,hx0,hb0,u0,u1⟩:=hs.at_ (show 0<len by omega);rw[Nat.zero_mul,aH9]at u0;have TD:=hx0;have:((len:Int)==0)=false:=by simp;omega
 clear hs hx0 u1;go_enter func383,ntmps383;go_wp2;clear u0;go_loopw[4,16] (λm i wr=>∃k:Nat,k<=len/\i = I6 k/\m = I6 (((l.take k).map aD.tick).foldl max x0.tick)/\Bl w wr) (λ_ i _=>len-(intOf i).toNat)
 case atStart=>exact⟨0,oM,rfl,rfl,Below.refl _ _⟩
 case round=>
  obtain⟨k,hk,rfl,rfl,aT⟩:=hrel
  by_cases hlt:k<len
  ·obtain⟨b',tL,x,hab,hx,hb,t0,t1⟩:=HS.at_ hlt
   cases hab;have:=(aT.cell (p:=⟨b,off+k*2,none⟩) hb).trans t0;have:=(aT.cell (p:=⟨b,off+k*2+1,none⟩) hb).trans t1;have HN:=PY (a:=x0.tick) hx;have:(k:Int)<(len:Int):=oM
   have HB:=aT;clear hx t0 t1 hb aT;generalize((l.take k).map aD.tick).foldl max x0.tick=m at *
   by_cases hlo:m<x.tick
   ·have E:=(show max m x.tick=x.tick by omega)
    go_wp2;go_roundw
    case rel=>exact⟨k+1,oM,by go_num,by rw[HN,E],HB.alloc HB.size _⟩
    case measure=>simp[intOf];omega
   ·have E:=(show max m x.tick=m by omega)
    go_wp2;go_roundw
    case rel=>exact⟨k+1,oM,by go_num,by rw[HN,E],HB.alloc HB.size _⟩
    case measure=>simp[intOf];omega
  ·have hE:l.take k=l:=aB5 (oH HL)
   rw[hE,KT TD];clear hE;go_wp2;go_ret2;exact⟨rfl,aT⟩
def Hp(p:dI)(past:List aU):Int:=if past.length=0 then p.min else CZ past (past.length-1)
theorem KU(p:dI)(A:Option Addr)(len cap:Nat)(l:List aU)(w:World)(hs:dB w A len cap l)(hn:len<=1000) :
 Calls prog 384 #[(.agg #[I6 p.min,I6 p.max,I6 p.target,I6 p.lz,I6 p.bp,I6 p.hold]),.slice A len cap] w (Rt (I6 (Hp p l)) (Bl w)):=by
 have HL:=hs.1
 by_cases h0:len=0
 ·have HQ:=(show Hp p l=p.min by unfold Hp;rw[if_pos oM])
  have:((len:Int)==0)=true:=by simp;omega
  clear hs h0;go_enter func384,ntmps384;go_wp2;go_ret;exact⟨au HQ.symm,gW⟩
 ·have HQ:=(show Hp p l=CZ l (len-1) by unfold Hp;rw[if_neg oM,HL])
  have:((len:Int)==0)=false:=by simp;omega
  obtain⟨j,rfl⟩:∃j,len=j+1:=⟨len-1,oM⟩
  obtain⟨b,off,x,rfl,hx,hb,t0,t1,t2,t3,t4⟩:=hs.at_ (show j<j+1 by omega);have HX:=OT hx;clear hs h0 hx t0 t1 t2 t4 HL;go_enter func384,ntmps384;go_wp2;go_ret;exact⟨au (by rw[HQ,aT0,HX]),gW⟩
def Ua(p:dI)(held:Bool)(op now th:Int):Int:=if held then 4 else if p.max<op then 6 else if op<p.min then 5 else if now<th then 2 else if th<now then 3 else 1
theorem KV(p:dI)(held:Bool)(op now th:Int)(w:World) :
 Calls prog 390 #[(.agg #[I6 p.min,I6 p.max,I6 p.target,I6 p.lz,I6 p.bp,I6 p.hold]),.bool held,I6 op,I6 now,I6 th] w (Rt (I6 (Ua p held op now th)) (Bl w)):=by
 have HQ:=zD (show Ua p held op now th=if held then 4 else if p.max<op then 6 else if op<p.min then 5 else if now<th then 2 else if th<now then 3 else 1 from rfl);cases held
 all_goals
  go_enter func390,ntmps390;go_wp2
  all_goals
   go_ret;exact⟨au (by rw[HQ.out];simp only[aG8,if_false,if_true];repeat (first|rfl|rw[if_pos (by assumption)]|rw[if_neg oM])),by go_grown⟩
def hstep(f t:Int)(s:Int×Bool)(a:aU):Int×Bool:=if f<a.tick/\a.tick<=t/\(s.2=false\/s.1<a.want)then(a.want,true)else s
def ue(l:List aU)(f t:Int):Int×Bool:=l.foldl (hstep f t) (0,false)
def gK(l:List aU)(tick hold:Int):Int×Bool:=ue l (nN (tick-hold)) tick
def PZ{l:List aU}{x:aU}{f:Int}(h:l[k]? = some x):ue (l.take (k+1)) f t=hstep f t (ue (l.take k) f t) x:=by
 unfold ue;rw[dP h,aU5];rfl
def Cr{f bst:Int}{is:Bool}{x:aU}(h1:f<x.tick)(h2:x.tick<=t)(h3:is=false\/bst<x.want):hstep f t (bst,is) x=(x.want,true):=if_pos ⟨h1,h2,h3⟩
def ye{f bst:Int}{is:Bool}{x:aU}(h:¬(f<x.tick/\x.tick<=t/\(is=false\/bst<x.want))):hstep f t (bst,is) x=(bst,is):=if_neg h
theorem vS(A:Option Addr)(len cap:Nat)(l:List aU)(tick hold:Int)(w:World)(hs:dB w A len cap l)(hn:len<=1000)(h1:aw tick)(h2:aw hold) :
 Calls prog 397 #[.slice A len cap,I6 tick,I6 hold] w (Rt (.tuple #[I6 (gK l tick hold).1,.bool (gK l tick hold).2]) (Bl w)):=by
 have HS:=hs;have HL:=hs.1;clear hs;have HSub:=(λW=>MV tick hold W h1 h2);have HH:gK l tick hold=ue l (nN (tick-hold)) tick:=rfl;generalize nN (tick-hold)=F at *;go_enter func397,ntmps397;go_wp2_with(go_at_call 237;refine zN (HSub _) ?_);go_loopw[9,10,18] (λbv iv i wr=>∃k:Nat,∃bst:Int,∃is:Bool,k<=len/\i = I6 k/\bv = I6 bst/\iv=.bool is/\ue (l.take k) F tick=(bst,is)/\Bl w wr) (λ_ _ i _=>len-(intOf i).toNat)
 case atStart=>exact⟨0,0,false,oM,rfl,rfl,rfl,rfl,Below.refl _ _⟩
 case round=>
  obtain⟨k,bst,is,hk,rfl,rfl,rfl,hst,aT⟩:=hrel;have HST:=hst;clear hst
  by_cases hlt:k<len
  ·obtain⟨b,off,x,rfl,hx,hb,t0,t1,t2,t3,t4⟩:=HS.at_ hlt
   have:=(aT.cell (p:=⟨b,off+k*5,none⟩) hb).trans t0;have:=(aT.cell (p:=⟨b,off+k*5+1,none⟩) hb).trans t1;have:=(aT.cell (p:=⟨b,off+k*5+2,none⟩) hb).trans t2;have:=(aT.cell (p:=⟨b,off+k*5+3,none⟩) hb).trans t3;have:=(aT.cell (p:=⟨b,off+k*5+4,none⟩) hb).trans t4;have HN:=PZ (f:=F) (t:=tick) hx;have:(k:Int)<(len:Int):=oM
   have HB:=aT;clear hx t0 t1 t2 t3 t4 hb aT
   by_cases c1:F<x.tick
   ·by_cases c2:x.tick<=tick
    ·cases is
     ·have E:=Cr (bst:=bst) (is:=false) c1 c2 (.inl rfl)
      go_wp2;go_roundw
      case rel=>exact⟨k+1,_,_,oM,by go_num,rfl,rfl,by rw[HN,HST,E],HB.alloc HB.size _⟩
      case measure=>simp[intOf];omega
     ·by_cases c3:bst<x.want
      ·have E:=Cr (bst:=bst) (is:=true) c1 c2 (.inr c3)
       go_wp2;go_roundw
       case rel=>exact⟨k+1,_,_,oM,by go_num,rfl,rfl,by rw[HN,HST,E],HB.alloc HB.size _⟩
       case measure=>simp[intOf];omega
      ·have E:=ye (f:=F) (t:=tick) (bst:=bst) (is:=true) (x:=x) (λh=>by rcases h.2.2 with h|h<;>first|cases h|exact c3 h)
       go_wp2;go_roundw
       case rel=>exact⟨k+1,_,_,oM,by go_num,rfl,rfl,by rw[HN,HST,E],HB.alloc HB.size _⟩
       case measure=>simp[intOf];omega
    ·have E:=ye (f:=F) (t:=tick) (bst:=bst) (is:=is) (x:=x) (λh=>c2 h.2.1)
     go_wp2;go_roundw
     case rel=>exact⟨k+1,_,_,oM,by go_num,rfl,rfl,by rw[HN,HST,E],HB.alloc HB.size _⟩
     case measure=>simp[intOf];omega
   ·have E:=ye (f:=F) (t:=tick) (bst:=bst) (is:=is) (x:=x) (λh=>c1 h.1)
    go_wp2;go_roundw
    case rel=>exact⟨k+1,_,_,oM,by go_num,rfl,rfl,by rw[HN,HST,E],HB.alloc HB.size _⟩
    case measure=>simp[intOf];omega
  ·have hE:l.take k=l:=aB5 (oH HL)
   have HF:=(show gK l tick hold=(bst,is) by rw[HH,<-hE];exact HST);clear hE;go_wp2;go_ret2;exact⟨by rw[HF];rfl,aT⟩
def jA(p:dI)(tick want:Int)(past:List aU):Int×Bool:=if(gK past tick p.hold).2=true/\want<(gK past tick p.hold).1 then((gK past tick p.hold).1,true)else(want,false)
theorem P0(p:dI)(tick want:Int)(A:Option Addr)(len cap:Nat)(l:List aU)(w:World)(hp:p.fit)(hs:dB w A len cap l)(hn:len<=1000)(h1:aw tick) :
 Calls prog 388 #[(.agg #[I6 p.min,I6 p.max,I6 p.target,I6 p.lz,I6 p.bp,I6 p.hold]),I6 tick,I6 want,.slice A len cap] w (Rt (.tuple #[I6 (jA p tick want l).1,.bool (jA p tick want l).2]) (Bl w)):=by
 have HS:=zD hs;have E0:=zD (show Bl w (w.alloc (.cells p.row 43)) by go_grown);have HQ:=zD (show jA p tick want l=if(gK l tick p.hold).2=true/\want<(gK l tick p.hold).1 then((gK l tick p.hold).1,true)else(want,false)from rfl);have HHi:=zD (λW hW=>vS A len cap l tick p.hold W hW hn h1 hp.2.2.2.2.2);generalize jA p tick want l=R at *;clear hs;generalize gK l tick p.hold=hh at *;obtain⟨bst,is⟩:=hh;dsimp only at HQ HHi;go_enter func388,ntmps388;go_wp2_with fail;refine(HHi.out _ (af HS.out E0.out)).mono ?_;rintro e w1 ⟨rfl,hb1⟩;have E1:=zD (zT E0.out hb1);clear hb1;cases is
 ·have HR:=zD (show R=(want,false) by rw[HQ.out];simp)
  go_wp2;go_ret2;exact⟨by rw[HR.out];rfl,E1.out⟩
 ·by_cases c:want<bst
  ·have HR:=zD (show R=(bst,true) by rw[HQ.out];simp[c])
   go_wp2;go_ret2;exact⟨by rw[HR.out];rfl,E1.out⟩
  ·have HR:=zD (show R=(want,false) by rw[HQ.out];simp[c])
   go_wp2;go_ret2;exact⟨by rw[HR.out];rfl,E1.out⟩
def KX{l:List Int}(hg:∀x∈l,aw x)(h0:∀x∈l,0<=x)(M:Nat):decide (gZ l<=M*l.length)=decide (ji l<=(M:Int))/\0<=ji l/\ji l<=9223372036854775807:=by
 by_cases hl:l.length=0
 ·have e:l=[]:=aC0 hl
  subst e;simp[gZ,ji]
 ·obtain⟨h1,h2⟩:=KW hg oM
  have:=(rT (n:=gZ l) (d:=l.length) (q:=Ng (gZ l) l.length) oM).2 rfl;rw[h1];refine⟨?_,oM,oM⟩;rw[Bool.eq_iff_iff];simp only[decide_eq_true_eq]
  constructor
  ·intro h
   have:=Ub oM h;omega
  ·intro h
   have:=aE9 l.length (show Ng (gZ l) l.length<=M by omega);omega
def ag3(p:dI)(l:List aD)(past:List aU):aU:=
 let tick:=dV l
 let load:=ji (kI (iQ l (iT tick p.bp) tick))
 let now:=Hp p past
 let op:=j6 p load now
 let want:=eR p op
 let th:=eR p (jA p tick want past).1
 ⟨tick,load,want,th,Ua p (jA p tick want past).2 op now th⟩
def eU:aU:=⟨0,0,0,0,0⟩
def Xn(p:dI)(l:List aD)(past:List aU):aU:=if ¬p.xJ then eU else if l.length=0 then eU else ag3 p l past
def Uc(p:dI)(l:List aD):Int:=if ¬p.xJ then 7 else if l.length=0 then 5 else 0
def KY(l:List aD):(iR l).qV=ji (kI l):=by
 unfold iR
 split
 ·rename_i h
  rw[aC0 h];rfl
 ·rfl
theorem Hq(hg:∀x∈l,x.good):aw (dV l):=by
 unfold dV;cases l with
 |nil=>unfold sq aw;simp
 |cons a l=>
  show aw ((l.map aD.tick).foldl max a.tick)
  have key:∀(l:List aD),(∀x∈l,x.good)->∀m,aw m->aw ((l.map aD.tick).foldl max m):=by
   intro l
   induction l with
   |nil=>intro _ m hm;exact hm
   |cons x l ih=>
    intro hx m hm;refine ih (λy hy=>hx y (by simp[hy])) _ ?_;have:=(hx x sI).1;unfold aw at *;omega
  exact key l (λx hx=>hg x (by simp[hx])) _ (hg a sI).1
def Yy(hk:p.xJ)(h:l.length=0):Xn p l past=eU/\Uc p l=5:=by
 unfold Xn Uc;exact⟨by rw[if_neg (not_not_intro hk),if_pos h],by rw[if_neg (not_not_intro hk),if_pos h]⟩
def Ud(hk:p.xJ)(h:l.length≠0):Xn p l past=ag3 p l past/\Uc p l=0:=by
 unfold Xn Uc;exact⟨by rw[if_neg (not_not_intro hk),if_neg h],by rw[if_neg (not_not_intro hk),if_neg h]⟩
def ag4(hk:¬p.xJ):Xn p l past=eU/\Uc p l=7:=by
 unfold Xn Uc;exact⟨if_pos hk,if_pos hk⟩
def P9(p:dI)(load now:Int):Kj p load now=eR p (j6 p load now):=by
 unfold Kj j6;split<;>rfl
abbrev z28:Array Value:=#[I6 0,I6 0,I6 0,I6 0,I6 0]
def DI(w wr:World)(p:dI):Prop:=ai wr w.heap.size 43 p.row/\ai wr (w.heap.size+1) 49 z28/\Bl w wr
def DI.call{wr: World}(h:DI w wr p)(hb:Bl wr w'):DI w w' p:=⟨h.1.call hb,h.2.1.call hb,zT h.2.2 hb⟩
def DI.start(w:World)(p:dI):DI w ((w.alloc (.cells p.row 43)).alloc (.cells z28 49)) p:=
 ⟨(ai.new w _ _).alloc _,ai.dR w _ _ _,gW⟩
theorem Qa(p:dI)(A:Option Addr)(len cap:Nat)(l:List aD)(B:Option Addr)(AR yf:Nat)(past:List aU)(w:World)(hp:p.fit)(hs:cH w A len cap l)(hg:∀x∈l,x.good)(hn:len<=200)(hs2:dB w B AR yf past)(fo:AR<=1000) :
 Calls prog 377 #[(.agg #[I6 p.min,I6 p.max,I6 p.target,I6 p.lz,I6 p.bp,I6 p.hold]),.slice A len cap,.slice B AR yf] w (Rt (.tuple #[.agg (Xn p l past).cells.toArray,I6 (Uc p l)]) (Bl w)):=by
 have HS:=hs;have HS2:=hs2;have HL:=hs.1;have HG:=hg;have HP:=hp;have HT:=Hq hg;have D0:=DI.start w p;clear hs hs2 hg hp
 by_cases hk:p.xJ
 ·have HC:=(λW=>aY p W)
  rw[gj hk]at HC
  by_cases h0:len=0
  ·have HQ:=Yy (past:=past) hk (show l.length=0 by rw[HL];exact h0)
   subst h0;clear hk;go_enter func377,ntmps377;go_wp2_with fail;refine(HC _).mono ?_;rintro e v1 ⟨rfl,hb1⟩;have D1:=D0.call hb1;clear hb1;go_wp2_with fail;refine(ud cap A _).mono ?_;rintro e v2 ⟨rfl,rfl⟩;go_wp2_with(refine zJ D1.2.1 ?_;intro w9 b8 dM);refine bodyPost_ret (az rfl _ _ (w.heap.size+1) _ _ _ rfl b8 underlying49 rfl kZ) rfl ⟨by rw[HQ.1,HQ.2];rfl,D1.2.2.trans (Only.below dM oM D1.2.2.size)⟩
  ·have HQ:=Ud (past:=past) hk (show l.length≠0 by rw[HL];exact h0)
   have h1:1<=len:=oM
   have HDq:=(show ag3 p l past=(let tick:=dV l;let load:=ji (kI (iQ l (iT tick p.bp) tick));let now:=Hp p past;let op:=j6 p load now;let want:=eR p op;let th:=eR p (jA p tick want past).1;(⟨tick,load,want,th,Ua p (jA p tick want past).2 op now th⟩:aU))from rfl)
   have HLa:=(λW hW=>AQ A len cap l W hW h1 oM);have HAt:=(λW hW=>ub A len cap l (dV l) p.bp W hW HG (aB4 hn dC) HT HP.2.2.2.2.1);have hMI:aw (ji (kI (iQ l (iT (dV l) p.bp) (dV l)))):=by
    have:=KX (l:=kI (iQ l (iT (dV l) p.bp) (dV l))) (λx hx=>by have:=Dy (ua HG _ _) x hx;unfold aw;omega) (λx hx=>(Dy (ua HG _ _) x hx).1) 0;unfold aw;omega
   dsimp only at HDq;rw[<-(KY (iQ l (iT (dV l) p.bp) (dV l)))]at HDq hMI;generalize iR (iQ l (iT (dV l) p.bp) (dV l))=ST at *;generalize dV l=T at *;have Ks:=(λW hW=>KU p B AR yf past W hW fo);generalize Hp p past=NW at *;have HWa:=(λW=>rS p ST.qV W HP hMI);have mW:=(λW=>mO p ST.qV NW W HP hMI);have HRa:=(λW=>Gl p ST.qV NW W HP hMI);rw[P9]at HRa;have Ue:j6 p ST.qV NW=if oy p ST.qV NW then NW else xQ p ST.qV:=rfl
   generalize j6 p ST.qV NW=OP at *;generalize eR p OP=WT at *;have nI:=(λW hW=>P0 p T WT B AR yf past W HP hW fo HT);generalize jA p T WT past=SQ at *;obtain⟨sn,sh⟩:=SQ;dsimp only at nI HDq;have HBo:=(λW=>lC p sn W);generalize eR p sn=TH at *;have HWh:=(λW=>KV p sh OP NW TH W);generalize Ua p sh OP NW TH=WY at *;clear h0 hk HT hMI;go_enter func377,ntmps377;go_wp2_with fail;refine(HC _).mono ?_;rintro e v1 ⟨rfl,hb1⟩;have D1:=D0.call hb1;clear hb1;go_wp2_with fail;refine(HLa _ (af HS D1.2.2)).mono ?_;rintro e v2 ⟨rfl,hb2⟩;have D2:=D1.call hb2;clear hb2;go_wp2;refine zB λS0=>?_
   refine gi (i:=0) (v:=_) rfl kZ kZ kZ kZ rfl kZ (λj hj=>by first|(simp at hj;done)|(simp at hj;simp;omega)) (λ_ _ _ h=>h) (Or.inl ⟨by rfl,λW1 hW1=>by first|rfl|(go_simp;done)|(go_simp;with_reducible rfl)⟩) (S0)<|gi (i:=1) (v:=_) rfl kZ kZ kZ kZ rfl kZ (λj hj=>by first|(simp at hj;done)|(simp at hj;simp;omega)) (λ_ _ _ h=>h) (Or.inl ⟨by rfl,λW1 hW1=>by first|rfl|(go_simp;done)|(go_simp;with_reducible rfl)⟩) (S0)<|gi (i:=2) (v:=_) rfl kZ kZ kZ kZ rfl kZ (λj hj=>by first|(simp at hj;done)|(simp at hj;simp;omega)) (λ_ _ _ h=>h) (Or.inl ⟨by rfl,λW1 hW1=>by first|rfl|(go_simp;done)|(go_simp;with_reducible rfl)⟩) (S0)<|gi (i:=3) (v:=I6 p.bp) rfl kZ kZ kZ kZ rfl kZ (λj hj=>by first|(simp at hj;done)|(simp at hj;simp;omega)) (λ_ _ _ h=>h) (Or.inl ⟨by rfl,λW1 hW1=>by have:=(D2.1.call hW1).z 4 (I6 p.bp);go_simp⟩) (S0)<|gi (i:=6) (v:=_) rfl kZ kZ kZ kZ rfl kZ (λj hj=>by first|(simp at hj;done)|(simp at hj;simp;omega)) (λ_ _ _ h=>h) (Or.inl ⟨by rfl,λW1 hW1=>zb (D2.1.call hW1) underlying43⟩) (S0)<|gi (i:=7) (v:=_) rfl kZ kZ kZ kZ rfl kZ (λj hj=>by first|(simp at hj;done)|(simp at hj;simp;omega)) (λ_ _ _ h=>h) (Or.inl ⟨by rfl,λW1 hW1=>by first|rfl|(go_simp;done)|(go_simp;with_reducible rfl)⟩) (S0)<|zQ 4 ?_;go_wp2_with(go_at_call 133;refine zM (HAt _ (af HS (D2.call S0).2.2)) λv3 hb3=>?_);refine .i (zT S0 hb3) ?_;have S3:=zT S0 hb3;refine gi (i:=5) (v:=I6 ST.qV) rfl kZ kZ kZ kZ rfl kZ (λj hj=>by first|(simp at hj;done)|(simp at hj;simp;omega)) (λ_ _ _ h=>h) (Or.inl ⟨by rfl,λW1 hW1=>by first|kernel_rfl|(go_simp;done)⟩) (S3)<|zQ 8 ?_;go_wp2_with(go_at_call 384;refine zM (Ks _ (af HS2 (D2.call S3).2.2)) λv4 hb4=>?_);refine .i (zT S3 hb4) ?_;have S4:=zT S3 hb4;refine zQ 9 ?_;go_wp2_with fail;refine .i S4<|zQ 10 ?_;go_wp2_with fail;refine .i S4<|zd ?_;have D4:=D2.call S4;go_wp2_with(refine zI D4.1 underlying43 ?_);refine(HWa _).mono ?_;rintro e v5 ⟨rfl,dx⟩;have D5:=D4.call dx;clear dx;go_wp2_with(refine zI D5.1 underlying43 ?_);refine(mW _).mono ?_;rintro e v6 ⟨rfl,dJ⟩;have D6:=D5.call dJ;clear dJ;cases hnr:oy p ST.qV NW
   all_goals
    rw[hnr]at Ue;clear hnr;simp only[aG8,if_false,if_true]at Ue;go_wp2_with(refine zI D6.1 underlying43 ?_);refine(HRa _).mono ?_;rintro e v7 ⟨rfl,lV⟩;have D7:=D6.call lV;clear lV;go_wp2_with(refine zI D7.1 underlying43 ?_);refine(nI _ (af HS2 D7.2.2)).mono ?_;rintro e v8 ⟨rfl,sf⟩;have D8:=D7.call sf;clear sf;go_wp2_with(refine zI D8.1 underlying43 ?_);refine(HBo _).mono ?_;rintro e v9 ⟨rfl,b8⟩;have D9:=D8.call b8;clear b8
    first|(rw[Ue]at HWh)|skip
    go_wp2_with(refine zI D9.1 underlying43 ?_);refine(HWh _).mono ?_;rintro e v10 ⟨rfl,lJ⟩;have D10:=D9.call lJ;clear lJ;go_wp2_with(refine zJ D10.2.1 ?_;intro w9 b8 dM);refine bodyPost_ret (az rfl _ _ (w.heap.size+1) _ _ _ rfl b8 underlying49 rfl kZ) rfl ⟨by rw[HQ.1,HQ.2,HDq];rfl,D10.2.2.trans (Only.below dM oM D10.2.2.size)⟩
 ·have HC:=(λW=>aY p W)
  rw[jI hk]at HC;have HQ:=ag4 (l:=l) (past:=past) hk;clear hk HT;go_enter func377,ntmps377;go_wp2_with fail;refine(HC _).mono ?_;rintro e v1 ⟨rfl,hb1⟩;have D1:=D0.call hb1;clear hb1;go_wp2_with(refine zJ D1.2.1 ?_;intro w9 b8 dM);refine bodyPost_ret (az rfl _ _ (w.heap.size+1) _ _ _ rfl b8 underlying49 rfl kZ) rfl ⟨by rw[HQ.1,HQ.2];rfl,D1.2.2.trans (Only.below dM oM D1.2.2.size)⟩
def VS(c:aM)(x:ak):Nat:=(cN c x.k x.s x.t x.v x.p).length
def Ok(c:aM)(x:ak):VS c x<=136:=x6 _ _ _ _ _ _
def ku(c:aM)(l:List ak):Nat:=(l.map (VS c)).sum
def gh(c:aM)(rows:List (bq ak)):Nat:=(rows.map λr=>ku c r.l).sum
theorem uJ(c:aM)(l:List ak):ku c l<=136*l.length:=by
 induction l with
 |nil=>exact aC2 _
 |cons x l ih=>
  have:=Ok c x;unfold ku at *;rw[aH1,aS2,aC4];omega
def I9{c:aM}{l:List ak}{j:Nat}{x:ak}(h:l[j]? = some x):ku c (l.take (j+1))=ku c (l.take j)+VS c x:=by
 unfold ku;rw[aE3,h,aT2,aG4,List.sum_append];simp
def Ja{c:aM}{rows:List (bq ak)}{r:bq ak}(h:rows[k]? = some r):gh c (rows.take (k+1))=gh c (rows.take k)+ku c r.l:=by
 unfold gh;rw[aE3,h,aT2,aG4,List.sum_append];simp
theorem uK(c:aM)(rows:List (bq ak))(h:∀r∈rows,r.l.length<=20):gh c rows<=2720*rows.length:=by
 induction rows with
 |nil=>exact aC2 _
 |cons r rows ih=>
  have:=uJ c r.l;have:=h r sI;have:=ih (λx hx=>h x (by simp[hx]));unfold gh at *;rw[aH1,aS2,aC4];omega
def yO{off j:Nat}{x:ak}(hc:∀(i:Nat)(v:Value),x.cells[i]? = some v->w.cell? ⟨b,off+(j*11+i),none⟩=some v):
 w.cell? ⟨b,off+j*11,none⟩=some (I6 x.k)/\w.cell? ⟨b,off+j*11+1,none⟩=some (.string x.s)/\w.cell? ⟨b,off+j*11+2,none⟩=some (I6 x.t)/\w.cell? ⟨b,off+j*11+3,none⟩=some (I6 x.v)/\w.cell? ⟨b,off+j*11+4,none⟩=some (I6 x.h)/\w.cell? ⟨b,off+j*11+5,none⟩=some (I6 x.p.min)/\w.cell? ⟨b,off+j*11+6,none⟩=some (I6 x.p.max)/\w.cell? ⟨b,off+j*11+7,none⟩=some (I6 x.p.target)/\w.cell? ⟨b,off+j*11+8,none⟩=some (I6 x.p.lz)/\w.cell? ⟨b,off+j*11+9,none⟩=some (I6 x.p.bp)/\w.cell? ⟨b,off+j*11+10,none⟩=some (I6 x.p.hold):=by
 have h:∀(i:Nat)(v:Value),x.cells[i]? = some v->w.cell? ⟨b,off+j*11+i,none⟩=some v:=λi v hv=>by rw[aD9];exact hc i v hv
 exact⟨h 0 _ rfl,h 1 _ rfl,h 2 _ rfl,h 3 _ rfl,h 4 _ rfl,h 5 _ rfl,h 6 _ rfl,h 7 _ rfl,h 8 _ rfl,h 9 _ rfl,h 10 _ rfl⟩
def VT{A:Option Addr}{len cap:Nat}{rows:List (bq ak)}(h:ag w 1 bq.hdr A len cap rows)(hk:k<len):
 ∃(b off:Nat)(r:bq ak),A=some ⟨b,off,none⟩/\rows[k]? = some r/\b<w.heap.size/\w.cell? ⟨b,off+k,none⟩=some (.slice r.A r.n r.c):=by
 obtain⟨b,off,r,h1,h2,h3,h4⟩:=ag.at_ h hk;exact⟨b,off,r,h1,h2,h3,sH (h4 0 _ rfl)⟩
theorem Jb(c:aM)(A:Option Addr)(len cap:Nat)(rows:List (bq ak))(w:World)(hr:dK w 11 ak.cells A len cap rows)(hg:∀r∈rows,∀x∈r.l,x.good)(hc:c.fit)(hn:len<=40)(Fg:∀r∈rows,r.n<=20) :
 Calls prog 100 #[.agg c.row,.slice A len cap] w (Rt (I6 (gh c rows:Nat)) (Bl w)):=by
 have Er:=hr;have Nv:=hr.1.1;have HG:=hg;have HC:=hc;have H20:=Fg;have hm:cap<=9223372036854775807:=by have:=hr.1.2.2.1;unfold maxLen at this;omega
 have hle:len<=cap:=hr.1.2.1;have X:=And.intro (ai.new w 23 c.row) (show Bl w (w.alloc (.cells c.row 23)) by go_grown);have HT:=(λk (hk:k<=len)=>(show gh c (rows.take k)<=108800 from by
  have h1:=uK c (rows.take k) (λr h=>by have h2:=Fg r (aI0 h);have h3:=(hr.2 r (aI0 h)).1;omega);have h2:=aV4 k rows;omega))
 clear hr hg hc Fg;go_enter func100,ntmps100;go_wp2;go_loopw[5,12] (λs i wr=>∃k:Nat,k<=len/\i = I6 k/\s = I6 (gh c (rows.take k):Nat)/\ai wr w.heap.size 23 c.row/\Bl w wr) (λ_ i _=>len-(intOf i).toNat)
 case atStart=>exact⟨0,aB6 _,rfl,rfl,X.1,X.2⟩
 case round=>
  obtain⟨k,hk,rfl,rfl,hb,aT⟩:=hrel;have HB:=hb;have HE:=aT;clear hb aT
  by_cases hlt:k<len
  ·have Fb:(k:Int)<(len:Int):=oM
   obtain⟨b,off,r,rfl,hx,fH,t0⟩:=VT (af Er.1 HE) hlt;obtain⟨RA,rn,rc,rl⟩:=r;have kv:=aC1 hx;have VU:=Er.2 _ kv;have hrn:rn<=20:=H20 _ kv;have HGr:=HG _ kv;have Nl:rl.length=rn:=(Er.2 _ kv).1;have hrc:rn<=rc:=(Er.2 _ kv).2.1;have ay9:rc<=9223372036854775807:=by have:=(Er.2 _ kv).2.2.1;unfold maxLen at this;simp only at this;omega
   have HN:=Ja (c:=c) hx;have HNl:=Nl;have:=HT k hk;have nh:=HT (k+1) oM;rw[HN]at nh;simp only at nh VU HGr;clear hx kv Nl;generalize gh c (rows.take k)=T at *;obtain⟨wo,hwo⟩:=zE wr;rw[<-hwo]at HB HE t0 fH |-;clear hwo;go_wp2;go_loopw[5,18] (λs i wr2=>∃j:Nat,j<=rn/\i = I6 j/\s = I6 (T+ku c (rl.take j):Nat)/\ai wr2 w.heap.size 23 c.row/\Bl w wr2) (λ_ i _=>rn-(intOf i).toNat)
   case atStart=>exact⟨0,aB6 _,rfl,rfl,HB,HE⟩
   case round=>
    obtain⟨j,hj,rfl,rfl,hb2,qu⟩:=hrel;have tG:=hb2;have HE2:=qu;clear hb2 qu t0;have:ku c (rl.take j)<=136*20:=oI (uJ c (rl.take j)) (aV4 j rl)
    by_cases hlt2:j<rn
    ·have:(j:Int)<(rn:Int):=oM
     obtain⟨b2,gY,x,rfl,hx2,yP,hcl⟩:=ag.at_ (af VU HE2) hlt2;obtain⟨u0,u1,u2,u3,u4,u5,u6,u7,u8,u9,u10⟩:=yO hcl;have fG:=I9 (c:=c) hx2;have hxg:x.s.size<=maxLen:=HGr x (aC1 hx2);have HO:=(λW=>Cm c x.k x.s x.t x.v x.h x.p W hxg HC);have:=Ok c x;have NH:(cN c x.k x.s x.t x.v x.p).length=VS c x:=rfl;generalize cN c x.k x.s x.t x.v x.p=L at *;generalize VS c x=lx at *;generalize ku c (rl.take j)=RT at *;have B3:=tG.alloc (.cells (aj x.k x.s x.t x.v x.h x.p) 65);clear hcl hx2 hxg;go_wp2_with(first
      |refine zI B3 underlying23 ?_
      |refine zI (ai.new wr 65 (aj x.k x.s x.t x.v x.h x.p)) underlying65 ?_
      |(go_at_call 166;refine(HO _).mono ?_;rintro e v2 ⟨V2,rfl,o2,hb2⟩;obtain⟨A2,n2,c2,rfl,fo,-⟩:=o2.shape bK;obtain rfl:lx=n2:=(fo▸NH.symm);have D2:=zT (HE2.alloc HE2.size (.cells (aj x.k x.s x.t x.v x.h x.p) 65)) hb2;have B4:=B3.call hb2;clear hb2 o2 fo))
     go_roundw
     case rel=>exact⟨j+1,oM,by go_num,by rw[fG,<-aD9];go_num,B4,D2⟩
     case measure=>simp[intOf];omega
    ·obtain rfl:j=rn:=oM
     have zZ:rl.take j=rl:=aB5 (HNl▸aC2 _);go_wp2;go_roundw
     case rel=>exact⟨k+1,oM,by go_num,by rw[HN,zZ],tG,HE2⟩
     case measure=>simp[intOf];omega
  ·have zZ:rows.take k=rows:=aB5 (oH Nv)
   go_wp2;go_ret;exact⟨by rw[zZ];rfl,HE⟩
def VV(c:aM)(m:Nat)(wk:Int):Prop:=¬c.gV\/wk<0\/32<wk\/(m:Int)+wk<1\/32<(m:Int)+wk
instance(c:aM)(m:Nat)(wk:Int):Decidable (VV c m wk):=by unfold VV;infer_instance
def VW{α:Type}(rows:List (bq α)):Bool:=rows.any λr=>decide (256<r.n)
def ix{α:Type}(c:aM)(rows:List (bq α))(wk:Int):Int:=if VV c rows.length wk then 1 else if VW rows then 12 else 0
def LZ{A:Option Addr}{len cap:Nat}{rows:List (bq α)}(h:ag w 1 bq.hdr A len cap rows)(hk:k<len):
 ∃(b off:Nat)(r:bq α),A=some ⟨b,off,none⟩/\rows[k]? = some r/\b<w.heap.size/\w.cell? ⟨b,off+k,none⟩=some (.slice r.A r.n r.c):=by
 obtain⟨b,off,r,h1,h2,h3,h4⟩:=ag.at_ h hk;exact⟨b,off,r,h1,h2,h3,sH (h4 0 _ rfl)⟩
def o5{α:Type}(rows:List (bq α))(k:Nat):Prop:=∀i r,i<k->rows[i]? = some r->r.n<=256
def o5.next{rows:List (bq α)}{r:bq α}(h:o5 rows k)(hr:rows[k]? = some r)(hn:r.n<=256):o5 rows (k+1):=by
 intro i s hi hs;rcases aE2 i k with h1|h1
 ·exact h i s h1 hs
 ·obtain rfl:i=k:=oM
  rw[hr]at hs;injection hs with hs;rw[<-hs];exact hn
def o5.all{rows:List (bq α)}(h:o5 rows rows.length):VW rows=false:=by
 unfold VW;rw[List.any_eq_false];intro r hr;obtain⟨i,hi⟩:=aD7 hr;have:=h i r (d9.1 hi).1 hi;simp;omega
def VX{rows:List (bq α)}{r:bq α}(hr:rows[k]? = some r)(hn:256<r.n):VW rows=true:=List.any_eq_true.2 ⟨r,aC1 hr,sH hn⟩
theorem o7(c:aM)(A:Option Addr)(len cap:Nat)(rows:List (bq α))(wk:Int)(w:World)(hr:ag w 1 bq.hdr A len cap rows)(hc:c.fit)(hn:len<=100000):
 Calls prog 99 #[.agg c.row,.slice A len cap,I6 wk] w (Rt (I6 (ix c rows wk)) (Bl w)):=by
 have Er:=hr;have Nv:=hr.1;have hm:cap<=9223372036854775807:=by have:=hr.2.2.1;unfold maxLen at this;omega
 have OG:rows.length=len:=hr.1;have HR:=(λW=>fQ c W hc);have X:=And.intro (ai.new w 23 c.row) (show Bl w (w.alloc (.cells c.row 23)) by go_grown);clear hr
 by_cases a8:c.gV
 ·rw[show im c=0 from if_pos a8]at HR
  clear hc
  by_cases h1:wk<0
  ·have HE:ix c rows wk=1:=if_pos (.inr (.inl h1))
   have:decide (wk<0)=true:=sH h1
   clear h1 a8;go_enter func99,ntmps99;go_wp2_with(first
   |refine zI X.1 underlying23 ?_
   |(go_at_call 53;refine zM (HR _) λv1 hb1=>?_;have D1:=zT X.2 hb1;clear hb1))
   go_ret;exact⟨au HE.symm,D1⟩
  have:decide (wk<0)=false:=sH h1
  by_cases h2:32<wk
  ·have HE:ix c rows wk=1:=if_pos (.inr (.inr (.inl h2)))
   have:decide (32<wk)=true:=sH h2
   clear h1 h2 a8;go_enter func99,ntmps99;go_wp2_with(first
   |refine zI X.1 underlying23 ?_
   |(go_at_call 53;refine zM (HR _) λv1 hb1=>?_;have D1:=zT X.2 hb1;clear hb1))
   go_ret;exact⟨au HE.symm,D1⟩
  have:decide (32<wk)=false:=sH h2
  have:IntKind.i64.wrap ((len:Int)+wk)=(len:Int)+wk:=IntWalk.i64_in _ oM
  by_cases h3:(len:Int)+wk<1
  ·have HE:ix c rows wk=1:=if_pos (.inr (.inr (.inr (.inl (OG▸h3)))))
   have:decide ((len:Int)+wk<1)=true:=sH h3
   have:0<=wk:=oM
   have:wk<=32:=oM
   clear h1 h2 h3 a8;go_enter func99,ntmps99;go_wp2_with(first
   |refine zI X.1 underlying23 ?_
   |(go_at_call 53;refine zM (HR _) λv1 hb1=>?_;have D1:=zT X.2 hb1;clear hb1))
   go_ret;exact⟨au HE.symm,D1⟩
  have:decide ((len:Int)+wk<1)=false:=sH h3
  by_cases h4:32<(len:Int)+wk
  ·have HE:ix c rows wk=1:=if_pos (.inr (.inr (.inr (.inr (OG▸h4)))))
   have:decide (32<(len:Int)+wk)=true:=sH h4
   clear h1 h2 h3 h4 a8;go_enter func99,ntmps99;go_wp2_with(first
   |refine zI X.1 underlying23 ?_
   |(go_at_call 53;refine zM (HR _) λv1 hb1=>?_;have D1:=zT X.2 hb1;clear hb1))
   go_ret;exact⟨au HE.symm,D1⟩
  have:decide (32<(len:Int)+wk)=false:=sH h4
  have HE:ix c rows wk=if VW rows then 12 else 0:=if_neg (by unfold VV;rw[OG];rintro(h|h|h|h|h)<;>first|exact h a8|omega)
  clear h1 h2 h3 h4 a8 OG;go_enter func99,ntmps99;go_wp2_with(first
   |refine zI X.1 underlying23 ?_
   |(go_at_call 53;refine zM (HR _) λv1 hb1=>?_;have D1:=zT X.2 hb1;clear hb1))
  go_loopw[37] (λi wr=>∃k:Nat,k<=len/\i = I6 k/\o5 rows k/\Bl w wr) (λi _=>len-(intOf i).toNat)
  case atStart=>exact⟨0,aB6 _,rfl,(λi r h=>oM),D1⟩
  case round=>
   obtain⟨k,hk,rfl,hsm,aT⟩:=hrel;have vY:=hsm;have HB:=aT;clear hsm aT
   by_cases hlt:k<len
   ·have:(k:Int)<(len:Int):=oM
    obtain⟨b,off,r,rfl,hx,fH,t0⟩:=LZ (af Er HB) hlt
    by_cases hbig:256<r.n
    ·have HE2:ix c rows wk=12:=HE.trans (by simp[VX hx hbig])
     have:decide ((256:Int)<(r.n:Int))=true:=by simp;omega
     clear hx hbig;go_wp2;go_ret;exact⟨au HE2.symm,HB⟩
    ·have HN:=vY.next hx oM
     have:decide ((256:Int)<(r.n:Int))=false:=by simp;omega
     clear hx hbig;go_wp2;go_roundw
     case rel=>exact⟨k+1,oM,by go_num,HN,HB⟩
     case measure=>simp[intOf];omega
   ·have HE2:ix c rows wk=0:=HE.trans (by simp[o5.all (show o5 rows rows.length from by rw[Nv,show len=k by omega];exact vY)])
    go_wp2;go_ret;exact⟨au HE2.symm,HB⟩
 ·rw[show im c=1 from if_neg a8]at HR
  have HE:ix c rows wk=1:=if_pos (.inl a8);clear a8 hc;go_enter func99,ntmps99;go_wp2_with(first
   |refine zI X.1 underlying23 ?_
   |(go_at_call 53;refine zM (HR _) λv1 hb1=>?_;have D1:=zT X.2 hb1;clear hb1))
  go_ret;exact⟨au HE.symm,D1⟩
end Go.Proofs.YtjgmjohiehbgaaaGreat
