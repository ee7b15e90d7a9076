/- Part 11. -/
import Derived.Test.YtjgmjohiehbgaaaGreatQ6
import Derived.Test.YtjgmjohiehbgaaaGreatQ9
namespace Go.Proofs.YtjgmjohiehbgaaaGreat
open Go.RowKit Go.Proofs.Tryz
set_option maxHeartbeats 20000000
set_option maxRecDepth 100000
set_option linter.all false
variable {F:Nat->Prop} {b g i n:Nat} {c:bh} {f:Key->Option Value} {fr:Bool} {k:Key} {w w':World} {x:Ld} {β:Type}
section
open Go.RowKit Go.Maps
abbrev zx:TypeId:=211
theorem fu:prog.underlying zx=some (.map aS 158):=underlying211
theorem mP (w:World):(zeroValue 158).run prog w=.ok (.pointer none) w:=kZ
def aJ {β:Type} (l:List (Key×β)) (k:Key):Option β:=(l.find? fun y=>decide (y.1=k)).map Prod.snd
def rX {β:Type} (l:List (Key×β)) (k:Key) (x:β):List (Key×β):=if k∈l.map Prod.fst then l.map fun y=>if y.1=k then(k,x)else y else l++[(k,x)]
theorem lY (l:List (Key×β)) (k:Key) (x:β):(rX l k x).map Prod.fst=cE (l.map Prod.fst) k:=by
 unfold rX cE
 split
 ·rw[List.map_map]
  refine List.map_congr_left fun y _=>?_
  simp only[Function.comp]
  split
  ·rename_i e;exact e.symm
  ·rfl
 ·simp
theorem jV {l:List (Key×β)}: aJ l k=none↔k ∉ l.map Prod.fst:=by
 unfold aJ;simp[List.find?_eq_none]
 constructor
 ·intro h x hx;exact h k x hx rfl
 ·intro h a b hab e;subst e;exact h b hab
theorem tW {l:List (Key×β)} {x:β} (h:aJ l k=some x):(k,x)∈l:=by
 unfold aJ at h;obtain⟨y,hy,rfl⟩:=Option.map_eq_some_iff.1 h;have h1:=List.find?_some hy;have h2:=List.mem_of_find?_eq_some hy;have:y.1=k:=of_decide_eq_true h1;rw[<-this];exact h2
theorem lZ (l:List (Key×β)) (k:Key) (x:β) (j:Key):aJ (rX l k x) j=if j=k then some x else aJ l j:=by
 unfold rX
 split
 ·rename_i hm
  by_cases e:j=k
  ·subst e
   rw[if_pos rfl]
   induction l with
   |nil=>simp at hm
   |cons y l ih=>
    unfold aJ at ih |-;simp only[aG2,List.find?_cons]
    by_cases e:y.1=j
    ·simp[e]
    ·simp[e]
     simp[e]at hm;have:=ih (by simpa[Ne.symm e]using hm)
     simpa using this
  ·rw[if_neg e]
   clear hm;unfold aJ
   induction l with
   |nil=>rfl
   |cons y l ih=>
    simp only[aG2,List.find?_cons]
    by_cases e2:y.1=k
    ·simp only[if_pos e2]
     have h3:¬y.1=j:=fun h=>e (by rw[<-h,e2])
     have h4:¬k=j:=fun h=>e h.symm
     simpa[h3,h4]using ih
    ·simp only[if_neg e2]
     by_cases e3:y.1=j
     ·simp[e3]
     ·simpa[e3]using ih
 ·rename_i hm
  unfold aJ;rw[List.find?_append]
  by_cases e:j=k
  ·subst e
   rw[if_pos rfl];have:l.find? (fun y=>decide (y.1=j))=none:=by
    have:=(jV (l:=l) (k:=j)).2 hm;unfold aJ at this
    simpa using this
   rw[this];simp
  ·rw[if_neg e]
   have h4:¬k=j:=fun h=>e h.symm
   cases h5:l.find? (fun y=>decide (y.1=j))<;>simp[h4]
structure bF where
 cfg:aM
 loads:List (Key×Ld)
 fK:Int
abbrev bF.keys (s:bF):List Key:=s.loads.map Prod.fst
def bF.put (s:bF) (k:Key) (x:Ld):bF:=⟨s.cfg,rX s.loads k x,s.fK+1⟩
abbrev spT:TypeId:=213
abbrev aw4 (b:Nat) (s:bF):Array Value:=#[.map (some b),I6 s.cfg.str,I6 s.cfg.dE,I6 s.cfg.lW,I6 s.cfg.iI,I6 s.fK]
def rY (i:Nat) (k:Key) (fr:Bool):Tag:=if fr then .nS else .nd i k
def jx (i:Nat) (t:Tag):Prop:=t=.st i\/∃k,t=.nd i k
theorem bS (i:Nat):¬jx i .nS:=by rintro(h|⟨k,h⟩)<;>cases h
structure dU (w:World) (c:bh) (i g b:Nat) (f:Key->Option Value) (s:bF) (ex:Key->Prop):Prop where
 blk:ai w g spT (aw4 b s)
 map:bP ll w b f s.keys
 ne:b≠g
 cg:c g=some (.st i)
 cb:c b=some (.st i)
 wH:∀k x,¬ex k->aJ s.loads k=some x->∃p F fr,f k=some (.pointer p)/\aR w p F s.cfg x fr/\∀j,F j->c j=some (rY i k fr)
def dN (w:World) (c:bh) (i g:Nat) (s:bF):Prop:=∃b f,dU w c i g b f s (fun _=>False)
section
variable {T:Tag->Prop} {w w' : World} {c c' : bh} {i g b:Nat} {f:Key->Option Value} {s:bF} {ex ex' : Key->Prop}
theorem dU.step (h:dU w c i g b f s ex) (hs:ae T w w' c c') (h1:¬T (.st i)) (h2:¬T .nS) (h3:∀k,T (.nd i k)->ex' k) (h4:∀k,ex k->ex' k):dU w' c' i g b f s ex':=
 ⟨hs.blk h.blk h.cg h1,hs.aw0 h.map h.cb h1,h.ne,hs.keep h.blk.lt h.cg h1,hs.keep h.map.lt h.cb h1,fun k x hk hx=>by
  obtain⟨p,F,fr,e1,e2,e3⟩:=h.wH k x (fun e=>hk (h4 k e)) hx;have ht:¬T (rY i k fr):=by
   unfold rY;cases fr
   ·exact fun e=>hk (h3 k e)
   ·exact h2
  obtain⟨k1,k2⟩:=hs.node e2 e3 ht;exact⟨p,F,fr,e1,k1,k2⟩⟩
theorem dN.step (h:dN w c i g s) (hs:ae T w w' c c') (h1:∀t,T t->¬jx i t) (h2:¬T .nS):dN w' c' i g s:=by
 obtain⟨b,f,h⟩:=h;exact⟨b,f,h.step hs (fun e=>h1 _ e (.inl rfl)) h2 (fun k e=>h1 _ e (.inr ⟨k,rfl⟩)) (fun _ e=>e)⟩
theorem dU.call (h:dU w c i g b f s ex) (hb:Bl w w'):dU w' c i g b f s ex:=
 ⟨h.blk.call hb,h.map.call hb,h.ne,h.cg,h.cb,fun k x hk hx=>by
  obtain⟨p,F,fr,e1,e2,e3⟩:=h.wH k x hk hx;exact⟨p,F,fr,e1,e2.call hb,e3⟩⟩
theorem dN.call (h:dN w c i g s) (hb:Bl w w'):dN w' c i g s:=by
 obtain⟨b,f,h⟩:=h;exact⟨b,f,h.call hb⟩
theorem dU.drewN (h:dU w c i g b f s ex) (n:Nat):dU (w.drewN n) c i g b f s ex:=h.call (below_drewN bR n)
theorem dU.look (h:dU w c i g b f s ex) (hk:k.good):(Instr.lookup zx (.map (some b)) (.agg k.row) false).run prog w=.ok ((f k).getD (.pointer none)) w:=h.map.look (E:=ll) fu (mP w) hk
theorem dU.Ku (h:dU w c i g b f s ex) (hk:k.good):(Instr.lookup zx (.map (some b)) (.agg k.row) true).run prog w=.ok (.tuple #[(f k).getD (.pointer none),.bool (f k).isSome]) w:=h.map.look_ok (E:=ll) fu (mP w) hk
theorem dU.GA (h:dU w c i g b f s ex) (hn:aJ s.loads k=none):f k=none:=by
 cases e:f k with
 |none=>rfl
 |some v=>exact absurd ((h.map.mem k).2 (by rw[e];rfl)) (jV.1 hn)
theorem dU.good (h:dU w c i g b f s ex):∀k∈s.keys,k.good:=h.map.good
end
theorem Kv (b:Nat) :
 (∀(W:World) (op:BinOp) (o1 o2:Operand),(eqGuard op zx o1 o2 (.map (some b)) (.map none)).run prog W=.ok () W)/\
 (∀W:World,(binOp .neq zx (.map (some b)) (.map none)).run prog W=.ok (.bool true) W):=by
 refine⟨fun W op o1 o2=>?_,fun W=>?_⟩
 ·simp[eqGuard,run_underlying fu]
 ·kernel_rfl
theorem kM {c:bh} {i g b:Nat} {f:Key->Option Value} {s:bF} {ex:Key->Prop} (w:World) (h:dU w c i g b f s ex):Calls prog 135 #[pt g] w fun e w'=>e=.returned (.bool true)/\w=w':=by
 have:=h.blk.z 0 (.map (some b));obtain⟨q1,q2⟩:=Kv b;clear h;go_enter func135,ntmps135;go_wp2;go_ret;exact⟨rfl,rfl⟩
theorem mQ {c:bh} {i g b:Nat} {f:Key->Option Value} {s:bF} {ex:Key->Prop} (k:Key) (w:World) (h:dU w c i g b f s ex) (hk:k.good):Calls prog 83 #[pt g,.agg k.row] w (Rt ((f k).getD (.pointer none)) (Bl w)):=by
 have EX:=zW w (.cells k.row aS);have H0:=h.call EX;have:=H0.blk.z 0 (.map (some b));have: ∀n,(Instr.lookup zx (.map (some b)) (.agg k.row) false).run prog ((w.alloc (.cells k.row aS)).drewN n)=.ok ((f k).getD (.pointer none)) ((w.alloc (.cells k.row aS)).drewN n):=fun n=>(H0.drewN n).look hk
 have:=(ai.new w aS k.row).z 0 (V6 k.hi);have:=(ai.new w aS k.row).z 1 (V6 k.lo);have HM:=kM _ H0;have EX':=EX;clear h H0 EX;generalize(f k).getD (.pointer none)=V at *;go_enter func83,ntmps83;go_wp2_with(go_at_call 135;refine HM.mono ?_;rintro e w1 ⟨rfl,rfl⟩);go_quiet(fail);go_wp2;go_ret;exact⟨rfl,below_drewN EX' _⟩
theorem ae.same {S:Nat->Prop} {T:Tag->Prop} {w w' : World} {c:bh} (hu:ah S w w') (hS:∀k,S k->∃t,c k=some t/\T t) (hc:∀k,w.heap.size<=k->c k=none):ae T w w' c c:=
 ⟨hu.mono hS,fun _ _ _=>rfl,(ae.refl T w c hc).new,fun k hk=>hc k (aB4 hu.size hk)⟩
theorem ah.bE {w w' : World} {b:Nat} (hg:w.grownBy w' (some b)):ah (fun k=>k=b) w w':=⟨hg.os,hg.tape,hg.output,hg.size,fun k hk hn=>hg.block k hk (fun e=>hn (by injection e))⟩
def ao1 (c:bh) (i g b:Nat) (f:Key->Option Value) (s:bF) (k:Key) (p:Option Addr) (x:Ld) (w:World) (e:Ending) (w' : World):Prop:=e=.returned (.tuple #[])/\dU w' c i g b (lg f k (.pointer p)) (s.put k x) (fun _=>False)/\ae (jx i) w w' c c
theorem dU.put {w w1:World} {c:bh} {i g b:Nat} {f:Key->Option Value} {s:bF} {p:Option Addr} (h:dU w c i g b f s (fun j=>j=k)) (hn:aR w p F s.cfg x fr) (hF:∀j,F j->c j=some (rY i k fr)) (hm:bP ll w1 b (lg f k (.pointer p)) (cE s.keys k)) (hg:w.grownBy w1 (some b)) (hc:∀k,w.heap.size<=k->c k=none):
 dU (w1.setCell ⟨g,5,none⟩ (I6 (s.fK+1))) c i g b (lg f k (.pointer p)) (s.put k x) (fun _=>False)/\ae (jx i) w (w1.setCell ⟨g,5,none⟩ (I6 (s.fK+1))) c c:=by
 have hu:ah (fun j=>j=b\/j=g) w (w1.setCell ⟨g,5,none⟩ (I6 (s.fK+1))):=((ah.bE hg).mono iL).setCell (.inl (.inr rfl)) _;have hS:∀j,(j=b\/j=g)->∃t,c j=some t/\jx i t:=by
  rintro j (rfl|rfl)
  ·exact⟨_,h.cb,.inl rfl⟩
  ·exact⟨_,h.cg,.inl rfl⟩
 have nst:∀j k' Ae,c j=some (rY i k' Ae)->¬(j=b\/j=g):=by
  rintro j k' Ae e (rfl|rfl)
  ·rw[h.cb]at e;cases Ae<;>cases e
  ·rw[h.cg]at e;cases Ae<;>cases e
 refine⟨⟨((h.blk.grown hg (fun e=>h.ne (by injection e with e;exact e.symm))).aX 5 _),?_,h.ne,h.cg,h.cb,fun k' y _ hy=>?_⟩,ae.same hu hS hc⟩
 ·exact(hm.far (p:=⟨g,5,none⟩) h.ne _).tI rfl (lY _ _ _).symm
 ·change aJ (rX s.loads k x) k' = some y at hy
  rw[lZ]at hy
  by_cases e:k' = k
  ·subst e
   rw[if_pos rfl]at hy;injection hy with hy
   subst hy;exact⟨p,F,fr,by unfold lg;rw[if_pos rfl],hn.upd hu (fun j hj=>nst j _ _ (hF j hj)),hF⟩
  ·rw[if_neg e]at hy
   obtain⟨p',F',Ae,e1,e2,e3⟩:=h.wH k' y e hy;exact⟨p',F',Ae,by unfold lg;rw[if_neg e];exact e1,e2.upd hu (fun j hj=>nst j _ _ (e3 j hj)),e3⟩
theorem kN {c:bh} {i g b:Nat} {f:Key->Option Value} {s:bF} (k:Key) (p:Option Addr) (F:Nat->Prop) (x:Ld) (fr:Bool) (w:World) (h:dU w c i g b f s (fun j=>j=k)) (hk:k.good) (hn:aR w p F s.cfg x fr) (hF:∀j,F j->c j=some (rY i k fr))
 (hc:∀k,w.heap.size<=k->c k=none) (hv:0<=s.fK/\s.fK<=100000) (hl:s.keys.length<=100000) :
 Calls prog 138 #[pt g,.agg k.row,.pointer p] w (ao1 c i g b f s k p x w):=by
 have EX:=zW w (.cells k.row aS);have CX:=ae.aa (jx i) c hc EX;have H0:=h.call EX;have N0:=hn.call EX;have BX:=ai.new w aS k.row;have HK:=hk;have HF:=hF;have fJ:s.keys.length<maxLen:=by unfold maxLen;omega
 have:=hv.1;have:=hv.2;have HC:=(fun j (hj:(w.alloc (.cells k.row aS)).heap.size<=j)=>hc j (by simp at hj;omega));clear h hn hk hF EX hl hv hc;go_enter func138,ntmps138;go_upto_region 1 with fail
 generalize w.alloc (.cells k.row aS)=W1 at *;generalize w.heap.size=gx at *;refine zr (fun j=>[6].contains j) (fun wS=>Bl W1 wS) ?_;have S0:=(Below.refl W1.heap.size W1).drew;refine zk 2 [0,1,2,3,4] [_,_,_,.map (some b),_] (.q zX<|.q zX<|.q zX<|.q (zS fun _ h=>(H0.blk.call h).z 0 (.map (some b)))<|.c rfl rfl (zl fun _ h=>zb (BX.call h) underlying83) .nil) S0 ?_;refine zq 1 [5] [_] S0 ?_;refine aq _ _ _ _ kZ ?_;refine zO 6 (fun Q2 aI=>?_);go_wp2_with(refine df ll _ rfl _ _ _ zx rfl 158 fu b f s.keys rfl (H0.call (S0)).map fJ k rfl HK (.pointer p) rfl ?_;intro w5 Ay iK);(try refine aI _ _ ?_);(try clear aI Q2)
 refine wpAny_done kZ ?_ _;have HX:=(H0.call S0).put (N0.call S0) HF Ay iK (fun j hj=>HC j (aB4 S0.size hj));have HX2:=HX;have:=((H0.call S0).blk.grown iK (fun e=>H0.ne (by injection e with e;exact e.symm))).z 5 (I6 s.fK);have:=((H0.call S0).blk.grown iK (fun e=>H0.ne (by injection e with e;exact e.symm))).frozen 5;have CS:=CX.trans (ae.aa (jx i) c HC S0) (bS i);clear HX Ay iK S0 H0 N0 CX BX;go_wp2;go_end0;exact⟨rfl,HX2.1,CS.trans HX2.2 (bS i)⟩
end
section
open Go.RowKit Go.Maps
theorem oC.GC {p' : Option Addr} {F': Nat->Prop} {cf:aM} {y:Ld} (h:oC F fr w w' F') (hn:aR w' p' F' cf y false) (hF:∀j,F j->c j=some (rY i k fr)) (hc:∀k,w.heap.size<=k->c k=none):
 (∀j,F' j->ft F' (.nd i k) c j=some (rY i k false))/\ae (fun t=>t=.nd i k) w w' c (ft F' (.nd i k) c):=by
 refine⟨fun j hj=>bw hj,?_⟩;cases fr
 ·exact ae.one (T:=fun t=>t=.nd i k) (t:=.nd i k) h.1 hF rfl F' (fun j hj=>(h.2.1 j hj).imp (hF j) id) hn.lt hc
 ·obtain⟨h1,h2⟩:=h.2.2 rfl
  exact ae.one (T:=fun t=>t=.nd i k) (t:=.nd i k) (S:=fun _=>False) (ah.aa h1) (fun _ h=>h.elim) rfl F' (fun j hj=>.inr (h2 j hj)) hn.lt hc
theorem Pu.GC {p p' : Option Addr} {cf:aM} {y:Ld} (h:Pu p F cf x fr y w p' w') (hF:∀j,F j->c j=some (rY i k fr)) (hc:∀k,w.heap.size<=k->c k=none):
 ∃F' Ae c',aR w' p' F' cf y Ae/\(∀j,F' j->c' j=some (rY i k Ae))/\ae (fun t=>t=.nd i k) w w' c c':=by
 rcases h with⟨F',h1,h2,-⟩|⟨rfl,rfl,h1,h2⟩
 ·obtain⟨k1,k2⟩:=h2.GC h1 hF hc
  exact⟨F',false,_,h1,k1,k2⟩
 ·exact⟨F,fr,c,h1,hF,ae.aa _ c hc h2⟩
def gH (s:bF) (k:Key):Option Ld:=match aJ s.loads k with
 |some x=>some x
 |none=>if s.cfg.lW<=(s.loads.length:Nat)then none else some Ff
def Tn (c:bh) (i g b:Nat) (f:Key->Option Value) (s:bF) (k:Key) (x:Ld) (w:World) (e:Ending) (w' : World):Prop:=
 ∃p F fr c',e=.returned (.tuple #[.pointer p,I6 0])/\aR w' p F s.cfg x fr/\(∀j,F j->c' j=some (rY i k fr))/\dU w' c' i g b f s (fun j=>j=k)/\ae (jx i) w w' c c'
theorem xU {s:bF} (k:Key) (x:Ld) (w:World) (h:dU w c i g b f s (fun _=>False)) (hk:k.good) (hc:∀k,w.heap.size<=k->c k=none) (hx:aJ s.loads k=some x):
 Calls prog 136 #[pt g,.agg k.row] w (Tn c i g b f s k x w):=by
 have EX:=zW w (.cells k.row aS);have H0:=h.call EX;obtain⟨p,F,fr,e1,e2,e3⟩:=h.wH k x (fun e=>e) hx;have c0:=H0.blk.z 0 (.map (some b));have hl:∀n,(Instr.lookup zx (.map (some b)) (.agg k.row) true).run prog ((w.alloc (.cells k.row aS)).drewN n)=.ok (.tuple #[.pointer p,.bool true]) ((w.alloc (.cells k.row aS)).drewN n):=fun n=>by
  have:=(H0.drewN n).Ku hk;rw[e1]at this;exact this
 have:=(ai.new w aS k.row).z 0 (V6 k.hi);have:=(ai.new w aS k.row).z 1 (V6 k.lo);have R:=(fun n=>(show aR ((w.alloc (.cells k.row aS)).drewN n) p F s.cfg x fr/\(∀j,F j->c j=some (rY i k fr))/\dU ((w.alloc (.cells k.row aS)).drewN n) c i g b f s (fun j=>j=k)/\ae (jx i) w ((w.alloc (.cells k.row aS)).drewN n) c c from
  have hb:=below_drewN EX n
  ⟨e2.call hb,e3,(h.step (ae.aa (fun _=>False) c hc hb) (fun e=>e) (fun e=>e) (fun _ e=>e.elim) (fun _ e=>e.elim)),ae.aa _ c hc hb⟩))
 clear h H0 EX e1 e2 e3 hx hc;go_enter func136,ntmps136;go_wp2;go_quiet(fail);go_wp2;go_ret2;exact⟨_,_,_,_,rfl,R _⟩
theorem vQ {s:bF} (k:Key) (w:World) (h:dU w c i g b f s (fun _=>False)) (hk:k.good) (hc:∀k,w.heap.size<=k->c k=none) (hx:aJ s.loads k=none) (hl:¬s.cfg.lW<=(s.loads.length:Nat)) (hf:s.cfg.fit) (a8:s.cfg.gV):
 Calls prog 136 #[pt g,.agg k.row] w (Tn c i g b f s k Ff w):=by
 have EX:=zW w (.cells k.row aS);have HX:=EX;have H0:=h.call EX;have HH:=h;have H1:=H0;have HC:=hc;have c0:=H0.blk.z 0 (.map (some b));have hl0:∀n,(Instr.lookup zx (.map (some b)) (.agg k.row) true).run prog ((w.alloc (.cells k.row aS)).drewN n)=.ok (.tuple #[.pointer none,.bool false]) ((w.alloc (.cells k.row aS)).drewN n):=fun n=>by
  have:=(H0.drewN n).Ku hk;rw[(h.GA hx)]at this;exact this
 have b0:=(ai.new w aS k.row).z 0 (V6 k.hi);have b1:=(ai.new w aS k.row).z 1 (V6 k.lo);have HN:=(fun W=>Gq s.cfg W hf a8);have:decide (s.cfg.lW<=(s.loads.length:Nat))=false:=sH hl
 clear h H0 EX hx hc hl;go_enter func136,ntmps136;go_wp2;go_quiet(fail);have EX2:=below_drewN HX nq;have H2:=H1.drewN nq;clear c0 hl0 b0 b1 H1 HX;obtain⟨W1,hW1⟩:∃W1,(w.alloc (.cells k.row aS)).drewN nq=W1:=⟨_,rfl⟩
 rw[hW1]at EX2 H2 |-;clear hW1;obtain⟨gx,hgx⟩:=zE w.heap.size;rw[<-hgx];clear hgx;go_upto_region 4 with fail
 refine zB fun S0=>?_
 refine zk 7 [0,1,2,3,5] [_,_,_,.map (some b),_] (.q zX<|.q zX<|.q zX<|.q (zS fun _ h=>(H2.blk.call h).z 0 (.map (some b)))<|.e) S0 ?_;refine zk 3 [6,7,8,9] [_,_,_,I6 s.cfg.lW] (.q zX<|.q zX<|.q zX<|.q (zS fun _ h=>(H2.blk.call h).z 3 (I6 s.cfg.lW)) .nil) S0 ?_;refine zQ 4 ?_;go_wp2_with(refine nw ll _ rfl _ zx rfl 158 fu b f s.keys rfl (H2.call (S0)).map ?_);refine .i S0 ?_;refine zq 0 [10,11] [.bool false,.bool false] S0 ?_;refine zd ?_;have EX3:=zT EX2 S0;have H3:=H2.call S0;have:=H3.blk.z 1 (I6 s.cfg.str);have:=H3.blk.z 2 (I6 s.cfg.dE);have:=H3.blk.z 3 (I6 s.cfg.lW);have:=H3.blk.z 4 (I6 s.cfg.iI);clear H2 EX2 S0;go_wp2_with(go_at_call 146;refine(HN _).mono ?_;rintro e w6 ⟨p,F,rfl,P6,F6,B6⟩);go_ret2;have hc:∀j,w.heap.size<=j->c j=none:=fun j hj=>HC j oM
 have ey:∀j,F j->w.heap.size<=j:=fun j hj=>by have h1:=F6 j hj;have h3:=EX3.size;simp at h1 h3;omega
 have hs:=ae.one (T:=fun t=>t=.nd i k) (t:=.nd i k) (S:=fun _=>False) (ah.aa (Below.trans (EX3) (B6.mono EX3.size))) (fun _ h=>h.elim) rfl F (fun j hj=>.inr (ey j hj)) P6.lt hc;exact⟨p,F,false,_,rfl,P6,fun j hj=>bw hj,HH.step hs (fun e=>by cases e) (fun e=>by cases e) (fun j e=>by injection e) (fun _ e=>e.elim),hs.mono (fun t e=>.inr ⟨k,e⟩)⟩
theorem vg {s:bF} (k:Key) (x:Ld) (w:World) (h:dU w c i g b f s (fun _=>False)) (hk:k.good) (hc:∀k,w.heap.size<=k->c k=none) (hf:s.cfg.fit) (a8:s.cfg.gV) (hx:gH s k=some x):
 Calls prog 136 #[pt g,.agg k.row] w (Tn c i g b f s k x w):=by
 unfold gH at hx;cases h1:aJ s.loads k with
 |some y=>rw[h1]at hx;injection hx with hx;subst hx;exact xU k y w h hk hc h1
 |none=>
  rw[h1]at hx;simp only at hx
  by_cases h2:s.cfg.lW<=(s.loads.length:Nat)
  ·rw[if_pos h2]at hx;cases hx
  ·rw[if_neg h2]at hx;injection hx with hx;subst hx;exact vQ k w h hk hc h1 h2 hf a8
theorem l6 {s:bF} (k:Key) (w:World) (h:dU w c i g b f s (fun _=>False)) (hk:k.good) (hq:gH s k=none):
 Calls prog 136 #[pt g,.agg k.row] w ((Rt (.tuple #[.pointer none,I6 6]) (Bl w))):=by
 have hx:aJ s.loads k=none:=by
  unfold gH at hq;cases h1:aJ s.loads k with
  |some y=>rw[h1]at hq;cases hq
  |none=>rfl
 have hl:s.cfg.lW<=(s.loads.length:Nat):=by
  unfold gH at hq;rw[hx]at hq;simp only at hq
  by_cases h2:s.cfg.lW<=(s.loads.length:Nat)
  ·exact h2
  ·rw[if_neg h2]at hq;cases hq
 have EX:=zW w (.cells k.row aS);have HX:=EX;have H0:=h.call EX;have H1:=H0;have c0:=H0.blk.z 0 (.map (some b));have hl0:∀n,(Instr.lookup zx (.map (some b)) (.agg k.row) true).run prog ((w.alloc (.cells k.row aS)).drewN n)=.ok (.tuple #[.pointer none,.bool false]) ((w.alloc (.cells k.row aS)).drewN n):=fun n=>by
  have:=(H0.drewN n).Ku hk;rw[(h.GA hx)]at this;exact this
 have b0:=(ai.new w aS k.row).z 0 (V6 k.hi);have b1:=(ai.new w aS k.row).z 1 (V6 k.lo);have:decide (s.cfg.lW<=(s.loads.length:Nat))=true:=sH hl
 clear h H0 EX hx hq hl;go_enter func136,ntmps136;go_wp2;go_quiet(fail);have EX2:=below_drewN HX nq;have H2:=H1.drewN nq;clear c0 hl0 b0 b1 H1 HX;obtain⟨W1,hW1⟩:∃W1,(w.alloc (.cells k.row aS)).drewN nq=W1:=⟨_,rfl⟩
 rw[hW1]at EX2 H2 |-;clear hW1;obtain⟨gx,hgx⟩:=zE w.heap.size;rw[<-hgx];clear hgx;go_upto_region 4 with fail
 refine zB fun S0=>?_
 refine zk 7 [0,1,2,3,5] [_,_,_,.map (some b),_] (.q zX<|.q zX<|.q zX<|.q (zS fun _ h=>(H2.blk.call h).z 0 (.map (some b)))<|.e) S0 ?_;refine zk 3 [6,7,8,9] [_,_,_,I6 s.cfg.lW] (.q zX<|.q zX<|.q zX<|.q (zS fun _ h=>(H2.blk.call h).z 3 (I6 s.cfg.lW)) .nil) S0 ?_;refine zQ 4 ?_;go_wp2_with(refine nw ll _ rfl _ zx rfl 158 fu b f s.keys rfl (H2.call (S0)).map ?_);refine .i S0 ?_;refine zq 0 [10,11] [.bool true,.bool true] S0 ?_;refine zd ?_;go_wp2;go_ret2;exact⟨rfl,(zT EX2 S0)⟩
end
section
open Go.RowKit Go.Maps
structure fL (s:bF) (n:Nat):Prop where
 fit:s.cfg.fit
 py:s.cfg.gV
 v0:0<=s.fK
 v1:s.fK<=n
 len:s.loads.length<=n
 wH:∀k x,aJ s.loads k=some x->lD s.cfg x n
def bF.eD (s:bF) (k:Key) (t v:Int):Int×bF:=if bU t v=0 then(match gH s k with
 |some x=>(0,s.put k (Dj s.cfg x t v))
 |none=>(6,s))else(bU t v,s)
def bF.note (s:bF) (k:Key) (a:aU):Int×bF:=match aJ s.loads k with
 |some x=>(0,s.put k (xS s.cfg x a))
 |none=>(5,s)
def af8 (c:bh) (i g:Nat) (R:Int×bF) (w:World) (e:Ending) (w' : World):Prop:=∃c',e=.returned (I6 R.1)/\dN w' c' i g R.2/\ae (jx i) w w' c c'
theorem rZ {s:bF} (h:fL s n) (hx:gH s k=some x):lD s.cfg x n:=by
 unfold gH at hx;cases h1:aJ s.loads k with
 |some y=>rw[h1]at hx;injection hx with hx;subst hx;exact h.wH k y h1
 |none=>
  rw[h1]at hx;simp only at hx
  split at hx
  ·cases hx
  ·injection hx with hx;subst hx;exact(an5 s.cfg).mono (aB6 _)
theorem lD.fK {c:aM} (h:lD c x n) (hn:n<=100000):0<=x.fK/\x.fK<=100000:=⟨h.v0,oH h.v1⟩
theorem AA {s:bF} (k:Key) (t v:Int) (w:World) (h:dN w c i g s) (hk:k.good) (hc:∀k,w.heap.size<=k->c k=none) (ho:fL s n) (hn:n<=100000):
 Calls prog 69 #[pt g,.agg k.row,I6 t,I6 v] w (af8 c i g (s.eD k t v) w):=by
 obtain⟨b,f,h⟩:=h;have EX:=zW w (.cells k.row aS);have CX:=ae.aa (jx i) c hc EX;have HA:dN (w.alloc (.cells k.row aS)) c i g s:=⟨b,f,h.call EX⟩;have BX:=ai.new w aS k.row;have mL:∀t,c w.heap.size≠some t:=fun t e=>by rw[hc _ lR]at e;cases e
 have HM:=kM _ (h.call EX);have RQ:=(fun W=>dA t v W);unfold bF.eD
 by_cases h1:bU t v=0
 ·rw[if_pos h1]
  rw[h1]at RQ;have HE:=h1;cases hq:gH s k with
  |none=>
   have HR:=l6 k _ (h.call EX) hk hq;clear h EX hc hq h1;go_enter func69,ntmps69;go_wp2_with(first
    |go_at_call 78;refine zN (RQ _) ?_
    |go_at_call 135;refine HM.mono ?_;rintro e w1 ⟨rfl,rfl⟩
    |refine zI BX underlying83 ?_
    |(go_at_call 136;refine HR.mono ?_;rintro e w3 ⟨rfl,B3⟩))
   go_ret;exact⟨c,rfl,HA.call B3,CX.trans (ae.aa _ c CX.fresh B3) (bS i)⟩
  |some x=>
   have HR:=vg k x _ (h.call EX) hk CX.fresh ho.fit ho.py hq;have HV:=(rZ ho hq).fK hn;have HO:=ho;have HK:=hk;have tB:=hn;clear h EX hc hq h1 ho hk hn;go_enter func69,ntmps69;go_wp2_with(first
    |go_at_call 78;refine zN (RQ _) ?_
    |go_at_call 135;refine HM.mono ?_;rintro e w1 ⟨rfl,rfl⟩
    |refine zI BX underlying83 ?_
    |go_at_call 136;refine HR.mono ?_;rintro e w3 ⟨p,F,fr,c3,rfl,P3,F3,S3,T3⟩;have Ni:=BX.upd T3.upd (fun⟨t,e,_⟩=>mL t e)
    |go_at_call 137;refine(Te p F s.cfg x fr t v _ P3 HO.py HV).mono ?_;rintro e w4 ⟨p4,rfl,hr⟩;rw[HE];obtain⟨F4,fr4,c4,P4,k2,k3⟩:=hr.GC F3 T3.fresh;have F4':=k2;have T4:=k3.mono (T2:=jx i) (fun t e=>.inr ⟨k,e⟩);have S4:=S3.step (ex':=fun j=>j=k) k3 (fun e=>by cases e) (fun e=>by cases e) (fun j e=>by injection e) (fun _ e=>e);have hgx:=T3.old _ sI (fun t e _=>mL t e);have tC:=Ni.upd k3.upd (fun⟨t,e,_⟩=>mL t (hgx▸e));clear hr k2 k3 hgx
    |refine zI tC underlying83 ?_
    |(go_at_call 138;refine(kN k p4 F4 (Dj s.cfg x t v) fr4 _ S4 HK P4 F4' T4.fresh ⟨HO.v0,(by have h1:=HO.v1;have:=tB;omega)⟩ (by have h1:=HO.len;have:=tB;unfold bF.keys;rw[aD5];omega)).mono ?_;rintro e w5 ⟨rfl,S5,T5⟩))
   go_ret;exact⟨c4,rfl,⟨b,_,S5⟩,((CX.trans T3 (bS i)).trans T4 (bS i)).trans T5 (bS i)⟩
 ·rw[if_neg h1]
  have: ¬(bU t v=0):=h1;generalize bU t v=E at *;clear h EX h1;go_enter func69,ntmps69;go_wp2_with(go_at_call 78;refine zN (RQ _) ?_);go_ret;exact⟨c,rfl,HA,CX⟩
end
section
open Go.RowKit Go.Maps
theorem GD {s:bF} (k:Key) (a:aU) (w:World) (h:dN w c i g s) (hk:k.good) (hc:∀k,w.heap.size<=k->c k=none) (ho:fL s n) (hn:n<=100000):
 Calls prog 378 #[pt g,.agg k.row,.agg (cI a)] w (af8 c i g (s.note k a) w):=by
 obtain⟨b,f,h⟩:=h;have EX:=(zW w (.cells k.row aS)).alloc sI (.cells (cI a) 49);have CX:=ae.aa (jx i) c hc EX;have HA:dN ((w.alloc (.cells k.row aS)).alloc (.cells (cI a) 49)) c i g s:=⟨b,f,h.call EX⟩;have H0:=h.call EX;have BX:=(ai.new w aS k.row).alloc (.cells (cI a) 49);have HG:=mQ k _ (h.call EX) hk;cases hx:aJ s.loads k with
 |none=>
  rw[(h.GA hx)]at HG;have HR:s.note k a=(5,s):=by unfold bF.note;rw[hx]
  rw[HR];clear h EX hc hx;go_enter func378,ntmps378;go_wp2_with(first
   |refine zI BX underlying83 ?_
   |(go_at_call 83;refine HG.mono ?_;rintro e w3 ⟨rfl,hb⟩;have B3:=hb;clear hb))
  go_ret;exact⟨c,rfl,HA.call B3,CX.trans (ae.aa _ c CX.fresh B3) (bS i)⟩
 |some x=>
  obtain⟨p,F,fr,e1,e2,e3⟩:=h.wH k x (fun e=>e) hx;rw[e1]at HG;have HR:s.note k a=(0,s.put k (xS s.cfg x a)):=by unfold bF.note;rw[hx]
  rw[HR];have N0:=e2.call EX;have F0:=e3;obtain⟨gp,rfl⟩:∃gp,p=some ⟨gp,0,none⟩:=by obtain⟨g',_,_,e,_⟩:=e2.blk;exact⟨g',e⟩
  have HV:=(ho.wH k x hx).fK hn;have HO:=ho;have HK:=hk;have tB:=hn;have mL:(∀t,c w.heap.size≠some t)/\∀t,c (w.heap.size+1)≠some t:=⟨(fun t e=>by rw[hc _ lR]at e;cases e),(fun t e=>by rw[hc _ oM]at e;cases e)⟩
  clear h EX hc hx e1 e2 e3 hk ho hn;go_enter func378,ntmps378;go_upto_region 4 with(first
   |refine zI BX underlying83 ?_
   |(go_at_call 83;refine HG.mono ?_;rintro e w3 ⟨rfl,hb⟩;have B3:=hb;clear hb))
  have Ni:=BX.call B3;have BY3:=(ai.dR w (.cells k.row aS) 49 (cI a)).call B3;have N3:=N0.call B3;have T3:=CX.trans (ae.aa _ c CX.fresh B3) (bS i);have Z3:=H0.call B3;clear BX N0 CX H0 HA HG B3;obtain⟨gx,hgx⟩:=zE w.heap.size;rw[<-hgx]at Ni BY3 mL |-;clear hgx;refine zr (fun _=>false) (fun wS=>ah (fun j=>∃t,c j=some t/\jx i t) w3 wS) ?_;have S0:=(ah.refl (fun j=>∃t,c j=some t/\jx i t) w3).drew;refine zk 2 [0,1,2,3] [_,_,_,_] (.q zX<|.c rfl rfl (zl fun _ h=>zb (Ni.upd h (fun⟨t,e,_⟩=>mL.1 t e)) underlying83)<|.q zX<|.c rfl rfl (zl fun _ h=>zb (BY3.upd h (fun⟨t,e,_⟩=>mL.2 t e)) underlying49) .nil) S0<|zQ 4 ?_;go_wp2_with(go_at_call 391;refine(Pw _ F s.cfg x fr a _ (N3.call (below_drewN bR 1)) HO.py HV).mono ?_;rintro e w4 ⟨p4,rfl,hr⟩;obtain⟨F4,fr4,c4,P4,k2,k3⟩:=hr.GC F0 (fun j hj=>T3.fresh j hj);have F4':=k2;have T4:=k3.mono (T2:=jx i) (fun t e=>.inr ⟨k,e⟩);have Z4:=(Z3.call (below_drewN bR 1)).step (ex':=fun j=>j=k) k3 (fun e=>by cases e) (fun e=>by cases e) (fun j e=>by injection e) (fun _ e=>e.elim);clear hr k2 k3);refine .i (S0.trans T4.upd iL)<|zQ 5 ?_;go_wp2_with(go_at_call 138;refine(kN k p4 F4 (xS s.cfg x a) fr4 _ Z4 HK P4 F4' T4.fresh ⟨HO.v0,(oI HO.v1 tB)⟩ (by have:=HO.len;have:=tB;unfold bF.keys;rw[aD5];omega)).mono ?_;rintro e w5 ⟨rfl,Z5,T5⟩;have U5:=(T4.trans T5 (bS i)).upd);refine .i (ah.trans (ah.drew (ah.refl _ _)) U5 iL)<|zd ?_;go_wp2;go_ret;exact⟨c4,rfl,⟨b,_,Z5⟩,(T3.trans (ae.aa _ c T3.fresh (below_drewN bR 1)) (bS i)).trans (T4.trans T5 (bS i)) (bS i)⟩
end
section
open Go.RowKit Go.Maps
def bF.set (s:bF) (k:Key) (q:dI):Int×bF:=if dy q=0 then(match gH s k with
 |some x=>(0,s.put k (Av x q))
 |none=>(6,s))else(dy q,s)
def Py:aM:=⟨1,1,1,1⟩
theorem Tp:Py.fit:=by unfold aM.fit Py aw;decide
theorem Yf:Py.gV:=⟨dC,dC,dC,dC,dC,dC,dC⟩
theorem Kw (cf:aM) (i:Nat) (c:bh) (w:World) (hf:cf.fit) (a8:cf.gV) (hc:∀k,w.heap.size<=k->c k=none) :
 Calls prog 55 #[.agg cf.row] w fun e w'=>∃g c',e=.returned (pt g)/\dN w' c' i g ⟨cf,[],0⟩/\ae (jx i) w w' c c':=by
 have:=@run_makeMap prog;have HR:=(fun W=>fQ cf W hf);rw[show im cf=0 from if_pos a8]at HR;have B0:=(show Bl w (w.alloc (.cells cf.row 23)) by go_grown);have BX:=ai.new w 23 cf.row;have HC:=hc;clear hc;go_enter func55,ntmps55;go_wp2_with(first
  |refine zI BX underlying23 ?_
  |go_at_call 53;refine zM (HR _) fun w1 hb1=>?_;have E1:=zT B0 hb1;have X1:=(BX.call hb1).alloc (.map #[] 0);clear hb1
  |(refine zI X1 underlying23 ?_))
 go_ret;have hb:=(E1.alloc E1.size (.map #[] 0)).alloc (by have:=E1.size;simp;omega) (.cells #[.map (some w1.heap.size),I6 cf.str,I6 cf.dE,I6 cf.lW,I6 cf.iI,I6 0] spT);have hs:=ae.one (T:=jx i) (t:=.st i) (S:=fun _=>False) (ah.aa hb) (fun _ h=>h.elim) (.inl rfl) (fun j=>j=w1.heap.size\/j=w1.heap.size+1) (fun j hj=>.inr (oH E1.size)) (fun j hj=>by simp;omega) HC;refine⟨w1.heap.size+1,_,rfl,⟨w1.heap.size,fun _=>none,⟨ai.dR w1 (.map #[] 0) spT _,(bP.made ll w1).alloc _,oM,bw (.inr rfl),bw (.inl rfl),fun k x _ hx=>by cases hx⟩⟩,hs⟩
theorem Ky {s:bF} (k:Key) (q:dI) (w:World) (h:dN w c i g s) (hk:k.good) (hc:∀k,w.heap.size<=k->c k=none) (ho:fL s n) (hn:n<=100000):
 Calls prog 74 #[pt g,.agg k.row,(.agg #[I6 q.min,I6 q.max,I6 q.target,I6 q.lz,I6 q.bp,I6 q.hold])] w (af8 c i g (s.set k q) w):=by
 obtain⟨b,f,h⟩:=h;have EX:=(zW w (.cells k.row aS)).alloc sI (.cells q.row 43);have H0:=h.call EX;have BX:=(ai.new w aS k.row).alloc (.cells q.row 43);have BY:=ai.dR w (.cells k.row aS) 43 q.row;have mL:(∀t,c w.heap.size≠some t)/\∀t,c (w.heap.size+1)≠some t:=⟨(fun t e=>by rw[hc _ lR]at e;cases e),(fun t e=>by rw[hc _ oM]at e;cases e)⟩
 have HN:=(fun W=>Gq Py W Tp Yf);have HC:=(fun j (hj:((w.alloc (.cells k.row aS)).alloc (.cells q.row 43)).heap.size<=j)=>hc j (by simp at hj;omega));have CX:=ae.aa (jx i) c hc EX;have HO:=ho;have HK:=hk;have tB:=hn;obtain⟨R,hR⟩:=zE (s.set k q);rw[<-hR];have HRR:=zD hR;clear h EX hc hk ho hn hR;go_enter func74,ntmps74;go_upto_region 1 with fail
 generalize(w.alloc (.cells k.row aS)).alloc (.cells q.row 43)=W1 at *;obtain⟨gx,hgx⟩:=zE w.heap.size;rw[<-hgx]at BX BY mL |-;clear hgx;refine zB fun S0=>?_
 refine zk 7 [0,2] [.agg Py.row,_] (.c rfl rfl (zl fun _ _=>by first|(go_simp;done)|kernel_rfl)<|.c rfl rfl (zl fun _ h=>zb (BY.call h) underlying43) .nil) S0<|zQ 1 ?_;go_wp2_with(go_at_call 146;refine(HN _).mono ?_;rintro e w6 ⟨p,F,rfl,hp,hF,hb⟩;have P6:=hp;have F6:=hF;have B6:=hb;clear hp hF hb);refine .i (zT S0 B6) ?_;have S6:=zT S0 B6;refine zQ 3 ?_;go_wp2_with(go_at_call 147;refine(Gr p F Py Ff false q _ P6 ⟨dC,dC⟩).mono ?_;rintro e w7 ⟨p7,rfl,hr⟩;have B7:Bl W1 w7:=(by {rcases hr with⟨F7,h1,h2,h3⟩|⟨h1,h2,h3,h4⟩;exact Below.trans (by first|exact B6|exact Below.trans (below_drewN bR 1) (B6.mono (by first|exact aC1 _|(simp;omega)))) (h2.1.below (fun j hj=>by have:=F6 j hj;simp at this;omega) (by have:=B6.size;simp at this;omega));exact Below.trans (by first|exact B6|exact Below.trans (below_drewN bR 1) (B6.mono (by first|exact aC1 _|(simp;omega)))) (h4.mono (by have:=B6.size;simp at this;omega))});clear hr);refine .i B7<|zq 0 [4,5,6,7,8] [.tuple #[.pointer p7,I6 (dy q)],.pointer p7,I6 (dy q),.pointer p7,I6 (dy q)] B7<|zd ?_;have BX7:=BX.call B7;have BY7:=BY.call B7;have H7:=H0.call B7;have T7:=CX.trans (ae.aa (jx i) c HC B7) (bS i);have HM:=kM _ H7;clear S0 S6 B6 B7 P6 F6 BX BY H0 CX HC
 by_cases h1:dy q=0
 ·have HE:=h1
  rw[h1];cases hq:gH s k with
  |none=>
   have HQ:=zD (show R=(6,s)from by rw[HRR.out];unfold bF.set;rw[if_pos h1,hq]);have HR:=l6 k _ H7 HK hq;clear hq h1;go_wp2_with(first
    |go_at_call 135;refine HM.mono ?_;rintro e w1 ⟨rfl,rfl⟩
    |refine zI BX7 underlying83 ?_
    |(go_at_call 136;refine HR.mono ?_;rintro e w3 ⟨rfl,hb⟩;have B3:=hb;clear hb))
   go_ret;rw[HQ.out];exact⟨c,rfl,⟨b,f,H7.call B3⟩,T7.trans (ae.aa _ c T7.fresh B3) (bS i)⟩
  |some x=>
   have HQ:=zD (show R=(0,s.put k (Av x q))from by rw[HRR.out];unfold bF.set;rw[if_pos h1,hq]);have HR:=vg k x _ H7 HK T7.fresh HO.fit HO.py hq;have HV:=(rZ HO hq).fK tB;clear hq h1;go_wp2_with(first
    |go_at_call 135;refine HM.mono ?_;rintro e w1 ⟨rfl,rfl⟩
    |refine zI BX7 underlying83 ?_
    |go_at_call 136;refine HR.mono ?_;rintro e w3 ⟨p3,F,fr,c3,rfl,hp,hF,Z3,T3⟩;have Ni:=BX7.upd T3.upd (fun⟨t,e,_⟩=>mL.1 t e);have BY3:=BY7.upd T3.upd (fun⟨t,e,_⟩=>mL.2 t e);have G3:(∀t,c3 gx≠some t)/\∀t,c3 (gx+1)≠some t:=⟨(fun t e=>mL.1 t (T3.old _ BX7.lt (fun t e _=>mL.1 t e)▸e)),(fun t e=>mL.2 t (T3.old _ BY7.lt (fun t e _=>mL.2 t e)▸e))⟩;have P3:=hp;have F3:=hF;clear hp hF
    |refine zI BY3 underlying43 ?_
    |go_at_call 147;refine(Gr p3 F s.cfg x fr q _ P3 HV).mono ?_;rintro e w4 ⟨p4,rfl,hr⟩;rw[HE];obtain⟨F4,fr4,c4,P4,k2,k3⟩:=hr.GC F3 T3.fresh;have F4':=k2;have T4:=k3.mono (T2:=jx i) (fun t e=>.inr ⟨k,e⟩);have Z4:=Z3.step (ex':=fun j=>j=k) k3 (fun e=>by cases e) (fun e=>by cases e) (fun j e=>by injection e) (fun _ e=>e);have tC:=Ni.upd k3.upd (fun⟨t,e,_⟩=>G3.1 t e);clear hr k2 k3
    |refine zI tC underlying83 ?_
    |(go_at_call 138;refine(kN k p4 F4 (Av x q) fr4 _ Z4 HK P4 F4' T4.fresh ⟨HO.v0,(by have h1:=HO.v1;have:=tB;omega)⟩ (by have h1:=HO.len;have:=tB;unfold bF.keys;rw[aD5];omega)).mono ?_;rintro e w5 ⟨rfl,Z5,T5⟩))
   go_ret;rw[HQ.out];exact⟨c4,rfl,⟨b,_,Z5⟩,((T7.trans T3 (bS i)).trans T4 (bS i)).trans T5 (bS i)⟩
 ·have HQ:=zD (show R=(dy q,s)from by rw[HRR.out];unfold bF.set;rw[if_neg h1])
  have: ¬(dy q=0):=h1;generalize dy q=E at *;clear h1;go_wp2;go_ret;rw[HQ.out];exact⟨c,rfl,⟨b,f,H7⟩,T7⟩
end
section
open Go.RowKit Go.Shelf Go.Maps
attribute [local go_sem] Oper.semAt_some
theorem Dp {ks pre:List Key} (h1:ks.Nodup) (h2:pre.Nodup) (h:∀x,x∈pre↔x∈ks):pre.Perm ks:=
 (List.perm_ext_iff_of_nodup h2 h1).2 h
theorem Tq (n:Nat) (hn:1<=n) (l Bn b n₀:Nat) (f:Key->Option Value) (ks:List Key) (J Jx:List Key->World->Prop)
 (hY:∀pre x W,J pre W->pre.length<ks.length->YieldAt Fence.wide (n-1) prog l #[.agg x.row] W fun e W'=>
  (e=.returned (.bool true)/\J (pre++[x]) W'/\Nb n₀ W W')\/(e=.returned (.bool false)/\Jx (pre++[x]) W'))
 (W:World) (hJ:AbidesFrom W.heap.size J) (hBn:Boxed W Bn zx (.map (some b))) (hm:bP ll W b f ks) (h0:J [] W) :
 CallsIn Fence.wide n prog 199 #[.func (.yield l) #[] #[],pt Bn] W fun e W'=>(∃v,e=.returned v)/\
  ((∃ys,ys.Perm ks/\J ys W')\/(∃pre,Jx pre W')):=by
 have HY:=hY;have HJ:=hJ;have c0:=hBn.cell;clear hY hJ;refine callsIn_of_wp func199 rfl trivial ?_ rfl;simp only[ntmps199,aE9,aC4,aG5,Nat.reduceAdd,Nat.reduceSub,aF3,aF4,aG6,aG0,aD7,aE1]
 gi_wp2_with(first
  |gi_at_range;refine pR ll _ rfl _ zx rfl _ fu b f ks rfl hm ?_;intro w0 hrg0 hg0 hs0
  |gi_in)
 go_frame
 gi_loopw[3] (fun _ wr=>∃(lf:Key->Bool) (cnt:Nat) (pre:List Key),lh ll wr b W.heap.size f ks lf cnt/\(∀x∈ks,lf x=decide (x ∉ pre))/\pre.Nodup/\(∀x∈pre,x∈ks)/\J pre wr) (fun _ wr=>wr.rangeLeft b W.heap.size)
 case atStart=>
  exact⟨_,_,[],hrg0,fun x hx=>by simp[hx],List.nodup_nil,fun x hx=>by simp at hx,HJ [] W w0 none h0 hg0 (fun r e=>by cases e)⟩
 case round=>
  obtain⟨lf,cnt,pre,hrg,hlf,RS,Tr,hJs⟩:=hrel
  gi_wp2_with(first
   |gi_at_next;refine qD ll _ rfl _ rfl b W.heap.size f ks lf cnt rfl hrg ?_ ?_
   |gi_in)
  ·intro hd
   gi_wp2
   go_end0;refine⟨⟨_,rfl⟩,.inl ⟨pre,Dp hm.nodup RS fun x=>⟨Tr x,fun hx=>?_⟩,hJs⟩⟩;have:=hd x hx;rw[hlf x hx]at this
   simpa using this
  ·intro x v w2 cnt2 hgx hxm hlx hfx hrg2 hlt hg2 hs2 hen
   have hxp:x ∉ pre:=by rw[hlf x hxm]at hlx;simpa using hlx
   have hJ2:J pre w2:=HJ pre wr w2 (some W.heap.size) hJs hg2 (fun r e=>by cases e;exact⟨oM,hrg.iter_walk⟩);have hlen:pre.length<ks.length:=by
    have h1:(pre++[x]).Nodup:=aI2.2 ⟨RS,sI,by simp;exact fun a ha e=>hxp (e ▸ ha)⟩;have h2:=h1.length_le_of_subset (l₂:=ks) (fun y hy=>by rcases aC9.1 hy with hy|hy;exact Tr y hy;simp at hy;rw[hy];exact hxm);simp at h2;omega
   have:(Instr.entry (pt W.heap.size)).run prog w2=.ok (.tuple #[.agg #[V6 x.hi,V6 x.lo],v]) w2:=hen;have hJ3:J pre (w2.alloc (.cells x.row aS)):=HJ pre w2 _ none hJ2 (World.grownBy_alloc _ _ none) (fun r e=>by cases e);obtain⟨fn,tmps,assign,body,hy,hR⟩:=HY pre x _ hJ3 hlen;clear hs2 hJ2 hJ3 hen;simp only[show(ll).v x=.agg #[V6 x.hi,V6 x.lo]from rfl]
   gi_wp2
   refine hR.mono ?_;rintro e W3 (⟨rfl,hJ4,hk4⟩|⟨rfl,Kz⟩)
   ·gi_wp2
    have ao2:=(hrg2.kept (World.grownBy_alloc w2 (.cells x.row aS) none) sI sI).of_walks hk4.2;go_roundw
    case rel=>
     refine⟨_,cnt2,pre++[x],ao2,fun y hy=>?_,aI2.2 ⟨RS,sI,by simp;exact fun a ha e=>hxp (e ▸ ha)⟩,fun y hy=>?_,hJ4⟩
     ·rw[hlf y hy];simp
     ·rcases aC9.1 hy with hy|hy
      ·exact Tr y hy
      ·simp at hy;rw[hy];exact hxm
    case measure=>rw[ao2.left_eq,hrg.left_eq];exact hlt
   ·gi_wp2
    refine bodyPost_ret (results_none rfl _ _ _) rfl ?_;exact⟨⟨_,rfl⟩,.inr ⟨_,Kz⟩⟩
theorem Yg (n:Nat) (b:Nat) (w:World) :
 CallsIn Fence.wide n prog 151 #[.map (some b)] w fun e w'=>e=.returned (.func (.func 199) #[] #[pt w.heap.size])/\w' = w.alloc (.cells #[.map (some b)] zx):=by
 refine callsIn_of_wp func151 rfl trivial ?_ rfl;simp only[ntmps151,aE9,aC4,aG5,Nat.reduceAdd,Nat.reduceSub,aF3,aF4,aG6,aG0,aD7,aE1]
 gi_wp2
 go_ret;exact⟨rfl,rfl⟩
end
section
open Go.RowKit Go.Shelf Go.Maps
theorem Ts (n:Nat) (hn:1<=n) (Bn b n₀:Nat) (f:Key->Option Value) (ks:List Key) (w:World) (hc:Boxed w Bn zx (.map (some b))) (hm:bP ll w b f ks) :
 SeqStopsK Fence.wide n prog 199 #[pt Bn] (fun x:Key=>#[Value.agg x.row]) (Nb n₀) (fun ys=>ys.Perm ks) (fun _=>True) ks.length w:=fun l J Jx W hW hJ _ hY h0=>
 (Tq n hn l Bn b n₀ f ks J Jx hY W hJ ((hW.block Bn hc.lt).trans hc) (hm.call hW) h0).mono fun e W' ⟨he,hj⟩=>⟨he,hj.imp id (fun⟨pre,h⟩=>⟨pre,trivial,h⟩)⟩
theorem xV {l m:List Key} (h:l.Perm m):eW l=eW m:=ny ((fg l).trans h) (rO l)
def GF (w:World) (l:List Key) (e:Ending) (w' : World):Prop:=∃A n c,e=.returned (.slice A n c)/\aK w' w.heap.size aS 2 Key.cells (.slice A n c) l/\Bl w w'
theorem GF.mk {v:Value} {l:List Key} (h:aK w' w.heap.size aS 2 Key.cells v l) (hb:Bl w w'):GF w l (.returned v) w':=by
 obtain⟨A,n,c,rfl,-,-⟩:=h.shape cW;exact⟨A,n,c,rfl,h,hb⟩
theorem Pz (Bn b:Nat) (f:Key->Option Value) (ks:List Key) (w:World) (hc:Boxed w Bn zx (.map (some b))) (hm:bP ll w b f ks) (hl:ks.length<=100000) :
 Calls prog 150 #[.func (.func 199) #[] #[pt Bn],.func (.func 152) #[] #[]] w (GF w (eW ks)):=by
 have HC:=callsIn_wide.1 (rM 3 lR 199 #[pt Bn] trivial (enters_of func199 kZ rfl) _ _ ks.length oM w w bR (Ts 1 lR Bn b w.heap.size f ks w hc hm));have HL:=hl;clear hc hm hl;go_enter func150,ntmps150;go_wp2_with(first
  |go_at_call 197;refine HC.mono ?_;rintro e w1 ⟨v,ys,rfl,P1,ho,B1⟩;have O1:=aK.of ho;clear ho
  |(go_at_call 198;refine(Aq v ys _ O1 (P1.length_eq▸HL)).mono ?_;rintro e w2 ⟨rfl,ho,U2⟩;have O2:=ho;clear ho))
 go_ret;refine GF.mk (by rw[<-xV P1];exact O2) (B1.trans (U2.below (fun k hk=>(O1.lt k hk).1) B1.size))
theorem vh {s:bF} {ex:Key->Prop} (w:World) (h:dU w c i g b f s ex) (hl:s.keys.length<=100000):
 Calls prog 82 #[pt g] w (GF w (eW s.keys)):=by
 have:=h.blk.z 0 (.map (some b))
 have HM:=zD (kM _ h)
 have HK:=zD (fun W=>callsIn_wide.1 (Yg 0 b W))
 have HB:=zD (show Bl w (w.alloc (.cells #[.map (some b)] zx)) by go_grown)
 have HS:=zD (Pz w.heap.size b f s.keys (w.alloc (.cells #[.map (some b)] zx)) (Boxed.new w zx _) (h.call HB.out).map hl)
 clear h hl
 go_enter func82,ntmps82
 go_wp2_with(first
  |go_at_call 135;refine HM.out.mono ?_;rintro e w1 ⟨rfl,rfl⟩
  |go_at_call 151;refine(HK.out _).mono ?_;rintro e w2 ⟨rfl,rfl⟩
  |(go_at_call 150;refine HS.out.mono ?_;rintro e w3 ⟨A,n,cc,rfl,ho,hb⟩;have O3:=zD ho;have B3:=zD hb;clear ho hb))
 go_ret
 exact⟨A,n,cc,rfl,O3.out.mono HB.out.size,zT HB.out B3.out⟩
end
section
open Go.RowKit Go.Shelf Go.Maps
attribute [local go_sem] Oper.semAt_some
structure FiM (w:World) (Bn B o:Nat) (Af:Option Addr) (nf cf:Nat) (Ab:Option Addr) (nb cb:Nat) (q:Fi):Prop where
 box:w.cell? ⟨Bn,0,none⟩=some (.pointer (some ⟨B,o,none⟩))
 c0:w.cell? ⟨B,o,none⟩=some (.slice Af nf cf)
 c1:w.cell? ⟨B,o+1,none⟩=some (.slice Ab nb cb)
 kf:gF w Af nf cf q.f
 kb:gF w Ab nb cb q.b
theorem ZK (n:Nat) (hn:1<=n) (l Bn B o n₀:Nat) (Af:Option Addr) (nf cf:Nat) (Ab:Option Addr) (nb cb:Nat) (q:Fi) (J Jx:List Key->World->Prop)
 (hY:∀pre x W,J pre W->pre.length<nf+nb->YieldAt Fence.wide (n-1) prog l #[.agg x.row] W fun e W'=>
  (e=.returned (.bool true)/\J (pre++[x]) W'/\Nb n₀ W W')\/(e=.returned (.bool false)/\Jx (pre++[x]) W'))
 (W:World) (hJ:AbidesFrom W.heap.size J) (oq:n₀<=W.heap.size) (hM:∀W',Below n₀ W W'->FiM W' Bn B o Af nf cf Ab nb cb q) (h0:J [] W) :
 CallsIn Fence.wide n prog 272 #[.func (.yield l) #[] #[],pt Bn] W fun e W'=>(∃v,e=.returned v)/\
  ((∃ys:List Key,J ys W')\/(∃pre,Jx pre W')):=by
 have HY:=hY;have HJ:=hJ;have HM:=hM;have m0:=hM W bR;have b0:=m0.box;have b1:=m0.c0;have xB:=m0.kf.2.1;have hfm:cf<=9223372036854775807:=by have:=m0.kf.2.2.1;unfold maxLen at this;omega
 have hbl:=m0.kb.2.1;have hbm:cb<=9223372036854775807:=by have:=m0.kb.2.2.1;unfold maxLen at this;omega
 clear hY hJ hM m0;refine callsIn_of_wp func272 rfl trivial ?_ rfl;simp only[ntmps272,aE9,aC4,aG5,Nat.reduceAdd,Nat.reduceSub,aF3,aF4,aG6,aG0,aD7,aE1]
 gi_wp2
 clear b0 b1
 gi_loopw[3] (fun i wr=>∃(m:Nat) (v:Int) (pre:List Key),m<=nf/\i = I6 v/\v+1=(m:Int)/\pre.length+m=nf/\J pre wr/\Below n₀ W wr) (fun i _=>(intOf i+1).toNat)
 case atStart=>exact⟨nf,(nf:Int)-1,[],aC1 _,sI,oM,sI,h0,Below.refl _ _⟩
 case round=>
  obtain⟨m,v,pre,hm,rfl,hv,hpl,hJs,aT⟩:=hrel;have m0:=HM _ aT;have qg:=aT;have HJs:=hJs;clear aT hJs;cases m with
  |zero=>
   have hv0:v = -1:=oM
   subst hv0;have b0:=m0.box;have b2:=m0.c1;clear m0
   gi_wp2
   clear b0 b2
   gi_loopw[33] (fun i wq=>∃(k:Nat) (QS:List Key),k<=nb/\i = I6 k/\QS.length=nf+k/\J QS wq/\Below n₀ W wq) (fun i _=>nb-(intOf i).toNat)
   case atStart=>exact⟨0,pre,aB6 _,rfl,oM,HJs,qg⟩
   case round=>
    obtain⟨k,QS,hk,rfl,aq9,hJ2,qu⟩:=hrel
    by_cases hlt:k<nb
    ·have:(k:Int)<(nb:Int):=oM
     have m0:=HM _ qu;obtain⟨b,off,x,rfl,hx,fH,t0,t1⟩:=gF.at_ m0.kb hlt;have tG:=qu.alloc (aB4 oq qu.size) (.cells x.row aS);have hJ3:=HJ QS _ (wr.alloc (.cells x.row aS)) none hJ2 (World.grownBy_alloc _ _ none) (fun r e=>by cases e);obtain⟨fn,tmps,assign,body,hy,hR⟩:=HY QS x _ hJ3 oM;have zu:=aq9;clear m0 hJ3 hJ2 hx fH qu aq9
     gi_wp2
     refine hR.mono ?_;rintro e W3 (⟨rfl,hJ4,hk4⟩|⟨rfl,Kz⟩)
     ·gi_wp2
      go_roundw
      case rel=>exact⟨k+1,QS++[x],oM,by go_num,by have:=zu;rw[aB9,List.length_singleton];omega,hJ4,tG.trans hk4.1⟩
      case measure=>simp[intOf];omega
     ·gi_wp2
      refine bodyPost_ret (results_none rfl _ _ _) rfl ?_;exact⟨⟨_,rfl⟩,.inr ⟨_,Kz⟩⟩
    ·gi_wp2
     go_end0;exact⟨⟨_,rfl⟩,.inl ⟨_,hJ2⟩⟩
  |succ m=>
   have hv0:v=(m:Int):=oM
   subst hv0;have hlt:m<nf:=oM
   have:(m:Int)<(nf:Int):=oM
   obtain⟨b,off,x,rfl,hx,fH,t0,t1⟩:=gF.at_ m0.kf hlt;have:=m0.box;have:=m0.c0;obtain⟨fn,tmps,assign,body,hy,hR⟩:=HY pre x _ HJs oM;have zu:=hpl;clear m0 hx fH hpl hv
   gi_wp2
   refine hR.mono ?_;rintro e W3 (⟨rfl,hJ4,hk4⟩|⟨rfl,Kz⟩)
   ·gi_wp2
    go_roundw
    case rel=>exact⟨m,(m:Int)-1,pre++[x],oM,by go_num,oM,by have:=zu;rw[aB9,List.length_singleton];omega,hJ4,qg.trans hk4.1⟩
    case measure=>first|(simp[intOf];done)|(simp[intOf];omega)
   ·gi_wp2
    refine bodyPost_ret (results_none rfl _ _ _) rfl ?_;exact⟨⟨_,rfl⟩,.inr ⟨_,Kz⟩⟩
theorem V0 (n:Nat) (hn:1<=n) (Bn B o n₀:Nat) (Af:Option Addr) (nf cf:Nat) (Ab:Option Addr) (nb cb:Nat) (q:Fi) (w:World) (oq:n₀<=w.heap.size) (hM:∀W',Below n₀ w W'->FiM W' Bn B o Af nf cf Ab nb cb q) :
 SeqStopsK Fence.wide n prog 272 #[pt Bn] (fun x:Key=>#[Value.agg x.row]) (Nb n₀) (fun _=>True) (fun _=>True) (nf+nb) w:=fun l J Jx W hW hJ _ hY h0=>
 (ZK n hn l Bn B o n₀ Af nf cf Ab nb cb q J Jx hY W hJ (aB4 oq hW.size) (fun W' hb=>hM W' ((hW.mono oq).trans hb)) h0).mono fun e W' ⟨he,hj⟩=>⟨he,hj.imp (fun⟨ys,h⟩=>⟨ys,trivial,h⟩) (fun⟨pre,h⟩=>⟨pre,trivial,h⟩)⟩
theorem aj7 (n:Nat) (p:Option Addr) (w:World) :
 CallsIn Fence.wide n prog 228 #[.pointer p] w fun e w'=>e=.returned (.func (.func 272) #[] #[pt w.heap.size])/\w' = w.alloc (.cells #[.pointer p] 346):=by
 refine callsIn_of_wp func228 rfl trivial ?_ rfl;simp only[ntmps228,aE9,aC4,aG5,Nat.reduceAdd,Nat.reduceSub,aF3,aF4,aG6,aG0,aD7,aE1]
 gi_wp2
 go_ret;exact⟨rfl,rfl⟩
theorem tM.reads {B o:Nat} {ty:TypeId} {cs:Array Value} {vf vb:Value} {q:Fi} (h:tM w B o ty cs vf vb q) (hb:Bl w w'): ∃Af nf cf Ab nb cb,vf=.slice Af nf cf/\vb=.slice Ab nb cb/\nf=q.f.length/\nb=q.b.length/\∀W',Bl w W'->W'.cell? ⟨B,o,none⟩=some (.slice Af nf cf)/\W'.cell? ⟨B,o+1,none⟩=some (.slice Ab nb cb)/\gF W' Af nf cf q.f/\gF W' Ab nb cb q.b:=by
 obtain⟨Af,nf,cf,rfl,hnf,-⟩:=h.jw.shape cW;obtain⟨Ab,nb,cb,rfl,tY,-⟩:=h.iG.shape cW;refine⟨Af,nf,cf,Ab,nb,cb,rfl,rfl,hnf,tY,fun W' hW=>?_⟩;have h2:=h.call hW;obtain⟨_,_,_,e1,-,s1⟩:=h2.jw.shape cW;obtain⟨_,_,_,e2,-,s2⟩:=h2.iG.shape cW;injection e1 with a1 a2 a3
 injection e2 with a4 a5 a6
 subst a1;subst a2;subst a3;subst a4;subst a5;subst a6;exact⟨h2.blk.ar h2.c0,h2.blk.ar h2.c1,s1,s2⟩
theorem ZL {B o:Nat} {ty:TypeId} {cs:Array Value} {vf vb:Value} {q:Fi} (h:tM w B o ty cs vf vb q) (hl:q.f.length+q.b.length<=100000):
 Calls prog 176 #[.pointer (some ⟨B,o,none⟩)] w fun e w'=>(∃A n c,e=.returned (.slice A n c))/\Bl w w':=by
 obtain⟨Af,nf,cf,Ab,nb,cb,rfl,rfl,hnf,tY,hr⟩:=h.reads bR;have B0:=(show Bl w (w.alloc (.cells #[.pointer (some ⟨B,o,none⟩)] 346)) by go_grown);have HC:=callsIn_wide.1 (rM 3 lR 272 #[pt w.heap.size] trivial (enters_of func272 kZ rfl) _ _ (nf+nb) oM (w.alloc (.cells #[.pointer (some ⟨B,o,none⟩)] 346)) (w.alloc (.cells #[.pointer (some ⟨B,o,none⟩)] 346)) bR (V0 1 lR w.heap.size B o (w.alloc (.cells #[.pointer (some ⟨B,o,none⟩)] 346)).heap.size Af nf cf Ab nb cb q _ lR (fun W' hb=>by
  obtain⟨r1,r2,r3,r4⟩:=hr W' (zT B0 hb);exact⟨(hb.cell (p:=⟨w.heap.size,0,none⟩) sI).trans ((Boxed.new w _ _).cell),r1,r2,r3,r4⟩)))
 clear h hr hl;go_enter func176,ntmps176;go_wp2_with(first
  |go_at_call 228;refine(callsIn_wide.1 (aj7 0 (some ⟨B,o,none⟩) w)).mono ?_;rintro e w1 ⟨rfl,rfl⟩
  |(go_at_call 197;refine HC.mono ?_;rintro e w2 ⟨v,xs,rfl,-,ho,hb⟩;obtain⟨A,n,c,rfl,-,-⟩:=ho.shape cW;have B2:=hb;clear ho hb))
 go_ret;exact⟨⟨A,n,c,rfl⟩,zT B0 B2⟩
theorem Mb (B o:Nat) (ty:TypeId) (cs:Array Value) (vf vb vd vz:Value) (q:Wq) (w:World) (h:oF w B o ty cs vf vb vd vz q) (hl:q.fi.f.length+q.fi.b.length<=100000) :
 Calls prog 117 #[.pointer (some ⟨B,o,none⟩)] w fun e w'=>(∃A n c,e=.returned (.slice A n c))/\Bl w w':=by
 have HL:=ZL h.fi hl;clear h hl;go_enter func117,ntmps117;go_wp2_with(go_at_call 176;refine HL.mono ?_;rintro e w1 ⟨⟨A,n,c,rfl⟩,hb1⟩);go_ret;exact⟨⟨A,n,c,rfl⟩,hb1⟩
end
end Go.Proofs.YtjgmjohiehbgaaaGreat
