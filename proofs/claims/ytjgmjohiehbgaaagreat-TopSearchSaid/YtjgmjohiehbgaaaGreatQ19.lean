/- Part 19. -/
import Derived.Test.YtjgmjohiehbgaaaGreatQ16
import Derived.Test.YtjgmjohiehbgaaaGreatQ17
namespace Go.Proofs.YtjgmjohiehbgaaaGreat
open Go.RowKit Go.Proofs.Tryz
set_option maxHeartbeats 20000000
set_option maxRecDepth 100000
set_option linter.all false
variable{W:Gw}{c:bh}{g gw i n:Nat}{w:World}{x:Wk}
section
structure Od(i u:Nat)(S:aL)(x:Wk):Prop where
 task:x.task=(i:Int)
 wants:aw x.wants
 key:x.key.good
 gA:IK x.gA
 done:x.done<=u
 does:x.does<=14
 uF:2<=x.does->x.does<=11->bj S x.key
def Od.aG{i u v:Nat}{S S' : aL}(h:Od i u S x)(hp:∀k,bj S k->bj S' k)(hv:u<=v):Od i v S' x:=
 ⟨h.task,h.wants,h.key,h.gA,aB4 h.done hv,h.does,λh1 h2=>hp _ (h.uF h1 h2)⟩
def Od.ok{cf:aM}{i u:Nat}{W:Gw}(h:Od i u W.aG x)(zv:W.aG.cfg=cf)(hi:i<32)(hu:u<1000000):Vv W W.aG.cfg x:=
 ⟨h.wants,by rw[h.task];unfold aw;omega,h.key,h.gA,oH h.done,rfl,λe=>QC.1 (h.uF oM oM),h.does⟩
structure WkM(cf:aM)(i e u d:Nat)(W:Gw)(W' : Gw)(x' : Wk):Prop where
 gw:jD cf W' (e+2) (u+1) d
 wk:Od i (u+1) W'.aG x'
 uF:∀k,bj W.aG k->bj W'.aG k
 zG:∀t∈W'.mo.asleep,t∈W.mo.asleep\/(t=(i:Int)/\x'.asleep=true)
section
variable{cf:aM}{i e u d:Nat}{W:Gw}{y:Wk}
def wP(hg:jD cf W e u d)(hi:rr (i:Int))(hn:(i:Int) ∉ W.mo.asleep)(h:Od i u W.aG y)(lk:Int)(hlk:aw lk)(wr:Bool)(nx:Nat)(h1:nx<=14)(h2:2<=nx->nx<=11->bj W.aG y.key) :
 WkM cf i e u d W (y.ask W lk wr nx).1 (y.ask W lk wr nx).2:=by
 obtain⟨w1,w2,w3,w4⟩:=hg.ask lk (t:=y.task) (h.task ▸ hi) (h.task ▸ hn) wr;unfold Wk.ask;simp only;exact⟨w1.mono oM (aC5 _) lR,⟨h.task,(by split<;>first|exact h.wants|exact hlk),h.key,h.gA,aD3 h.done,h1,λa b=>w3▸h2 a b⟩,λk hk=>w3▸hk,λt ht=>by rw[w2]at ht;exact .inl ht⟩
def oZ(hg:jD cf W e u d)(hi:rr (i:Int))(hn:(i:Int) ∉ W.mo.asleep)(h:Od i u W.aG y)(lk:Int)(nx:Nat)(h1:nx<=14)(h2:2<=nx->nx<=11->bj W.aG y.key) :
 WkM cf i e u d W (y.drop W lk nx).1 (y.drop W lk nx).2:=by
 obtain⟨w1,w2,w3,w4⟩:=hg.drop lk (t:=y.task) (h.task ▸ hi) (h.task ▸ hn);unfold Wk.drop;simp only;exact⟨w1.mono oM (aC5 _) lR,⟨h.task,h.wants,h.key,h.gA,aD3 h.done,h1,λa b=>w3▸h2 a b⟩,λk hk=>w3▸hk,λt ht=>by rw[w2]at ht;exact .inl ht⟩
def VE(hg:jD cf W e u d)(hi:rr (i:Int))(hn:(i:Int) ∉ W.mo.asleep)(h:Od i u W.aG y):WkM cf i e u d W (y.next W).1 (y.next W).2:=by
 have ht:=hg.take;obtain⟨-,hk⟩:=hg.wq.take;unfold Wk.next;simp only
 split
 ·rename_i h1
  exact⟨(ht.note _).mono oM lR lR,⟨h.task,h.wants,(hk h1).1,h.gA,aD3 h.done,(show(2:Nat)<=14 by decide),λ_ _=>(hk h1).2⟩,λ_ h=>h,λt ht=>.inl ht⟩
 split
 ·exact⟨ht.mono oM lR lR,⟨h.task,h.wants,h.key,h.gA,aD3 h.done,(show(12:Nat)<=14 by decide),λ_ h=>absurd (show(12:Nat)<=11 from h) dC⟩,λ_ h=>h,λt ht=>.inl ht⟩
 ·obtain⟨s1,s2⟩:=ht.sleep (t:=y.task) (h.task ▸ hi) (h.task ▸ hn)
  exact⟨s1.mono oM lR lR,⟨h.task,h.wants,h.key,h.gA,aD3 h.done,(show(1:Nat)<=14 by decide),λh=>absurd (show(2:Nat)<=1 from h) dC⟩,λ_ h=>h,λt ht=>(s2 t ht).imp id λe=>⟨e.trans h.task,rfl⟩⟩
theorem ai8(hg:jD cf W e u d)(hd:d<=40)(k:Key):IK ((aJ (W.aG.str (W.aG.home k)).loads k).getD Ff):=by
 obtain⟨n,m,hs,h1,h2⟩:=hg.wO;obtain⟨g1,-,-⟩:=hs.qm (dW W.aG k (cy hs)).2;cases hx:aJ (W.aG.str (W.aG.home k)).loads k with
 |none=>exact⟨(Iu 0).fit,(Iu 0).good,aB6 _,aB6 _⟩
 |some x=>
  have hl:=g1.ld k x hx;have:=(g1.ok.wH k x hx).Dk;exact⟨hl.fit,hl.good,by have:=hl.len;show x.cL.length<=200;omega,by show x.past.length<=1000;obtain⟨-,-,-,-,-,-,h9⟩:=g1.ok.py;omega⟩
def LS(hg:jD cf W e u d)(qd:cf.str<=64)(hd:d<=40)(hi:rr (i:Int))(hn:(i:Int) ∉ W.mo.asleep)(h:Od i u W.aG y)(ha:y.asleep=false)(JL:y.does≠13):WkM cf i e u d W (y.act W).1 (y.act W).2:=by
 obtain⟨n0,k0,hs,-,-⟩:=hg.wO;have a8:cf.gV:=hg.cfg ▸ hs.py;have hl:aw (ez W):=by
  unfold ez;rw[hg.cfg];have:=a7 a8.1;unfold aw;omega
 have hh:aw (y.home W):=by
  unfold Wk.home;have:=xN y.key.hi y.key.lo (W.aG.strs.length:Int);unfold aw;omega
 have Oe:∀x' : Wk,x'.task=y.task->x'.wants=y.wants->x'.key=y.key->IK x'.gA->x'.done=y.done->x'.does<=14->(2<=x'.does->x'.does<=11->bj W.aG y.key)->Od i (u+1) W.aG x':=λx' h1 h2 h3 h4 h5 h6 h7=>
  ⟨h1.trans h.task,h2 ▸ h.wants,h3 ▸ h.key,h4,h5▸aD3 h.done,h6,λa b=>h3 ▸ h7 a b⟩
 have hp:=h.uF;have:=h.does;unfold Wk.act
 split
 ·exact wP hg hi hn h _ hl true 1 dC (λh=>absurd h dC)
 ·exact VE hg hi hn h
 ·rename_i e0;exact oZ hg hi hn h _ 3 dC (λ_ _=>hp oM oM)
 ·rename_i e0;exact wP hg hi hn h _ hh false 4 dC (λ_ _=>hp oM oM)
 ·rename_i e0
  unfold Wk.see;exact⟨(hg.note _).mono oM (aC5 _) lR,Oe _ rfl rfl rfl (ai8 hg hd y.key) rfl (show(5:Nat)<=14 by decide) (λ_ _=>hp oM oM),λ_ h=>h,λt ht=>.inl ht⟩
 ·rename_i e0;exact oZ hg hi hn h _ 6 dC (λ_ _=>hp oM oM)
 ·rename_i e0
  have h9:Od i (u+1) W.aG y.reckon:=by
   unfold Wk.reckon
   split
   ·exact Oe _ rfl rfl rfl h.gA rfl (show(7:Nat)<=14 by decide) (λ_ _=>hp oM oM)
   ·exact Oe _ rfl rfl rfl h.gA rfl (show(10:Nat)<=14 by decide) (λ_ _=>hp oM oM)
  exact⟨hg.mono oM (aC5 _) lR,h9,λ_ h=>h,λt ht=>.inl ht⟩
 ·rename_i e0;exact wP hg hi hn h _ hh true 8 dC (λ_ _=>hp oM oM)
 ·rename_i e0
  obtain⟨s1,s2⟩:=hg.Zz y.key y.ei;have h9:=Oe {y with does:=9} rfl rfl rfl h.gA rfl (by show 9<=14;decide) (λ_ _=>hp oM oM);unfold Wk.note;exact⟨(s1.note _).mono oM lR lR,h9.aG s2 lR,s2,λt ht=>.inl ht⟩
 ·rename_i e0;exact oZ hg hi hn h _ 10 dC (λ_ _=>hp oM oM)
 ·rename_i e0;exact wP hg hi hn h _ hl true 11 dC (λ_ _=>hp oM oM)
 ·rename_i e0
  obtain⟨s1,s2,s3⟩:=(hg.note (y.ev 7)).give y.key;unfold Wk.give;have s3':((W.note (y.ev 7)).give y.key).aG=W.aG:=s3;exact⟨s1.mono oM lR lR,⟨h.task,h.wants,h.key,h.gA,Nat.succ_le_succ h.done,(show(14:Nat)<=14 by decide),λ_ h=>absurd (show(14:Nat)<=11 from h) dC⟩,λk hk=>s3'▸hk,λt ht=>.inl (s2 ht)⟩
 ·exact oZ hg hi hn h _ 13 dC (λ_ h=>absurd h dC)
 ·exact oZ hg hi hn h _ 0 dC (λh=>absurd h dC)
def I1(hg:jD cf W e u d)(qd:cf.str<=64)(hd:d<=40)(hi:rr (i:Int))(hn:(i:Int) ∉ W.mo.asleep)(h:Od i u W.aG x)(hr:x.ready W=true):WkM cf i e u d W (x.step W).1 (x.step W).2:=by
 unfold Wk.step;rw[if_pos hr];have JL:x.does≠13:=by
  unfold Wk.ready Wk.over at hr;intro e;rw[e]at hr;simp at hr
 exact LS (y:={x with wants:=-1,asleep:=false}) hg qd hd hi hn ⟨h.task,(show aw (-1) by unfold aw;decide),h.key,h.gA,h.done,h.does,h.uF⟩ rfl JL
end
end
abbrev R8:TypeId:=258
abbrev vX:TypeId:=195
abbrev uH:TypeId:=197
theorem ai9{A:Option Addr}{cc:Nat}{ov:Value}{at_:Int}{x:Cl}(h:mB w c g gw i A n cc ov at_ x)(hg:bD w c gw W)(hl:W.ay.length<=1000)(hw:aw x.wants)(ht:aw x.task):
 Calls prog 211 #[.iface vX (pt g)] w (Rt (.bool (!x.over&&x.ready W)) (Bl w)):=by
 have HO:=Ef h;have HR:=(λW1 (hb:Bl w W1)=>Iz (h.call hb) (hg.call hb) hl hw ht);clear h hg hl hw ht;cases ho:x.over
 ·rw[ho]at HO
  generalize x.ready W=R at *;go_enter func211,ntmps211;go_wp2_with(first
   |go_at_call 334;refine HO.mono ?_;rintro e w1 ⟨rfl,hb1⟩
   |(go_at_call 335;refine zM (HR _ hb1) λw2 hb2=>?_))
  go_ret;exact⟨sI,zT hb1 hb2⟩
 ·rw[ho]at HO
  generalize x.ready W=R at *;go_enter func211,ntmps211;go_wp2_with(go_at_call 334;refine HO.mono ?_;rintro e w1 ⟨rfl,hb1⟩);go_ret;exact⟨sI,hb1⟩
theorem aj0{cf:aM}{sp:Option Addr}(h:mD w c g gw i cf sp x)(hg:bD w c gw W)(hl:W.ay.length<=1000)(h1:W.aG.cfg.str<=64)(h0 : -1<=W.aG.cfg.str)(hw:aw x.wants)(ht:aw x.task):
 Calls prog 211 #[.iface uH (pt g)] w (Rt (.bool (!x.over&&x.ready W)) (Bl w)):=by
 have HO:=NV h;have HR:=sO h hg hl h1 h0 hw ht;clear h hg hl hw ht;cases ho:x.over
 ·rw[ho]at HO
  generalize x.ready W=R at *;go_enter func211,ntmps211;go_wp2_with(first
   |go_at_call 361;refine HO.mono ?_;rintro e w1 ⟨rfl,rfl⟩
   |(go_at_call 362;refine HR.mono ?_;rintro e w2 ⟨rfl,hb2⟩))
  go_ret;exact⟨sI,hb2⟩
 ·rw[ho]at HO
  generalize x.ready W=R at *;go_enter func211,ntmps211;go_wp2_with(go_at_call 361;refine HO.mono ?_;rintro e w1 ⟨rfl,rfl⟩);go_ret;exact⟨sI,Below.refl _ _⟩
abbrev VF(v:Value):List Value:=[v]
abbrev LU(w:World)(A:Option Addr)(n c:Nat)(vs:List Value):Prop:=ag w 1 VF A n c vs
def sQ(n:Nat)(can:Nat->Bool)(p:Int):Option Nat:=((List.range n).map λ(i:Nat)=>((cO p n).toNat+i) % n).find? can
def I4(o:Option Nat):Int:=match o with|some i=>(i:Int)|none=>-1
def yL{can:Nat->Bool}{p:Int}(h:∀j,j<n->can (((cO p n).toNat+j) % n)=false):sQ n can p=none:=by
 unfold sQ;rw[aW2];intro x hx;simp only[aF2,aR8]at hx;obtain⟨j,hj,rfl⟩:=hx;rw[h j hj];decide
def LW{can:Nat->Bool}{p:Int}{k:Nat}(hk:k<n)(h:∀j,j<k->can (((cO p n).toNat+j) % n)=false)(h2:can (((cO p n).toNat+k) % n)=true):sQ n can p=some (((cO p n).toNat+k) % n):=by
 unfold sQ;have e:List.range n=List.range k++(k::(List.range' (k+1) (n-k-1))):=by
  rw[List.range_eq_range',List.range_eq_range',<-List.range'_succ];have h9:=List.range'_append_1 (s:=0) (m:=k) (n:=n-k-1+1);rw[aR9]at h9;rw[h9]
  congr 1;omega
 rw[e,aG4,aH1,List.find?_append,aW2.2,Option.none_or,aT5,h2];intro x hx;simp only[aF2,aR8]at hx;obtain⟨j,hj,rfl⟩:=hx;rw[h j hj];decide
theorem yM(A:Option Addr)(n c:Nat)(vs:List Value)(can:Nat->Bool)(p:Int)(w:World)(hs:LU w A n c vs)(hn:n<=64)(hp:aw p)
 (hc:∀i v,vs[i]? = some v->∀W,Bl w W->Calls prog 211 #[v] W (Rt (.bool (can i)) (Bl W))) :
 Calls prog 161 #[.slice A n c,I6 p] w (Rt (I6 (I4 (sQ n can p))) (Bl w)):=by
 have HS:=zD hs;have HC:=zD hc;have HF:=zD (oN p n w hp (by unfold aw;omega));have hm:c<=9223372036854775807:=by have:=hs.2.2.1;unfold maxLen at this;omega
 have hle:n<=c:=hs.2.1;have HLv:=zD hs.1;clear hs hc
 by_cases h0:n=0
 ·subst h0
  have HQ:=zD (show sQ 0 can p=none from yL (λj hj=>absurd hj oM));rw[HQ.out];go_enter func161,ntmps161;go_wp2_with(go_at_call 91;refine HF.out.mono ?_;rintro e w1 ⟨rfl,rfl⟩);go_loopw[14] (λi wr=>i = I6 0/\wr=w) (λi _=>0)
  case atStart=>exact⟨rfl,rfl⟩
  case round=>
   obtain⟨rfl,rfl⟩:=hrel;go_wp2;go_ret;exact⟨rfl,Below.refl _ _⟩
 ·have hfb:=pG (p:=p) (n:=(n:Int)) oM
  have HFn:=zD (show cO p n=((cO p n).toNat:Nat)from oM);have hFl:(cO p n).toNat<n:=oM
  have tB:=zD (λ(hk:∀j,j<n->can (((cO p n).toNat+j) % n)=false)=>yL (n:=n) (p:=p) hk);have HNs:=zD (λk (hk:k<n) (h:∀j,j<k->can (((cO p n).toNat+j) % n)=false) (h2:can (((cO p n).toNat+k) % n)=true)=>LW (n:=n) (p:=p) hk h h2);obtain⟨R,hR⟩:=zE (sQ n can p);rw[<-hR]at tB HNs |-;rw[HFn.out]at HF;clear hfb HFn hR;generalize(cO p n).toNat=F at *;go_enter func161,ntmps161;go_wp2_with(go_at_call 91;refine HF.out.mono ?_;rintro e w1 ⟨rfl,rfl⟩);go_loopw[14] (λi wr=>∃k:Nat,k<=n/\i = I6 k/\(∀j,j<k->can ((F+j) % n)=false)/\Bl w wr) (λi _=>n-(intOf i).toNat)
  case atStart=>exact⟨0,aB6 _,rfl,λj hj=>absurd hj oM,Below.refl _ _⟩
  case round=>
   obtain⟨k,hk,rfl,Eo,aT⟩:=hrel;have HCn:=zD Eo;have qg:=zD aT;clear Eo aT
   by_cases hlt:k<n
   ·have Fb:(k:Int)<(n:Int):=oM
    have RY:(F+k) % n<n:=aS9 _ oM;obtain⟨b,off,v,rfl,hv,hb,hcl⟩:=ag.at_ (af HS.out qg.out) RY;have t0:wr.cell? ⟨b,off+(F+k) % n,none⟩=some v:=by have:=hcl 0 v rfl;simpa using this
    have HCa:=zD (HC.out _ v hv wr qg.out);have hrm:((F:Int)+(k:Int)).tmod (n:Int)=(((F+k) % n:Nat):Int):=by
     rw[Int.tmod_eq_emod_of_nonneg oM];simp
    have HR1:=zD (HNs.out k hlt HCn.out);have fG:=zD (λ(h:can ((F+k) % n)=false)=>(show ∀j,j<k+1->can ((F+j) % n)=false from λj hj=>by
     rcases aE2 j k with h2|h2
     ·exact HCn.out j h2
     ·have:j=k:=oM
      subst this;exact h))
    clear hcl hv hb;generalize(F+k) % n=m at *;cases hcm:can m
    ·rw[hcm]at HCa
     go_wp2_with(go_at_call 211;refine HCa.out.mono ?_;rintro e w4 ⟨rfl,hb4⟩);go_roundw
     case rel=>exact⟨k+1,by omega,by go_num,fG.out hcm,zT qg.out hb4⟩
     case measure=>simp[intOf];omega
    ·rw[hcm]at HCa
     go_wp2_with(go_at_call 211;refine HCa.out.mono ?_;rintro e w4 ⟨rfl,hb4⟩);go_ret;exact⟨by rw[HR1.out hcm];rfl,zT qg.out hb4⟩
   ·have: ¬(k:Int)<(n:Int):=oM
    have HR1:=zD (tB.out (λj hj=>HCn.out j oM));go_wp2;go_ret;exact⟨by rw[HR1.out];rfl,qg.out⟩
section
abbrev QJ:TypeId:=194
abbrev uI(gw:Nat)(T K:Value)(nc used:Int):Array Value:=#[pt gw,T,K,I6 nc,I6 used]
def eE(w:World)(c:bh)(gw:Nat)(E:En)(i:Nat)(v:Value):Prop:=
 (∃x g,E.cls[i]? = some x/\v=.iface vX (pt g)/\Iy w c g gw i x)\/
 (∃x g sp,E.cls.length<=i/\E.pT[i-E.cls.length]? = some x/\v=.iface uH (pt g)/\mD w c g gw i E.w.aG.cfg sp x)
structure I5(w:World)(c:bh)(ge gw:Nat)(bt ot nt ct:Nat)(K:Value)(vs:List Value)(E:En):Prop where
 blk:ai w ge QJ (uI gw (.slice (some ⟨bt,ot,none⟩) nt ct) K (E.cls.length:Int) (E.used:Int))
 ce:c ge=some (.at_ 17)
 ts:LU w (some ⟨bt,ot,none⟩) nt ct vs
 lt:bt<w.heap.size
 cb:c bt=some (.at_ 18)
 len:vs.length=E.size
 tk:∀i v,vs[i]? = some v->eE w c gw E i v
 gw:bD w c gw E.w
 fr:∀k,w.heap.size<=k->c k=none
structure yN(E:En):Prop where
 gw:yH E.w
 cl:∀x∈E.cls,ai6 E.w x
 wk:∀x∈E.pT,Vv E.w E.w.aG.cfg x
 size:E.size<=32
 used:E.used<1000000
section
variable{T:Tag->Prop}{w w' : World}{c c' : bh}{ge gw bt ot nt ct:Nat}{K:Value}{vs:List Value}{E:En}
def aj1{j:Nat}(h:i≠j): ¬sG i (.at_ (20+j)):=by
 rintro(h1|h1)
 ·exact cZ oM h1
 ·injection h1;omega
def pK(h1:17<=n)(h2:n<20): ¬sG i (.at_ n):=by
 rintro(h|h)
 ·exact cZ h1 h
 ·injection h;omega
def eE.call{v:Value}(h:eE w c gw E i v)(hb:Bl w w'):eE w' c gw E i v:=by
 rcases h with⟨x,g,h1,h2,h3⟩|⟨x,g,sp,h0,h1,h2,h3⟩
 ·exact .inl ⟨x,g,h1,h2,h3.call hb⟩
 ·exact .inr ⟨x,g,sp,h0,h1,h2,h3.call hb⟩
def I5.call(h:I5 w c ge gw bt ot nt ct K vs E)(hb:Bl w w'):I5 w' c ge gw bt ot nt ct K vs E:=
 ⟨h.blk.call hb,h.ce,af h.ts hb,aB9 h.lt hb.size,h.cb,h.len,λi v hv=>(h.tk i v hv).call hb,h.gw.call hb,λk hk=>h.fr k (aB4 hb.size hk)⟩
def eE.step{v:Value}{E' : En}(h:eE w c gw E i v)(hT:¬T (.at_ (20+i)))(hF:¬T .nS)(hs:ae T w w' c c')(h1:E'.cls[i]? = E.cls[i]?)(h2:E'.cls.length=E.cls.length)(h3:E.cls.length<=i->E'.pT[i-E.cls.length]? = E.pT[i-E.cls.length]?)(h4:E'.w.aG.cfg=E.w.aG.cfg):eE w' c' gw E' i v:=by
 rcases h with⟨x,g,e1,e2,e3⟩|⟨x,g,sp,e0,e1,e2,e3⟩
 ·exact .inl ⟨x,g,h1.trans e1,e2,e3.step hs hT⟩
 ·exact .inr ⟨x,g,sp,h2▸e0,h2▸(h3 e0).trans e1,e2,h4▸e3.step hs hT hF⟩
def ae.only{t:Tag}(hu:ah (λk=>k=g) w w')(hg:c g=some t)(hc:∀k,w.heap.size<=k->c k=none):ae (λt'=>t' = t) w w' c c:=
 ⟨hu.mono (λk e=>by rw[e];exact⟨_,hg,rfl⟩),λ_ _ _=>rfl,λk t' hk e=>by
  rcases hk with hk|⟨t0,e0,Zj⟩
  ·rw[hc k hk]at e;cases e
  ·rw[e0]at e;injection e with e;subst e;exact .inl Zj,λk hk=>hc k (aB4 hu.size hk)⟩
def vA(t:Tag):Prop:=dL t\/∃n,17<=n/\t=.at_ n
def fD:¬vA .nS:=by
 rintro(h|⟨n,-,h⟩)
 ·exact aB h
 ·cases h
def sG.en{t:Tag}(h:sG i t):vA t:=h.imp id (λe=>⟨20+i,oM,e⟩)
def I5.Og{E' : En}(h:I5 w c ge gw bt ot nt ct K vs E)(hs:ae (sG i) w w' c c')(hg:bD w' c' gw E'.w)(hcl:E'.cls.length=E.cls.length)(hwl:E'.pT.length=E.pT.length)(hcls:∀j,j≠i->E'.cls[j]? = E.cls[j]?)(ay6:∀j,j≠i->E.cls.length<=j->E'.pT[j-E.cls.length]? = E.pT[j-E.cls.length]?)(ZA:E'.w.aG.cfg=E.w.aG.cfg)(hi:∀v,vs[i]? = some v->eE w' c' gw E' i v)(hu:E'.used=E.used+1):
 I5 (w'.setCell ⟨ge,4,none⟩ (I6 ((E.used:Int)+1))) c' ge gw bt ot nt ct K vs E'/\ae vA w (w'.setCell ⟨ge,4,none⟩ (I6 ((E.used:Int)+1))) c c':=by
 have hce:=hs.keep h.blk.lt h.ce (pK oM oM);have hcb:=hs.keep h.lt h.cb (pK oM oM);have U:=(ah.refl (λk=>k=ge) w').setCell (p:=⟨ge,4,none⟩) (.inl rfl) (I6 ((E.used:Int)+1));have S:=ae.only U hce hs.fresh;have hne:bt≠ge:=λe=>by rw[e,hce]at hcb;cases hcb
 refine⟨⟨?_,hce,aV (aV h.ts hs.upd (λa ha=>by cases ha;exact ae.lX (S:=λ_=>True) h.cb (pK oM oM))) U (λa ha=>by cases ha;exact hne),aB9 (aB9 h.lt hs.upd.size) U.size,hcb,by unfold En.size at *;rw[hcl,hwl];exact h.len,λj v hv=>?_,hg.step S (λt ht e=>by subst e;exact cZ oM ht) (λe=>by cases e),S.fresh⟩,(hs.mono λt e=>e.en).trans (S.mono λt e=>.inr ⟨17,oM,e⟩) fD⟩
 ·rw[hcl,hu,show((E.used+1:Nat):Int)=(E.used:Int)+1 by omega]
  exact(hs.blk h.blk h.ce (pK oM oM)).aX 4 _
 ·have key:eE w' c' gw E' j v:=by
   by_cases e:j=i
   ·subst e;exact hi v hv
   ·exact(h.tk j v hv).step (aj1 (λh=>e h.symm)) (cB i) hs (hcls j e) hcl (ay6 j e) ZA
  exact key.step (λe=>by injection e;omega) (λe=>by cases e) S rfl rfl (λ_=>rfl) rfl
def yN.can(h:yN E)(hb:I5 w c ge gw bt ot nt ct K vs E):∀i v,vs[i]? = some v->∀W,Bl w W->Calls prog 211 #[v] W (Rt (.bool (E.can i)) (Bl W)):=λi v hv W hW=>by
 rcases hb.tk i v hv with⟨x,g,e1,rfl,e3⟩|⟨x,g,sp,e0,e1,rfl,e3⟩
 ·obtain⟨A,n,cc,ov,e3⟩:=e3
  have hx:=h.cl x (aC1 e1);have h9:=ai9 (e3.call hW) (hb.gw.call hW) h.gw.loc hx.wants hx.task;unfold En.can;rw[e1];exact h9
 ·have hx:=h.wk x (aC1 e1)
  unfold En.can;rw[aE1 e0,e1];exact aj0 (e3.call hW) (hb.gw.call hW) h.gw.loc h.gw.str.2 h.gw.str.1 hx.wants hx.task
end
end
section
section
variable{w:World}{c:bh}{g gw i:Nat}{cf:aM}{sp:Option Addr}{W:Gw}{x:Wk}
def VL(h:mD w c g gw i cf sp x)(hg:bD w c gw W)(hk:x.key.good)(hr:dD (W.aG.strs.length:Int)=true) :
 Calls prog 368 #[pt g] w (Rt (I6 (Wk.home W x)) (Bl w)):=by
 rw[show Wk.home W x=(W.aG.home x.key:Nat)from(dW W.aG x.key hr).1];exact Eh h hg hk hr
def ZB(lk:Int)(wr:Bool)(n:Int)(h:mD w c g gw i cf sp x)(hg:bD w c gw W)(hc:∀k,w.heap.size<=k->c k=none)(hl:W.ay.length<=1000)(hn:aw lk)(ht:aw x.task)(hq:∀l,W.lock lk=some l->l.line.length<=1000)(rk:n=(n.toNat:Nat):=by rfl) :
 Calls prog 365 #[pt g,I6 lk,.bool wr,I6 n] w λe w'=>e=.returned (I6 n)/\NZ c g gw i cf {x with wants:=if(W.ask lk x.task wr).1 then x.wants else lk} (W.ask lk x.task wr).2 w w':=by
 have h9:=ai5 lk wr n.toNat h hg hc hl hn ht hq;rw[<-rk]at h9;exact h9
def VM(lk:Int)(n:Int)(h:mD w c g gw i cf sp x)(hg:bD w c gw W)(hc:∀k,w.heap.size<=k->c k=none)(hl:W.ay.length<=1000)(hn:aw lk)(ht:aw x.task)(hq:∀l,W.lock lk=some l->l.line.length<=1000/\∀x∈l.line,aw x.task)(rk:n=(n.toNat:Nat):=by rfl) :
 Calls prog 367 #[pt g,I6 lk,I6 n] w λe w'=>e=.returned (I6 n)/\NZ c g gw i cf x (W.drop lk x.task) w w':=by
 have h9:=Zm lk n.toNat h hg hc hl hn ht hq;rw[<-rk]at h9;exact h9
theorem Ep(x:Wk)(h:mD w c g gw i cf sp x)(hg:bD w c gw W)(hc:∀k,w.heap.size<=k->c k=none)(a8:yH W)(hx:Vv W cf x)(hr:x.ready W=true)(hd:x.does=0\/x.does=1\/x.does=2\/x.does=3\/x.does=5\/x.does=6\/x.does=7\/x.does=8\/x.does=9\/x.does=10\/x.does=11\/x.does=12\/x.does=14) :
 Calls prog 363 #[pt g] w λe w'=>e=.returned (.tuple #[])/\NZ c g gw i cf (x.step W).2 (x.step W).1 w w':=by
 have Nu:=sO h hg a8.loc a8.str.2 a8.str.1 hx.wants hx.task;rw[hr]at Nu;have HS:x.step W=({x with wants:=-1,asleep:=false} : Wk).act W:=if_pos hr;obtain⟨tk,ds,wn,zG,ky,sw,av,dn⟩:=x;dsimp only at hd;obtain⟨R,hR⟩:=zE ((⟨tk,ds,wn,zG,ky,sw,av,dn⟩:Wk).step W);have HR:=(hR.trans HS);rw[<-hR];have hhI:aw (Wk.home W ⟨tk,ds,-1,false,ky,sw,av,dn⟩):=by rw[show Wk.home W ⟨tk,ds,-1,false,ky,sw,av,dn⟩=(W.aG.home ky:Nat)from(dW W.aG ky a8.rt).1];exact a8.ap5 ky
 have wD:aw (ez W):=by have:=a8.str;unfold ez aw;omega
 clear hR HS hr;go_enter func363,ntmps363;go_upto_region 2 with(go_at_call 362;refine Nu.mono ?_;rintro e w1 ⟨rfl,B1⟩;have H1:=(h.call B1);have k3:=H1.blk.z 3 (I6 wn);have k4:=H1.blk.z 4 (.bool zG);have f3:=H1.blk.frozen 3;have f4:=H1.blk.frozen 4)
 clear k3 k4 f3 f4;obtain⟨w2,hw2⟩:=zE ((w1.setCell ⟨g,3,none⟩ (I6 (-1))).setCell ⟨g,4,none⟩ (.bool false));have U2:=((ah.refl (λk=>k=g) w1).setCell (p:=⟨g,3,none⟩) (.inl rfl) (I6 (-1))).setCell (p:=⟨g,4,none⟩) (.inl rfl) (.bool false);have BL2:=(H1.blk.aX 3 (I6 (-1))).aX 4 (.bool false);rw[<-hw2]at U2 BL2 |-;have H2:=(H1.put (x':=⟨tk,ds,-1,false,ky,sw,av,dn⟩) U2 BL2 rfl);have C1:=ae.aa (sG i) c hc B1;have G2:=(dm (hg.call B1) U2 H1.cg C1.fresh);have C2:=(C1.iW U2 H1.cg);clear hw2 U2 BL2 C1 H1 B1 Nu h hg hc;rcases hd with rfl|rfl|rfl|rfl|rfl|rfl|rfl|rfl|rfl|rfl|rfl|rfl|rfl
 all_goals
  have:=H2.blk.z 2 (I6 _);go_wp2_with(first
  |go_at_call 364;refine zM (NY H2 G2 a8.str.2 a8.str.1) λw3 hb3=>?_;have C2:=(C2.trans (ae.aa (sG i) c C2.fresh hb3) (cB i));have H2:=H2.call hb3;have G2:=G2.call hb3
  |go_at_call 368;refine zM (VL H2 G2 hx.key a8.rt) λw3 hb3=>?_;have C2:=(C2.trans (ae.aa (sG i) c C2.fresh hb3) (cB i));have H2:=H2.call hb3;have G2:=G2.call hb3
  |go_at_call 365;refine(ZB _ _ _ H2 G2 C2.fresh a8.loc (by first|exact hhI|exact wD) hx.task (λl hl=>aB4 (a8.lin _ l hl).1 dC)).mono ?_;rintro e w4 ⟨rfl,c4,sp4,G4,H4,yE⟩;have C4:=C2.trans yE (cB i);have:=H4.blk.z 2 (I6 _);have:=H4.blk.frozen 2
  |go_at_call 367;refine(VM _ _ H2 G2 C2.fresh a8.loc (by first|exact hhI|exact wD) hx.task (λl hl=>⟨aB4 (a8.lin _ l hl).1 dC,(a8.lin _ l hl).2⟩)).mono ?_;rintro e w4 ⟨rfl,c4,sp4,G4,H4,yE⟩;have C4:=C2.trans yE (cB i);have:=H4.blk.z 2 (I6 _);have:=H4.blk.frozen 2
  |go_at_call 366;refine(Zo H2 G2 C2.fresh a8 hx.task).mono ?_;rintro e w4 ⟨rfl,c4,sp4,G4,H4,yE⟩;have C4:=C2.trans yE (cB i);have:=H4.blk.z 2 (I6 _);have:=H4.blk.frozen 2
  |go_at_call 370;refine(LP H2 G2 C2.fresh hx.gA).mono ?_;rintro e w4 ⟨rfl,c4,sp4,G4,H4,yE⟩;have C4:=C2.trans yE (cB i);have:=H4.blk.z 2 (I6 _);have:=H4.blk.frozen 2
  |go_at_call 371;refine(Qy H2 G2 C2.fresh hx.key a8.rt (a8.stp _).choose_spec.1 (a8.stp _).choose_spec.2 (oH a8.evs)).mono ?_;rintro e w4 ⟨rfl,c4,sp4,G4,H4,yE⟩;have C4:=C2.trans yE (cB i);have:=H4.blk.z 2 (I6 _);have:=H4.blk.frozen 2
  |(go_at_call 372;refine(Vu H2 G2 C2.fresh hx.key (oH a8.evs) (oH a8.wqb) a8.zG.1 (oH a8.mol.1) hx.done).mono ?_;rintro e w4 ⟨rfl,c4,sp4,G4,H4,yE⟩;have C4:=C2.trans yE (cB i);have:=H4.blk.z 2 (I6 _);have:=H4.blk.frozen 2))
  go_end0;have U:=λv=>(ah.refl (λk=>k=g) w4).setCell (p:=⟨g,2,none⟩) (.inl rfl) v
  exact⟨rfl,c4,sp4,HR▸dm G4 (U _) H4.cg C4.fresh,HR▸H4.put (U _) (H4.blk.aX 2 _) rfl,C4.iW (U _) H4.cg⟩
end
end
section
def QP{s:aL}{i:Nat}(h:i<s.strs.length):s.et i (s.str i)=s:=by
 unfold aL.et aL.str;rw[aB7,aB3 h,aF6,List.set_getElem_self]
section
variable{w:World}{c:bh}{g gw i:Nat}{cf:aM}{sp:Option Addr}{W:Gw}
theorem QQ(x:Wk)(h:mD w c g gw i cf sp x)(hg:bD w c gw W)(hc:∀k,w.heap.size<=k->c k=none)(a8:yH W)(hx:Vv W cf x)(hr:x.ready W=true)(hd:x.does=4) :
 Calls prog 363 #[pt g] w λe w'=>e=.returned (.tuple #[])/\NZ c g gw i cf (x.step W).2 (x.step W).1 w w':=by
 have Nu:=sO h hg a8.loc a8.str.2 a8.str.1 hx.wants hx.task;rw[hr]at Nu;have Nu:=zD Nu;have HS:=zD (show x.step W=({x with wants:=-1,asleep:=false} : Wk).act W from if_pos hr);obtain⟨tk,ds,wn,zG,ky,sw,av,dn⟩:=x;dsimp only at hd;subst hd;have H0:=zD h;have G0:=zD hg;have HC:=zD hc;have kh:=zD a8;have Fs:=zD hx;obtain⟨R,hR⟩:=zE ((⟨tk,4,wn,zG,ky,sw,av,dn⟩:Wk).step W);have HR:=zD (hR.trans HS.out);rw[<-hR];clear h hg hc a8 hx hr hR HS;go_enter func363,ntmps363;go_upto_region 2 with(go_at_call 362;refine Nu.out.mono ?_;rintro e w1 ⟨rfl,hb1⟩;have B1:=zD hb1;have H1:=zD (H0.out.call hb1);have G1:=zD (G0.out.call hb1);have k3:=H1.out.blk.z 3 (I6 wn);have k4:=H1.out.blk.z 4 (.bool zG);have f3:=H1.out.blk.frozen 3;have f4:=H1.out.blk.frozen 4;clear hb1)
 clear k3 k4 f3 f4;obtain⟨w2,hw2⟩:=zE ((w1.setCell ⟨g,3,none⟩ (I6 (-1))).setCell ⟨g,4,none⟩ (.bool false));have U2:=((ah.refl (λk=>k=g) w1).setCell (p:=⟨g,3,none⟩) (.inl rfl) (I6 (-1))).setCell (p:=⟨g,4,none⟩) (.inl rfl) (.bool false);have BL2:=(H1.out.blk.aX 3 (I6 (-1))).aX 4 (.bool false);rw[<-hw2]at U2 BL2 |-;have H2:=zD (H1.out.put (x':=⟨tk,4,-1,false,ky,sw,av,dn⟩) U2 BL2 rfl);have C1:=ae.aa (sG i) c HC.out B1.out;have G2:=zD (dm G1.out U2 H1.out.cg C1.fresh);have C2:=zD (C1.iW U2 H1.out.cg);clear hw2 U2 BL2 C1 G1 H1 B1 G0 H0 Nu;have k2:=H2.out.blk.z 2 (I6 (4:Nat));obtain⟨gs,hs,hst,hsk⟩:=yD G2.out;obtain⟨A,m,cap,ps,gt,bt,fp,ks,hss⟩:=hs;have hb:=dW W.aG ky kh.out.rt;obtain⟨p,hp⟩:∃p,ps[W.aG.home ky]? = some p:=⟨_,aB3 (by rw[hss.strs.len];exact hb.2)⟩
 obtain⟨y,hy⟩:=Fs.out.has rfl;obtain⟨b,f,SZ⟩:=hss.strs.str _ p hp;obtain⟨pn,F,fr,e1,e2,e3⟩:=SZ.wH ky y (λe=>e) hy;have HP:=zD hp;have nI:=zD hst;have HSk:=zD hsk;have R7:=zD hss;have HSb:=zD SZ;have HN:=zD e2;have HF3:=zD e3;have HF1:=zD e1;have HY:=zD hy;have HSf:=zD (QP hb.2);have Fp:=zD (show(W.aG.str (W.aG.home ky)).cfg=cf from by
  obtain⟨n1,k1,h1,-,-⟩:=kh.out.wO;rw[(h1.qm hb.2).1.cfg];exact Fs.out.cfg.symm)
 have HH:=zD (λW1 (hb:Bl w2 W1)=>Eh (H2.out.call hb) (G2.out.call hb) Fs.out.key kh.out.rt);have HGt:=zD (λW1 (hb:Bl w2 W1)=>(show Calls prog 83 #[pt p,.agg ky.row] W1 λe w'=>e=.returned (.pointer pn)/\Bl W1 w' from by
  have h9:=mQ ky W1 (HSb.out.call hb) Fs.out.key;rw[e1]at h9;exact h9))
 clear hst hsk hss hb hp hy SZ e1 e2 e3;go_upto_region 13 with fail
 refine zr (λj=>[17].contains j) (λwS=>ah (λj=>∃t,c j=some t/\dL t) w2 wS) ?_;have S0:=(ah.refl (λj=>∃t,c j=some t/\dL t) w2).drew;refine zk 13 [0,1,2,3,4] [_,_,_,_,pt gw] (.q zK<|.q zK<|.q zK<|.q zK<|.c rfl rfl (zl λ_ h=>by have c:=(H2.out.bu h).z 0 (pt gw);go_simp) .nil) S0 ?_;refine zk 8 [6,9,10,11,12] [_,_,_,_,.agg ky.row] (.c rfl rfl zPP<|.c rfl rfl zPP<|.c rfl rfl zPP<|.c rfl rfl zPP<|.c rfl rfl (zl λ_ h=>aF (ty:=aS) (x:=.tmp 69) rfl rfl (run_loadAt_mid _ _ _ _ _ _ (jN (H2.out.bu h)) underlying83 rfl kZ)) .nil) S0 ?_;refine zQ 5 ?_;go_wp2_with(go_at_call 160;refine zN (nI.out _ bR.drew) ?_);refine .i S0 ?_;refine zQ 7 ?_;go_wp2_with(go_at_call 368;refine zM (HH.out _ bR.drew) λw4 hb4=>?_;have B4:=zD (show Bl w2 w4 from(Below.refl w2.heap.size w2).drew.trans hb4));refine .i (S0.trans (ah.aa hb4) iL) ?_;have S4:=S0.trans (ah.aa hb4) iL;refine zQ 8 ?_;go_wp2_with(go_at_call 67;refine zN (fy (R7.out.call B4.out) _ p HP.out) ?_);refine .i S4 ?_;refine zQ 13 ?_;go_wp2_with(go_at_call 83;refine zM (HGt.out _ B4.out) λw6 dJ=>?_;have B6:=zD (show Bl w2 w6 from zT B4.out dJ));refine .i (S4.trans (ah.aa dJ) iL) ?_;have S6:=S4.trans (ah.aa dJ) iL;refine zQ 14 ?_;go_wp2_with(go_at_call 189;refine(sB pn F _ y fr w6 (HN.out.call B6.out)).mono ?_;rintro e w7 ⟨rfl,hn7,Va,lV⟩;have Q7:=zD ((HSb.out.call B6.out).freeze HF1.out HF3.out HY.out (λj hj=>C2.out.fresh j (aB4 B6.out.size hj)) hn7 Va lV);obtain⟨c7,hs7,ht7,hf7⟩:=Q7.out;have S7_:=zD hs7;have T7:=zD ht7;have F7:=zD hf7;have U7:=zD ht7.upd;have H7:=zD ((H2.out.call B6.out).step ht7 (km _ _) (bS _));have k7:=H7.out.blk.z 7 (.pointer sp);have f7:=H7.out.blk.frozen 7;clear hn7 Va lV Q7 hs7 ht7 hf7);refine .i (S6.trans U7.out (λk ⟨t,e,ht⟩=>.inl ⟨t,e,.st (.st ht)⟩)) ?_;have S7:=S6.trans U7.out (λk ⟨t,e,ht⟩=>.inl ⟨t,e,.st (.st ht)⟩);refine zQ 15 ?_;go_wp2_with fail;refine .i S7 ?_;refine zk 1 [16] [_] .f S7 ?_;refine aq _ _ _ _ kZ ?_;refine zO 17 (λQ2 aI=>?_);go_wp2_with fail;(try refine aI _ _ ?_);(try clear aI Q2)
 refine wpAny_done kZ ?_ _;have T8:=zD ((ae.aa dO c C2.out.fresh B6.out).trans (T7.out.mono (T2:=dO) λt e=>.st e) eu);have Z8:cG w7 c7 gs W.aG:=by
  have h9:=(R7.out.call B6.out).str HP.out T7.out ⟨b,f,S7_.out⟩;rw[HSf.out]at h9;exact⟨A,m,cap,ps,gt,bt,fp,ks,h9⟩
 obtain⟨g8,t8⟩:=HSk.out _ _ _ T8.out Z8 rfl;have U:=(ah.refl (λk=>k=g) w7).setCell (p:=⟨g,7,none⟩) (.inl rfl) (.pointer pn);have BL:=H7.out.blk.aX 7 (.pointer pn);obtain⟨w9,hw9⟩:=zE (w7.setCell ⟨g,7,none⟩ (.pointer pn));rw[<-hw9]at U BL |-;have H9:=zD (show mD w9 c7 g gw i cf pn ⟨tk,4,-1,false,ky,y,av,dn⟩from⟨BL,H7.out.cg,.inr (by
  obtain⟨F9,q1,q2⟩:=F7.out;rw[Fp.out]at q1;exact⟨F9,q1.upd U (λj hj e=>by have h5:=q2 j hj;rw[e,H7.out.cg]at h5;cases h5),q2⟩)⟩)
 have G9:=zD (dm (show bD w7 c7 gw W from g8) U H7.out.cg T7.out.fresh);have C9:=zD ((C2.out.trans t8.fM (cB i)).iW U H7.out.cg);have HR:=zD (HR.out.trans (show Wk.act W ⟨tk,4,-1,false,ky,sw,av,dn⟩=(W.note ((⟨tk,4,-1,false,ky,y,av,dn⟩:Wk).ev 5),⟨tk,5,-1,false,ky,y,av,dn⟩)from by
  show Wk.see W _=_
  unfold Wk.see;dsimp only;rw[HY.out]
  rfl))
 have Zn:=zD (show W.evs.length<100000 from by have:=kh.out.evs;omega);clear g8 t8 U BL hw9 Z8 k7 f7 k2 S0 S4 S6 S7 T8 T7 F7 U7 H7 S7_ B6 B4 HGt HH Fp HSf HY HF1 HF3 HN HSb R7 HSk nI HP hb4 dJ;go_wp2_with(go_at_call 369;refine(yG 5 rfl H9.out G9.out C9.out.fresh Zn.out).mono ?_;rintro e w10 ⟨rfl,c10,aq8,ZC,VK⟩;have G10:=zD aq8;have H10:=zD ZC;have C10:=zD (C9.out.trans VK.fM (cB i));have:=ZC.blk.z 2 (I6 (4:Nat));have:=ZC.blk.frozen 2;clear aq8 ZC VK);go_end0;have U:=(ah.refl (λk=>k=g) w10).setCell (p:=⟨g,2,none⟩) (.inl rfl) (I6 (5:Nat));have BL:=H10.out.blk.aX 2 (I6 (5:Nat));exact⟨rfl,c10,pn,by rw[HR.out];exact dm G10.out U H10.out.cg C10.out.fresh,by rw[HR.out];exact H10.out.put U BL rfl,C10.out.iW U H10.out.cg⟩
theorem ZE(x:Wk)(h:mD w c g gw i cf sp x)(hg:bD w c gw W)(hc:∀k,w.heap.size<=k->c k=none)(a8:yH W)(hx:Vv W cf x) :
 Calls prog 363 #[pt g] w λe w'=>e=.returned (.tuple #[])/\NZ c g gw i cf (x.step W).2 (x.step W).1 w w':=by
 cases hr:x.ready W
 ·have Nu:=sO h hg a8.loc a8.str.2 a8.str.1 hx.wants hx.task
  rw[hr]at Nu;have HS:x.step W=(W,x):=by unfold Wk.step;rw[if_neg (by rw[hr];decide)]
  rw[HS];have H0:=h;have G0:=hg;have HC:=hc;clear h hg hc a8 hx hr;go_enter func363,ntmps363;go_wp2_with(go_at_call 362;refine Nu.mono ?_;rintro e w1 ⟨rfl,hb1⟩);refine bodyPost_ret (results_none rfl _ _ _) rfl ?_;exact⟨rfl,c,sp,G0.call hb1,H0.call hb1,ae.aa (sG i) c HC hb1⟩
 ·have:=hx.does
  rcases(show(x.does=0\/x.does=1\/x.does=2\/x.does=3\/x.does=5\/x.does=6\/x.does=7\/x.does=8\/x.does=9\/x.does=10\/x.does=11\/x.does=12\/x.does=14)\/x.does=4\/x.does=13 from oM)with e|e|e
  ·exact Ep x h hg hc a8 hx hr e
  ·exact QQ x h hg hc a8 hx hr e
  ·unfold Wk.ready Wk.over at hr;rw[e]at hr;simp at hr
end
end
def V7(h:bD w c g W)(hl:W.ay.length<=1000):Calls prog 172 #[pt g] w λe w'=>e=.returned (I6 ((W.ay.length:Int)+1))/\w=w':=by
 obtain⟨cs,gs,gl,ls,lv,v,va,vf,vb,vd,vz,ve,h⟩:=h;exact yB h hl
theorem aj9(hg:bD w c gw W)(hl:W.ay.length<=1000)(hc:∀k,w.heap.size<=k->c k=none)(t:Nat)(ht:t<32):
 Calls prog 113 #[pt gw,I6 (t:Int)] w λe w'=>∃g,e=.returned (pt g)/\w.heap.size<=g/\Bl w w'/\ai w' g Xu (sK gw none (Wk.new (t:Int))):=by
 have HCo:=V7 hg hl;have:(((W.ay.length:Int)+1)==0)=false:=by simp;omega
 have:decide ((t:Int)<0)=false:=sI
 have:decide ((32:Int)<=(t:Int))=false:=by simp;omega
 clear hg hl;generalize(W.ay.length:Int)+1=L at *;go_enter func113,ntmps113;go_wp2_with(go_at_call 172;refine HCo.mono ?_;rintro e w1 ⟨rfl,rfl⟩);go_ret;exact⟨_,rfl,aC2 _,(Below.refl _ w).alloc lR _,(ai.new w Xu (sK gw none (Wk.new (t:Int))))⟩
end Go.Proofs.YtjgmjohiehbgaaaGreat
