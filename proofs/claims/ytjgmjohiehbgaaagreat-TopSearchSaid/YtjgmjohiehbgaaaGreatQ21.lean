/- Part 21. -/
import Derived.Test.YtjgmjohiehbgaaaGreatQ20
namespace Go.Proofs.YtjgmjohiehbgaaaGreat
open Go.RowKit Go.Proofs.Tryz
set_option maxHeartbeats 20000000
set_option maxRecDepth 100000
set_option linter.all false
variable{W W':Gw}{a:Option Ld}{b:Option kT}{e:Ev}{id:ByteArray}{k n:Nat}{l:List aD}{m:Fm}{s:aL}{t v:Int}{α:Type}
section
open Go.ChangeShapes Go.WideShapes Go.ChangeAt
section
variable{H:Type}{enc:TypeId×Value->H}{P:Program}{w:World}{base:Nat}{spare:Nat->Bool}{held:Bool}
def au3:∀vs:List Value,lQ [.int .i64] vs->∃x:Int,[Value.int .i64 x]=vs/\aw x:=by
 rintro _ ⟨_,_,rfl,⟨n,rfl,wf⟩,h⟩;cases h;exact⟨n,rfl,dw wf⟩
theorem Ui{t u e:TypeId}{ks:List Kd}{A:Option Addr}{len cap:Nat}{d:DataW H}{p:List MemPlace}(cells:α->List Value)(good:α->Prop)(zP:0<ks.length)(hdec:∀vs,lQ ks vs->∃x:α,cells x=vs/\good x)(ht:P.underlying t=some (.slice u))(hu:P.underlying u=some (.slice e))(hcu:P.cellsOf u=1)(hk:ib P n e=some ks)(h:DataW.Trod enc P w base spare held t (.slice A len cap) d p): ∃rows:List (bq α),dK w ks.length cells A len cap rows/\∀r∈rows,∀x∈r.l,good x:=by
 obtain⟨fuel,hf⟩:=h;rcases Deep.open_slice1 ht hcu hf with⟨hcs,_⟩|⟨a,len',cap',m,n',V,D,Pl,hcs,_,hl,hm,Xy,_,hi⟩
 ·simp[Value.cells]at hcs
  obtain⟨rfl,rfl,rfl⟩:=hcs;exact⟨[],⟨⟨rfl,aC2 _,aB6 _,λ_=>⟨rfl,rfl⟩,λa ha=>by cases ha⟩,λr hr=>by simp at hr⟩,λr hr=>by simp at hr⟩
 ·simp[Value.cells]at hcs
  obtain⟨rfl,rfl,rfl⟩:=hcs;have hlm:len<=m:=by rw[Xy];split<;>omega
  obtain⟨l,OG,hp⟩:=wW (n:=len) (p:=λi (r:bq α)=>(w.cell? (a.add i)=some (.slice r.A r.n r.c))/\ag w ks.length cells r.A r.n r.c r.l/\∀x∈r.l,good x) (λi hin=>by
   obtain⟨hc,Fx⟩:=hi i oM;have hV:∃A2 n2 c2,V i=.slice A2 n2 c2:=by
    rcases Deep.open_slice hu Fx with⟨h0,_⟩|⟨a2,n2,c2,_,_,_,_,h0,_⟩
    ·injection h0 with h0;exact⟨_,_,_,h0⟩
    ·injection h0 with h0;exact⟨_,_,_,h0⟩
   obtain⟨A2,n2,c2,hV⟩:=hV;rw[hV]at hc Fx;obtain⟨l2,s2,g2⟩:=vG cells good zP hdec hu hk (A:=A2) (len:=n2) (cap:=c2) (d:=D i) (p:=Pl i) ⟨n',by simpa[Value.cells]using Fx⟩;exact⟨⟨A2,n2,c2,l2⟩,hc,s2,g2⟩)
  refine⟨l,⟨⟨OG,hl,hm,λh=>(by cases h),λa' ha=>?_⟩,λr hr=>?_⟩,λr hr=>?_⟩
  ·cases ha
   refine⟨λi x hx j v hv=>?_,λh0=>?_⟩
   ·have:=(hp i x hx).1
    unfold bq.hdr at hv;cases j with
    |zero=>simp at hv;subst hv;simpa using this
    |succ j=>simp at hv
   ·obtain⟨x,hx⟩:∃x,l[0]? = some x:=⟨_,aB3 oM⟩
    have h1:=(hp 0 x hx).1;have e:a.add 0=a:=by unfold Addr.add;split<;>simp_all
    rw[e]at h1;exact⟨MO h1,World.cell?_spot h1⟩
  ·obtain⟨i,hi2⟩:=aD7 hr
   exact(hp i r hi2).2.1
  ·obtain⟨i,hi2⟩:=aD7 hr
   exact(hp i r hi2).2.2
end
def kE{α:Type}(rows:List (bq α))(wk:Int)(rn:Nat):Bool:=(rows.all λr=>decide (r.n<=8))&&(decide (rows.length<=5)&&(decide (wk<=4)&&decide (rn<=200)))
theorem JB(A:Option Addr)(len cap:Nat)(rows:List (bq α))(wk:Int)(rA:Option Addr)(rn rc:Nat)(w:World)(hr:ag w 1 bq.hdr A len cap rows):
 Calls prog 35 #[.slice A len cap,I6 wk,.slice rA rn rc] w (Rt (.bool (kE rows wk rn)) (Bl w)):=by
 have HR:=zD hr;have fJ:=zD (show rows.length=len from hr.1);have:=hr.2.1;have hcm:=hr.2.2.1;unfold maxLen at hcm;obtain⟨Q,hQ⟩:=zE (kE rows wk rn);rw[<-hQ];have HQ:=zD hQ;clear hr hQ;go_enter func35,ntmps35;go_wp2;go_loopw[7] (λis wr=>∃k:Nat,k<=len/\is = I6 (k:Int)/\((rows.take k).all λr=>decide (r.n<=8))=true/\Bl w wr) (λis _=>len-(intOf is).toNat)
 case atStart=>exact⟨0,aB6 _,rfl,rfl,Below.refl _ _⟩
 case round=>
  obtain⟨k,hk,rfl,hp,hb⟩:=hrel;have HP:=zD hp;have HB:=zD hb;clear hp hb
  by_cases hlt:k<len
  ·obtain⟨b,off,r,rfl,hx,fH,hcl⟩:=LZ (af HR.out HB.out) hlt
   have HX:=zD hx;have:(k:Int)<(len:Int):=oM
   clear hx fH
   by_cases h8:r.n<=8
   ·have h9:¬(8:Int)<(r.n:Int):=oM
    go_wp2;go_roundw
    case rel=>exact⟨k+1,by omega,by go_num,by rw[aE3,HX.out,List.all_append,HP.out];simpa using h8,HB.out⟩
    case measure=>simp[intOf];omega
   ·have h9:(8:Int)<(r.n:Int):=oM
    have hf:Q=false:=by
     rw[HQ.out];unfold kE;have h1:(rows.all λr=>decide (r.n<=8))=false:=by
      rw[List.all_eq_false];exact⟨r,aC1 HX.out,by simpa using h8⟩
     rw[h1];rfl
    have HF:=zD hf;clear hf;go_wp2;go_ret;exact⟨by rw[HF.out];rfl,HB.out⟩
  ·have: ¬(k:Int)<(len:Int):=oM
   have hE:(rows.all λr=>decide (r.n<=8))=true:=by have h9:=HP.out;rwa [aB5 (by have:=fJ.out;omega)]at h9
   have hq:Q=(decide (len<=5)&&(decide (wk<=4)&&decide (rn<=200))):=by
    rw[HQ.out];unfold kE;rw[hE,fJ.out];simp
   have HE:=zD hq;clear hE hq
   by_cases h5:len<=5
   ·have:(len:Int)<=5:=oM
    by_cases h4:wk<=4
    ·by_cases h2:rn<=200
     ·have:(rn:Int)<=200:=oM
      go_wp2;go_ret;exact⟨by rw[show Q=true from by rw[HE.out];simp[h5,h4,h2]];rfl,HB.out⟩
     ·have: ¬(rn:Int)<=200:=oM
      go_wp2;go_ret;exact⟨by rw[show Q=false from by rw[HE.out];simp[h5,h4,h2]];rfl,HB.out⟩
    ·go_wp2
     go_ret;exact⟨by rw[show Q=false from by rw[HE.out,show decide (wk<=4)=false from decide_eq_false oM];simp];rfl,HB.out⟩
   ·have: ¬(len:Int)<=5:=oM
    go_wp2;go_ret;exact⟨by rw[show Q=false from by rw[HE.out];simp[h5]];rfl,HB.out⟩
theorem Rv(cf:aM)(A:Option Addr)(len cap:Nat)(rows:List (bq α))(wk:Int)(rA:Option Addr)(rn rc:Nat)(w:World)(hr:ag w 1 bq.hdr A len cap rows):
 Calls prog 8 #[.agg cf.row,.slice A len cap,I6 wk,.slice rA rn rc] w (Rt (.bool (decide (cf.str<=8)&&kE rows wk rn)) (Bl w)):=by
 have EX:=zW w (.cells cf.row qw);have:=(ai.new w qw cf.row).z 0 (I6 cf.str);have Ee:=JB A len cap rows wk rA rn rc _ (af hr EX);clear hr;generalize kE rows wk rn=Q at *
 by_cases h8:cf.str<=8
 ·rw[show(decide (cf.str<=8)&&Q)=Q from by rw[decide_eq_true h8,Bool.true_and]]
  go_enter func8,ntmps8;go_wp2_with(go_at_call 35;refine Ee.mono ?_;rintro e w1 ⟨rfl,hb1⟩;have B1:=zT EX hb1;clear hb1);go_ret;exact⟨rfl,B1⟩
 ·rw[show(decide (cf.str<=8)&&Q)=false from by rw[decide_eq_false h8,Bool.false_and]]
  go_enter func8,ntmps8;go_wp2;go_ret;exact⟨rfl,EX⟩
def JK{rows:List (bq α)}{wk:Int}{rn:Nat}(h:kE rows wk rn=true):(∀r∈rows,r.n<=8)/\rows.length<=5/\wk<=4/\rn<=200:=by
 unfold kE at h;simp only[aF5,decide_eq_true_eq,aI7]at h;exact⟨h.1,h.2.1,h.2.2.1,h.2.2.2⟩
def MK{cf:aM}{rows:List (bq α)}{wk:Int}(h:ix cf rows wk=0):cf.gV/\0<=wk/\wk<=32/\1<=(rows.length:Int)+wk/\(rows.length:Int)+wk<=32:=by
 unfold ix at h
 split at h
 ·cases h
 ·rename_i hb
  unfold VV at hb;have h1:cf.gV:=Classical.byContradiction λhh=>hb (.inl hh)
  exact⟨h1,oM,oM,oM,oM⟩
end
def aP3{s t:ByteArray}(hs:eO s=true)(ht:eO t=true)(h1:aO s=aO t)(h2:aP s=aP t):s=t:=by
 have hc:∀i,i<20->(b9 s).getD i 0=(b9 t).getD i 0:=λi hi=>by rw[<-Z9 s hs i hi,<-Z9 t ht i hi,h1,h2]
 have:=(pB hs).1;have:=(pB ht).1;have hz:∀u:ByteArray,∀i,u.size<=i->(b9 u).getD i 0=0:=λu i hi=>by
  rw[aB7,aE1 (by rw[fS];exact hi)];rfl
 have hsz:s.size=t.size:=by
  rcases Nat.lt_trichotomy s.size t.size with h|h|h
  ·have:=(aa1 ht h).1;have e:=hc s.size oM;rw[hz s _ lR]at e;omega
  ·exact h
  ·have:=(aa1 hs h).1;have e:=hc t.size oM;rw[hz t _ lR]at e;omega
 have hb:R9 s=R9 t:=List.ext_getElem? λi=>by
  by_cases hi:i<s.size
  ·rw[(aa1 hs hi).2.2,(aa1 ht (hsz ▸ hi)).2.2,hc i oM]
  ·rw[aE1 (by rw[nr];omega),aE1 (by rw[nr];omega)]
 rw[<-Ow s,<-Ow t,hb]
def aI8(s:ByteArray):Key:=⟨aO s,aP s⟩
def aL2{s t:ByteArray}(hs:eO s=true)(ht:eO t=true)(h:aI8 s=aI8 t):s=t:=by
 unfold aI8 at h;injection h with h1 h2
 exact aP3 hs ht h1 h2
structure SmE(room:Nat)(l:List aD):Prop where
 RP:pP l
 len:l.length<=room
 pos:∀y∈l,bU y.tick y.value=0
def aO2(room:Nat):SmE room eF.dE:=⟨by simp[eF,pP],by simp[eF],λy hy=>by simp[eF]at hy⟩
def aK4(room:Nat)(l:List aD)(x:aD):xb room (l++[x])=nZ (xb room l) room x:=by
 unfold xb;rw[aU5];rfl
def aN3{x:aD}(h:∀y∈l,y.tick<x.tick):rE l x=l++[x]:=by
 unfold rE xa rD;rw[filter_all (λy hy=>sH (h y hy)),filter_none (λy hy=>by have:=h y hy;simp;omega)]
theorem aN4{room:Nat}(h:SmE room l):xb room l=l:=by
 obtain⟨h1,h2,h3⟩:=h
 induction l using su with
 |nil=>rfl
 |snoc l x ih=>
  have hp:=aH3.1 h1;have:l.length+1<=room:=sH h2
  rw[aK4,ih hp.1 oM (λy hy=>h3 y (by simp[hy]))];unfold nZ;rw[if_pos (h3 x sI)];unfold nY;rw[aN3 (λy hy=>hp.2.2 y hy x sI)];rw[if_neg sM]
structure LdE(x:Ld)(y:kT):Prop where
 dE:x.cL=y.dE
 past:x.past=y.past
 cM:x.cM=y.cM
 nM:x.ruled=y.nM
def aJ6:Option Ld->Option kT->Prop
 |none,none=>True
 |some x,some y=>LdE x y
 |_,_=>False
def aJ6.isSome(h:aJ6 a b):a.isSome=b.isSome:=by
 cases a<;>cases b<;>first|rfl|exact h.elim
def aJ6.cs(h:aJ6 a b):(a=none/\b=none)\/∃x y,a=some x/\b=some y/\LdE x y:=by
 cases a<;>cases b<;>first|exact h.elim|exact .inl ⟨rfl,rfl⟩|exact .inr ⟨_,_,rfl,rfl,h⟩
def aO3:Option ug->Option pV->Prop
 |none,none=>True
 |some a,some b=>a.bV=b.ep/\∀id,eO id=true->aJ6 (aJ a.dG (aI8 id)) (b.M id)
 |_,_=>False
def aO3.isSome{a:Option ug}{b:Option pV}(h:aO3 a b):a.isSome=b.isSome:=by
 cases a<;>cases b<;>first|rfl|exact h.elim
structure Eqv(s:aL)(m:Fm):Prop where
 cfg:m.cfg=s.cfg
 ld:∀id,eO id=true->aJ6 (aJ (s.str (s.home (aI8 id))).loads (aI8 id)) (m.M id)
 sm:∀id x,m.M id=some x->SmE m.cfg.dE.toNat x.dE
 ks:∀id,id∈m.ks↔(m.M id).isSome=true
 ok:∀id∈m.ks,eO id=true
 nd:m.ks.Nodup
 sub:∀i,i<s.strs.length->∀k∈(s.str i).keys,s.home k=i/\∃id,eO id=true/\k=aI8 id
 knd:∀i,i<s.strs.length->(s.str i).keys.Nodup
 aJ5:s.cuts.length=m.cuts.length
 cuts:∀i,aO3 (s.cuts.getD i none) (m.cuts.getD i none)
 ep:m.ep=s.bV
 over:m.over=s.over
abbrev EqR{α:Type}(a:α×aL)(b:α×Fm):Prop:=a.1=b.1/\Eqv a.2 b.2
def aK6(ho:qj s n k){i:Nat}(hi:i<s.strs.length):(s.str i).cfg=s.cfg:=(ho.qm hi).1.cfg
def aN1(ho:qj s n k)(a b:ByteArray):vB s.cfg a=vB s.cfg b↔s.home (aI8 a)=s.home (aI8 b):=by
 have h1:=(dW s (aI8 a) (cy ho)).1;have h2:=(dW s (aI8 b) (cy ho)).1;have e:∀u,vB s.cfg u=((s.home (aI8 u):Nat):Int):=λu=>by
  have:=(dW s (aI8 u) (cy ho)).1;rw[ho.len]at this;exact this
 rw[e a,e b];omega
theorem Eqv.count(h:Eqv s m)(ho:qj s n k)(id:ByteArray)(hid:eO id=true):
 (s.str (s.home (aI8 id))).loads.length=sU m.cfg id m.ks:=by
 have hb:=(dW s (aI8 id) (cy ho)).2;have hp:((m.ks.filter λo=>decide (vB m.cfg o=vB m.cfg id)).map aI8).Perm (s.str (s.home (aI8 id))).keys:=by
  refine(aU2 ?_ (h.knd _ hb)).2 λj=>?_
  ·exact List.pairwise_map.2 (List.Pairwise.imp_of_mem (λha hb hne e=>hne (aL2 (h.ok _ (aD5.1 ha).1) (h.ok _ (aD5.1 hb).1) e)) (h.nd.filter _))
  ·constructor
   ·intro hj
    obtain⟨o,ho',rfl⟩:=aF2.1 hj;obtain⟨h1,h2⟩:=aD5.1 ho';have h3:s.home (aI8 o)=s.home (aI8 id):=(aN1 ho o id).1 (h.cfg▸of_decide_eq_true h2);have h4:=(h.ld o (h.ok o h1)).isSome;rw[(h.ks o).1 h1,h3]at h4;exact Decidable.of_not_not λhn=>by rw[jV.2 hn]at h4;cases h4
   ·intro hj
    obtain⟨h1,o,h2,rfl⟩:=h.sub _ hb j hj;refine aF2.2 ⟨o,aD5.2 ⟨(h.ks o).2 ?_,decide_eq_true (h.cfg▸(aN1 ho o id).2 h1)⟩,rfl⟩;rw[<-(h.ld o h2).isSome,h1];cases hl:aJ (s.str (s.home (aI8 id))).loads (aI8 o)with
    |none=>exact absurd hj (jV.1 hl)
    |some x=>rfl
 have:=hp.length_eq;rw[aC8]at this;unfold sU;rw[this];unfold bF.keys;rw[aC8]
def aK5(s:aL)(i:Nat)(x:bF)(k:Key):(s.et i x).home k=s.home k:=by unfold aL.home aL.et;simp
def Eqv.put(h:Eqv s m)(ho:qj s n k)(hid:eO id=true){x:Ld}{y:kT}(hx:LdE x y)(hy:SmE m.cfg.dE.toNat y.dE):
 Eqv (s.et (s.home (aI8 id)) ((s.str (s.home (aI8 id))).put (aI8 id) x)) (m.put id y):=by
 have hb:=(dW s (aI8 id) (cy ho)).2;have wB:((s.str (s.home (aI8 id))).put (aI8 id) x).keys=cE (s.str (s.home (aI8 id))).keys (aI8 id):=lY _ _ _;refine⟨h.cfg,λo ho'=>?_,λo z hz=>?_,λo=>?_,λo ho'=>?_,?_,λi hi j hj=>?_,λi hi=>?_,h.aJ5,h.cuts,h.ep,h.over⟩
 ·rw[aK5,wM]
  show aJ6 _ (yT m.M id y o)
  unfold yT
  by_cases e:o=id
  ·subst e
   rw[if_pos ⟨rfl,hb⟩,if_pos rfl]
   show aJ6 (aJ (rX _ _ _) _) _
   rw[lZ,if_pos rfl];exact hx
  ·rw[if_neg e]
   have hne:¬aI8 o=aI8 id:=λhh=>e (aL2 ho' hid hh)
   split
   ·rename_i e2
    show aJ6 (aJ (rX _ _ _) _) _
    rw[lZ,if_neg hne,e2.1];exact h.ld o ho'
   ·exact h.ld o ho'
 ·change yT m.M id y o=some z at hz
  unfold yT at hz
  split at hz
  ·injection hz with hz;subst hz;exact hy
  ·exact h.sm o z hz
 ·show o∈cE m.ks id↔(yT m.M id y o).isSome=true
  rw[ee];unfold yT
  split
  ·rename_i e;subst e;simp
  ·rename_i e
   rw[h.ks o];simp[e]
 ·rcases(ee _ _ _).1 ho' with h1|h1
  ·exact h.ok o h1
  ·subst h1;exact hid
 ·show(cE m.ks id).Nodup
  unfold cE
  split
  ·exact h.nd
  ·rename_i e
   exact aH5.2 ⟨h.nd,sI,λa ha b hb' e2=>by simp at hb';rw[hb']at e2;rw[e2]at ha;exact e ha⟩
 ·rw[aK5]
  have hi' : i<s.strs.length:=by simpa[aL.et]using hi
  rw[wM]at hj
  split at hj
  ·rename_i e
   rw[wB]at hj;rcases(ee _ _ _).1 hj with h1|h1
   ·rw[<-e.1];exact h.sub _ hb j h1
   ·subst h1;exact⟨e.1,id,hid,rfl⟩
  ·exact h.sub i hi' j hj
 ·have hi' : i<s.strs.length:=by simpa[aL.et]using hi
  rw[wM]
  split
  ·rw[wB]
   unfold cE
   split
   ·exact h.knd _ hb
   ·rename_i e
    exact aH5.2 ⟨h.knd _ hb,sI,λa ha b hb' e2=>by simp at hb';rw[hb']at e2;rw[e2]at ha;exact e ha⟩
  ·exact h.knd i hi'
def Eqv.room(h:Eqv s m)(ho:qj s n k)(hid:eO id=true):
 (m.full id=true/\gH (s.str (s.home (aI8 id))) (aI8 id)=none)\/(m.full id=false/\∃x,gH (s.str (s.home (aI8 id))) (aI8 id)=some x/\LdE x (m.get id)/\SmE m.cfg.dE.toNat (m.get id).dE):=by
 have hl:=h.ld id hid;unfold gH Fm.full Fm.get;rcases hl.cs with⟨h1,h2⟩|⟨x,y,h1,h2,h3⟩
 ·simp only[h1,h2,Option.isNone_none,Bool.true_and,(aK6 ho (dW s (aI8 id) (cy ho)).2),(h.count ho id hid),h.cfg]
  by_cases hf:s.cfg.lW<=(sU s.cfg id m.ks:Int)
  ·rw[if_pos hf]
   exact .inl ⟨decide_eq_true hf,rfl⟩
  ·rw[if_neg hf]
   exact .inr ⟨decide_eq_false hf,_,rfl,⟨rfl,rfl,rfl,rfl⟩,aO2 _⟩
 ·rw[h1,h2]
  exact .inr ⟨rfl,x,rfl,h3,h.sm id y h2⟩
def aO0{room:Nat}{x y:aD}(h:y∈nY l room x):y∈l\/y=x:=by
 have h1:∀y,y∈rE l x->y∈l\/y=x:=λy hy=>by
  unfold rE xa rD at hy;rcases aD1.1 hy with hy|hy
  ·exact .inl (aD5.1 hy).1
  ·rcases aE6.1 hy with hy|hy
   ·exact .inr hy
   ·exact .inl (aD5.1 hy).1
 unfold nY at h
 split at h
 ·exact h1 y (aT4 h)
 ·exact h1 y h
def SmE.put{room:Nat}(h:SmE room l)(h1:1<=room)(he:bU t v=0):SmE room (nY l room ⟨t,v⟩):=by
 have e:nZ l room ⟨t,v⟩=nY l room ⟨t,v⟩:=if_pos he;refine⟨e ▸ Gf h.RP room _,e ▸ Gg h.len h1 _,λy hy=>?_⟩;rcases aO0 hy with hy|rfl
 ·exact h.pos y hy
 ·exact he
def SmE.bT{room:Nat}{l:List aD}(h:SmE room l)(t:Int):SmE room (bT l t):=
 ⟨h.RP.filter _,aB4 (aE7 _ _) h.len,λy hy=>h.pos y (aD5.1 hy).1⟩
def Eqv.eD(h:Eqv s m)(ho:qj s n k)(hid:eO id=true)(he:bU t v=0):
 EqR (s.put (s.home (aI8 id)) ((s.str (s.home (aI8 id))).eD (aI8 id) t v)) (m.eD id t v):=by
 have hb:=(dW s (aI8 id) (cy ho)).2;have hr:1<=m.cfg.dE.toNat:=by rw[h.cfg];have:=ho.py.2.1;omega
 unfold Fm.eD bF.eD aL.put;rw[if_pos he,if_neg (c:=bU t v≠0) (λe=>e he)];rcases h.room ho hid with⟨h1,h2⟩|⟨h1,x,h2,hx,hs⟩
 ·rw[h1,h2]
  refine⟨rfl,?_⟩
  show Eqv (s.et _ (s.str _)) m
  rw[QP hb];exact h
 ·rw[h1,h2]
  refine⟨rfl,?_⟩;have e:xb m.cfg.dE.toNat ((m.get id).dE++[⟨t,v⟩])=nY (m.get id).dE m.cfg.dE.toNat ⟨t,v⟩:=by
   rw[aK4,aN4 hs];exact if_pos he
  refine h.put ho hid (y:={m.get id with dE:=xb m.cfg.dE.toNat ((m.get id).dE++[⟨t,v⟩])}) ?_ (e▸hs.put hr he);unfold Dj;rw[if_pos he];exact⟨by show nY _ _ _=xb _ _;rw[e,(aK6 ho hb),hx.dE,h.cfg],hx.past,hx.cM,hx.nM⟩
def Eqv.set(h:Eqv s m)(ho:qj s n k)(hid:eO id=true){p:dI}(he:dy p=0):
 EqR (s.put (s.home (aI8 id)) ((s.str (s.home (aI8 id))).set (aI8 id) p)) (m.set id p):=by
 have hp:p.xJ:=by
  unfold dy at he
  split at he
  ·assumption
  ·exact absurd he dC
 unfold Fm.set bF.set aL.put;rw[if_pos he,if_neg (c:=dy p≠0) (λe=>e he)];rcases h.room ho hid with⟨h1,h2⟩|⟨h1,x,h2,hx,hs⟩
 ·rw[h1,h2]
  refine⟨rfl,?_⟩
  show Eqv (s.et _ (s.str _)) m
  rw[QP (dW s (aI8 id) (cy ho)).2];exact h
 ·rw[h1,h2]
  refine⟨rfl,?_⟩;refine h.put ho hid (y:={m.get id with cM:=p,nM:=true}) ?_ hs;unfold Av;rw[if_pos hp];exact⟨hx.dE,hx.past,rfl,rfl⟩
def aJ8(x:Ld)(t:Int):(nB x t).cL=bT x.cL t/\(nB x t).past=x.past/\(nB x t).cM=x.cM/\(nB x t).ruled=x.ruled:=by
 unfold nB
 split
 ·rename_i e
  refine⟨?_,rfl,rfl,rfl⟩;unfold bT at e |-;exact(aS5.2 (List.length_filter_eq_length_iff.1 e)).symm
 ·exact⟨rfl,rfl,rfl,rfl⟩
def aL3(x:Ld)(t:Int):nB (nB x t) t=nB x t:=by
 have h1:(bT (nB x t).cL t).length=(nB x t).cL.length:=by
  rw[(aJ8 x t).1];unfold bT;rw[List.filter_filter];simp
 exact if_pos h1
theorem aM6(t:Int)(a:bF×Int)(k j:Key):aJ (bF.j8 t a k).1.loads j=if j=k then(aJ a.1.loads j).map (nB · t)else aJ a.1.loads j:=by
 unfold bF.j8;cases h:aJ a.1.loads k with
 |none=>
  simp only
  split
  ·rename_i e;rw[e,h];rfl
  ·rfl
 |some x=>
  simp only
  split
  ·show aJ (rX a.1.loads k _) j=_
   rw[lZ]
   split
   ·rename_i e;rw[e,h];rfl
   ·rfl
  ·rename_i hg
   split
   ·rename_i e;rw[e,h,aI6,Lf hg]
   ·rfl
theorem aJ9(t:Int)(j:Key):∀(ks:List Key)(a:bF×Int),aJ (ks.foldl (bF.j8 t) a).1.loads j=if j∈ks then(aJ a.1.loads j).map (nB · t)else aJ a.1.loads j
 |[],a=>by simp
 |k::ks,a=>by
  rw[List.foldl_cons,aJ9 t j ks,aM6]
  by_cases h1:j=k
  ·rw[if_pos h1,if_pos (c:=j∈k::ks) (by rw[h1];exact List.mem_cons_self)]
   split
   ·cases aJ a.1.loads j with
    |none=>rfl
    |some x=>simp only[aI6,aL3]
   ·rfl
  ·rw[if_neg h1]
   simp only[aE6,h1,false_or]
def aN5(s:bF)(t:Int)(j:Key):aJ (s.trim t).loads j=(aJ s.loads j).map (nB · t):=by
 unfold bF.trim bF.j9;rw[aJ9]
 split
 ·rfl
 ·rename_i h
  rw[Ct]at h;rw[jV.2 h]
  rfl
def aJ6.trim(h:aJ6 a b)(t:Int):aJ6 (a.map (nB · t)) (b.map (sV t)):=by
 rcases h.cs with⟨rfl,rfl⟩|⟨x,y,rfl,rfl,h'⟩
 ·exact h
 obtain⟨h1,h2,h3,h4⟩:=aJ8 x t;exact⟨by rw[h1,h'.dE];rfl,h2.trans h'.past,h3.trans h'.cM,h4.trans h'.nM⟩
def Eqv.trim(h:Eqv s m)(ho:qj s n k)(t:Int):
 Eqv {s with strs:=s.strs.map λx=>x.trim t} {m with M:=λu=>(m.M u).map (sV t)}:=by
 have hh:∀k,({s with strs:=s.strs.map λx=>x.trim t} : aL).home k=s.home k:=λk=>by unfold aL.home;simp
 have hk:∀i,i<s.strs.length->(({s with strs:=s.strs.map λx=>x.trim t} : aL).str i).keys=(s.str i).keys:=λi hi=>by
  rw[Oa hi];exact(kg _ _ _).1
 refine⟨h.cfg,λid hid=>?_,λid x hx=>?_,λid=>?_,h.ok,h.nd,λi hi j hj=>?_,λi hi=>?_,h.aJ5,h.cuts,h.ep,h.over⟩
 ·rw[hh,Oa (dW s (aI8 id) (cy ho)).2,aN5]
  exact(h.ld id hid).trim t
 ·obtain⟨y,hy,rfl⟩:=aS3.1 hx
  exact(h.sm id y hy).bT t
 ·rw[h.ks id]
  show _↔((m.M id).map (sV t)).isSome=true
  rw[Option.isSome_map]
 ·have hi' : i<s.strs.length:=sH hi
  rw[hk i hi']at hj;rw[hh];exact h.sub i hi' j hj
 ·have hi' : i<s.strs.length:=sH hi
  rw[hk i hi'];exact h.knd i hi'
theorem aJ2(l:List (Key×Ld)):(vr l).Perm l:=by
 unfold vr
 induction l using su with
 |nil=>exact List.Perm.refl _
 |snoc l y ih=>
  rw[iu];unfold nP;refine(List.perm_middle.trans ?_);rw[aH8];exact(ih.cons y).trans (List.perm_append_singleton y l).symm
def aL4{s:bF}{j:Key}{x:Ld} : (j,x)∈s.dG↔aJ s.loads j=some x:=by
 unfold bF.dG;rw[List.mem_filterMap]
 constructor
 ·rintro⟨k,-,hk⟩
  obtain⟨y,hy,e⟩:=aS3.1 hk;injection e with e1 e2
  subst e1;subst e2;exact hy
 ·intro h
  refine⟨j,Ct.2 (aF2.2 ⟨_,tW h,rfl⟩),by rw[h];rfl⟩
theorem Eqv.dG(h:Eqv s m)(ho:qj s n k)(j:Key):aJ s.dG j=aJ (s.str (s.home j)).loads j:=by
 have h1:∀x,(j,x)∈s.strs.flatMap bF.dG->aJ (s.str (s.home j)).loads j=some x:=λx hx=>by
  obtain⟨st,hs,hm⟩:=aT8.1 hx;obtain⟨i,hi⟩:=aD7 hs;have hl:=(d9.1 hi).1;have e:s.str i=st:=by unfold aL.str;rw[aB7,hi];rfl
  have h2:=aL4.1 hm;rw[<-e]at h2;rw[(h.sub i hl j (aF2.2 ⟨_,tW h2,rfl⟩)).1];exact h2
 cases hl:aJ (s.str (s.home j)).loads j with
 |none=>
  cases he:aJ s.dG j with
  |none=>rfl
  |some x=>
   have:=h1 x ((aJ2 _).mem_iff.1 (tW he));rw[hl]at this;cases this
 |some x=>
  have hm:(j,x)∈s.dG:=(aJ2 _).mem_iff.2 (aT8.2 ⟨_,aC1 (ho.qm (dW s j (cy ho)).2).2.1,aL4.2 hl⟩);cases he:aJ s.dG j with
  |none=>exact absurd (aF2.2 ⟨_,hm,rfl⟩) (jV.1 he)
  |some y=>
   have:=h1 y ((aJ2 _).mem_iff.1 (tW he));rw[hl]at this;exact this.symm
theorem aL5:∀(l:List (Option ug))(r:List (Option pV)),l.length=r.length->(∀i,aO3 (l.getD i none) (r.getD i none))->(l.filter Option.isSome).length=(r.filter Option.isSome).length
 |[],[],_,_=>rfl
 |[],_::_,h,_=>by simp at h
 |_::_,[],h,_=>by simp at h
 |a::l,b::r,h,hc=>by
  have h0:=(hc 0).isSome;simp only[List.getD_cons_zero]at h0;have ih:=aL5 l r (by simpa using h) (λi=>by simpa using hc (i+1));rw[aT9,aT9,h0]
  split
  ·rw[aC4,aC4,ih]
  ·exact ih
def Eqv.snap(h:Eqv s m)(ho:qj s n k):EqR s.snap m.snap:=by
 have hl:s.live=m.live:=aL5 _ _ h.aJ5 h.cuts;unfold aL.snap Fm.snap;rw[hl,h.ep,h.aJ5]
 split
 ·exact⟨rfl,h⟩
 ·refine⟨rfl,h.cfg,h.ld,h.sm,h.ks,h.ok,h.nd,h.sub,h.knd,by simp[h.aJ5],λi=>?_,rfl,h.over⟩
  simp only[aB7];rcases Nat.lt_trichotomy i s.cuts.length with hi|hi|hi
  ·rw[aC9 hi,aC9 (h.aJ5 ▸ hi),<-aB7,<-aB7]
   exact h.cuts i
  ·subst hi
   rw[aC7 lR,aC7 (h.aJ5▸aC2 _),h.aJ5,aW9];refine⟨rfl,λid hid=>?_⟩;rw[h.dG ho];exact h.ld id hid
  ·rw[aE1 sM,aE1 (by have:=h.aJ5;simp;omega)]
   exact trivial
def Eqv.dH(h:Eqv s m)(n:Int):s.dH n=m.dH n:=by
 unfold aL.dH Fm.dH;rw[h.aJ5]
 split
 ·rfl
 ·have:=(h.cuts (n-1).toNat).isSome
  cases h1:s.cuts.getD (n-1).toNat none<;>cases h2:m.cuts.getD (n-1).toNat none<;>rw[h1,h2]at this<;>first|rfl|cases this
def Eqv.free(h:Eqv s m)(n:Int):EqR (s.free n) (m.free n):=by
 unfold aL.free Fm.free;rw[h.dH]
 split
 ·refine⟨rfl,h.cfg,h.ld,h.sm,h.ks,h.ok,h.nd,h.sub,h.knd,by simp[h.aJ5],λi=>?_,h.ep,h.over⟩
  have:=h.cuts i;simp only[aB7]at this |-;rw[aG1,aG1,h.aJ5]
  split
  ·split<;>exact trivial
  ·exact this
 ·exact⟨rfl,h⟩
theorem Eqv.look(h:Eqv s m)(n:Int)(hid:eO id=true)(to width:Int):s.look n (aI8 id) to width=m.look id n to width:=by
 unfold aL.look Fm.look;rw[h.dH]
 split
 ·rfl
 ·have hc:=h.cuts (n-1).toNat
  unfold aL.cut Fm.cut;cases h1:s.cuts.getD (n-1).toNat none with
  |none=>
   cases h2:m.cuts.getD (n-1).toNat none with
   |none=>rfl
   |some b=>rw[h1,h2]at hc;exact hc.elim
  |some a=>
   cases h2:m.cuts.getD (n-1).toNat none with
   |none=>rw[h1,h2]at hc;exact hc.elim
   |some b=>
    rw[h1,h2]at hc;simp only[aF6];rcases(hc.2 id hid).cs with⟨h3,h4⟩|⟨x,y,h3,h4,hl⟩<;>rw[h3,h4]
    simp only[hc.1,hl.dE]
def Eqv.last(h:Eqv s m)(hid:eO id=true):s.last (aI8 id)=m.read id:=by
 unfold aL.last Fm.read;rcases(h.ld id hid).cs with⟨h3,h4⟩|⟨x,y,h3,h4,hl⟩<;>rw[h3,h4]
 simp only[hl.past]
theorem Eqv.do_(h:Eqv s m)(ho:qj s n k)(c:ak):EqR (s.do c) (m.do c):=by
 unfold aL.do Fm.do ak.err
 by_cases h1:c.k<1\/8<c.k
 ·have hE:bJ c.k c.s c.t c.v c.p=14:=if_pos h1
  rw[hE,if_pos dC,if_pos h1];exact⟨rfl,h⟩
 rw[if_neg (c:=c.k<1\/8<c.k) h1]
 by_cases h2:(c.k=1\/c.k=5\/c.k=6\/c.k=7)/\eO c.s=false
 ·have hE:bJ c.k c.s c.t c.v c.p=2:=by unfold bJ;rw[if_neg h1,if_pos h2]
  rw[hE,if_pos dC,if_pos (by obtain⟨a,b⟩:=h2;exact⟨oM,b⟩)];exact⟨rfl,h⟩
 rw[if_neg (c:=(c.k=1\/c.k=6\/c.k=5\/c.k=7)/\eO c.s=false) (λhh=>h2 ⟨oH hh.1,hh.2⟩)];have hid:(c.k=1\/c.k=5\/c.k=6\/c.k=7)->eO c.s=true:=λhk=>by
  cases e:eO c.s with
  |true=>rfl
  |false=>exact absurd ⟨hk,e⟩ h2
 by_cases k1:c.k=1
 ·have hE:bJ c.k c.s c.t c.v c.p=bU c.t c.v:=by unfold bJ;rw[if_neg h1,if_neg h2,if_pos k1];rfl
  simp only[hE,if_pos k1]
  by_cases he:bU c.t c.v=0
  ·rw[if_neg (c:=bU c.t c.v≠0) (λe=>e he)]
   exact h.eD ho (hid (.inl k1)) he
  ·rw[if_pos (c:=bU c.t c.v≠0) he]
   unfold Fm.eD;rw[if_pos (c:=bU c.t c.v≠0) he];exact⟨rfl,h⟩
 simp only[if_neg k1]
 by_cases k2:c.k=2
 ·simp only[if_pos k2]
  by_cases ht:c.t<0
  ·have hE:bJ c.k c.s c.t c.v c.p=3:=by unfold bJ;rw[if_neg h1,if_neg h2,if_neg k1,if_pos ⟨k2,ht⟩]
   rw[hE,if_pos dC];unfold Fm.trim;rw[if_pos ht];exact⟨rfl,h⟩
  ·have hE:bJ c.k c.s c.t c.v c.p=0:=by unfold bJ;rw[if_neg h1,if_neg h2,if_neg k1,if_neg (λhh=>ht hh.2),if_neg (show ¬c.k=6 by omega)]
   rw[hE,if_neg dC];unfold Fm.trim;rw[if_neg ht];exact⟨rfl,h.trim ho c.t⟩
 simp only[if_neg k2]
 by_cases k6:c.k=6
 ·have hE:bJ c.k c.s c.t c.v c.p=dy c.p:=by unfold bJ;rw[if_neg h1,if_neg h2,if_neg k1,if_neg (λhh=>k2 hh.1),if_pos k6]
  simp only[hE,if_neg (show ¬c.k=3 by omega),if_neg (show ¬c.k=4 by omega),if_neg (show ¬c.k=5 by omega),if_pos k6]
  by_cases he:dy c.p=0
  ·rw[if_neg (c:=dy c.p≠0) (λe=>e he)]
   exact h.set ho (hid oM) he
  ·rw[if_pos (c:=dy c.p≠0) he]
   unfold Fm.set;rw[if_pos (c:=dy c.p≠0) he];exact⟨rfl,h⟩
 have hE:bJ c.k c.s c.t c.v c.p=0:=by unfold bJ;rw[if_neg h1,if_neg h2,if_neg k1,if_neg (λhh=>k2 hh.1),if_neg k6]
 rw[hE,if_neg dC]
 by_cases k3:c.k=3
 ·simp only[if_pos k3];exact h.snap ho
 simp only[if_neg k3]
 by_cases k4:c.k=4
 ·simp only[if_pos k4];exact h.free c.h
 simp only[if_neg k4]
 by_cases k5:c.k=5
 ·simp only[if_pos k5];exact⟨h.look c.h (hid oM) c.t c.v,h⟩
 simp only[if_neg k5,if_neg k6]
 by_cases k7:c.k=7
 ·simp only[if_pos k7];exact⟨h.last (hid oM),h⟩
 simp only[if_neg k7];unfold aL.shut;rw[h.over]
 split
 ·exact⟨rfl,h⟩
 ·exact⟨rfl,h.cfg,h.ld,h.sm,h.ks,h.ok,h.nd,h.sub,h.knd,h.aJ5,h.cuts,h.ep,rfl⟩
section
def TwS(S:Nat->Prop)(g mp:Nat):Nat->Prop:=λk=>S k\/k=g\/k=mp
def aP2(S:Nat->Prop)(m:Fm)(l:List fF)(w:World)(e:Ending)(w' : World):Prop:=
 ∃g mp A n cc,e=.returned (pt g)/\dg w' (TwS S g mp) g mp A n cc l m/\w.heap.size<=g/\w.heap.size<=mp/\Bl w w'
section
variable{w w' : World}{S:Nat->Prop}{g mp:Nat}{A:Option Addr}{n cc:Nat}{l:List fF}{m:Fm}
def aJ4{f:ByteArray->Option Value}{B n7 c7:Nat}{A7:Option Addr}{W2 v6 v7:World}(H0:dg w S g mp A n cc l m)(nR:∀k,S k->k<w.heap.size)(HF0:fO w S mp f m.ks m.M)(HB:w.heap.size<=B)(E2:Bl w W2)(G2:ai W2 B Bi (fN m.cfg mp (.slice A n cc) m.ep m.over))(S6:Bl W2 v6)(Mq:bP fI v6 W2.heap.size f m.ks)(lV:Bl v6 v7)(O7:Own v7 v6.heap.size Q0 3 fF.cells (.slice A7 n7 c7) l) :
 aP2 S m l w (.returned (pt B)) ((v7.setCell ⟨B,4,none⟩ (.map (some W2.heap.size))).setCell ⟨B,5,none⟩ (.slice A7 n7 c7)):=by
 obtain⟨W8,Br⟩:=zE ((v7.setCell ⟨B,4,none⟩ (.map (some W2.heap.size))).setCell ⟨B,5,none⟩ (.slice A7 n7 c7));rw[<-Br];have U78:ah (λk=>k=B) v7 W8:=by rw[Br];exact((ah.refl (λk=>k=B) v7).setCell (p:=⟨B,4,none⟩) (.inl rfl) _).setCell (p:=⟨B,5,none⟩) (.inl rfl) _
 have S7:Bl W2 v7:=zT S6 lV;have G8:ai W8 B Bi (fN m.cfg W2.heap.size (.slice A7 n7 c7) m.ep m.over):=by rw[Br];exact((G2.call S7).aX 4 _).aX 5 _
 have:=Mq.lt;have:=G2.lt;have E8:Bl w W8:=(zT E2 S7).trans (U78.below (λk e=>e ▸ HB) (aB4 E2.size S7.size));have Mq7:=Mq.call lV;have hbk:∀a,A7=some a->v6.heap.size<=a.block:=λa e=>by subst e;exact(O7.lt a.block rfl).1
 have S8:=aV (O7.is uN) U78 (λa e h9=>oH (hbk a e));have hT:∀k,TwS S B W2.heap.size k->S k\/w.heap.size<=k:=λk hk=>by
  rcases hk with hk|hk|hk
  ·exact .inl hk
  ·exact .inr (hk ▸ HB)
  ·exact .inr (hk ▸ E2.size)
 exact⟨B,W2.heap.size,A7,n7,c7,rfl,⟨⟨G8,⟨f,Mq7.block (U78.block _ Mq7.lt (by show W2.heap.size≠B;omega)),HF0.none,λs x hx=>by
  obtain⟨v,h1,h2⟩:=HF0.some s x hx;exact⟨v,h1,(h2.ext hT).upd (ah.aa E8)⟩⟩,.inr (.inl rfl),.inr (.inr rfl),oM,H0.b.len,H0.b.i64⟩,⟨S8,λa e hn ht=>by
  have h1:=hbk a e;have h2:=E2.size;rcases ht with ht|ht|ht
  ·have:=nR _ ht;omega
  ·omega
  ·omega,H0.cuts.len,λi x k h1 h2=>((H0.cuts.at_ i x k h1 h2).ext hT).upd (ah.aa E8)⟩,by have:=S8.1;have:=H0.cuts.Fv.1;have:=H0.n;omega⟩,HB,E2.size,E8⟩
theorem aN6(h:dg w S g mp A n cc l m)(ey:∀k,S k->k<w.heap.size) :
 Calls prog 21 #[pt g] w (aP2 S m l w):=by
 have HM:=(λW (hb:Bl w W)=>pM (h.call hb).b.blk);have Ls:=(λW (hb:Bl w W)=>Bv A n cc l W (h.call hb).cuts.Fv (aB4 h.n dC));obtain⟨f,hf0⟩:=h.b.map;have Xw:=(λW (hb:Bl w W)=>Jl (hf0.upd (ah.aa hb:ah (λ_=>False) w W) (λ_ h=>h.elim) id).map);have H0:=h;have HF0:=hf0;have nR:=ey;clear h hf0 ey;go_enter func21,ntmps21;go_upto_region 3 with(go_at_call 38;refine zM (HM _ bR) λw1 B1=>?_)
 go_upto_region 4 with(refine zI (H0.call B1).b.blk underlying102 ?_)
 obtain⟨B,hB⟩:=zE w1.heap.size;obtain⟨W2,hW2⟩:=zE (w1.alloc (.cells (fN m.cfg mp (.slice A n cc) m.ep m.over) Bi));have G2:ai W2 B Bi (fN m.cfg mp (.slice A n cc) m.ep m.over):=by rw[hW2,hB];exact ai.new _ _ _
 have E2:Bl w W2:=by rw[hW2];exact B1.alloc B1.size _
 have HB:w.heap.size<=B:=by rw[hB];exact B1.size
 have Z2:=H0.call E2;rw[<-hW2,<-hB];clear hW2 hB B1 HM;have HG:=(λW (h:Bl W2 W)=>And.intro ((G2.call h).z 4 (.map (some mp))) (And.intro ((G2.call h).frozen 4) (And.intro ((G2.call h).z 5 (.slice A n cc)) ((G2.call h).frozen 5))));refine zr (λj=>[10,11,12,13].contains j) (λwS=>Bl W2 wS) ?_;have S0:=(Below.refl W2.heap.size W2).drew;refine zk 10 [0,1,2,3] [_,_,_,.map (some mp)] (.q zX<|.q zX<|.q zX<|.q (zS λ_ h=>(Z2.b.blk.call h).z 4 (.map (some mp))) .nil) S0<|zY 4 5 ?_ ?_
 ·
  go_wp2_with(go_at_call 56;refine(Xw _ (E2.trans ((S0).mono E2.size))).mono ?_;rintro e v6 ⟨rfl,hmq,dJ⟩);refine .i (zT S0 dJ) ?_;have S6:=zT S0 dJ;refine zQ 5 ?_;go_wp2_with fail;refine .i S6<|zQ 6 ?_;go_wp2_with fail;refine .i S6<|zQ 7 ?_;go_wp2_with fail;refine .i S6<|zk 5 [8] [.slice A n cc] (.q (zS λ_ h=>(Z2.b.blk.call h).z 5 (.slice A n cc)) .nil) S6<|zQ 9 ?_;go_wp2_with(go_at_call 57;refine(Ls _ (E2.trans ((S6).mono E2.size))).mono ?_;rintro e v7 ⟨A7,n7,c7,rfl,Ck,lV⟩;obtain⟨c4,f4,c5,f5⟩:=HG _ ((S6).trans (lV.mono (S6).size)));refine .i (zT S6 lV) ?_;have:=zT S6 lV;refine aq _ _ _ _ kZ<|wpAny_take (i:=10) (v:=_) rfl kZ kZ kZ (λ_ _ _ h=>h) (Or.inl ⟨by rfl,λW=>by rfl⟩)<|zO 11 (λQ2 aI=>?_);go_wp2_with(fail);(try refine aI _ _ ?_);(try clear aI Q2)
  refine wpAny_take (i:=12) (v:=_) rfl kZ kZ kZ (λ_ _ _ h=>h) (Or.inl ⟨by rfl,λW=>by rfl⟩)<|zO 13 (λQ2 aI=>?_);go_wp2_with(fail);(try refine aI _ _ ?_);(try clear aI Q2)
  refine wpAny_done kZ ?_ _;go_wp2;go_ret;exact aJ4 H0 nR HF0 HB E2 G2 S6 hmq lV Ck
 ·
  go_wp2_with fail;refine .i S0<|zY 4 6 ?_ ?_
  ·
   go_wp2_with(go_at_call 56;refine(Xw _ (E2.trans ((S0).mono E2.size))).mono ?_;rintro e v6 ⟨rfl,hmq,dJ⟩);refine .i (zT S0 dJ) ?_;have S6:=zT S0 dJ;refine zQ 6 ?_;go_wp2_with fail;refine .i S6<|zQ 7 ?_;go_wp2_with fail;refine .i S6<|zk 5 [8] [.slice A n cc] (.q (zS λ_ h=>(Z2.b.blk.call h).z 5 (.slice A n cc)) .nil) S6<|zQ 9 ?_;go_wp2_with(go_at_call 57;refine(Ls _ (E2.trans ((S6).mono E2.size))).mono ?_;rintro e v7 ⟨A7,n7,c7,rfl,Ck,lV⟩;obtain⟨c4,f4,c5,f5⟩:=HG _ ((S6).trans (lV.mono (S6).size)));refine .i (zT S6 lV) ?_;have:=zT S6 lV;refine aq _ _ _ _ kZ<|wpAny_take (i:=10) (v:=_) rfl kZ kZ kZ (λ_ _ _ h=>h) (Or.inl ⟨by rfl,λW=>by rfl⟩)<|zO 11 (λQ2 aI=>?_);go_wp2_with(fail);(try refine aI _ _ ?_);(try clear aI Q2)
   refine wpAny_take (i:=12) (v:=_) rfl kZ kZ kZ (λ_ _ _ h=>h) (Or.inl ⟨by rfl,λW=>by rfl⟩)<|zO 13 (λQ2 aI=>?_);go_wp2_with(fail);(try refine aI _ _ ?_);(try clear aI Q2)
   refine wpAny_done kZ ?_ _;go_wp2;go_ret;exact aJ4 H0 nR HF0 HB E2 G2 S6 hmq lV Ck
  ·
   go_wp2_with fail;refine .i S0<|zY 4 7 ?_ ?_
   ·
    go_wp2_with(go_at_call 56;refine(Xw _ (E2.trans ((S0).mono E2.size))).mono ?_;rintro e v6 ⟨rfl,hmq,dJ⟩);refine .i (zT S0 dJ) ?_;have S6:=zT S0 dJ;refine zQ 7 ?_;go_wp2_with fail;refine .i S6<|zk 5 [8] [.slice A n cc] (.q (zS λ_ h=>(Z2.b.blk.call h).z 5 (.slice A n cc)) .nil) S6<|zQ 9 ?_;go_wp2_with(go_at_call 57;refine(Ls _ (E2.trans ((S6).mono E2.size))).mono ?_;rintro e v7 ⟨A7,n7,c7,rfl,Ck,lV⟩;obtain⟨c4,f4,c5,f5⟩:=HG _ ((S6).trans (lV.mono (S6).size)));refine .i (zT S6 lV) ?_;have:=zT S6 lV;refine aq _ _ _ _ kZ<|wpAny_take (i:=10) (v:=_) rfl kZ kZ kZ (λ_ _ _ h=>h) (Or.inl ⟨by rfl,λW=>by rfl⟩)<|zO 11 (λQ2 aI=>?_);go_wp2_with(fail);(try refine aI _ _ ?_);(try clear aI Q2)
    refine wpAny_take (i:=12) (v:=_) rfl kZ kZ kZ (λ_ _ _ h=>h) (Or.inl ⟨by rfl,λW=>by rfl⟩)<|zO 13 (λQ2 aI=>?_);go_wp2_with(fail);(try refine aI _ _ ?_);(try clear aI Q2)
    refine wpAny_done kZ ?_ _;go_wp2;go_ret;exact aJ4 H0 nR HF0 HB E2 G2 S6 hmq lV Ck
   ·
    go_wp2_with fail;refine .i S0<|zk 6 [8] [.slice A n cc] (.q (zS λ_ h=>(Z2.b.blk.call h).z 5 (.slice A n cc)) .nil) S0<|zQ 4 ?_;go_wp2_with(go_at_call 56;refine(Xw _ (E2.trans ((S0).mono E2.size))).mono ?_;rintro e v6 ⟨rfl,hmq,dJ⟩);refine .i (zT S0 dJ) ?_;have S6:=zT S0 dJ;refine zQ 9 ?_;go_wp2_with(go_at_call 57;refine(Ls _ (E2.trans ((S6).mono E2.size))).mono ?_;rintro e v7 ⟨A7,n7,c7,rfl,Ck,lV⟩;obtain⟨c4,f4,c5,f5⟩:=HG _ ((S6).trans (lV.mono (S6).size)));refine .i (zT S6 lV) ?_;have:=zT S6 lV;refine aq _ _ _ _ kZ<|wpAny_take (i:=10) (v:=_) rfl kZ kZ kZ (λ_ _ _ h=>h) (Or.inl ⟨by rfl,λW=>by rfl⟩)<|zO 11 (λQ2 aI=>?_);go_wp2_with(fail);(try refine aI _ _ ?_);(try clear aI Q2)
    refine wpAny_take (i:=12) (v:=_) rfl kZ kZ kZ (λ_ _ _ h=>h) (Or.inl ⟨by rfl,λW=>by rfl⟩)<|zO 13 (λQ2 aI=>?_);go_wp2_with(fail);(try refine aI _ _ ?_);(try clear aI Q2)
    refine wpAny_done kZ ?_ _;go_wp2;go_ret;exact aJ4 H0 nR HF0 HB E2 G2 S6 hmq lV Ck
end
end
section
theorem Eqv.note{n:Nat}(h:Eqv s m)(ho:qj s n k)(hid:eO id=true)(hp:bj s (aI8 id))(a:aU):
 (m.note id a).1=true/\Eqv (s.et (s.home (aI8 id)) ((s.str (s.home (aI8 id))).note (aI8 id) a).2) (m.note id a).2:=by
 obtain⟨x,hx⟩:=QC.1 hp;have hl:=h.ld id hid;rw[hx]at hl;unfold Fm.note bF.note;cases hm:m.M id with
 |none=>rw[hm]at hl;exact hl.elim
 |some y=>
  rw[hm]at hl;rw[hx];refine⟨rfl,h.put ho hid (y:={y with past:=eV y.past m.cfg.iI.toNat a}) ⟨hl.dE,?_,hl.cM,hl.nM⟩ (h.sm id y hm)⟩
  show eV x.past _ a=eV y.past _ a
  rw[hl.past,(aK6 ho (dW s (aI8 id) (cy ho)).2),h.cfg]
def aX5:Fm->List (Ev×ByteArray)->aL->Prop
 |m,[],s=>Eqv s m
 |m,p::l,s=>EvG p.1 p.2/\(iz m p.1 p.2).1=true/\aX5 (iz m p.1 p.2).2 l s
theorem aX5.cat{s': aL}: ∀{l:List (Ev×ByteArray)} {m:Fm},aX5 m l s->∀{P:List (Ev×ByteArray)->Prop},(∀m',Eqv s m'->∃l',P l'/\aX5 m' l' s')->∃l',P l'/\aX5 m (l++l') s'
 |[],m,h,P,k=>k m h
 |p::l,m,h,P,k=>by
  obtain⟨l',h1,h2⟩:=aX5.cat h.2.2 k;exact⟨l',h1,h.1,h.2.1,h2⟩
theorem aX5.at_: ∀{l:List (Ev×ByteArray)} {m:Fm},aX5 m l s->∀{k:Nat} {p:Ev×ByteArray},l[k]? = some p->EvG p.1 p.2/\(iz (Ju m (l.take k)) p.1 p.2).1=true
 |[],m,h,k,p,hp=>by simp at hp
 |q::l,m,h,0,p,hp=>by simp at hp;subst hp;exact⟨h.1,h.2.1⟩
 |q::l,m,h,k+1,p,hp=>aX5.at_ (m:=(iz m q.1 q.2).2) h.2.2 (k:=k) (p:=p) (by simpa using hp)
def GwL(W W' : Gw):Prop:=∀m,Eqv W.aG m->∃zs:List (Ev×ByteArray),W'.evs=W.evs++zs.map Prod.fst/\aX5 m zs W'.aG
def GwL.same(h1:W'.aG=W.aG)(h2:W'.evs=W.evs):GwL W W':=λm h=>⟨[],by simp[h2],h1 ▸ h⟩
def GwL.refl(W:Gw):GwL W W:=.same rfl rfl
def GwL.trans{W1 W2:Gw}(h:GwL W W1)(h2:GwL W1 W2):GwL W W2:=λm hm=>by
 obtain⟨l,e1,hl⟩:=h m hm;obtain⟨l',e2,h3⟩:=hl.cat (P:=λl'=>W2.evs=W1.evs++l'.map Prod.fst) h2;exact⟨l++l',by rw[e2,e1,aG4,aD0],h3⟩
def GwL.note(h:GwL W W')(k:Int)(hk:e.kind=k)(h2:k≠2)(h6:k≠6):GwL W (W'.note e):=by
 subst hk;exact h.trans λm hm=>⟨[(e,ByteArray.empty)],rfl,⟨λk=>absurd k h2,λk=>absurd k h6,λk=>absurd k h6⟩,by unfold iz;rw[if_neg h2,if_neg h6],by
  show Eqv _ _
  unfold iz;rw[if_neg h2,if_neg h6];exact hm⟩
def GwL.point{n:Nat}(ho:qj W.aG n k){c:ak}(hc:bM c)(h1:W'.aG=(W.aG.do c).2)(h2:W'.evs=W.evs)(hk:e.kind=2)(hx:e.call=c)(hr:e.rep=(W.aG.do c).1):GwL W (W'.note e):=λm hm=>by
 obtain⟨e1,e2⟩:=hm.do_ ho c;refine⟨[(e,ByteArray.empty)],by show W'.evs++_=_;rw[h2];rfl,⟨λ_=>hx ▸ hc,λk=>absurd (hk.symm.trans k) dC,λk=>absurd (hk.symm.trans k) dC⟩,?_,?_⟩
 ·show(iz m e _).1=true
  unfold iz;rw[if_pos hk,hx,hr];exact decide_eq_true e1.symm
 ·show Eqv W'.aG (iz m e _).2
  unfold iz;rw[if_pos hk,hx,h1];exact e2
def aX6(W:Gw)(n:Int)(l:Lk):GwL W (W.ed n l):=.same (kV _ _ _).1 (kV _ _ _).2
def GwL.ask(W:Gw)(n t:Int)(wr:Bool):GwL W (W.ask n t wr).2:=by
 unfold Gw.ask
 split
 ·exact .refl W
 ·exact aX6 _ _ _
def GwL.drop(W:Gw)(n t:Int):GwL W (W.drop n t):=by
 unfold Gw.drop
 split
 ·exact .refl W
 ·exact aX6 _ _ _
def GwL.add(W:Gw)(k:Key):GwL W (W.add k):=by unfold Gw.add;split<;>exact .same rfl rfl
def GwL.give(W:Gw)(k:Key):GwL W (W.give k):=by unfold Gw.give;split<;>exact .same rfl rfl
def aZ0(W:Gw)(c:ak):(W.do c).1=(W.aG.do c).1/\(W.do c).2.aG=(W.aG.do c).2/\(W.do c).2.evs=W.evs:=by
 unfold Gw.do
 split
 ·rename_i h8
  have hE:c.err=0:=by
   unfold ak.err bJ;rw[if_neg oM,if_neg (by rintro⟨h,-⟩;omega),if_neg oM,if_neg (by rintro⟨h,-⟩;omega),if_neg oM]
  have hD:W.aG.do c=(cK W.aG.shut.1,W.aG.shut.2):=by
   unfold aL.do;rw[if_neg (λe=>e hE),if_neg oM,if_neg oM,if_neg oM,if_neg oM,if_neg oM,if_neg oM,if_neg oM]
  rw[hD];unfold Gw.shut aL.shut
  split<;>exact⟨rfl,rfl,rfl⟩
 ·exact⟨rfl,rfl,rfl⟩
def ba9{n m:Nat}(hs:qj W.aG n m)(x:Cl)(hc:bM x.call):GwL W (x.step W).1:=by
 unfold Cl.step
 split
 ·simp only
  generalize hy:(if x.ops=[]then({x with ops:=cN W.aG.cfg x.call.k x.call.s x.call.t x.call.v x.call.p,at_:=0,wants:=-1} : Cl)else {x with wants:=-1})=y;have hyc:bM y.call:=by subst hy;split<;>exact hc
  unfold Cl.act;simp only
  split
  ·unfold Cl.begin
   simp only
   split
   ·rename_i he
    have he' : y.call.err≠0:=he;have hD:W.aG.do y.call=(cK y.call.err,W.aG):=if_pos he';exact((GwL.refl W).note 1 rfl dC dC).trans (GwL.point (W:=W.note _) (n:=n) (k:=m) hs hyc (by rw[show(W.note _).aG=W.aG from rfl,hD]) rfl rfl rfl (by rw[show(W.note _).aG=W.aG from rfl,hD];rfl))
   ·exact(GwL.refl W).note 1 rfl dC dC
  split
  ·exact GwL.ask _ _ _ _
  split
  ·obtain⟨h1,h2,h3⟩:=aZ0 W y.call
   exact GwL.point hs hyc h2 h3 rfl rfl h1
  split
  ·exact GwL.drop _ _ _
  split
  ·exact GwL.add _ _
  ·exact(GwL.refl W).note 3 rfl dC dC
 ·exact GwL.refl W
def bb4{n m:Nat}(hs:qj W.aG n m)(x:Wk)(hp:x.does=8->bj W.aG x.key/\aw x.ei.aQ)(hq:x.does=8->WL x.key):GwL W (x.step W).1:=by
 unfold Wk.step
 split
 ·have hp2:({x with wants:=-1,asleep:=false} : Wk).does=8->bj W.aG ({x with wants:=-1,asleep:=false} : Wk).key/\aw ({x with wants:=-1,asleep:=false} : Wk).ei.aQ:=hp
  have Xl:({x with wants:=-1,asleep:=false} : Wk).does=8->WL ({x with wants:=-1,asleep:=false} : Wk).key:=hq;generalize({x with wants:=-1,asleep:=false} : Wk)=y at *;unfold Wk.act
  split
  ·exact GwL.ask _ _ _ _
  ·unfold Wk.next
   simp only
   split
   ·exact(GwL.same rfl rfl:GwL W {W with wq:=(gG W.wq).2}).note 4 rfl dC dC
   split
   ·exact GwL.same rfl rfl
   ·exact GwL.same rfl rfl
  ·exact GwL.drop _ _ _
  ·exact GwL.ask _ _ _ _
  ·exact(GwL.refl W).note 5 rfl dC dC
  ·exact GwL.drop _ _ _
  ·exact GwL.refl W
  ·exact GwL.ask _ _ _ _
  ·rename_i h8
   intro M hM;obtain⟨id,hid,hk⟩:=Xl h8;obtain⟨p1,p2⟩:=hp2 h8;have Sv : y.key=aI8 id:=hk;obtain⟨e1,e2⟩:=hM.note hs hid (Sv ▸ p1) y.ei;rw[<-Sv]at e2;have hA:iz M (y.ev 6) id=M.note id y.ei:=rfl;exact⟨[(y.ev 6,id)],rfl,⟨λk=>absurd (show(6:Int)=2 from k) dC,λ_=>⟨hid,hk⟩,λ_=>p2⟩,hA ▸ e1,hA ▸ e2⟩
  ·exact GwL.drop _ _ _
  ·exact GwL.ask _ _ _ _
  ·exact((GwL.refl W).note 7 rfl dC dC).trans (GwL.give _ _)
  ·exact GwL.drop _ _ _
  ·exact GwL.drop _ _ _
 ·exact GwL.refl W
structure aX7(cf:aM)(E:En):Prop where
 lin:∃zs:List (Ev×ByteArray),E.w.evs=zs.map Prod.fst/\aX5 (Fm.new cf) zs E.w.aG
 wk:∀x∈E.pT,WN x
theorem aX5.eqv: ∀{l:List (Ev×ByteArray)} {m:Fm},aX5 m l s->∃m',Eqv s m'
 |[],m,h=>⟨m,h⟩
 |p::l,m,h=>aX5.eqv h.2.2
section
variable{cf:aM}{ps:List (List ak)}{n:Nat}{E:En}
def aX7.gw(h:aX7 cf E){E' : En}(hg:GwL E.w E'.w)(hw:∀x∈E'.pT,WN x):aX7 cf E':=by
 obtain⟨zs,h1,h2⟩:=h.lin;obtain⟨l',e,h3⟩:=h2.cat (P:=λl'=>E'.w.evs=E.w.evs++l'.map Prod.fst) hg;exact⟨⟨zs++l',by rw[e,h1,aG4],h3⟩,hw⟩
theorem aX7.step(h:aX7 cf E)(hI:pU cf ps n E)(hs:fZ cf ps n)(i:Nat):aX7 cf (E.fW i):=by
 obtain⟨a,b,hS,-,-⟩:=hI.gw.wO;unfold En.fW;cases hc:E.cls[i]? with
 |some c=>
  refine h.gw (ba9 hS c ?_) h.wk;unfold Cl.call;rw[(hI.cl i c hc).prog,aB7];cases hx:(ps.getD i [])[c.nth]? with
  |none=>exact JD
  |some x=>exact(hs.at_ i).2 x (aC1 hx)
 |none=>
  cases hw:E.pT[i-E.cls.length]? with
  |some x=>
   have hx:=h.wk x (aC1 hw);obtain⟨zs,-,h2⟩:=h.lin;obtain⟨m,hm⟩:=h2.eqv;refine h.gw (bb4 hS x (λh8=>⟨(hI.wk _ x hw).uF oM oM,hx (.inr h8)⟩) (λh8=>?_)) (λy hy=>?_)
   ·obtain⟨-,id,hid,hk⟩:=hm.sub _ (dW E.w.aG x.key (cy hS)).2 _ ((hI.wk _ x hw).uF oM oM)
    exact⟨id,hid,hk⟩
   ·rcases aI1 hy with hy|hy
    ·exact h.wk y hy
    ·subst hy;exact JE hx
  |none=>exact h
theorem aX7.run(hs:fZ cf ps n):∀(l:List Int)(E:En),pU cf ps n E->aX7 cf E->aX7 cf (E.run l)
 |[],E,_,h=>h
 |p::l,E,hI,h=>by
  unfold En.run En.step;cases hn:E.next p with
  |none=>exact h
  |some i=>
   simp only[aI6];exact aX7.run hs l _ (hI.step hs (sR hn)).1 (h.step hI hs i)
end
end
section
def bb5(home:Int)(s:Nat)(k:Int):∀o∈gI home s k,o.kind≠1:=by
 have h:(gI home s k).all (λo=>decide (o.kind≠1))=true:=by
  unfold gI lI l7
  (repeat' split)<;>simp
 exact λo ho=>of_decide_eq_true (aI7.1 h o ho)
theorem bb6{l:List iM}(h:∀o∈l,o.kind≠1)(a:Nat):(l.getD a vt).kind≠1:=by
 rw[aB7];cases hl:l[a]? with
 |none=>exact(by decide:vt.kind≠1)
 |some o=>exact h o (aC1 hl)
theorem bc8{cf:aM}{k:Int}{s:ByteArray}{p:dI}: ∀{a:Nat},((cN cf k s t v p).getD a vt).kind=1->a=0
 |0,_=>rfl
 |a+1,h=>by
  unfold cN vR at h
  split at h
  ·rw[aD0,aE0,List.getD_cons_succ,aD4]at h
   refine absurd h (bb6 (λo ho=>?_) a);rcases aD1.1 ho with ho|ho
   ·split at ho
    ·exact bb5 _ _ _ o ho
    ·cases ho
   ·simp at ho;subst ho;decide
  ·exact absurd h (show vt.kind≠1 by decide)
def KOk(a b:Ev):Prop:=a.task=b.task->a.nth=b.nth->a.kind<=3->b.kind<=3->a.kind<=b.kind
def Bd(l:List Ev)(t n:Int)(f:Prop):Prop:=∀e∈l,e.task=t->e.kind<=3->e.nth<=n/\(e.kind=3->e.nth<n)/\(f->e.nth<n)
def Bd.imp{l:List Ev}{n:Int}{f f' : Prop}(h:Bd l t n f)(hf:f'->f):Bd l t n f':=λe h1 h2 h3=>⟨(h e h1 h2 h3).1,(h e h1 h2 h3).2.1,λk=>(h e h1 h2 h3).2.2 (hf k)⟩
def Bd.add{l:List Ev}{n:Int}{f:Prop}(h:Bd l t n f)(hp:l.Pairwise KOk)(ht:e.task=t)(hn:e.nth=n)(hk:e.kind=1/\f\/e.kind=2\/e.kind=3):
 (l++[e]).Pairwise KOk/\(e.kind≠3->Bd (l++[e]) t n False)/\∀n',n' = n+1->Bd (l++[e]) t n' True:=by
 refine⟨aH3.2 ⟨hp,sI,λa ha b hb=>?_⟩,λh3 a ha h1 h2=>?_,λn' XQ a ha h1 h2=>?_⟩
 ·simp at hb
  subst hb;intro e1 e2 e3 e4;obtain⟨b1,b2,b3⟩:=h a ha (e1.trans ht) e3;rcases hk with⟨hk,hf⟩|hk|hk
  ·have:=b3 hf;omega
  ·by_cases h3:a.kind=3
   ·have:=b2 h3;omega
   ·omega
  ·omega
 ·rcases aD1.1 ha with ha|ha
  ·exact⟨(h a ha h1 h2).1,(h a ha h1 h2).2.1,False.elim⟩
  ·simp at ha;subst ha;exact⟨oM,λe=>absurd e h3,False.elim⟩
 ·rcases aD1.1 ha with ha|ha
  ·have:=(h a ha h1 h2).1;exact⟨oM,λ_=>oM,λ_=>oM⟩
  ·simp at ha;subst ha;exact⟨oM,λ_=>oM,λ_=>oM⟩
def aX8(W:Gw)(n t:Int)(wr:Bool):(W.ask n t wr).2.evs=W.evs:=by
 unfold Gw.ask
 split
 ·rfl
 ·exact(kV _ _ _).2
def aX1(W:Gw)(n t:Int):(W.drop n t).evs=W.evs:=by
 unfold Gw.drop
 split
 ·rfl
 ·exact(kV _ _ _).2
def bd5(W:Gw)(k:Key):(W.add k).evs=W.evs:=by unfold Gw.add;split<;>rfl
def bc9(W:Gw)(k:Key):(W.give k).evs=W.evs:=by unfold Gw.give;split<;>rfl
def bd9{y:Cl}(h:Bd W.evs y.task y.nth (y.at_=0))(hp:W.evs.Pairwise KOk)(hne:y.ops≠[])(hop:y.op.kind=1->y.at_=0):
 (y.act W).1.evs.Pairwise KOk/\(∀e∈(y.act W).1.evs,e∈W.evs\/e.task=y.task)/\Bd (y.act W).1.evs y.task (y.act W).2.nth ((y.act W).2.ops=[]):=by
 have hf:=h.imp (f':=False) False.elim;unfold Cl.act;simp only
 split
 ·rename_i h1
  unfold Cl.begin;simp only;obtain⟨p1,b1,-⟩:=h.add hp (e:=({y with rep:=cK y.call.err} : Cl).ev 1) rfl rfl (.inl ⟨rfl,hop h1⟩);have b1:=b1 (show(1:Int)≠3 by decide)
  split
  ·obtain⟨p2,b2,-⟩:=b1.add p1 (e:=({y with rep:=cK y.call.err} : Cl).ev 2) rfl rfl (.inr (.inl rfl))
   refine⟨p2,λe he=>?_,(b2 (show(2:Int)≠3 by decide)).imp hne⟩;rcases aD1.1 he with he|he
   ·rcases aD1.1 he with he|he
    ·exact .inl he
    ·simp at he;subst he;exact .inr rfl
   ·simp at he;subst he;exact .inr rfl
  ·refine⟨p1,λe he=>?_,b1.imp hne⟩
   rcases aD1.1 he with he|he
   ·exact .inl he
   ·simp at he;subst he;exact .inr rfl
 split
 ·simp only[aX8]
  refine⟨hp,λe he=>.inl he,?_⟩
  split<;>exact hf.imp hne
 split
 ·obtain⟨p1,b1,-⟩:=hf.add hp (e:=({y with rep:=(W.do y.call).1} : Cl).ev 2) rfl rfl (.inr (.inl rfl))
  have he:∀e,((W.do y.call).2.note e).evs=W.evs++[e]:=λe=>by rw[<-(aZ0 W y.call).2.2];rfl
  rw[he];refine⟨p1,λe he=>?_,(b1 (show(2:Int)≠3 by decide)).imp hne⟩;rcases aD1.1 he with he|he
  ·exact .inl he
  ·simp at he;subst he;exact .inr rfl
 split
 ·simp only[aX1]
  refine⟨hp,λe he=>.inl he,?_⟩
  split<;>exact hf.imp hne
 split
 ·simp only[bd5]
  exact⟨hp,λe he=>.inl he,hf.imp hne⟩
 ·obtain⟨p1,-,b1⟩:=hf.add hp (e:=y.ev 3) rfl rfl (.inr (.inr rfl))
  refine⟨p1,λe he=>?_,(b1 _ sI).imp λ_=>trivial⟩;rcases aD1.1 he with he|he
  ·exact .inl he
  ·simp at he;subst he;exact .inr rfl
def ba0{x:Cl}(a8:W.aG.cfg.gV)(QI:x.ops=[]\/x.ops=x.steps W.aG.cfg)(h:Bd W.evs x.task x.nth (x.ops=[]\/x.at_=0))(hp:W.evs.Pairwise KOk):
 (x.step W).1.evs.Pairwise KOk/\(∀e∈(x.step W).1.evs,e∈W.evs\/e.task=x.task)/\Bd (x.step W).1.evs x.task (x.step W).2.nth ((x.step W).2.ops=[]\/(x.step W).2.at_=0):=by
 unfold Cl.step
 split
 ·simp only
  generalize hy:(if x.ops=[]then({x with ops:=cN W.aG.cfg x.call.k x.call.s x.call.t x.call.v x.call.p,at_:=0,wants:=-1} : Cl)else {x with wants:=-1})=y;have hyt:y.task=x.task/\y.nth=x.nth/\(y.at_=0->x.ops=[]\/x.at_=0)/\y.ops=x.steps W.aG.cfg:=by
   subst hy
   split
   ·rename_i e;exact⟨rfl,rfl,λ_=>.inl e,rfl⟩
   ·rename_i e;exact⟨rfl,rfl,.inr,QI.resolve_left e⟩
  obtain⟨t1,t2,t3,t4⟩:=hyt;have hne:y.ops≠[]:=t4 ▸ uz a8 _ _ _ _ _;obtain⟨q1,q2,q3⟩:=bd9 (W:=W) (y:=y) (by rw[t1,t2];exact h.imp t3) hp hne (λhk=>by unfold Cl.op at hk;rw[t4]at hk;exact bc8 hk);rw[t1]at q2 q3;refine⟨q1,q2,q3.imp ?_⟩;rintro(e|e)
  ·exact e
  ·split at e
   ·assumption
   ·omega
 ·exact⟨hp,λe he=>.inl he,h⟩
def aY3{l:List Ev}(hp:l.Pairwise KOk)(k:Int)(hk:e.kind=k)(h:3<k):(l++[e]).Pairwise KOk/\∀a∈l++[e],a∈l\/3<a.kind:=by
 refine⟨aH3.2 ⟨hp,sI,λa ha b hb=>?_⟩,λa ha=>?_⟩
 ·simp at hb;subst hb;intro _ _ _ h4;omega
 ·rcases aD1.1 ha with ha|ha
  ·exact .inl ha
  ·simp at ha;subst ha;exact .inr oM
def ba1{x:Wk}(hp:W.evs.Pairwise KOk):(x.step W).1.evs.Pairwise KOk/\∀e∈(x.step W).1.evs,e∈W.evs\/3<e.kind:=by
 have same:∀l,l=W.evs->l.Pairwise KOk/\∀e∈l,e∈W.evs\/3<e.kind:=λl hl=>by subst hl;exact⟨hp,λe he=>.inl he⟩
 unfold Wk.step
 split
 ·generalize({x with wants:=-1,asleep:=false} : Wk)=y at *
  unfold Wk.act
  split
  ·exact same _ (aX8 _ _ _ _)
  ·unfold Wk.next
   simp only
   split
   ·exact aY3 hp 4 rfl dC
   split
   ·exact same _ rfl
   ·exact same _ rfl
  ·exact same _ (aX1 _ _ _)
  ·exact same _ (aX8 _ _ _ _)
  ·exact aY3 hp 5 rfl dC
  ·exact same _ (aX1 _ _ _)
  ·exact same _ rfl
  ·exact same _ (aX8 _ _ _ _)
  ·exact aY3 hp 6 rfl dC
  ·exact same _ (aX1 _ _ _)
  ·exact same _ (aX8 _ _ _ _)
  ·show(Gw.give _ _).evs.Pairwise KOk/\∀e∈(Gw.give _ _).evs,_
   rw[bc9];exact aY3 hp 7 rfl dC
  ·exact same _ (aX1 _ _ _)
  ·exact same _ (aX1 _ _ _)
 ·exact same _ rfl
structure aY5(E:En):Prop where
 ord:E.w.evs.Pairwise KOk
 cl:∀(i:Nat)(x:Cl),E.cls[i]? = some x->Bd E.w.evs x.task x.nth (x.ops=[]\/x.at_=0)
section
variable{cf:aM}{ps:List (List ak)}{n:Nat}{E:En}
theorem aY5.step(h:aY5 E)(hI:pU cf ps n E)(hs:fZ cf ps n)(i:Nat):aY5 (E.fW i):=by
 unfold En.fW;cases hc:E.cls[i]? with
 |some c=>
  have hcl:=hI.cl i c hc;obtain⟨q1,q2,q3⟩:=ba0 (W:=E.w) (x:=c) (hI.gw.cfg ▸ hs.py) (hcl.ops.imp id λe=>hI.gw.cfg▸e.2.1) (h.cl i c hc) h.ord;have hct:(c.step E.w).2.task=c.task:=by
   unfold Cl.step
   split
   ·simp only
    have:∀y:Cl,(y.act E.w).2.task=y.task:=λy=>by
     unfold Cl.act Cl.begin;simp only
     (repeat' split)<;>rfl
    rw[this]
    split<;>rfl
   ·rfl
  refine⟨q1,λj y hy=>?_⟩;simp only[aG1]at hy
  split at hy
  ·split at hy
   ·injection hy with hy;subst hy;rw[hct];exact q3
   ·cases hy
  ·rename_i hne
   intro e he ht hk;rcases q2 e he with he|he
   ·exact h.cl j y hy e he ht hk
   ·have:=(hI.cl j y hy).task
    have:=hcl.task;omega
 |none=>
  cases hw:E.pT[i-E.cls.length]? with
  |some x=>
   obtain⟨q1,q2⟩:=ba1 (W:=E.w) (x:=x) h.ord;refine⟨q1,λj y hy e he ht hk=>?_⟩;rcases q2 e he with he|he
   ·exact h.cl j y hy e he ht hk
   ·omega
  |none=>exact h
theorem aY5.run(hs:fZ cf ps n):∀(l:List Int)(E:En),pU cf ps n E->aY5 E->aY5 (E.run l)
 |[],E,_,h=>h
 |p::l,E,hI,h=>by
  unfold En.run En.step;cases hn:E.next p with
  |none=>exact h
  |some i=>
   simp only[aI6];exact aY5.run hs l _ (hI.step hs (sR hn)).1 (h.step hI hs i)
def aY5.new:aY5 (En.new cf ps n):=⟨List.Pairwise.nil,λi x hx e he=>by unfold En.new Gw.new at he;cases he⟩
end
end
end Go.Proofs.YtjgmjohiehbgaaaGreat
