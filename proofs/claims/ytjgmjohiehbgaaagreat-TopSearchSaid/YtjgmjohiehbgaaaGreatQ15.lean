/- Part 15. -/
import Derived.Test.YtjgmjohiehbgaaaGreatQ14
namespace Go.Proofs.YtjgmjohiehbgaaaGreat
open Go.RowKit Go.Proofs.Tryz
set_option maxHeartbeats 20000000
set_option maxRecDepth 100000
set_option linter.all false
variable{L g i k m n:Nat}{c:bh}{cf:aM}{s:aL}{w:World}{x:Ld}
def Vb{A:Option Addr}{c:Nat}{l:List aU}{a:aU}(h:dB w A n c l)(ha:l.getLast? = some a): ∃(b off:Nat),A=some ⟨b,off,none⟩/\0<n/\w.cell? ⟨b,off+(n-1)*5,none⟩=some (I6 a.tick)/\w.cell? ⟨b,off+(n-1)*5+1,none⟩=some (I6 a.load)/\w.cell? ⟨b,off+(n-1)*5+2,none⟩=some (I6 a.want)/\w.cell? ⟨b,off+(n-1)*5+3,none⟩=some (I6 a.aQ)/\w.cell? ⟨b,off+(n-1)*5+4,none⟩=some (I6 a.why):=by
 have hl:=h.1;have hne:l≠[]:=λe=>by rw[e]at ha;cases ha
 have hp:0<n:=by rw[<-hl];exact aV3.2 hne
 obtain⟨b,off,x,h1,h2,h3,h4⟩:=dB.at_ h (show n-1<n by omega);rw[List.getLast?_eq_getElem?,hl,h2]at ha;injection ha with ha
 subst ha;exact⟨b,off,h1,hp,h4⟩
theorem Lv{A:Option Addr}{cap:Nat}{ps:List Nat}{gt bt:Nat}{fp:Int->Option Nat}{ks:List Int}(k:Key)(h:jd w c g A m cap ps gt bt fp ks s)(hk:k.good)(hr:dD (s.strs.length:Int)=true)(YW:∀x,aJ (s.str (s.home k)).loads k=some x->x.past.length<=100000):
 Calls prog 75 #[pt g,.agg k.row] w (ap1 (s.last k) w):=by
 have EX:=(zW w (.cells k.row aS)).alloc sI (.cells di mi);have BX:=(ai.new w aS k.row).alloc (.cells di mi);have BY:=ai.dR w (.cells k.row aS) mi di;have H0:=h.call EX;obtain⟨p,hp⟩:∃p,ps[s.home k]? = some p:=⟨_,aB3 (h.strs.len▸(dW s k hr).2)⟩
 obtain⟨b,f,hst⟩:=h.strs.str _ p hp;have HS0:=hst.call EX;have HP:=zD hp;have HK:=hk;have HR:=hr;have HV:∃v,(f k).getD (.pointer none)=v:=⟨_,rfl⟩
 obtain⟨v,hv⟩:=HV;have HLp:=YW;obtain⟨R,hR⟩:=zE (s.last k);rw[<-hR];cases hl:aJ (s.str (s.home k)).loads k with
 |none=>
  rw[hst.GA hl]at hv;simp at hv;subst hv;have Xo:=hst.GA hl;have HQ:=zD (show R=⟨5,0,0,mh,eU⟩from by rw[hR];unfold aL.last;rw[hl];rfl);clear h hk hr YW hp hst hl hR;go_enter func75,ntmps75;go_upto_region 1 with fail
  obtain⟨W0,hW0⟩:=zE ((w.alloc (.cells k.row aS)).alloc (.cells di mi));rw[<-hW0]at EX BX BY H0 HS0 |-;clear hW0;refine zB λS0=>?_
  refine zk 4 [0,1,2,5] [_,_,_,_] (.q zX<|.q zX<|.c rfl rfl (zl λ_ h=>zb (BX.call h) underlying83)<|.c rfl rfl (zl λ_ h=>zb (BX.call h) underlying83) .nil) S0<|zQ 3 ?_;go_wp2_with(go_at_call 68;refine zM (ko (H0.call (S0)) k HK HR) λv5 dx=>?_);refine .i (zT S0 dx) ?_;have S5:=zT S0 dx;refine zQ 4 ?_;go_wp2_with(go_at_call 67;refine zN (fy (H0.call (S5)) _ p HP.out) ?_);refine .i S5<|zQ 6 ?_;go_wp2_with(go_at_call 83;refine zM (mQ k _ (HS0.call (S5)) HK) λv7 lV=>?_;rw[Xo];simp only[Option.getD_none]);refine .i (zT S5 lV) ?_;have S7:=zT S5 lV;refine zq 0 [7] [.pointer none] S7<|zd ?_;have S7':=S7;have BY7:=BY.call S7;clear S0 S5 S7 dx lV;go_wp2_with(refine zJ BY7 ?_;intro w9 b8 dM;have X9:=b8;have G9:=dM;clear b8 dM);have E4:=zT EX S7';have E5:=E4.grown G9 E4.size (λj e=>by injection e with e;omega);refine zU X9 underlying70 ?_;exact⟨by rw[HQ.out];rfl,E5⟩
 |some x=>
  obtain⟨q,F,fr,e1,e2,e3⟩:=hst.wH k x (λe=>e) hl;obtain⟨gq,rfl⟩:∃gq,q=some ⟨gq,0,none⟩:=by obtain⟨g',_,_,e,_⟩:=e2.blk;exact⟨g',e⟩
  have Xo:=e1;have HN:=e2;have HQ:=zD (show R=yh x.past from by rw[hR];unfold aL.last;rw[hl]);have fJ:=YW x hl;clear h hk hr YW hp hst hl hR e1 e2 e3 hv HLp;go_enter func75,ntmps75;go_upto_region 1 with fail
  obtain⟨W0,hW0⟩:=zE ((w.alloc (.cells k.row aS)).alloc (.cells di mi));rw[<-hW0]at EX BX BY H0 HS0 |-;clear hW0;refine zB λS0=>?_
  refine zk 4 [0,1,2,5] [_,_,_,_] (.q zX<|.q zX<|.c rfl rfl (zl λ_ h=>zb (BX.call h) underlying83)<|.c rfl rfl (zl λ_ h=>zb (BX.call h) underlying83) .nil) S0<|zQ 3 ?_;go_wp2_with(go_at_call 68;refine zM (ko (H0.call (S0)) k HK HR) λv5 dx=>?_);refine .i (zT S0 dx) ?_;have S5:=zT S0 dx;refine zQ 4 ?_;go_wp2_with(go_at_call 67;refine zN (fy (H0.call (S5)) _ p HP.out) ?_);refine .i S5<|zQ 6 ?_;go_wp2_with(go_at_call 83;refine zM (mQ k _ (HS0.call (S5)) HK) λv7 lV=>?_;rw[Xo];simp only[aF6]);refine .i (zT S5 lV) ?_;have S7:=zT S5 lV;refine zq 0 [7] [pt gq] S7<|zd ?_;have S7':=S7;have BY7:=BY.call S7;have HPs:=Ce (some ⟨gq,0,none⟩) F _ x fr _ (HN.call (zT EX S7));clear S0 S5 S7 dx lV;cases hg:x.past.getLast? with
  |none=>
   have hnil:x.past=[]:=List.getLast?_eq_none_iff.1 hg;have Fh:=zD (show R=⟨0,0,0,mh,eU⟩from by rw[HQ.out];unfold yh;rw[hg];rfl);rw[hnil]at HPs;clear hg hnil;go_wp2_with(first
    |go_at_call 85;refine HPs.mono ?_;rintro e w8 ⟨A8,n8,c8,rfl,ho8,sf⟩;obtain⟨_,_,_,e8,hn8,-⟩:=ho8.shape gD;injection e8 with ea eb ec;rw[<-eb]at hn8;have hn0:n8=0:=hn8;clear ea eb ec hn8;subst hn0;have B8:=sf;have BY8:=BY7.call sf;clear ho8 sf
    |(refine zJ BY8 ?_;intro w9 b8 dM;have X9:=b8;have G9:=dM;clear b8 dM))
   have E4:=zT EX S7';have E5:=zT E4 B8;have E6:=E5.grown G9 E5.size (λj e=>by injection e with e;omega);refine zU X9 underlying70 ?_;exact⟨by rw[Fh.out];rfl,E6⟩
  |some a=>
   have Fh:=zD (show R=⟨0,0,0,mh,a⟩from by rw[HQ.out];unfold yh;rw[hg];rfl);have XZ:=hg;clear hg;go_wp2_with(first
    |go_at_call 85;refine HPs.mono ?_;rintro e w8 ⟨A8,n8,c8,rfl,ho8,sf⟩;obtain⟨_,_,_,e8,hn8,hs8⟩:=ho8.shape gD;injection e8 with ea eb ec;subst ea;subst eb;subst ec;obtain⟨ab,ao,rfl,zP,k0,k1,k2,k3,k4⟩:=Vb hs8 XZ;have:n8<=100000:=(hn8▸fJ);have:((n8:Int)==0)=false:=sM;have:((n8:Int)-1)=((n8-1:Nat):Int):=oM;have B8:=sf;have BY8:=BY7.call sf;clear ho8 sf hs8 hn8
    |(refine zJ BY8 ?_;intro w9 b8 dM;have X9:=b8;have G9:=dM;clear b8 dM))
   have E5:=zT (zT EX S7') B8;have E6:=E5.grown G9 E5.size (λj e=>by injection e with e;omega);refine zU X9 underlying70 ?_;exact⟨by rw[Fh.out];rfl,E6⟩
structure DN(x:Ld)(k:Nat):Prop where
 len:x.cL.length<=k
 good:∀y∈x.cL,y.good
 fit:x.cM.fit
def DN.mono(h:DN x k)(hm:k<=m):DN x m:=⟨aB4 h.len hm,h.good,h.fit⟩
def Iu(k:Nat):DN Ff k:=⟨aB6 _,λy hy=>by simp[Ff]at hy,by unfold dI.fit Ff aw;simp⟩
structure eB(s:bF)(cf:aM)(n k:Nat):Prop where
 cfg:s.cfg=cf
 ok:fL s n
 ld:∀key x,aJ s.loads key=some x->DN x k
def eB.mono{s:bF}{j:Nat}(h:eB s cf n k)(h1:n<=m)(h2:k<=j):eB s cf m j:=⟨h.cfg,h.ok.mono h1,λkey x hx=>(h.ld key x hx).mono h2⟩
structure qj(s:aL)(n k:Nat):Prop where
 fit:s.cfg.fit
 py:s.cfg.gV
 len:(s.strs.length:Int)=s.cfg.str
 str:∀st∈s.strs,eB st s.cfg n k
 nT:s.nT<=k
 cuts:∀m,some m∈s.cuts->∀key x,aJ m.dG key=some x->DN x k
 DO:s.cuts.length<=k
 YX:0<=s.bV
 YY:s.bV<=k
def qj.mono{j:Nat}(h:qj s n k)(h1:n<=m)(h2:k<=j):qj s m j:=
 ⟨h.fit,h.py,h.len,λst hs=>(h.str st hs).mono h1 h2,aB4 h.nT h2,λm hm key x hx=>(h.cuts m hm key x hx).mono h2,aB4 h.DO h2,h.YX,oH h.YY⟩
structure bM(c:ak):Prop where
 s:c.s.size<=maxLen
 t:aw c.t
 v:aw c.v
 h:aw c.h
 k:aw c.k
 p:c.p.fit
def Vc(l:List aD)(room:Nat)(x:aD):(nY l room x).length<=l.length+1:=by
 unfold nY;have:=FI l x
 split
 ·simp;omega
 ·exact this
theorem Iw{s:bF}(h:eB s cf n k){key:Key}(hx:gH s key=some x):DN x k:=by
 unfold gH at hx;cases h1:aJ s.loads key with
 |some y=>rw[h1]at hx;injection hx with hx;subst hx;exact h.ld key y h1
 |none=>
  rw[h1]at hx;simp only at hx
  split at hx
  ·cases hx
  ·injection hx with hx;subst hx;exact Iu k
def eB.put{s:bF}(h:eB s cf n k)(key:Key)(h1:lD s.cfg x (n+1))(h2:DN x (k+1)):eB (s.put key x) cf (n+1) (k+1):=by
 refine⟨h.cfg,h.ok.put key h1,λuw y hy=>?_⟩;change aJ (rX s.loads key x) uw = some y at hy;rw[lZ]at hy
 by_cases e:uw = key
 ·rw[if_pos e]at hy;injection hy with hy;subst hy;exact h2
 ·rw[if_neg e]at hy;exact(h.ld uw y hy).mono (aC5 k)
def Vd{c:aM}(hc:c.gV)(h:lD c x n)(t v:Int):lD c (Dj c x t v) (n+1):=h.next hc ⟨0,t,v,⟨0,0,0,0,0,0⟩,⟨0,0,0,0,0⟩⟩
def Ve{c:aM}(hc:c.gV)(h:lD c x n)(p:dI):lD c (Av x p) (n+1):=h.next hc ⟨2,0,0,p,⟨0,0,0,0,0⟩⟩
def Qq{c:aM}(hc:c.gV)(h:lD c x n)(a:aU):lD c (xS c x a) (n+1):=h.next hc ⟨3,0,0,⟨0,0,0,0,0,0⟩,a⟩
def NQ(s:bF)(key:Key)(x:Ld):(s.put key x).loads.length<=s.loads.length+1:=Hw _ _ _
theorem eB.eD{s:bF}(h:eB s cf n k)(key:Key)(t v:Int)(ht:aw t)(hv:aw v):eB (s.eD key t v).2 cf (n+1) (k+1)/\(s.eD key t v).2.loads.length<=s.loads.length+1:=by
 have h0:=h.mono (aC5 n) (aC5 k);unfold bF.eD
 split
 ·rename_i he
  cases hq:gH s key with
  |none=>exact⟨h0,aC5 _⟩
  |some x=>
   have hg:=Iw h hq;refine⟨h.put key (Vd h.ok.py (rZ h.ok hq) t v) ?_,NQ _ _ _⟩;unfold Dj;rw[if_pos he];exact⟨aB4 (Vc _ _ _) (Nat.succ_le_succ hg.len),BN hg.good ⟨ht,hv⟩ _,hg.fit⟩
 ·exact⟨h0,aC5 _⟩
theorem eB.set{s:bF}(h:eB s cf n k)(key:Key)(p:dI)(hp:p.fit):eB (s.set key p).2 cf (n+1) (k+1)/\(s.set key p).2.loads.length<=s.loads.length+1:=by
 have h0:=h.mono (aC5 n) (aC5 k);unfold bF.set
 split
 ·cases hq:gH s key with
  |none=>exact⟨h0,aC5 _⟩
  |some x=>
   have hg:=Iw h hq;refine⟨h.put key (Ve h.ok.py (rZ h.ok hq) p) ?_,NQ _ _ _⟩;unfold Av
   split
   ·exact⟨aD3 hg.len,hg.good,hp⟩
   ·exact hg.mono (aC5 k)
 ·exact⟨h0,aC5 _⟩
theorem eB.note{s:bF}(h:eB s cf n k)(key:Key)(a:aU):eB (s.note key a).2 cf (n+1) k/\(s.note key a).2.loads.length=s.loads.length:=by
 unfold bF.note;cases hx:aJ s.loads key with
 |none=>exact⟨h.mono (aC5 n) (aC2 k),rfl⟩
 |some x=>
  have hg:=h.ld key x hx;refine⟨⟨h.cfg,h.ok.put key (Qq h.ok.py (h.ok.wH key x hx) a),λuw y hy=>?_⟩,?_⟩
  ·change aJ (rX s.loads key _) uw = some y at hy
   rw[lZ]at hy
   by_cases e:uw = key
   ·rw[if_pos e]at hy;injection hy with hy;subst hy;exact⟨hg.len,hg.good,hg.fit⟩
   ·rw[if_neg e]at hy;exact h.ld uw y hy
  ·have h2:=congrArg List.length (oP (y:=xS s.cfg x a) hx);unfold bF.keys at h2
   simpa using h2
theorem Vf{t:Int}{a:bF×Int}(h:eB a.1 cf n k)(key:Key):eB (bF.j8 t a key).1 cf (n+1) k:=by
 refine⟨(yi t a key).2.trans h.cfg,Hy h.ok key,λuw y hy=>?_⟩;unfold bF.j8 at hy;cases hx:aJ a.1.loads key with
 |none=>rw[hx]at hy;exact h.ld uw y hy
 |some x=>
  rw[hx]at hy;simp only at hy
  split at hy
  ·change aJ (rX a.1.loads key _) uw = some y at hy
   rw[lZ]at hy
   by_cases e:uw = key
   ·rw[if_pos e]at hy;injection hy with hy;subst hy
    have hg:=h.ld key x hx;unfold nB
    split
    ·exact hg
    ·exact⟨aB4 (aE7 _ _) hg.len,λy hy=>hg.good y (aD5.1 hy).1,hg.fit⟩
   ·rw[if_neg e]at hy;exact h.ld uw y hy
  ·exact h.ld uw y hy
theorem eB.trim{s:bF}(h:eB s cf n k)(t:Int)(hk:s.loads.length<=k):eB (s.trim t) cf (n+k) k/\(s.trim t).loads.length=s.loads.length:=by
 have hl:(eW s.keys).length<=k:=by rw[(fg _).length_eq];unfold bF.keys;rw[aC8];exact hk
 constructor
 ·have h1:∀(ks:List Key)(m:Nat)(a:bF×Int),eB a.1 cf m k->eB (ks.foldl (bF.j8 t) a).1 cf (m+ks.length) k:=by
   intro ks
   induction ks with
   |nil=>exact λm a h=>h
   |cons key ks ih=>
    intro m a h;have:=ih (m+1) _ (Vf (t:=t) h key);rw[aC4,show m+(ks.length+1)=m+1+ks.length by omega];exact this
  exact(h1 (eW s.keys) n (s,0) h).mono oM (aC2 k)
 ·have h1:=congrArg List.length (kg s t (eW s.keys)).1
  unfold bF.keys at h1
  simpa[bF.trim]using h1
theorem YZ{l:List bF}{x y:bF}(h:l[i]? = some y)(hx:x.loads.length<=y.loads.length+1):((l.set i x).map λx=>x.loads.length).sum<=(l.map λx=>x.loads.length).sum+1:=by
 induction l generalizing i with
 |nil=>simp at h
 |cons z l ih=>
  cases i with
  |zero=>simp at h;subst h;simp;omega
  |succ i=>
   have:=ih (i:=i) (sH h);simp only[aU1,aH1,aS2];omega
theorem DR{l:List bF}{x:bF}(h:x∈l):x.loads.length<=(l.map λx=>x.loads.length).sum:=by
 induction l with
 |nil=>simp at h
 |cons z l ih=>
  rw[aH1,aS2];rcases aE6.1 h with rfl|h
  ·omega
  ·have:=ih h;omega
def qj.qm(h:qj s n k)(hi:i<s.strs.length):eB (s.str i) s.cfg n k/\s.strs[i]? = some (s.str i)/\(s.str i).loads.length<=k:=by
 have e:s.strs[i]? = some (s.str i):=by unfold aL.str;rw[aB7,aB3 hi];rfl
 have hm:=aC1 e;exact⟨h.str _ hm,e,aB4 (DR hm) h.nT⟩
def qj.et(h:qj s n k)(hi:i<s.strs.length){x:bF}(h1:eB x s.cfg (n+1) (k+1))(h2:x.loads.length<=(s.str i).loads.length+1):qj (s.et i x) (n+1) (k+1):=by
 obtain⟨-,e,-⟩:=h.qm hi;have h0:=h.mono (aC5 n) (aC5 k);refine⟨h.fit,h.py,by unfold aL.et;simp;exact h.len,λst hs=>?_,?_,h0.cuts,h0.DO,h.YX,h0.YY⟩
 ·unfold aL.et at hs
  rcases aI1 hs with hs|rfl
  ·exact h0.str st hs
  ·exact h1
 ·have:=YZ e h2
  have:=h.nT;unfold aL.nT aL.et at *;simp only;omega
theorem Qr(h:qj s n k){key:Key}(hx:aJ (vr (s.strs.flatMap bF.dG)) key=some x):DN x k:=by
 have h2:(key,x)∈s.strs.flatMap bF.dG:=by
  have hp:∀l:List (Key×Ld),(bL pS l).Perm l:=by
   intro l
   induction l using su with
   |nil=>exact List.Perm.refl _
   |snoc l y ih=>
    rw[iu];unfold nP;refine(List.perm_middle.trans ?_);rw[aH8];exact(ih.cons y).trans (List.perm_append_singleton y l).symm
  exact(hp _).mem_iff.1 (tW hx)
 obtain⟨st,hs,hm⟩:=aT8.1 h2;unfold bF.dG at hm;obtain⟨k',-,Sv⟩:=List.mem_filterMap.1 hm;obtain⟨y,hy,e⟩:=aS3.1 Sv;injection e with e1 e2
 subst e1;subst e2;exact(h.str st hs).ld _ _ hy
def cy(h:qj s n k):dD (s.strs.length:Int)=true:=by rw[h.len];exact h.py.1
def qj.do(h:qj s n k){c:ak}(hc:bM c):qj (s.do c).2 (n+k+1) (k+1):=by
 have h0:=h.mono (show n<=n+k+1 by omega) (aC5 k);have hb:=dW s c.key (cy h);obtain⟨g1,g2,g3⟩:=h.qm hb.2;unfold aL.do
 split
 ·exact h0
 split
 ·obtain⟨p1,p2⟩:=g1.eD c.key c.t c.v hc.t hc.v
  exact(h.et hb.2 p1 p2).mono oM lR
 split
 ·refine⟨h.fit,h.py,by simp;exact h.len,λst hs=>?_,?_,h0.cuts,h0.DO,h.YX,h0.YY⟩
  ·obtain⟨y,hy,rfl⟩:=aF2.1 hs
   obtain⟨t1,-⟩:=(h.str y hy).trim c.t (aB4 (DR hy) h.nT);exact t1.mono oM (aC5 k)
  ·unfold aL.nT
   simp only[List.map_map];have:∀l:List bF,(∀y∈l,(y.trim c.t).loads.length=y.loads.length)->(l.map ((λx=>x.loads.length) ∘ λx=>x.trim c.t))=l.map λx=>x.loads.length:=λl hl=>List.map_congr_left λy hy=>hl y hy
   rw[this s.strs (λy hy=>((h.str y hy).trim c.t (aB4 (DR hy) h.nT)).2)];exact aD3 h.nT
 split
 ·unfold aL.snap
  split
  ·exact h0
  ·refine⟨h.fit,h.py,h.len,h0.str,h0.nT,λm hm key x hx=>?_,?_,?_,?_⟩
   ·rcases aD1.1 hm with hm|hm
    ·exact h0.cuts m hm key x hx
    ·simp at hm
     subst hm;exact(Qr h hx).mono (aC5 k)
   ·simp;exact h.DO
   ·have:=h.YX;show 0<=s.bV+1;omega
   ·have:=h.YY;show s.bV+1<=((k+1:Nat):Int);omega
 split
 ·unfold aL.free
  split
  ·refine⟨h.fit,h.py,h.len,h0.str,h0.nT,λm hm key x hx=>?_,by simp;exact h0.DO,h.YX,h0.YY⟩
   rcases aI1 hm with hm|hm
   ·exact h0.cuts m hm key x hx
   ·cases hm
  ·exact h0
 split
 ·exact h0
 split
 ·obtain⟨p1,p2⟩:=g1.set c.key c.p hc.p
  exact(h.et hb.2 p1 p2).mono oM lR
 split
 ·exact h0
 ·unfold aL.shut
  split
  ·exact h0
  ·exact⟨h.fit,h.py,h.len,h0.str,h0.nT,h0.cuts,h0.DO,h.YX,h0.YY⟩
theorem qj.note(h:qj s n k)(key:Key)(a:aU):qj (s.et (s.home key) ((s.str (s.home key)).note key a).2) (n+1) k:=by
 obtain⟨g1,e,g3⟩:=h.qm (dW s key (cy h)).2;obtain⟨p1,p2⟩:=g1.note key a;have h0:=h.mono (aC5 n) (aC2 k);refine⟨h.fit,h.py,by unfold aL.et;simp;exact h.len,λst hs=>?_,?_,h0.cuts,h0.DO,h.YX,h0.YY⟩
 ·unfold aL.et at hs
  rcases aI1 hs with hs|rfl
  ·exact h0.str st hs
  ·exact p1
 ·have h1:∀(l:List bF)(i:Nat)(x y:bF),l[i]? = some y->x.loads.length=y.loads.length->((l.set i x).map λx=>x.loads.length).sum=(l.map λx=>x.loads.length).sum:=by
   intro l
   induction l with
   |nil=>intro i x y h;simp at h
   |cons z l ih=>
    intro i x y hi hxy;cases i with
    |zero=>simp at hi;subst hi;simp[hxy]
    |succ i=>simp only[aU1,aH1,aS2];rw[ih i x y (sH hi) hxy]
  have:=h.nT;unfold aL.nT aL.et at *;simp only;rw[h1 _ _ _ _ e p2];exact this
def qj.new(hf:cf.fit)(a8:cf.gV):qj (aL.new cf) 0 0:=by
 have:=a7 a8.1;refine⟨hf,a8,by simp[aL.new];omega,λst hs=>?_,?_,λm hm=>by simp[aL.new]at hm,aB6 _,aW5 _,aW5 _⟩
 ·unfold aL.new at hs
  obtain⟨-,rfl⟩:=List.mem_replicate.1 hs;exact⟨rfl,⟨hf,a8,aW5 _,aW5 _,aC2 _,λk x hx=>by simp[aJ]at hx⟩,λk x hx=>by simp[aJ]at hx⟩
 ·unfold aL.nT aL.new
  simp
abbrev nV:TypeId:=65
theorem DT(x:ak)(h:cG w c g s)(hc:∀k,w.heap.size<=k->c k=none)(ho:qj s n k)(hx:bM x)(hn:n<=30000)(hk:k<=40)(he:x.err≠0):
 Calls prog 23 #[pt g,.agg (aj x.k x.s x.t x.v x.h x.p)] w (UO c g (s.do x) w):=by
 obtain⟨A,m,cap,ps,gt,bt,fp,ks,h⟩:=h;obtain⟨k0,s0,t0,v0,h0,p0⟩:=x;obtain⟨p,hp⟩:∃p,ps[s.home ⟨aO s0,aP s0⟩]? = some p:=⟨_,aB3 (h.strs.len▸(dW s ⟨aO s0,aP s0⟩ (cy ho)).2)⟩
 have EX:=(zW w (.cells (aj k0 s0 t0 v0 h0 p0) nV)).alloc sI (.cells di mi);have H0:=h.call EX;have wN:=(λW=>gu k0 s0 t0 v0 h0 p0 W hx.s);have HC:=hc;obtain⟨R,hR⟩:=zE (s.do ⟨k0,s0,t0,v0,h0,p0⟩);rw[<-hR];have hce:bJ k0 s0 t0 v0 p0≠0:=he;have HQ:=zD (show R=(cK (bJ k0 s0 t0 v0 p0),s)from by rw[hR];unfold aL.do;rw[if_pos he];rfl);generalize bJ k0 s0 t0 v0 p0=ER at *;clear h hc ho hx hn hk he hp hR;go_enter func23,ntmps23;have:(ER != 0)=true:=sH hce
 clear hce;go_wp2_with(first
  |refine zI ((ai.new w nV (aj k0 s0 t0 v0 h0 p0)).alloc (.cells di mi)) underlying65 ?_
  |go_at_call 25;refine zM (wN _) λw1 B1=>?_
  |(refine zJ ((ai.dR w (.cells (aj k0 s0 t0 v0 h0 p0) nV) mi di).call B1) ?_;intro w9 X9 G9))
 refine zU X9 underlying70 ?_;have UG:=ah.bE G9;refine⟨c,by rw[HQ.out];rfl,?_,(ae.aa dO c HC (zT EX B1)).own UG (λj hj=>hj▸aC5 _)⟩
 rw[HQ.out];exact cG.off ⟨A,m,cap,ps,gt,bt,fp,ks,H0.call B1⟩ UG (λj hj=>hj▸HC _ (aC5 _))
theorem Be(x:ak)(h:cG w c g s)(hc:∀k,w.heap.size<=k->c k=none)(ho:qj s n k)(hx:bM x)(hn:n<=30000)(hk:k<=40)(he:x.err=0)(hK:x.k=1\/x.k=6\/x.k=3\/x.k=4\/x.k=5\/x.k=7\/x.k=8):
 Calls prog 23 #[pt g,.agg (aj x.k x.s x.t x.v x.h x.p)] w (UO c g (s.do x) w):=by
 obtain⟨A,m,cap,ps,gt,bt,fp,ks,h⟩:=h;obtain⟨k0,s0,t0,v0,h0,p0⟩:=x;have hb:=dW s ⟨aO s0,aP s0⟩ (cy ho);have hkg:Key.good ⟨aO s0,aP s0⟩:=⟨by have:=jY s0;show aO s0<_;omega,by have:=jZ s0;show aP s0<_;omega⟩;have hrt:=cy ho;obtain⟨p,hp⟩:∃p,ps[s.home ⟨aO s0,aP s0⟩]? = some p:=⟨_,aB3 (by rw[h.strs.len];exact hb.2)⟩
 have HG:=(ho.qm hb.2).1;have HL7:∀x,aJ (s.str (s.home ⟨aO s0,aP s0⟩)).loads ⟨aO s0,aP s0⟩=some x->x.past.length<=100000:=λx hx=>by have h1:=(HG.ok.wH _ x hx).Dk;have:=HG.ok.py.2.2.2.2.2.2;omega
 have HL5:∀m,some m∈s.cuts->∀x,aJ m.dG ⟨aO s0,aP s0⟩=some x->x.cL.length<=200/\∀y∈x.cL,y.good:=λm hm x hx=>by have h1:=ho.cuts m hm _ x hx;exact⟨by have:=h1.len;omega,h1.good⟩
 have HSn:=(λ(W:World)(hz:cG W c g s)(hf:∀k,W.heap.size<=k->c k=none)=>Lt k hz hf (λi hi=>(ho.qm hi).1.cfg) (λi hi=>(ho.qm hi).2.2) oM (by have:=a7 (cy ho);omega) (by have:=ho.nT;omega) ho.YX (by have:=ho.YY;omega) (by have:=ho.DO;omega));have EX:=(zW w (.cells (aj k0 s0 t0 v0 h0 p0) nV)).alloc sI (.cells di mi);have BX:=(ai.new w nV (aj k0 s0 t0 v0 h0 p0)).alloc (.cells di mi);have BY:=ai.dR w (.cells (aj k0 s0 t0 v0 h0 p0) nV) mi di;have H0:=h.call EX;have wN:=(λW=>gu k0 s0 t0 v0 h0 p0 W hx.s);have HPk:=(λW=>fT s0 W hx.s);obtain⟨R,hR⟩:=zE (s.do ⟨k0,s0,t0,v0,h0,p0⟩);rw[<-hR];have hce:bJ k0 s0 t0 v0 p0=0:=he;rw[hce]at wN;unfold aL.do at hR;rw[if_neg (λh=>h he)]at hR;have hR:=hR.symm;have HX:=And.intro hx ho;clear hx ho he hce;rcases hK with hK|hK|hK|hK|hK|hK|hK<;>(dsimp only at hK;subst hK;go_enter func23,ntmps23)
 all_goals
  go_wp2_with(first
   |refine zI BX underlying65 ?_
   |go_at_call 25;refine zM (wN _) λw1 B1=>?_;have q1:=(BX.call B1).z 1 (.string s0)
   |go_at_call 66;refine zN (fY (H0.call B1)) ?_
   |go_at_call 32;refine zM (HPk _) λw3 hb3=>?_;have B3:=(zT B1 hb3).alloc (zT B1 hb3).size (.cells #[V6 (aO s0:Nat),V6 (aP s0:Nat)] aS);have BK:=ai.new w3 aS #[V6 (aO s0:Nat),V6 (aP s0:Nat)];have:=BX.call B3;clear q1
   |refine zI BK underlying83 ?_
   |go_at_call 68;refine zM (ko (H0.call B3) ⟨aO s0,aP s0⟩ hkg hrt) λw4 hb4=>?_;have B4:=zT B3 hb4;have Z4:=H0.call B4;have U4:nU w4 c (w.heap.size+1) mi di:=⟨BY.call B4,hc _ oM⟩;have BK4:=BK.call hb4;have tC:=BX.call B4;have F4:∀j,w4.heap.size<=j->c j=none:=(λj hj=>hc j (aB4 (zT EX B4).size hj));have E4:=zT EX B4;have:=tC.z 0 (I6 _);have:=tC.z 2 (I6 t0);have:=tC.z 3 (I6 v0);have:=tC.z 4 (I6 h0);have:=BK4.z 0 (V6 (aO s0:Nat));have:=BK4.z 1 (V6 (aP s0:Nat));have:=tC.z 5 (I6 p0.min);have:=tC.z 6 (I6 p0.max);have:=tC.z 7 (I6 p0.target);have:=tC.z 8 (I6 p0.lz);have:=tC.z 9 (I6 p0.bp);have:=tC.z 10 (I6 p0.hold)
   |go_at_call 67;refine zN (fy Z4 _ p hp) ?_
   |go_at_call 69;refine(AA ⟨aO s0,aP s0⟩ t0 v0 w4 (Z4.strs.str _ p hp) hkg F4 HG.ok oM).mono ?_;rintro e w6 ⟨c6,rfl,uZ,ux⟩;have U6:=U4.step ux;have Z6:cG w6 c6 g _:=⟨A,m,cap,ps,gt,bt,fp,ks,Z4.str hp ux uZ⟩;have T6:=(ux.mono (T2:=dO) λt e=>.st e)
   |go_at_call 74;refine(Ky ⟨aO s0,aP s0⟩ p0 w4 (Z4.strs.str _ p hp) hkg F4 HG.ok oM).mono ?_;rintro e w6 ⟨c6,rfl,uZ,ux⟩;have U6:=U4.step ux;have Z6:cG w6 c6 g _:=⟨A,m,cap,ps,gt,bt,fp,ks,Z4.str hp ux uZ⟩;have T6:=(ux.mono (T2:=dO) λt e=>.st e)
   |go_at_call 71;refine(HSn w4 ⟨A,m,cap,ps,gt,bt,fp,ks,Z4⟩ F4).mono ?_;rintro e w6 ⟨c6,rfl,uZ,ux⟩;have U6:=U4.step ux;have Z6:=uZ;have T6:=ux
   |go_at_call 72;refine(Lq h0 HX.1.h ⟨A,m,cap,ps,gt,bt,fp,ks,Z4⟩ F4).mono ?_;rintro e w6 ⟨c6,rfl,uZ,ux⟩;have U6:=U4.step ux;have Z6:=uZ;have T6:=ux
   |go_at_call 76;refine(yy ⟨A,m,cap,ps,gt,bt,fp,ks,Z4⟩ F4).mono ?_;rintro e w6 ⟨c6,rfl,uZ,ux⟩;have U6:=U4.step ux;have Z6:=uZ;have T6:=ux
   |(first|(go_at_call 73;refine(Lu h0 ⟨aO s0,aP s0⟩ t0 v0 Z4 HX.1.h HX.1.t HX.1.v HL5).mono ?_)|(go_at_call 75;refine(Lv ⟨aO s0,aP s0⟩ Z4 hkg hrt HL7).mono ?_));rintro e w6 ⟨rfl,dJ⟩;obtain⟨c6,hc6⟩:=zE c;have T6:ae dO w4 w6 c c6:=(by rw[hc6];exact ae.aa _ _ F4 dJ);have U6:nU w6 c6 (w.heap.size+1) mi di:=(by rw[hc6];exact U4.call dJ);have Z6:cG w6 c6 g s:=by rw[hc6];exact⟨A,m,cap,ps,gt,bt,fp,ks,Z4.call dJ⟩
   |(refine zJ U6.blk ?_;intro w9 X9 G9))
  refine zU X9 underlying70 ?_;have UG:=ah.bE G9;have SX:=(ae.aa dO c hc E4).trans T6 eu;refine⟨c6,(by rw[<-hR];first|rfl|(show _=Ending.returned (Value.agg (s.free h0).1.row);rw[show(s.free h0).1=cK (s.free h0).1.err from by unfold aL.free;split<;>rfl];rfl)),?_,SX.own UG (λj hj=>by rw[hj];exact aC5 _)⟩;rw[<-hR];exact cG.off Z6 UG (λj hj=>by rw[hj];exact U6.no)
def oY(s:aL)(t:Int)(k:Nat):aL:={s with strs:=(s.strs.take k).map (λx=>x.trim t)++s.strs.drop k}
def Lx(s:aL)(t:Int):oY s t 0=s:=by unfold oY;simp
def CB{t:Int}(h:k<s.strs.length):(oY s t k).str k=s.str k/\(oY s t k).et k ((s.str k).trim t)=oY s t (k+1):=by
 have hd:s.strs.drop k=s.str k::s.strs.drop (k+1):=by
  rw[aH2 h];unfold aL.str;rw[aB7,aB3 h]
  rfl
 have hl:((s.strs.take k).map (λx=>x.trim t)).length=k:=by simp;omega
 constructor
 ·unfold oY aL.str
  simp only;rw[aB7,aC7 oM,hl,hd];simp
  rfl
 ·unfold oY aL.et
  simp only;rw[aW4 _ _ oM,hl,aW9,hd,aW1,aE3,aB3 h,aG4,aD0];have e:s.strs[k]=s.str k:=by unfold aL.str;rw[aB7,aB3 h];rfl
  rw[e];simp
def Qs(s:aL)(t:Int):oY s t s.strs.length = {s with strs:=s.strs.map λx=>x.trim t}:=by unfold oY;simp
theorem Bf(x:ak)(h:cG w c g s)(hc:∀k,w.heap.size<=k->c k=none)(ho:qj s n k)(hx:bM x)(hn:n<=30000)(hk:k<=40)(he:x.err=0)(hK:x.k=2):
 Calls prog 23 #[pt g,.agg (aj x.k x.s x.t x.v x.h x.p)] w (UO c g (s.do x) w):=by
 obtain⟨A,m,cap,ps,gt,bt,fp,ks,h⟩:=h;obtain⟨k0,s0,t0,v0,h0,p0⟩:=x;dsimp only at hK;subst hK;have hb:=dW s ⟨aO s0,aP s0⟩ (cy ho);have HKg:(⟨aO s0,aP s0⟩:Key).good:=⟨by have:=jY s0;show aO s0<_;omega,by have:=jZ s0;show aP s0<_;omega⟩;have RQ:=cy ho;obtain⟨p,hp⟩:∃p,ps[s.home ⟨aO s0,aP s0⟩]? = some p:=⟨_,aB3 (h.strs.len▸hb.2)⟩
 have HP:=zD hp;have:=hb.2;have EX:=(zW w (.cells (aj 2 s0 t0 v0 h0 p0) nV)).alloc sI (.cells di mi);have BX:=(ai.new w nV (aj 2 s0 t0 v0 h0 p0)).alloc (.cells di mi);have H0:=h.call EX;have wN:=(λW=>gu 2 s0 t0 v0 h0 p0 W hx.s);have HPk:=(λW=>fT s0 W hx.s);have:=hx;have:=ho;have HN:=hn;have:=hk;have HC:=hc;obtain⟨R,hR⟩:=zE (s.do ⟨2,s0,t0,v0,h0,p0⟩);rw[<-hR];have hce:bJ 2 s0 t0 v0 p0=0:=he;rw[hce]at wN;have HQ:=zD (show R=(eo,{s with strs:=s.strs.map λx=>x.trim t0})from by rw[hR];unfold aL.do;rw[if_neg (λh=>h he)];rfl);have HGs:=(λi (hi:i<s.strs.length)=>(ho.qm hi).1.ok);have HNs:=h.strs.n_;have:m<=64:=oI h.strs.n_ (a7 (cy ho))
 clear h hc ho hx hn hk he hb hp hR hce;go_enter func23,ntmps23;go_wp2_with(first
  |refine zI BX underlying65 ?_
  |go_at_call 25;refine zM (wN _) λw1 B1=>?_;have q1:=(BX.call B1).z 1 (.string s0)
  |go_at_call 66;refine zN (fY (H0.call B1)) ?_
  |go_at_call 32;refine zM (HPk _) λw3 hb3=>?_;have B3:=(zT B1 hb3).alloc (zT B1 hb3).size (.cells #[V6 (aO s0:Nat),V6 (aP s0:Nat)] aS);have BK:=ai.new w3 aS #[V6 (aO s0:Nat),V6 (aP s0:Nat)];have:=BX.call B3;clear hb3 q1
  |refine zI BK underlying83 ?_
  |go_at_call 68;refine zM (ko (H0.call B3) ⟨aO s0,aP s0⟩ HKg RQ) λw4 hb4=>?_;have B4:=zT B3 hb4;have Z4:=H0.call B4;have U4:nU w4 c (w.heap.size+1) mi di:=⟨(ai.dR w (.cells (aj 2 s0 t0 v0 h0 p0) nV) mi di).call B4,HC _ oM⟩;have BK4:=BK.call hb4;have tC:=BX.call B4;have F4:∀j,w4.heap.size<=j->c j=none:=(λj hj=>HC j (aB4 (zT EX B4).size hj));have q0:=tC.z 0 (I6 2);have q2:=tC.z 2 (I6 t0);have q3:=tC.z 3 (I6 v0);have q4:=tC.z 4 (I6 h0);have y0:=BK4.z 0 (V6 (aO s0:Nat));have y1:=BK4.z 1 (V6 (aP s0:Nat));have z0:=Z4.blk.z 0 (.slice A m cap);clear hb4
  |(go_at_call 67;refine zN (fy Z4 _ p HP.out) ?_))
 clear q0 q2 q3 q4 y0 y1 z0;obtain⟨gy,Ai⟩:=zE (w.heap.size+1);obtain⟨gx,hgx⟩:=zE w.heap.size;have UC:nU w4 c gx nV (aj 2 s0 t0 v0 h0 p0):=by rw[hgx];exact⟨tC,HC _ lR⟩
 rw[<-Ai]at U4;rw[<-hgx]at Ai;have HGy:=zD Ai;have mL:=zD hgx;rw[<-hgx,<-Ai];clear hgx Ai;go_loopw[51] (λi wr=>∃(j:Nat)(cr:bh),j<=m/\i = I6 j/\jd wr cr g A m cap ps gt bt fp ks (oY s t0 j)/\ae dO w4 wr c cr/\nU wr cr gy mi di/\nU wr cr gx nV (aj 2 s0 t0 v0 h0 p0)) (λi _=>m-(intOf i).toNat)
 case atStart=>exact⟨0,c,aB6 _,rfl,by rw[Lx];exact Z4,ae.refl _ _ _ F4,U4,UC⟩
 case round=>
  obtain⟨j,cr,hj,rfl,hz,ht,hu1,iO⟩:=hrel;have HZ:=hz;have HT:=ht;have HU1:=hu1;have HU2:=iO;clear hz ht hu1 iO
  by_cases hlt:j<m
  ·obtain⟨b,off,q,hA,hq,hb,h4⟩:=ag.at_ HZ.strs.sl hlt
   have t0':=h4 0 _ rfl;simp only[aW6,aH9]at t0';have:(j:Int)<(m:Int):=oM
   have xi:j<s.strs.length:=oH HNs
   have HQj:=hq;have:=HU2.blk.z 2 (I6 t0);have HTr:=Hz t0 wr (show dN wr cr j q (s.str j)from by rw[<-(CB (t:=t0) xi).1];exact HZ.strs.str j q hq) HT.fresh (HGs j xi) (oH HN);have HJl:=xi;subst hA;clear h4 hq hb xi;go_wp2_with(go_at_call 70;refine HTr.mono ?_;rintro e w6 ⟨c6,z6,rfl,uZ,ux⟩;have N6:=HZ.str HQj ux uZ;have T6:=HT.trans (ux.mono (T2:=dO) λt e=>.st e) eu;have U61:=HU1.step ux;have U62:=HU2.step ux;clear uZ ux);go_roundw
   case rel=>exact⟨j+1,c6,oM,by go_num,(CB HJl).2▸N6,T6,U61,U62⟩
   case measure=>simp[intOf];omega
  ·obtain rfl:j=m:=oM
   go_wp2_with(refine zJ HU1.blk ?_;intro w9 X9 G9);refine zU X9 underlying70 ?_;have UG:=ah.bE G9;refine⟨cr,(by rw[HQ.out];first|done|rfl),?_,((ae.aa dO c HC (zT EX B4)).trans HT eu).own UG (λj hj=>by rw[hj,HGy.out,mL.out];exact aC5 _)⟩;rw[HQ.out];have hz:=HZ;rw[show oY s t0 j = {s with strs:=s.strs.map λx=>x.trim t0} from by rw[HNs];exact Qs s t0]at hz;exact cG.off ⟨A,j,cap,ps,gt,bt,fp,ks,hz⟩ UG (λj hj=>hj▸HU1.no)
def Vg(x:ak)(h:cG w c g s)(hc:∀k,w.heap.size<=k->c k=none)(ho:qj s n k)(hx:bM x)(hn:n<=30000)(hk:k<=40):
 Calls prog 23 #[pt g,.agg (aj x.k x.s x.t x.v x.h x.p)] w (UO c g (s.do x) w):=by
 by_cases he:x.err=0
 ·have:1<=x.k/\x.k<=8:=by
   have h1:bJ x.k x.s x.t x.v x.p=0:=he;unfold bJ at h1
   by_cases h2:x.k<1\/8<x.k
   ·rw[if_pos h2]at h1;cases h1
   ·omega
  by_cases h2:x.k=2
  ·exact Bf x h hc ho hx hn hk he h2
  ·exact Be x h hc ho hx hn hk he oM
 ·exact DT x h hc ho hx hn hk he
section
section
variable{S:Nat->Prop}{w w' : World}{B o:Nat}{ty:TypeId}{cs cs' : Array Value}
def mA.row{v:Value}{l:Lk}(h:mA w B o ty cs v l)(hb:ai w' B ty cs')(h0:cs'[o]? = cs[o]?)(h1:cs'[o+1]? = cs[o+1]?)(h2:cs'[o+2]? = cs[o+2]?)(hu:ah S w w')(hS:∀k,v.ownBlock=some k->¬S k):mA w' B o ty cs' v l:=
 ⟨hb,h0.trans h.c0,h1.trans h.c1,h2.trans h.c2,h.own.upd hu hS,h.ne⟩
def tZ.row{v va:Value}{m:Mo}(h:tZ w B o ty cs v va m)(hb:ai w' B ty cs')(h0:∀i,o<=i->i<o+4->cs'[i]? = cs[i]?)(hu:ah S w w')(hS:∀k,v.ownBlock=some k->¬S k)(hSa:∀k,va.ownBlock=some k->¬S k):tZ w' B o ty cs' v va m:=
 ⟨h.lk.row hb (h0 o oM oM) (h0 _ oM oM) (h0 _ oM oM) hu hS,(h0 _ oM oM).trans h.c3,h.own.upd hu hSa,h.ne⟩
def oF.row{vf vb vd vz:Value}{q:Wq}(h:oF w B o ty cs vf vb vd vz q)(hb:ai w' B ty cs')(h0:∀i,o<=i->i<o+5->cs'[i]? = cs[i]?)(hu:ah S w w')(hS:∀k,(vf.ownBlock=some k\/vb.ownBlock=some k)->¬S k)(hSm:∀k,(bB vd=some k\/bB vz=some k)->¬S k):oF w' B o ty cs' vf vb vd vz q:=
 ⟨⟨hb,(h0 _ oM oM).trans h.fi.c0,(h0 _ oM oM).trans h.fi.c1,h.fi.jw.upd hu (λk hk=>hS k (.inl hk)),h.fi.iG.upd hu (λk hk=>hS k (.inr hk)),h.fi.FX,h.fi.Aj,h.fi.apart⟩,
  (h0 _ oM oM).trans h.c2,(h0 _ oM oM).trans h.c3,(h0 _ oM oM).trans h.c4,h.ax.upd hu (λk hk=>hSm k (.inl hk)),h.busy.upd hu (λk hk=>hSm k (.inr hk)),h.apart,h.both⟩
end
abbrev zz:TypeId:=291
structure ng(w:World)(c:bh)(gl:Nat)(ls:Array Value)(lv:List Value)(L:List Lk):Prop where
 len:lv.length=L.length
 cg:c gl=some (.at_ 11)
 blk:ai w gl Np ls
 lk:∀i v l,lv[i]? = some v->L[i]? = some l->mA w gl (i*3) Np ls v l
 GC:∀i v k,lv[i]? = some v->v.ownBlock=some k->c k=some (.ln i)
structure nL(w:World)(c:bh)(g:Nat)(cs:Array Value)(gs gl:Nat)(ls:Array Value)(lv:List Value)(v va vf vb vd vz ve:Value)(W:Gw):Prop where
 blk:ai w g zz cs
 cg:c g=some (.at_ 10)
 c0:cs[0]? = some (I6 W.aG.cfg.str)
 c1:cs[1]? = some (I6 W.aG.cfg.dE)
 c2:cs[2]? = some (I6 W.aG.cfg.lW)
 c3:cs[3]? = some (I6 W.aG.cfg.iI)
 c4:cs[4]? = some (pt gs)
 c5:cs[5]? = some (.slice (some ⟨gl,0,none⟩) W.ay.length W.ay.length)
 c15:cs[15]? = some ve
 mo:tZ w g 6 zz cs v va W.mo
 wq:oF w g 10 zz cs vf vb vd vz W.wq
 evs:aK w 0 eL 34 Ev.cells ve W.evs
 aG:cG w c gs W.aG
 ay:ng w c gl ls lv W.ay
 cv:∀k,v.ownBlock=some k->c k=some (.at_ 12)
 Xt:∀k,va.ownBlock=some k->c k=some (.at_ 13)
 cf:∀k,(vf.ownBlock=some k\/vb.ownBlock=some k)->c k=some (.at_ 14)
 cm:∀k,(bB vd=some k\/bB vz=some k)->c k=some (.at_ 15)
 ce:∀k,ve.ownBlock=some k->c k=some (.at_ 16)
def bD(w:World)(c:bh)(g:Nat)(W:Gw):Prop:=∃cs gs gl ls lv v va vf vb vd vz ve,nL w c g cs gs gl ls lv v va vf vb vd vz ve W
def dL(t:Tag):Prop:=dO t\/(∃n,10<=n/\n<=16/\t=.at_ n)\/∃i,t=.ln i
def aB:¬dL .nS:=by
 rintro(h|⟨n,-,-,h⟩|⟨i,h⟩)
 ·exact eu h
 ·cases h
 ·cases h
def dL.at_(h1:10<=n)(h2:n<=16):dL (.at_ n):=.inr (.inl ⟨n,h1,h2,rfl⟩)
def fB(h:3<=n): ¬dO (.at_ n):=by
 rintro(h1|h1|h1|⟨i,h1⟩)
 ·injection h1;omega
 ·injection h1;omega
 ·injection h1;omega
 ·exact km i n h1
def NR: ¬dO (.ln i):=by
 rintro(h1|h1|h1|⟨j,h1|⟨k,h1⟩⟩)<;>cases h1
section
variable{T:Tag->Prop}{S:Nat->Prop}{w w' : World}{c c' : bh}{g:Nat}{cs:Array Value}{gs gl:Nat}{ls:Array Value}{lv:List Value}{v va vf vb vd vz ve:Value}{W:Gw}
def ng.step{L:List Lk}(h:ng w c gl ls lv L)(hs:ae T w w' c c')(h1:¬T (.at_ 11))(h2:∀i,¬T (.ln i)):ng w' c' gl ls lv L:=
 ⟨h.len,hs.keep h.blk.lt h.cg h1,hs.blk h.blk h.cg h1,λi v l hv hl=>(h.lk i v l hv hl).row (hs.blk h.blk h.cg h1) rfl rfl rfl hs.upd (λk hk=>ae.lX (S:=λ_=>True) (h.GC i v k hv hk) (h2 i)),
  λi v k hv hk=>by
   obtain⟨l,hl⟩:∃l,L[i]? = some l:=⟨_,aB3 (h.len▸(d9.1 hv).1)⟩
   exact hs.keep ((h.lk i v l hv hl).own.lt k hk).2 (h.GC i v k hv hk) (h2 i)⟩
def ng.call{L:List Lk}(h:ng w c gl ls lv L)(hb:Bl w w'):ng w' c gl ls lv L:=⟨h.len,h.cg,h.blk.call hb,λi v l hv hl=>(h.lk i v l hv hl).call hb,h.GC⟩
def nL.step(h:nL w c g cs gs gl ls lv v va vf vb vd vz ve W)(hs:ae T w w' c c')(h1:∀t,dL t->¬T t)(h2:¬T .nS):nL w' c' g cs gs gl ls lv v va vf vb vd vz ve W:=by
 have ha:∀n,10<=n->n<=16->¬T (.at_ n):=λn a b=>h1 _ (dL.at_ a b)
 have hb:=hs.blk h.blk h.cg (ha 10 oM oM);have ms:∀{k:Nat} {t:Tag},c k=some t->¬T t->¬∃t',c k=some t'/\T t':=λe ht=>ae.lX (S:=λ_=>True) e ht
 refine⟨hb,hs.keep h.blk.lt h.cg (ha 10 oM oM),h.c0,h.c1,h.c2,h.c3,h.c4,h.c5,h.c15,h.mo.row hb (λ_ _ _=>rfl) hs.upd (λk hk=>ms (h.cv k hk) (ha 12 oM oM)) (λk hk=>ms (h.Xt k hk) (ha 13 oM oM)),
  h.wq.row hb (λ_ _ _=>rfl) hs.upd (λk hk=>ms (h.cf k hk) (ha 14 oM oM)) (λk hk=>ms (h.cm k hk) (ha 15 oM oM)),h.evs.upd hs.upd (λk hk=>ms (h.ce k hk) (ha 16 oM oM)),
  h.aG.step hs (λt ht=>h1 t (.inl ht)) h2,h.ay.step hs (ha 11 oM oM) (λi=>h1 _ (.inr (.inr ⟨i,rfl⟩))),λk hk=>hs.keep (h.mo.lk.own.lt k hk).2 (h.cv k hk) (ha 12 oM oM),λk hk=>hs.keep (h.mo.own.lt k hk).2 (h.Xt k hk) (ha 13 oM oM),λk hk=>?_,λk hk=>?_,λk hk=>hs.keep (h.evs.lt k hk).2 (h.ce k hk) (ha 16 oM oM)⟩
 ·refine hs.keep ?_ (h.cf k hk) (ha 14 oM oM)
  rcases hk with hk|hk
  ·exact(h.wq.fi.jw.lt k hk).2
  ·exact(h.wq.fi.iG.lt k hk).2
 ·refine hs.keep ?_ (h.cm k hk) (ha 15 oM oM)
  rcases hk with hk|hk
  ·exact h.wq.ax.lt k hk
  ·exact h.wq.busy.lt k hk
def nL.call(h:nL w c g cs gs gl ls lv v va vf vb vd vz ve W)(hb:Bl w w'):nL w' c g cs gs gl ls lv v va vf vb vd vz ve W:=
 ⟨h.blk.call hb,h.cg,h.c0,h.c1,h.c2,h.c3,h.c4,h.c5,h.c15,h.mo.call hb,h.wq.call hb,h.evs.call hb,h.aG.call hb,h.ay.call hb,h.cv,h.Xt,h.cf,h.cm,h.ce⟩
def bD.step(h:bD w c g W)(hs:ae T w w' c c')(h1:∀t,dL t->¬T t)(h2:¬T .nS):bD w' c' g W:=by
 obtain⟨cs,gs,gl,ls,lv,v,va,vf,vb,vd,vz,ve,h⟩:=h;exact⟨cs,gs,gl,ls,lv,v,va,vf,vb,vd,vz,ve,h.step hs h1 h2⟩
def bD.call(h:bD w c g W)(hb:Bl w w'):bD w' c g W:=by
 obtain⟨cs,gs,gl,ls,lv,v,va,vf,vb,vd,vz,ve,h⟩:=h;exact⟨cs,gs,gl,ls,lv,v,va,vf,vb,vd,vz,ve,h.call hb⟩
end
end
section
def ae.grow{S:Nat->Prop}{T:Tag->Prop}{w w' : World}{c:bh}{t:Tag}(hu:ah S w w')(hS:∀k,S k->∃t,c k=some t/\T t)(hT:T t)(N:Nat->Prop)(hN:∀k,N k->c k=some t\/w.heap.size<=k)(Th:∀k,N k->k<w'.heap.size)(hc:∀k,w.heap.size<=k->c k=none):ae T w w' c (ft N t c):=by
 refine⟨hu.mono hS,λk hk hn=>?_,λk t' hk e=>?_,λk hk=>?_⟩
 ·by_cases h:N k
  ·rw[bw h]
   rcases hN k h with e|e
   ·exact e.symm
   ·omega
  ·exact aC h
 ·by_cases h:N k
  ·rw[bw h]at e;injection e with e;subst e;exact .inl hT
  ·rw[aC h]at e
   rcases hk with hk|⟨t2,e2,oD⟩
   ·rw[hc k hk]at e;cases e
   ·rw[e2]at e;injection e with e;subst e;exact .inl oD
 ·by_cases h:N k
  ·exact absurd (Th k h) oM
  ·rw[aC h];exact hc k (aB4 hu.size hk)
section
variable{T:Tag->Prop}{w w' : World}{c c' : bh}{g:Nat}{cs cs' : Array Value}{gs gl:Nat}{ls ls' : Array Value}{lv:List Value}{v va vf vb vd vz ve v' rq tv tx Ch Ci Y0 : Value}{W:Gw}
def nL.DV(h:nL w c g cs gs gl ls lv v va vf vb vd vz ve W)(hs:ae T w w' c c')(hb:ai w' g zz cs')(h0:∀i,6<=i->i<10->cs'[i]? = cs[i]?)(h1:¬T (.at_ 12))(h2:¬T (.at_ 13)):tZ w' g 6 zz cs' v va W.mo/\(∀k,v.ownBlock=some k->c' k=some (.at_ 12))/\(∀k,va.ownBlock=some k->c' k=some (.at_ 13)):=
 ⟨h.mo.row hb (λi a b=>h0 i a b) hs.upd (λk hk=>ae.lX (S:=λ_=>True) (h.cv k hk) h1) (λk hk=>ae.lX (S:=λ_=>True) (h.Xt k hk) h2),λk hk=>hs.keep (h.mo.lk.own.lt k hk).2 (h.cv k hk) h1,λk hk=>hs.keep (h.mo.own.lt k hk).2 (h.Xt k hk) h2⟩
def nL.DW(h:nL w c g cs gs gl ls lv v va vf vb vd vz ve W)(hs:ae T w w' c c')(hb:ai w' g zz cs')(h0:∀i,10<=i->i<15->cs'[i]? = cs[i]?)(h1:¬T (.at_ 14))(h2:¬T (.at_ 15)):oF w' g 10 zz cs' vf vb vd vz W.wq/\(∀k,(vf.ownBlock=some k\/vb.ownBlock=some k)->c' k=some (.at_ 14))/\(∀k,(bB vd=some k\/bB vz=some k)->c' k=some (.at_ 15)):=by
 refine⟨h.wq.row hb (λi a b=>h0 i a b) hs.upd (λk hk=>ae.lX (S:=λ_=>True) (h.cf k hk) h1) (λk hk=>ae.lX (S:=λ_=>True) (h.cm k hk) h2),λk hk=>hs.keep ?_ (h.cf k hk) h1,λk hk=>hs.keep ?_ (h.cm k hk) h2⟩
 ·rcases hk with hk|hk
  ·exact(h.wq.fi.jw.lt k hk).2
  ·exact(h.wq.fi.iG.lt k hk).2
 ·rcases hk with hk|hk
  ·exact h.wq.ax.lt k hk
  ·exact h.wq.busy.lt k hk
def nL.DX(h:nL w c g cs gs gl ls lv v va vf vb vd vz ve W)(hs:ae T w w' c c')(h1:¬T (.at_ 16)):aK w' 0 eL 34 Ev.cells ve W.evs/\(∀k,ve.ownBlock=some k->c' k=some (.at_ 16)):=
 ⟨h.evs.upd hs.upd (λk hk=>ae.lX (S:=λ_=>True) (h.ce k hk) h1),λk hk=>hs.keep (h.evs.lt k hk).2 (h.ce k hk) h1⟩
def dL.st{t:Tag}(h:dO t):dL t:=.inl h
def nL.Y9{s' : aL}(h:nL w c g cs gs gl ls lv v va vf vb vd vz ve W)(hs:ae dO w w' c c')(hz:cG w' c' gs s')(zv:s'.cfg=W.aG.cfg):nL w' c' g cs gs gl ls lv v va vf vb vd vz ve {W with aG:=s'}/\ae dL w w' c c':=by
 have hb:=hs.blk h.blk h.cg (fB oM);obtain⟨m1,m2,m3⟩:=h.DV hs hb (λ_ _ _=>rfl) (fB oM) (fB oM);obtain⟨q1,q2,q3⟩:=h.DW hs hb (λ_ _ _=>rfl) (fB oM) (fB oM);obtain⟨e1,e2⟩:=h.DX hs (fB oM);exact⟨⟨hb,hs.keep h.blk.lt h.cg (fB oM),by simp only[zv];exact h.c0,by simp only[zv];exact h.c1,by simp only[zv];exact h.c2,by simp only[zv];exact h.c3,h.c4,h.c5,h.c15,m1,q1,e1,hz,h.ay.step hs (fB oM) (λi=>NR),m2,m3,q2,q3,e2⟩,hs.mono λt e=>.inl e⟩
def nL.Vh{u u' : Value}{l' : Lk}(h:nL w c g cs gs gl ls lv v va vf vb vd vz ve W)(hu:lv[i]? = some u)(hi:i<W.ay.length)(hs:bW w w' gl (i*3) Np ls u ls' u' l')(hc:∀k,w.heap.size<=k->c k=none):
 ∃c',nL w' c' g cs gs gl ls' (lv.set i u') v va vf vb vd vz ve {W with ay:=W.ay.set i l'}/\ae dL w w' c c':=by
 obtain⟨T1,nh⟩:∃T1:Tag->Prop,T1=λt=>t=.at_ 11\/t=.ln i:=⟨_,rfl⟩
 have na:∀n,n≠11->¬T1 (.at_ n):=λn hn e=>by rw[nh]at e;rcases e with e|e;(injection e with e;exact hn e);cases e
 have nf:¬T1 .nS:=by rw[nh];rintro(e|e)<;>cases e
 have t11:T1 (.at_ 11):=by rw[nh];exact .inl rfl
 have tl:T1 (.ln i):=by rw[nh];exact .inr rfl
 have nl:∀j,j≠i->¬T1 (.ln j):=λj hj e=>by rw[nh]at e;rcases e with e|e;cases e;injection e with e;exact hj e
 have ns:∀t,dO t->¬T1 t:=λt ht e=>by rw[nh]at e;rcases e with rfl|rfl;exact fB oM ht;exact NR ht
 have hst:ae T1 w w' c (ft (λk=>u'.ownBlock=some k) (.ln i) c):=by
  refine ae.grow hs.upd (λk hk=>?_) tl _ (λk hk=>?_) (λk hk=>(hs.lk.own.lt k hk).2) hc
  ·rcases hk with rfl|hk
   ·exact⟨_,h.ay.cg,t11⟩
   ·exact⟨_,h.ay.GC i u k hu hk,tl⟩
  ·rcases hs.own with e|⟨g',e,hg⟩
   ·rw[e]at hk;exact .inl (h.ay.GC i u k hu hk)
   ·rw[e]at hk;injection hk with hk;subst hk;exact .inr hg
 have hb:=hst.blk h.blk h.cg (na 10 oM);obtain⟨m1,m2,m3⟩:=h.DV hst hb (λ_ _ _=>rfl) (na 12 oM) (na 13 oM);obtain⟨q1,q2,q3⟩:=h.DW hst hb (λ_ _ _=>rfl) (na 14 oM) (na 15 oM);obtain⟨e1,e2⟩:=h.DX hst (na 16 oM);have OG:=h.ay.len;refine⟨_,⟨hb,hst.keep h.blk.lt h.cg (na 10 oM),h.c0,h.c1,h.c2,h.c3,h.c4,by simpa using h.c5,h.c15,m1,q1,e1,h.aG.step hst ns nf,⟨by simp[OG],?_,hs.lk.blk,λj u2 l2 iO hl2=>?_,λj u2 k iO hk=>?_⟩,m2,m3,q2,q3,e2⟩,hst.mono λt e=>by rw[nh]at e;rcases e with rfl|rfl;exact dL.at_ oM oM;exact .inr (.inr ⟨i,rfl⟩)⟩
 ·by_cases e:u'.ownBlock=some gl
  ·exact absurd e hs.lk.ne
  ·rw[aC e];exact h.ay.cg
 ·by_cases e:i=j
  ·subst e
   rw[aG1,if_pos rfl,if_pos oM]at iO hl2;injection iO with iO;injection hl2 with hl2
   subst iO;subst hl2;exact hs.lk
  ·rw[aG1,if_neg e]at iO hl2
   refine(h.ay.lk j u2 l2 iO hl2).row hs.lk.blk (hs.rest _ oM oM oM) (hs.rest _ oM oM oM) (hs.rest _ oM oM oM) hst.upd (λk hk=>ae.lX (S:=λ_=>True) (h.ay.GC j u2 k iO hk) (nl j (λh=>e h.symm)))
 ·by_cases e:i=j
  ·subst e
   rw[aG1,if_pos rfl,if_pos oM]at iO;injection iO with iO;subst iO
   exact bw hk
  ·rw[aG1,if_neg e]at iO
   have:=(d9.1 iO).1;obtain⟨l2,hl2⟩:∃l,W.ay[j]? = some l:=⟨_,aB3 oM⟩
   exact hst.keep ((h.ay.lk j u2 l2 iO hl2).own.lt k hk).2 (h.ay.GC j u2 k iO hk) (nl j (λh=>e h.symm))
def nL.DY{m' : Mo}(h:nL w c g cs gs gl ls lv v va vf vb vd vz ve W)(hs:fV w w' g 6 zz cs v va cs' v' rq m')(hc:∀k,w.heap.size<=k->c k=none) :
 ∃c',nL w' c' g cs' gs gl ls lv v' rq vf vb vd vz ve {W with mo:=m'}/\ae dL w w' c c':=by
 obtain⟨T1,nh⟩:∃T1:Tag->Prop,T1=λt=>t=.at_ 10\/t=.at_ 12\/t=.at_ 13:=⟨_,rfl⟩
 have na:∀n,n≠10->n≠12->n≠13->¬T1 (.at_ n):=λn h1 h2 h3 e=>by rw[nh]at e;rcases e with e|e|e<;>(injection e with e;omega)
 have nf:¬T1 .nS:=by rw[nh];rintro(e|e|e)<;>cases e
 have t0:T1 (.at_ 10):=by rw[nh];exact .inl rfl
 have t2:T1 (.at_ 12):=by rw[nh];exact .inr (.inl rfl)
 have t3:T1 (.at_ 13):=by rw[nh];exact .inr (.inr rfl)
 have ns:∀t,dO t->¬T1 t:=λt ht e=>by rw[nh]at e;rcases e with rfl|rfl|rfl<;>exact fB oM ht
 have nl:∀j,¬T1 (.ln j):=λj e=>by rw[nh]at e;rcases e with e|e|e<;>cases e
 have hap:∀k,rq.ownBlock=some k->v'.ownBlock≠some k:=hs.mo.apart
 have DZ:ae T1 w w' c (ft (λk=>v'.ownBlock=some k) (.at_ 12) c):=by
  refine ae.grow hs.upd (λk hk=>?_) t2 _ (λk hk=>?_) (λk hk=>(hs.mo.lk.own.lt k hk).2) hc
  ·rcases hk with rfl|hk|hk
   ·exact⟨_,h.cg,t0⟩
   ·exact⟨_,h.cv k hk,t2⟩
   ·exact⟨_,h.Xt k hk,t3⟩
  ·rcases hs.own with e|⟨g',e,hg⟩
   ·rw[e]at hk;exact .inl (h.cv k hk)
   ·rw[e]at hk;injection hk with hk;subst hk;exact .inr hg
 have hst:ae T1 w w' c (ft (λk=>rq.ownBlock=some k) (.at_ 13) (ft (λk=>v'.ownBlock=some k) (.at_ 12) c)):=by
  refine⟨DZ.upd,λk hk hn=>?_,λk t' hk e=>?_,λk hk=>?_⟩
  ·by_cases hv:rq.ownBlock=some k
   ·rw[bw hv]
    rcases hs.PI with e|⟨g',e,hg⟩
    ·rw[e]at hv;exact(h.Xt k hv).symm
    ·rw[e]at hv;injection hv with hv;omega
   ·rw[aC hv];exact DZ.old k hk hn
  ·by_cases hv:rq.ownBlock=some k
   ·rw[bw hv]at e;injection e with e;subst e;exact .inl t3
   ·rw[aC hv]at e;exact DZ.new k t' hk e
  ·rw[aC (λhv=>oH (hs.mo.own.lt k hv).2)];exact DZ.fresh k hk
 obtain⟨q1,q2,q3⟩:=h.DW hst hs.mo.lk.blk (λi a b=>hs.rest i oM oM oM oM) (na 14 oM oM oM) (na 15 oM oM oM);obtain⟨e1,e2⟩:=h.DX hst (na 16 oM oM oM);have hr:∀i,i<6->cs'[i]? = cs[i]?:=λi hi=>hs.rest i oM oM oM oM
 refine⟨_,⟨hs.mo.lk.blk,?_,(hr 0 oM).trans h.c0,(hr 1 oM).trans h.c1,(hr 2 oM).trans h.c2,(hr 3 oM).trans h.c3,(hr 4 oM).trans h.c4,(hr 5 oM).trans h.c5,(hs.rest 15 oM oM oM oM).trans h.c15,hs.mo,q1,e1,h.aG.step hst ns nf,h.ay.step hst (na 11 oM oM oM) nl,λk hk=>?_,λk hk=>bw hk,q2,q3,e2⟩,hst.mono λt e=>by rw[nh]at e;rcases e with rfl|rfl|rfl<;>exact dL.at_ oM oM⟩
 ·rw[aC (λe=>hs.mo.ne e),aC (λe=>hs.mo.lk.ne e)];exact h.cg
 ·rw[aC (λe=>hap k e hk)];exact bw hk
def nL.Ea{q' : Wq}(h:nL w c g cs gs gl ls lv v va vf vb vd vz ve W)(hs:eC w w' g 10 zz cs vf vb vd vz cs' tv tx Ch Ci q')(hc:∀k,w.heap.size<=k->c k=none) :
 ∃c',nL w' c' g cs' gs gl ls lv v va tv tx Ch Ci ve {W with wq:=q'}/\ae dL w w' c c':=by
 obtain⟨T1,nh⟩:∃T1:Tag->Prop,T1=λt=>t=.at_ 10\/t=.at_ 14\/t=.at_ 15:=⟨_,rfl⟩
 have na:∀n,n≠10->n≠14->n≠15->¬T1 (.at_ n):=λn h1 h2 h3 e=>by rw[nh]at e;rcases e with e|e|e<;>(injection e with e;omega)
 have nf:¬T1 .nS:=by rw[nh];rintro(e|e|e)<;>cases e
 have t0:T1 (.at_ 10):=by rw[nh];exact .inl rfl
 have t2:T1 (.at_ 14):=by rw[nh];exact .inr (.inl rfl)
 have t3:T1 (.at_ 15):=by rw[nh];exact .inr (.inr rfl)
 have ns:∀t,dO t->¬T1 t:=λt ht e=>by rw[nh]at e;rcases e with rfl|rfl|rfl<;>exact fB oM ht
 have nl:∀j,¬T1 (.ln j):=λj e=>by rw[nh]at e;rcases e with e|e|e<;>cases e
 have hap:∀k,(bB Ch = some k\/bB Ci = some k)->¬(tv.ownBlock=some k\/tx.ownBlock=some k):=λk hk e=>by
  rcases hk with hk|hk
  ·rcases e with e|e
   ·exact hs.wq.ax.own hs.wq.fi.jw k e hk
   ·exact hs.wq.ax.own hs.wq.fi.iG k e hk
  ·rcases e with e|e
   ·exact hs.wq.busy.own hs.wq.fi.jw k e hk
   ·exact hs.wq.busy.own hs.wq.fi.iG k e hk
 have lt1:∀k,(tv.ownBlock=some k\/tx.ownBlock=some k)->k<w'.heap.size:=λk hk=>by
  rcases hk with hk|hk
  ·exact(hs.wq.fi.jw.lt k hk).2
  ·exact(hs.wq.fi.iG.lt k hk).2
 have lt2:∀k,(bB Ch = some k\/bB Ci = some k)->k<w'.heap.size:=λk hk=>by
  rcases hk with hk|hk
  ·exact hs.wq.ax.lt k hk
  ·exact hs.wq.busy.lt k hk
 have DZ:ae T1 w w' c (ft (λk=>tv.ownBlock=some k\/tx.ownBlock=some k) (.at_ 14) c):=by
  refine ae.grow hs.upd (λk hk=>?_) t2 _ (λk hk=>?_) lt1 hc
  ·rcases hk with rfl|hk|hk|hk|hk
   ·exact⟨_,h.cg,t0⟩
   ·exact⟨_,h.cf k (.inl hk),t2⟩
   ·exact⟨_,h.cf k (.inr hk),t2⟩
   ·exact⟨_,h.cm k (.inl hk),t3⟩
   ·exact⟨_,h.cm k (.inr hk),t3⟩
  ·rcases hs.own k hk with e|e|e
   ·exact .inl (h.cf k (.inl e))
   ·exact .inl (h.cf k (.inr e))
   ·exact .inr e
 have hst:ae T1 w w' c (ft (λk=>bB Ch = some k\/bB Ci = some k) (.at_ 15) (ft (λk=>tv.ownBlock=some k\/tx.ownBlock=some k) (.at_ 14) c)):=by
  refine⟨DZ.upd,λk hk hn=>?_,λk t' hk e=>?_,λk hk=>?_⟩
  ·by_cases hv:bB Ch = some k\/bB Ci = some k
   ·rw[bw (N:=λk=>bB Ch = some k\/bB Ci = some k) hv]
    rcases hs.maps k hv with e|e|e
    ·exact(h.cm k (.inl e)).symm
    ·exact(h.cm k (.inr e)).symm
    ·omega
   ·rw[aC (N:=λk=>bB Ch = some k\/bB Ci = some k) hv];exact DZ.old k hk hn
  ·by_cases hv:bB Ch = some k\/bB Ci = some k
   ·rw[bw (N:=λk=>bB Ch = some k\/bB Ci = some k) hv]at e;injection e with e;subst e;exact .inl t3
   ·rw[aC (N:=λk=>bB Ch = some k\/bB Ci = some k) hv]at e;exact DZ.new k t' hk e
  ·rw[aC (λhv=>oH (lt2 k hv))];exact DZ.fresh k hk
 obtain⟨m1,m2,m3⟩:=h.DV hst hs.wq.blk (λi a b=>hs.rest i oM oM oM oM oM) (na 12 oM oM oM) (na 13 oM oM oM);obtain⟨e1,e2⟩:=h.DX hst (na 16 oM oM oM);have hr:∀i,i<6->cs'[i]? = cs[i]?:=λi hi=>hs.rest i oM oM oM oM oM
 refine⟨_,⟨hs.wq.blk,?_,(hr 0 oM).trans h.c0,(hr 1 oM).trans h.c1,(hr 2 oM).trans h.c2,(hr 3 oM).trans h.c3,(hr 4 oM).trans h.c4,(hr 5 oM).trans h.c5,(hs.rest 15 oM oM oM oM oM).trans h.c15,m1,hs.wq,e1,h.aG.step hst ns nf,h.ay.step hst (na 11 oM oM oM) nl,m2,m3,λk hk=>?_,λk hk=>bw hk,e2⟩,hst.mono λt e=>by rw[nh]at e;rcases e with rfl|rfl|rfl<;>exact dL.at_ oM oM⟩
 ·rw[aC (λe=>by rcases e with e|e;exact hs.wq.ax.cells hs.wq.blk e;exact hs.wq.busy.cells hs.wq.blk e),aC (λe=>by rcases e with e|e;exact hs.wq.fi.FX e;exact hs.wq.fi.Aj e)];exact h.cg
 ·rw[aC (λe=>hap k e hk)];exact bw hk
end
end
section
section
variable{w:World}{c:bh}{g:Nat}{cs:Array Value}{gs gl:Nat}{ls:Array Value}{lv:List Value}{v va vf vb vd vz ve:Value}{W:Gw}
theorem kS(h:nL w c g cs gs gl ls lv v va vf vb vd vz ve W):Calls prog 173 #[pt g] w λe w'=>e=.returned (.bool true)/\w=w':=by
 have:=h.blk.ar h.c4;clear h;go_enter func173,ntmps173;go_wp2;go_ret;exact⟨rfl,rfl⟩
theorem Qt(h:nL w c g cs gs gl ls lv v va vf vb vd vz ve W):Calls prog 337 #[pt g] w (Rt (.agg W.aG.cfg.row) (Bl w)):=by
 have B0:=(show Bl w (w.alloc (.cells #[I6 0,I6 0,I6 0,I6 0] 23)) by go_grown);have H:=h.call B0;have HM:=kS H;have:=H.blk.ar H.c0;have:=H.blk.ar H.c1;have:=H.blk.ar H.c2;have:=H.blk.ar H.c3;clear h H;go_enter func337,ntmps337;go_wp2_with(first
  |go_at_call 173;refine HM.mono ?_;rintro e w1 ⟨rfl,rfl⟩
  |(refine zJ (ai.new w 23 #[I6 0,I6 0,I6 0,I6 0]) ?_;intro w9 X9 G9))
 refine zU X9 underlying23 ?_;exact⟨rfl,B0.grown G9 B0.size (λj e=>by injection e with e;omega)⟩
theorem Vi(h:nL w c g cs gs gl ls lv v va vf vb vd vz ve W):Calls prog 160 #[pt g] w λe w'=>e=.returned (pt gs)/\w=w':=by
 have HM:=kS h;have:=h.blk.ar h.c4;clear h;go_enter func160,ntmps160;go_wp2_with(go_at_call 173;refine HM.mono ?_;rintro e w1 ⟨rfl,rfl⟩);go_ret;exact⟨rfl,rfl⟩
theorem Vj(h:nL w c g cs gs gl ls lv v va vf vb vd vz ve W):Calls prog 116 #[pt g] w λe w'=>e=.returned (.pointer (some ⟨g,10,none⟩))/\w=w':=by
 have HM:=kS h;clear h;go_enter func116,ntmps116;go_wp2_with(go_at_call 173;refine HM.mono ?_;rintro e w1 ⟨rfl,rfl⟩);go_ret;exact⟨rfl,rfl⟩
theorem yB(h:nL w c g cs gs gl ls lv v va vf vb vd vz ve W)(hl:W.ay.length<=1000):Calls prog 172 #[pt g] w λe w'=>e=.returned (I6 ((W.ay.length:Int)+1))/\w=w':=by
 have HM:=kS h;have:=h.blk.ar h.c5;clear h;generalize W.ay.length=L at *;go_enter func172,ntmps172;go_wp2_with(go_at_call 173;refine HM.mono ?_;rintro e w1 ⟨rfl,rfl⟩);go_ret;exact⟨rfl,rfl⟩
def qo(g gl:Nat)(L:Nat)(n:Int):Value:=if n<0\/(L:Int)<n then .pointer none else if n=L then .pointer (some ⟨g,6,none⟩)else .pointer (some ⟨gl,n.toNat*3,none⟩)
theorem Eb(h:nL w c g cs gs gl ls lv v va vf vb vd vz ve W)(hl:W.ay.length<=1000)(n:Int)(hn:aw n):Calls prog 252 #[pt g,I6 n] w λe w'=>e=.returned (qo g gl W.ay.length n)/\w=w':=by
 have HC:=yB h hl;have:=h.blk.ar h.c5;clear h;generalize W.ay.length=L at *
 by_cases h1:n<0
 ·have HQ:qo g gl L n=.pointer none:=if_pos (.inl h1)
  rw[HQ];go_enter func252,ntmps252;go_wp2_with(go_at_call 172;refine HC.mono ?_;rintro e w1 ⟨rfl,rfl⟩);go_ret;exact⟨rfl,rfl⟩
 ·obtain⟨m,rfl⟩:∃m:Nat,n=m:=⟨n.toNat,oM⟩
  by_cases h2:L<m
  ·have HQ:qo g gl L m=.pointer none:=if_pos (.inr oM)
   rw[HQ];have:decide ((L:Int)+1<=(m:Int))=true:=by simp;omega
   go_enter func252,ntmps252;go_wp2_with(go_at_call 172;refine HC.mono ?_;rintro e w1 ⟨rfl,rfl⟩);go_ret;exact⟨rfl,rfl⟩
  ·have:decide ((L:Int)+1<=(m:Int))=false:=by simp;omega
   by_cases h3:m=L
   ·subst h3
    have HQ:qo g gl m m=.pointer (some ⟨g,6,none⟩):=by unfold qo;rw[if_neg oM,if_pos rfl]
    rw[HQ];go_enter func252,ntmps252;go_wp2_with(go_at_call 172;refine HC.mono ?_;rintro e w1 ⟨rfl,rfl⟩);go_ret;exact⟨rfl,rfl⟩
   ·have HQ:qo g gl L m=.pointer (some ⟨gl,m*3,none⟩):=by unfold qo;rw[if_neg oM,if_neg oM];rfl
    rw[HQ];have:((m:Int)==(L:Int))=false:=by simp;omega
    have:(m:Int)<(L:Int):=oM
    go_enter func252,ntmps252;go_wp2_with(go_at_call 172;refine HC.mono ?_;rintro e w1 ⟨rfl,rfl⟩);go_ret;exact⟨rfl,rfl⟩
end
end
section
def zF(c:bh)(g:Nat)(W:Gw)(w w' : World):Prop:=∃c',bD w' c' g W/\ae dL w w' c c'
def zF.same{c:bh}{g:Nat}{W:Gw}{w w' : World}(h:bD w c g W)(hb:Bl w w')(hc:∀k,w.heap.size<=k->c k=none):zF c g W w w':=⟨c,h.call hb,ae.aa _ _ hc hb⟩
section
variable{w:World}{c:bh}{g:Nat}{cs:Array Value}{gs gl:Nat}{ls:Array Value}{lv:List Value}{v va vf vb vd vz ve:Value}{W:Gw}
def uy(h:nL w c g cs gs gl ls lv v va vf vb vd vz ve W)(n:Int) :
 (W.lock n=none/\qo g gl W.ay.length n=.pointer none)\/∃(B o:Nat)(ty:TypeId)(cs1:Array Value)(v1:Value)(l:Lk),W.lock n=some l/\qo g gl W.ay.length n=.pointer (some ⟨B,o,none⟩)/\mA w B o ty cs1 v1 l/\
  ∀w' Am v2 l',bW w w' B o ty cs1 v1 Am v2 l'->(∀k,w.heap.size<=k->c k=none)->zF c g (W.ed n l') w w':=by
 unfold Gw.lock qo Gw.ed
 by_cases h1:n<0\/(W.ay.length:Int)<n
 ·rw[if_pos h1,if_pos h1];exact .inl ⟨rfl,rfl⟩
 ·rw[if_neg h1,if_neg h1]
  right
  by_cases h2:n=(W.ay.length:Int)
  ·rw[if_pos h2,if_pos h2]
   refine⟨g,6,zz,cs,v,W.mo.lk,rfl,rfl,h.mo.lk,λw' Am v2 l' hs hc=>?_⟩;rw[if_pos h2];obtain⟨c',k1,k2⟩:=h.DY (h.mo.lock hs) hc;exact⟨c',⟨_,_,_,_,_,_,_,_,_,_,_,_,k1⟩,k2⟩
  ·rw[if_neg h2,if_neg h2]
   have hi:n.toNat<W.ay.length:=oM
   obtain⟨u,hu⟩:∃u,lv[n.toNat]? = some u:=⟨_,aB3 (by rw[h.ay.len];exact hi)⟩
   obtain⟨l,hl⟩:∃l,W.ay[n.toNat]? = some l:=⟨_,aB3 hi⟩
   refine⟨gl,n.toNat*3,Np,ls,u,l,hl,rfl,h.ay.lk _ u l hu hl,λw' Am v2 l' hs hc=>?_⟩;rw[if_neg h2];obtain⟨c',k1,k2⟩:=h.Vh hu hi hs hc;exact⟨c',⟨_,_,_,_,_,_,_,_,_,_,_,_,k1⟩,k2⟩
theorem Ec(h:bD w c g W)(hl:W.ay.length<=1000)(n t:Int)(hn:aw n)(ht:aw t):Calls prog 204 #[pt g,I6 n,I6 t] w λe w'=>e=.returned (I6 (W.held n t))/\w=w':=by
 obtain⟨cs,gs,gl,ls,lv,v,va,vf,vb,vd,vz,ve,h⟩:=h;have HK:=Eb h hl n hn;unfold Gw.held;rcases uy h n with⟨e1,e2⟩|⟨B,o,ty,cs1,v1,l,e1,e2,e3,-⟩
 ·rw[e1]
  rw[e2]at HK;have HH:=(λW=>vn t W ht);clear h e1 e2;go_enter func204,ntmps204;go_wp2_with(first
   |go_at_call 252;refine HK.mono ?_;rintro e w1 ⟨rfl,rfl⟩
   |(go_at_call 254;refine zN (HH _) ?_))
  go_ret;exact⟨rfl,rfl⟩
 ·rw[e1]
  rw[e2]at HK;have HH:=jy B o ty cs1 v1 l t w e3 ht;clear h e1 e2 e3;go_enter func204,ntmps204;go_wp2_with(first
   |go_at_call 252;refine HK.mono ?_;rintro e w1 ⟨rfl,rfl⟩
   |(go_at_call 254;refine HH.mono ?_;rintro e w1 ⟨rfl,rfl⟩))
  go_ret;exact⟨rfl,rfl⟩
theorem Vk(h:bD w c g W)(hc:∀k,w.heap.size<=k->c k=none)(hl:W.ay.length<=1000)(n t:Int)(wr:Bool)(hn:aw n)(ht:aw t)(hq:∀l,W.lock n=some l->l.line.length<=1000) :
 Calls prog 347 #[pt g,I6 n,I6 t,.bool wr] w λe w'=>∃er:Int,e=.returned (.tuple #[.bool (W.ask n t wr).1,I6 er])/\zF c g (W.ask n t wr).2 w w':=by
 have HW:=h;obtain⟨cs,gs,gl,ls,lv,v,va,vf,vb,vd,vz,ve,h⟩:=h;have HK:=Eb h hl n hn;have HC:=hc;unfold Gw.ask;rcases uy h n with⟨e1,e2⟩|⟨B,o,ty,cs1,v1,l,e1,e2,e3,e4⟩
 ·rw[e1]
  rw[e2]at HK;clear h e1 e2 hq hc;go_enter func347,ntmps347;go_wp2_with(first
   |go_at_call 252;refine HK.mono ?_;rintro e w1 ⟨rfl,rfl⟩
   |(go_at_call 353;refine zN (KF t wr _) ?_))
  go_ret2;exact⟨_,rfl,zF.same HW bR HC⟩
 ·rw[e1]
  rw[e2]at HK;have HH:=TJ B o ty cs1 v1 l t wr w e3 ht (hq l e1);have H4:=e4;obtain⟨R,hR⟩:=zE (oK l t wr);simp only[<-hR];rw[<-hR]at HH;clear h e1 e2 e3 e4 hq hc hR;go_enter func347,ntmps347;go_wp2_with(first
   |go_at_call 252;refine HK.mono ?_;rintro e w1 ⟨rfl,rfl⟩
   |(go_at_call 353;refine HH.mono ?_;rintro e w1 ⟨Am,v2,rfl,S1⟩))
  go_ret2;exact⟨_,rfl,H4 _ _ _ _ S1 HC⟩
theorem NS(h:bD w c g W)(hc:∀k,w.heap.size<=k->c k=none)(hl:W.ay.length<=1000)(n t:Int)(hn:aw n)(ht:aw t)(hq:∀l,W.lock n=some l->l.line.length<=1000/\∀x∈l.line,aw x.task) :
 Calls prog 342 #[pt g,I6 n,I6 t] w λe w'=>∃er:Int,e=.returned (I6 er)/\zF c g (W.drop n t) w w':=by
 have HW:=h;obtain⟨cs,gs,gl,ls,lv,v,va,vf,vb,vd,vz,ve,h⟩:=h;have HK:=Eb h hl n hn;have HC:=hc;unfold Gw.drop;rcases uy h n with⟨e1,e2⟩|⟨B,o,ty,cs1,v1,l,e1,e2,e3,e4⟩
 ·rw[e1]
  rw[e2]at HK;have HH:=(λW=>Hb t W ht);clear h e1 e2 hq hc;go_enter func342,ntmps342;go_wp2_with(first
   |go_at_call 252;refine HK.mono ?_;rintro e w1 ⟨rfl,rfl⟩
   |(go_at_call 350;refine zN (HH _) ?_))
  go_ret;exact⟨_,rfl,zF.same HW bR HC⟩
 ·rw[e1]
  rw[e2]at HK;have HH:=Ns B o ty cs1 v1 l t w e3 ht (hq l e1).1 (hq l e1).2;have H4:=e4;obtain⟨R,hR⟩:=zE (mb l t);simp only[<-hR];rw[<-hR]at HH;clear h e1 e2 e3 e4 hq hc hR;go_enter func342,ntmps342;go_wp2_with(first
   |go_at_call 252;refine HK.mono ?_;rintro e w1 ⟨rfl,rfl⟩
   |(go_at_call 350;refine HH.mono ?_;rintro e w1 ⟨Am,v2,A,n2,c2,rfl,S1⟩))
  go_ret;exact⟨_,rfl,H4 _ _ _ _ S1 HC⟩
end
end
section
section
variable{w:World}{c:bh}{g:Nat}{W:Gw}
theorem Vl(h:bD w c g W)(hc:∀k,w.heap.size<=k->c k=none)(t:Int)(ht:aw t)(hq:W.mo.lk.line.length<=1000/\∀x∈W.mo.lk.line,aw x.task)(ha:W.mo.asleep.length<=1000) :
 Calls prog 375 #[pt g,I6 t] w λe w'=>∃er:Int,e=.returned (I6 er)/\zF c g {W with mo:=lK W.mo t} w w':=by
 obtain⟨cs,gs,gl,ls,lv,v,va,vf,vb,vd,vz,ve,h⟩:=h;have HM:=kS h;have HS:=PJ g 6 zz cs v va W.mo t w h.mo ht hq.1 ha hq.2;have H:=h;have HC:=hc;clear h hc hq ha;go_enter func375,ntmps375;go_wp2_with(first
  |go_at_call 173;refine HM.mono ?_;rintro e w1 ⟨rfl,rfl⟩
  |(go_at_call 382;refine HS.mono ?_;rintro e w1 ⟨A,n,c1,x,rfl,cs',v',rq,hs⟩;have S1:=hs;clear hs))
 go_ret;obtain⟨c',k1,k2⟩:=H.DY S1 HC;exact⟨_,rfl,c',⟨_,_,_,_,_,_,_,_,_,_,_,_,k1⟩,k2⟩
def NT(h:bD w c g W)(hc:∀k,w.heap.size<=k->c k=none)(ha:∀x∈W.mo.asleep,aw x)(hl:W.mo.lk.line.length<=1000) :
 Calls prog 352 #[.pointer (some ⟨g,6,none⟩)] w λe w'=>∃t b,e=.returned (.tuple #[I6 t,.bool b])/\zF c g {W with mo:=iP W.mo} w w':=by
 obtain⟨cs,gs,gl,ls,lv,v,va,vf,vb,vd,vz,ve,h⟩:=h;refine(Hh g 6 zz cs v va W.mo w h.mo ha hl).mono ?_;rintro e w' ⟨t,b,rfl,-,cs',v',rq,hs⟩;obtain⟨c',k1,k2⟩:=h.DY hs hc;exact⟨t,b,rfl,c',⟨_,_,_,_,_,_,_,_,_,_,_,_,k1⟩,k2⟩
def Za(h:bD w c g W)(hc:∀k,w.heap.size<=k->c k=none)(k:Key)(hk:k.good)(hl:W.wq.fi.b.length<100000/\W.wq.ax.length<=100000) :
 Calls prog 351 #[.pointer (some ⟨g,10,none⟩),.agg k.row] w λe w'=>e=.returned (.bool (Ax W.wq k).1)/\zF c g {W with wq:=(Ax W.wq k).2} w w':=by
 obtain⟨cs,gs,gl,ls,lv,v,va,vf,vb,vd,vz,ve,h⟩:=h;refine(af9 g 10 zz cs vf vb vd vz W.wq k w h.wq hk hl).mono ?_;rintro e w' ⟨cs',f',b',d',z',rfl,hs⟩;obtain⟨c',k1,k2⟩:=h.Ea hs hc;exact⟨rfl,c',⟨_,_,_,_,_,_,_,_,_,_,_,_,k1⟩,k2⟩
def Vm(h:bD w c g W)(hc:∀k,w.heap.size<=k->c k=none)(k:Key)(hk:k.good)(hl:W.wq.fi.b.length<100000) :
 Calls prog 392 #[.pointer (some ⟨g,10,none⟩),.agg k.row] w λe w'=>e=.returned (.tuple #[.bool (oG W.wq k).1.1,I6 (oG W.wq k).1.2])/\zF c g {W with wq:=(oG W.wq k).2} w w':=by
 obtain⟨cs,gs,gl,ls,lv,v,va,vf,vb,vd,vz,ve,h⟩:=h;refine(Yt g 10 zz cs vf vb vd vz W.wq k w h.wq hk hl).mono ?_;rintro e w' ⟨cs',f',b',d',z',rfl,hs⟩;obtain⟨c',k1,k2⟩:=h.Ea hs hc;exact⟨rfl,c',⟨_,_,_,_,_,_,_,_,_,_,_,_,k1⟩,k2⟩
def iV(h:bD w c g W):Calls prog 116 #[pt g] w λe w'=>e=.returned (.pointer (some ⟨g,10,none⟩))/\w=w':=by
 obtain⟨cs,gs,gl,ls,lv,v,va,vf,vb,vd,vz,ve,h⟩:=h;exact Vj h
theorem ah9(h:bD w c g W)(hc:∀k,w.heap.size<=k->c k=none)(k:Key)(hk:k.good)(hl:W.wq.fi.b.length<100000/\W.wq.ax.length<=100000)(ha:∀x∈W.mo.asleep,aw x)(hq:W.mo.lk.line.length<=1000) :
 Calls prog 344 #[pt g,.agg k.row] w λe w'=>∃b,e=.returned (.bool b)/\zF c g (W.add k) w w':=by
 have EX:=zW w (.cells k.row aS);have CX:=ae.aa dL c hc EX;have BX:=ai.new w aS k.row;have H0:=h.call EX;have NX:=hc w.heap.size lR;have Zb:=(λW1 (hb:Below (w.alloc (.cells k.row aS)).heap.size (w.alloc (.cells k.row aS)) W1)=>Za (H0.call hb) (λj hj=>CX.fresh j (aB4 hb.size hj)) k hk hl);have HA:=ha;have HQ:=hq;unfold Gw.add;obtain⟨R,hR⟩:=zE (Ax W.wq k);simp only[<-hR];rw[<-hR]at Zb;obtain⟨Wn,hWn⟩:=zE (if R.1=true then {W with wq:=R.2,mo:=iP W.mo} else {W with wq:=R.2} : Gw);have HW:=zD hWn;rw[<-hWn];clear h hc hk hl EX hR ha hq hWn;go_enter func344,ntmps344;go_upto_region 1 with fail
 obtain⟨W0,hW0⟩:=zE (w.alloc (.cells k.row aS));obtain⟨gx,hgx⟩:=zE w.heap.size;rw[<-hW0]at CX BX H0 Zb |-;rw[<-hgx]at BX NX |-;clear hW0 hgx;refine zr (λ_=>false) (λwS=>ah (λj=>∃t,c j=some t/\dL t) W0 wS) ?_;have S0:=(ah.refl (λj=>∃t,c j=some t/\dL t) W0).drew;refine zk 3 [0,2] [_,_] (.c rfl rfl zp<|.c rfl rfl (zl λ_ h=>zb (BX.upd h (λ⟨t,e,_⟩=>by rw[NX]at e;cases e)) underlying83) .nil) S0 ?_;refine zQ 1 ?_;go_wp2_with(go_at_call 116;refine zN (iV (H0.call bR.drew)) ?_);refine .i S0 ?_;refine zQ 3 ?_;go_wp2_with(go_at_call 351;refine(Zb _ bR.drew).mono ?_;rintro e w4 ⟨rfl,c4,G4,T4⟩);refine .i (S0.trans T4.upd iL) ?_;have S4:=S0.trans T4.upd iL;refine zq 0 [4] [.bool (!R.1)] S4 ?_;refine zd ?_;have T5:=(CX.trans (ae.aa dL c CX.fresh bR.drew) aB).trans T4 aB;clear S0 S4;cases hb:R.1
 ·have Zc:=HW.out.trans (if_neg (by rw[hb];decide))
  subst Zc;go_wp2;go_ret
  first|exact⟨_,rfl,c4,G4,T5⟩|exact⟨.inl rfl,c4,G4,T5⟩|exact⟨rfl,c4,G4,T5⟩
 ·have Zc:=HW.out.trans (if_pos hb)
  subst Zc;go_wp2_with(go_at_call 352;refine(NT G4 T5.fresh HA HQ).mono ?_;rintro e w5 ⟨t,b,rfl,c5,G5,T6⟩);go_ret
  first|exact⟨_,rfl,c5,G5,T5.trans T6 aB⟩|exact⟨.inr rfl,c5,G5,T5.trans T6 aB⟩|exact⟨rfl,c5,G5,T5.trans T6 aB⟩
theorem Zd(h:bD w c g W)(hc:∀k,w.heap.size<=k->c k=none)(k:Key)(hk:k.good)(hl:W.wq.fi.b.length<100000)(ha:∀x∈W.mo.asleep,aw x)(hq:W.mo.lk.line.length<=1000) :
 Calls prog 379 #[pt g,.agg k.row] w λe w'=>∃b,e=.returned (.bool b)/\zF c g (W.give k) w w':=by
 have EX:=zW w (.cells k.row aS);have CX:=ae.aa dL c hc EX;have BX:=ai.new w aS k.row;have H0:=h.call EX;have NX:=hc w.heap.size lR;have Zb:=(λW1 (hb:Below (w.alloc (.cells k.row aS)).heap.size (w.alloc (.cells k.row aS)) W1)=>Vm (H0.call hb) (λj hj=>CX.fresh j (aB4 hb.size hj)) k hk hl);have HA:=ha;have HQ:=hq;unfold Gw.give;obtain⟨R,hR⟩:=zE (oG W.wq k);simp only[<-hR];rw[<-hR]at Zb;obtain⟨Wn,hWn⟩:=zE (if R.1.1=true then {W with wq:=R.2,mo:=iP W.mo} else {W with wq:=R.2} : Gw);have HW:=zD hWn;rw[<-hWn];clear h hc hk hl EX hR ha hq hWn;go_enter func379,ntmps379;go_upto_region 1 with fail
 obtain⟨W0,hW0⟩:=zE (w.alloc (.cells k.row aS));obtain⟨gx,hgx⟩:=zE w.heap.size;rw[<-hW0]at CX BX H0 Zb |-;rw[<-hgx]at BX NX |-;clear hW0 hgx;refine zr (λ_=>false) (λwS=>ah (λj=>∃t,c j=some t/\dL t) W0 wS) ?_;have S0:=(ah.refl (λj=>∃t,c j=some t/\dL t) W0).drew;refine zk 7 [0,2] [_,_] (.c rfl rfl zp<|.c rfl rfl (zl λ_ h=>zb (BX.upd h (λ⟨t,e,_⟩=>by rw[NX]at e;cases e)) underlying83) .nil) S0 ?_;refine zQ 1 ?_;go_wp2_with(go_at_call 116;refine zN (iV (H0.call bR.drew)) ?_);refine .i S0 ?_;refine zQ 3 ?_;go_wp2_with(go_at_call 392;refine(Zb _ bR.drew).mono ?_;rintro e w4 ⟨rfl,c4,G4,T4⟩);refine .i (S0.trans T4.upd iL) ?_;have S4:=S0.trans T4.upd iL;refine zq 0 [4,5,6,7,8] [.tuple #[.bool R.1.1,I6 R.1.2],.bool R.1.1,I6 R.1.2,.bool R.1.1,I6 R.1.2] S4 ?_;refine zd ?_;have T5:=(CX.trans (ae.aa dL c CX.fresh bR.drew) aB).trans T4 aB;clear S0 S4;cases hb:R.1.1
 ·have Zc:=HW.out.trans (if_neg (by rw[hb];decide))
  subst Zc;go_wp2;go_ret
  first|exact⟨_,rfl,c4,G4,T5⟩|exact⟨.inl rfl,c4,G4,T5⟩|exact⟨rfl,c4,G4,T5⟩
 ·have Zc:=HW.out.trans (if_pos hb)
  subst Zc;go_wp2_with(go_at_call 352;refine(NT G4 T5.fresh HA HQ).mono ?_;rintro e w5 ⟨t,b,rfl,c5,G5,T6⟩);go_ret
  first|exact⟨_,rfl,c5,G5,T5.trans T6 aB⟩|exact⟨.inr rfl,c5,G5,T5.trans T6 aB⟩|exact⟨rfl,c5,G5,T5.trans T6 aB⟩
end
end
section
section
variable{w w' : World}{c:bh}{g:Nat}{cs:Array Value}{gs gl:Nat}{ls:Array Value}{lv:List Value}{v va vf vb vd vz ve Y0 : Value}{W:Gw}
def nL.ai0{l:List Ev}(h:nL w c g cs gs gl ls lv v va vf vb vd vz ve W)(hu:ah (λk=>k=g\/ve.ownBlock=some k) w w')(hb:ai w' g zz (cs.setIfInBounds 15 Y0))(ho:aK w' 0 eL 34 Ev.cells Y0 l)(hw:Y0.ownBlock=ve.ownBlock\/∃j,Y0.ownBlock=some j/\w.heap.size<=j)(hc:∀k,w.heap.size<=k->c k=none) :
 ∃c',nL w' c' g (cs.setIfInBounds 15 Y0) gs gl ls lv v va vf vb vd vz Y0 {W with evs:=l}/\ae dL w w' c c':=by
 obtain⟨T1,nh⟩:∃T1:Tag->Prop,T1=λt=>t=.at_ 10\/t=.at_ 16:=⟨_,rfl⟩
 have na:∀n,n≠10->n≠16->¬T1 (.at_ n):=λn h1 h2 e=>by rw[nh]at e;rcases e with e|e<;>(injection e with e;omega)
 have nf:¬T1 .nS:=by rw[nh];rintro(e|e)<;>cases e
 have t0:T1 (.at_ 10):=by rw[nh];exact .inl rfl
 have t2:T1 (.at_ 16):=by rw[nh];exact .inr rfl
 have ns:∀t,dO t->¬T1 t:=λt ht e=>by rw[nh]at e;rcases e with rfl|rfl<;>exact fB oM ht
 have nl:∀j,¬T1 (.ln j):=λj e=>by rw[nh]at e;rcases e with e|e<;>cases e
 have hst:ae T1 w w' c (ft (λk=>Y0.ownBlock=some k) (.at_ 16) c):=by
  refine ae.grow hu (λk hk=>?_) t2 _ (λk hk=>?_) (λk hk=>(ho.lt k hk).2) hc
  ·rcases hk with rfl|hk
   ·exact⟨_,h.cg,t0⟩
   ·exact⟨_,h.ce k hk,t2⟩
  ·rcases hw with e|⟨g',e,hg⟩
   ·rw[e]at hk;exact .inl (h.ce k hk)
   ·rw[e]at hk;injection hk with hk;subst hk;exact .inr hg
 have hr:∀i,i≠15->(cs.setIfInBounds 15 Y0)[i]? = cs[i]?:=λi hi=>cF (λe=>hi e.symm)
 obtain⟨m1,m2,m3⟩:=h.DV hst hb (λi a b=>hr i oM) (na 12 oM oM) (na 13 oM oM);obtain⟨q1,q2,q3⟩:=h.DW hst hb (λi a b=>hr i oM) (na 14 oM oM) (na 15 oM oM);refine⟨_,⟨hb,?_,(hr 0 oM).trans h.c0,(hr 1 oM).trans h.c1,(hr 2 oM).trans h.c2,(hr 3 oM).trans h.c3,(hr 4 oM).trans h.c4,(hr 5 oM).trans h.c5,kK h.c15,m1,q1,ho,h.aG.step hst ns nf,h.ay.step hst (na 11 oM oM) nl,m2,m3,q2,q3,λk hk=>bw hk⟩,hst.mono λt e=>by rw[nh]at e;rcases e with rfl|rfl<;>exact dL.at_ oM oM⟩
 rw[aC (λe=>ho.gC hb dC e)];exact h.cg
theorem Ed(h:bD w c g W)(hc:∀k,w.heap.size<=k->c k=none)(x:Ev)(hl:W.evs.length<100000) :
 Calls prog 349 #[pt g,.agg x.row] w λe w'=>e=.returned (.tuple #[])/\zF c g (W.note x) w w':=by
 obtain⟨cs,gs,gl,ls,lv,v,va,vf,vb,vd,vz,ve,h⟩:=h;have EX:=zW w (.cells x.row eL);have CX:=ae.aa dL c hc EX;have BX:=ai.new w eL x.row;have H0:=h.call EX;have NX:=hc w.heap.size lR;have HM:=kS (h.call EX);have fJ:W.evs.length<1000000:=oM
 obtain⟨A,n,cc,rfl,-,-⟩:=h.evs.shape yA;have mW:(Value.slice A n cc).ownBlock≠some g:=h.evs.gC h.blk dC;have fG:(Value.slice A n cc).ownBlock≠some w.heap.size:=λe=>by rw[h.ce _ e]at NX;cases NX
 have ap2:=h.c15;clear h hc hl EX;go_enter func349,ntmps349;go_upto_region 2 with(go_at_call 173;refine HM.mono ?_;rintro e w1 ⟨rfl,rfl⟩)
 obtain⟨W0,hW0⟩:=zE (w.alloc (.cells x.row eL));obtain⟨gx,hgx⟩:=zE w.heap.size;rw[<-hW0]at CX BX H0 |-;rw[<-hgx]at BX fG |-;clear hW0 hgx NX HM;refine zr (λj=>[10].contains j) (λwS=>ah (λk=>(Value.slice A n cc).ownBlock=some k) W0 wS) ?_;have S0:=(ah.refl (λk=>(Value.slice A n cc).ownBlock=some k) W0).drew;refine zk 6 [0,1,2,3,4] [_,_,pt g,.pointer (some ⟨g,15,none⟩),.slice A n cc] (.q zX<|.q zX<|.q zX<|.q zX<|.c rfl rfl (zl λ_ h=>by have c:=(H0.blk.upd h mW).ar ap2;go_simp) .nil) S0 ?_;refine zk 5 [5] [_] (.c rfl rfl (zl λ_ h=>zb (BX.upd h fG) underlying93) .nil) S0 ?_;refine zQ 6 ?_;have nG:=iA (S:=S0) (x.row) 93;obtain⟨G,hG,bG,lG⟩:=nG;go_wp2_with fail;refine .i (S0.alloc _) ?_
 (try simp only[hG])
 clear hG;have SG:=S0.alloc (.cells (x.row) 93);refine zQ 7 ?_;go_wp2_with(refine cX _ rfl (.tmp 10) (.tmp 12) Bg rfl 0 eL _ 34 280 Ev.cells underlying28 Ix rF dC yA DU (.slice A n cc) W.evs rfl ((H0.evs.cD 1).alloc _) ⟨G,0,none⟩ 1 x rfl (br (α:=Ev) (vs:=x.cells) (bG) rfl) fJ dC (aB6 _) ?_;intro v' w3 kJ jP hw3;have hU:=(SG).trans jP iL;have U3:=hU;have W3:v'.ownBlock=(Value.slice A n cc).ownBlock\/∃j,v'.ownBlock=some j/\W0.heap.size<=j:=hw3.imp id (λe=>⟨_,e,(SG).size⟩);have xC:=H0.blk.upd hU mW;have B3:=xC;have O3:=kJ;have:=xC.ar ap2;have:=xC.frozen 15;obtain⟨A',n',c',rfl,-,-⟩:=kJ.shape yA;clear hU xC kJ hw3);refine .i (SG.trans jP iL) ?_;have S3:=SG.trans jP iL;refine zQ 8 ?_;go_wp2_with fail;refine .i S3 ?_;refine zq 1 [9] [.pointer (some ⟨g,15,none⟩)] S3 ?_;refine aq _ _ _ _ kZ ?_;refine zO 10 (λQ2 aI=>?_);go_wp2_with fail;(try refine aI _ _ ?_);(try clear aI Q2)
 refine wpAny_done kZ ?_ _;have HE:=H0.ai0 (w':=w3.setCell ⟨g,15,none⟩ (.slice A' n' c')) ((U3.mono (λk hk=>.inr hk)).setCell (p:=⟨g,15,none⟩) (.inl (.inl rfl)) _) (B3.aX 15 _) (O3.far (p:=⟨g,15,none⟩) (λj hj e=>O3.gC B3 dC (by rw[hj,e])) _) W3 CX.fresh;have HE2:=HE;clear HE S0 SG S3 jP bG lG;go_wp2;go_end0;obtain⟨c5,k1,k2⟩:=HE2;exact⟨rfl,c5,⟨_,_,_,_,_,_,_,_,_,_,_,_,k1⟩,CX.trans k2 aB⟩
end
end
section
def NU(w:World)(l:List Ev)(e:Ending)(w' : World):Prop:=∃A n c,e=.returned (.slice A n c)/\Own w' w.heap.size eL 34 Ev.cells (.slice A n c) l/\Bl w w'
theorem yC(A:Option Addr)(n c:Nat)(l:List Ev)(w:World)(hs:gS w A n c l)(hn:n<=100000) :
 Calls prog 174 #[.slice A n c] w (NU w l):=by
 cases A with
 |none=>
  obtain⟨rfl,rfl⟩:=hs.2.2.2.1 rfl;have hl:l=[]:=aC0 hs.1;subst hl;have:=λ(W:World)=>Lib.run_eql_slice_nil (P:=prog) W Bg eL none 0 0 0 0 underlying28
  go_enter func174,ntmps174;go_wp2;go_ret;exact⟨none,0,0,rfl,Own.nil _ _ _ _ _,Below.refl _ _⟩
 |some a=>
  have:=λ(W:World)=>Lib.run_eql_slice_nil (P:=prog) W Bg eL (some a) n c 0 0 underlying28
  have HS:=af hs (show Bl w (w.alloc (.cells #[] eL)) by go_grown);have HO:Own (w.alloc (.cells #[] eL)) w.heap.size eL 34 Ev.cells (.slice (some ⟨w.heap.size,0,none⟩) 0 0) []:=World.ownsRow_made w #[] 0 lR (aB6 _) rfl;clear hs;go_enter func174,ntmps174;go_wp2_with(at_builtin;refine fP _ rfl (.tmp 5) (.tmp 6) Bg rfl w.heap.size eL _ 34 280 Ev.cells underlying28 Ix rF dC (λ_=>rfl) DU (.slice (some ⟨w.heap.size,0,none⟩) 0 0) [] rfl HO (some a) n c l rfl HS sM dC sI ?_;intro v' w1 ho aT hgr;have HV:=ho;have HB:=Below.trans (show Bl w (w.alloc (.cells #[] eL)) by go_grown) aT;clear ho aT hgr);go_ret;obtain⟨A',n',c',rfl,-,-⟩:=HV.shape yA;exact⟨A',n',c',rfl,HV,HB⟩
theorem Ze(B o:Nat)(ty:TypeId)(cs:Array Value)(vf vb vd vz:Value)(q:Wq)(w:World)(h:oF w B o ty cs vf vb vd vz q) :
 Calls prog 354 #[.pointer (some ⟨B,o,none⟩)] w λe w'=>∃(b:Bool)(cs' : Array Value),e=.returned (.bool b)/\eC w w' B o ty cs vf vb vd vz cs' vf vb vd vz {q with over:=true}:=by
 have k4:=h.blk.ar h.c4;have:=h.blk.frozen (o+4);have H:=h;cases ho:q.over
 ·rw[ho]at k4
  clear h ho;go_enter func354,ntmps354;go_wp2;go_ret;have hu:ah (λk=>k=B) w (w.setCell ⟨B,o+4,none⟩ (.bool true)):=(ah.refl (λk=>k=B) w).setCell (p:=⟨B,o+4,none⟩) (.inl rfl) _;have hr:∀i,i≠o+4->(cs.setIfInBounds (o+4) (.bool true))[i]? = cs[i]?:=λi hi=>cF (λe=>hi e.symm)
  have hb:ai (w.setCell ⟨B,o+4,none⟩ (.bool true)) B ty (cs.setIfInBounds (o+4) (.bool true)):=H.blk.aX (o+4) _;have FX:=H.fi.FX;have Aj:=H.fi.Aj;refine⟨_,_,rfl,⟨⟨⟨hb,(hr _ oM).trans H.fi.c0,(hr _ oM).trans H.fi.c1,H.fi.jw.upd hu (λk hk e=>FX (by rw[hk,e])),H.fi.iG.upd hu (λk hk e=>Aj (by rw[hk,e])),FX,Aj,H.fi.apart⟩,(hr _ oM).trans H.c2,(hr _ oM).trans H.c3,kK H.c4,H.ax.upd hu (λk hk e=>H.ax.cells H.blk (by rw[hk,e])),H.busy.upd hu (λk hk e=>H.busy.cells H.blk (by rw[hk,e])),H.apart,H.both⟩,hu.mono iL,λk hk=>hk.imp id .inl,λk hk=>hk.imp id .inl,sI,λi e0 e1 e2 e3 e4=>hr i e4⟩⟩
 ·rw[ho]at k4
  have hq:({q with over:=true} : Wq)=q:=by cases q;simp at ho;simp[ho]
  rw[hq];clear h ho;go_enter func354,ntmps354;go_wp2;go_ret;exact⟨_,_,rfl,H.stay bR⟩
def ai1(s:aL)(c:ak):(s.do c).2.cfg=s.cfg:=by
 unfold aL.do aL.put aL.et aL.snap aL.free aL.shut
 split
 ·rfl
 split
 ·rfl
 split
 ·rfl
 split
 ·split<;>rfl
 split
 ·split<;>rfl
 split
 ·rfl
 split
 ·rfl
 split
 ·rfl
 ·split<;>rfl
section
variable{w:World}{c:bh}{g:Nat}{W:Gw}
theorem Qu(h:bD w c g W)(hl:W.evs.length<=100000):Calls prog 114 #[pt g] w (NU w W.evs):=by
 obtain⟨cs,gs,gl,ls,lv,v,va,vf,vb,vd,vz,ve,h⟩:=h;have HM:=kS h;have:=h.blk.ar h.c15;obtain⟨A,n,cc,rfl,hn,hs⟩:=h.evs.shape yA;have HC:=yC A n cc W.evs w hs oM;clear h hn hs;go_enter func114,ntmps114;go_wp2_with(first
  |go_at_call 173;refine HM.mono ?_;rintro e w1 ⟨rfl,rfl⟩
  |(go_at_call 174;refine HC.mono ?_;rintro e w2 ⟨A2,n2,c2,rfl,O2,B2⟩))
 go_ret;exact⟨_,_,_,rfl,O2,B2⟩
def Vn(h:bD w c g W)(hc:∀k,w.heap.size<=k->c k=none) :
 Calls prog 354 #[.pointer (some ⟨g,10,none⟩)] w λe w'=>∃b:Value,e=.returned b/\zF c g {W with wq:={W.wq with over:=true}} w w':=by
 obtain⟨cs,gs,gl,ls,lv,v,va,vf,vb,vd,vz,ve,h⟩:=h;refine(Ze g 10 zz cs vf vb vd vz W.wq w h.wq).mono ?_;rintro e w' ⟨b,cs',rfl,hs⟩;obtain⟨c',k1,k2⟩:=h.Ea hs hc;exact⟨_,rfl,c',⟨_,_,_,_,_,_,_,_,_,_,_,_,k1⟩,k2⟩
def LA(h:bD w c g W)(hc:∀k,w.heap.size<=k->c k=none)(ha:∀x∈W.mo.asleep,aw x)(hn:W.mo.asleep.length<=400)(hl:W.mo.lk.line.length<=400) :
 Calls prog 355 #[.pointer (some ⟨g,6,none⟩)] w λe w'=>∃b:Value,e=.returned b/\zF c g {W with mo:=j5 W.mo} w w':=by
 obtain⟨cs,gs,gl,ls,lv,v,va,vf,vb,vd,vz,ve,h⟩:=h;refine(Hk g 6 zz cs v va W.mo w h.mo ha hn hl).mono ?_;rintro e w' ⟨A,n,cc,rfl,cs',v',rq,hs⟩;obtain⟨c',k1,k2⟩:=h.DY hs hc;exact⟨_,rfl,c',⟨_,_,_,_,_,_,_,_,_,_,_,_,k1⟩,k2⟩
def yD(h:bD w c g W):∃gs,cG w c gs W.aG/\(∀w',Bl w w'->Calls prog 160 #[pt g] w' λe w2=>e=.returned (pt gs)/\w' = w2)/\
 ∀w' c' s',ae dO w w' c c'->cG w' c' gs s'->s'.cfg=W.aG.cfg->bD w' c' g {W with aG:=s'}/\ae dL w w' c c':=by
 obtain⟨cs,gs,gl,ls,lv,v,va,vf,vb,vd,vz,ve,h⟩:=h;refine⟨gs,h.aG,λw' hb=>Vi (h.call hb),λw' c' s' hs hz zv=>?_⟩;obtain⟨k1,k2⟩:=h.Y9 hs hz zv;exact⟨⟨_,_,_,_,_,_,_,_,_,_,_,_,k1⟩,k2⟩
theorem Zf(h:bD w c g W)(hc:∀k,w.heap.size<=k->c k=none)(ha:∀x∈W.mo.asleep,aw x)(hn:W.mo.asleep.length<=400)(hl:W.mo.lk.line.length<=400) :
 Calls prog 348 #[pt g] w λe w'=>e=.returned (I6 W.shut.1.err)/\zF c g W.shut.2 w w':=by
 obtain⟨gs,hs,hst,hk⟩:=yD h;have nI:=hst w bR;have AK:=yy hs hc;have HK:=hk;have HA:=ha;have HNl:=And.intro hn hl;obtain⟨R,hR⟩:=zE W.shut;rw[<-hR];unfold Gw.shut at hR;unfold aL.shut at AK;cases ho:W.aG.over
 ·rw[ho]at AK hR
  simp at AK hR;have HR:=zD hR;clear h hs hst hk ha hn hl hc ho hR;go_enter func348,ntmps348;go_wp2_with(first
   |go_at_call 160;refine nI.mono ?_;rintro e w1 ⟨rfl,rfl⟩
   |go_at_call 76;refine AK.mono ?_;rintro e w2 ⟨c2,rfl,hz2,oD⟩;have G2:=HK _ _ _ oD hz2 rfl;clear hz2 oD
   |go_at_call 354;refine(Vn G2.1 G2.2.fresh).mono ?_;rintro e w3 ⟨b3,rfl,c3,G3,ht3⟩;have T3:=G2.2.trans ht3 aB;clear ht3
   |(go_at_call 355;refine(LA G3 T3.fresh HA HNl.1 HNl.2).mono ?_;rintro e w4 ⟨b4,rfl,c4,G4,yE⟩;have T4:=T3.trans yE aB;clear yE))
  go_ret;rw[HR.out];exact⟨rfl,c4,G4,T4⟩
 ·rw[ho]at AK hR
  simp at AK hR;have HR:=zD hR;clear h hs hst hk ha hn hl hc ho hR;go_enter func348,ntmps348;go_wp2_with(first
   |go_at_call 160;refine nI.mono ?_;rintro e w1 ⟨rfl,rfl⟩
   |(go_at_call 76;refine AK.mono ?_;rintro e w2 ⟨c2,rfl,hz2,oD⟩;have G2:=HK _ _ _ oD hz2 rfl;clear hz2 oD))
  go_ret;rw[HR.out];exact⟨rfl,c2,G2.1,G2.2⟩
end
end
section
section
variable{S:Nat->Prop}{w w' : World}{c c' : bh}{g:Nat}{cs:Array Value}{gs gl:Nat}{ls:Array Value}{lv:List Value}{v va vf vb vd vz ve:Value}{W:Gw}
def nL.off(h:nL w c g cs gs gl ls lv v va vf vb vd vz ve W)(hu:ah S w w')(hS:∀k,S k->c k=none):nL w' c g cs gs gl ls lv v va vf vb vd vz ve W:=by
 have hn:∀k t,c k=some t->¬S k:=λk t e hs=>by rw[hS k hs]at e;cases e
 have hb:=h.blk.upd hu (hn g _ h.cg);exact⟨hb,h.cg,h.c0,h.c1,h.c2,h.c3,h.c4,h.c5,h.c15,h.mo.row hb (λ_ _ _=>rfl) hu (λk hk=>hn k _ (h.cv k hk)) (λk hk=>hn k _ (h.Xt k hk)),
  h.wq.row hb (λ_ _ _=>rfl) hu (λk hk=>hn k _ (h.cf k hk)) (λk hk=>hn k _ (h.cm k hk)),h.evs.upd hu (λk hk=>hn k _ (h.ce k hk)),h.aG.off hu hS,
  ⟨h.ay.len,h.ay.cg,h.ay.blk.upd hu (hn gl _ h.ay.cg),λi u l iO hl=>(h.ay.lk i u l iO hl).row (h.ay.blk.upd hu (hn gl _ h.ay.cg)) rfl rfl rfl hu (λk hk=>hn k _ (h.ay.GC i u k iO hk)),h.ay.GC⟩,h.cv,h.Xt,h.cf,h.cm,h.ce⟩
def bD.off(h:bD w c g W)(hu:ah S w w')(hS:∀k,S k->c k=none):bD w' c g W:=by
 obtain⟨cs,gs,gl,ls,lv,v,va,vf,vb,vd,vz,ve,h⟩:=h;exact⟨cs,gs,gl,ls,lv,v,va,vf,vb,vd,vz,ve,h.off hu hS⟩
def bD.ext(h:bD w c g W)(he:nQ c c'):bD w c' g W:=by
 obtain⟨cs,gs,gl,ls,lv,v,va,vf,vb,vd,vz,ve,h⟩:=h;exact⟨cs,gs,gl,ls,lv,v,va,vf,vb,vd,vz,ve,h.blk,he _ _ h.cg,h.c0,h.c1,h.c2,h.c3,h.c4,h.c5,h.c15,h.mo,h.wq,h.evs,h.aG.ext he,⟨h.ay.len,he _ _ h.ay.cg,h.ay.blk,h.ay.lk,λi u k a b=>he _ _ (h.ay.GC i u k a b)⟩,λk hk=>he _ _ (h.cv k hk),λk hk=>he _ _ (h.Xt k hk),λk hk=>he _ _ (h.cf k hk),λk hk=>he _ _ (h.cm k hk),λk hk=>he _ _ (h.ce k hk)⟩
end
section
variable{w:World}{c:bh}{g:Nat}{W:Gw}
def Vo(h:bD w c g W):Calls prog 173 #[pt g] w λe w'=>e=.returned (.bool true)/\w=w':=by
 obtain⟨cs,gs,gl,ls,lv,v,va,vf,vb,vd,vz,ve,h⟩:=h;exact kS h
theorem LB(x:ak)(h:bD w c g W)(hc:∀k,w.heap.size<=k->c k=none)(ha:∀x∈W.mo.asleep,aw x)(hn:W.mo.asleep.length<=400)(hl:W.mo.lk.line.length<=400)(hk:x.k=8) :
 Calls prog 340 #[pt g,.agg (aj x.k x.s x.t x.v x.h x.p)] w λe w'=>e=.returned (.agg (W.do x).1.row)/\zF c g (W.do x).2 w w':=by
 have HQ:=zD (show W.do x=W.shut from if_pos hk);have HE:=zD (show W.shut.1=cK W.shut.1.err from by unfold Gw.shut;split<;>rfl);obtain⟨k0,s0,t0,v0,h0,p0⟩:=x;dsimp only at hk;subst hk;rw[HQ.out];have EX:=(zW w (.cells (aj 8 s0 t0 v0 h0 p0) nV)).alloc sI (.cells di mi);have CX:=zD (ae.aa dL c hc EX);have H0:=zD (h.call EX);have UY:=zD (show nU ((w.alloc (.cells (aj 8 s0 t0 v0 h0 p0) nV)).alloc (.cells di mi)) c (w.heap.size+1) mi di from⟨ai.dR w (.cells (aj 8 s0 t0 v0 h0 p0) nV) mi di,hc _ oM⟩);have:=((ai.new w nV (aj 8 s0 t0 v0 h0 p0)).alloc (.cells di mi)).z 0 (I6 8);have AK:=zD (Zf H0.out CX.out.fresh ha hn hl);have HM:=zD (Vo H0.out);obtain⟨R,hR⟩:=zE W.shut;rw[<-hR]at AK HE |-;clear h hc ha hn hl hR EX HQ;go_enter func340,ntmps340;go_wp2_with(first
  |go_at_call 173;refine HM.out.mono ?_;rintro e w1 ⟨rfl,rfl⟩
  |go_at_call 348;refine AK.out.mono ?_;rintro e w2 ⟨rfl,c2,hg2,oD⟩;have G2:=zD hg2;have T2:=zD oD;have U2:=zD (UY.out.step oD);clear hg2 oD
  |(refine zJ U2.out.blk ?_;intro w9 b8 dM;have X9:=zD b8;have G9:=zD dM;clear b8 dM))
 refine zU X9.out underlying70 ?_;have UG:=ah.bE G9.out;exact⟨by rw[HE.out];first|done|rfl,c2,G2.out.off UG (λj hj=>by rw[hj];exact U2.out.no),(CX.out.trans T2.out aB).own UG (λj hj=>by rw[hj];exact aC5 _)⟩
theorem LC(x:ak)(h:bD w c g W)(hc:∀k,w.heap.size<=k->c k=none)(ho:qj W.aG n k)(hx:bM x)(hn:n<=30000)(hk:k<=40)(hk8:x.k≠8):
 Calls prog 340 #[pt g,.agg (aj x.k x.s x.t x.v x.h x.p)] w λe w'=>e=.returned (.agg (W.do x).1.row)/\zF c g (W.do x).2 w w':=by
 have HQ:W.do x=((W.aG.do x).1,{W with aG:=(W.aG.do x).2}):=if_neg hk8;rw[HQ];have:=hx;have Fp:=ai1 W.aG x;have HDo:=(λ(W1:World)(c1:bh)(gs:Nat)(hz:cG W1 c1 gs W.aG)(hf:∀k,W1.heap.size<=k->c1 k=none)=>Vg x hz hf ho hx hn hk);obtain⟨R,hR⟩:=zE (W.aG.do x);rw[<-hR]at HDo Fp |-;obtain⟨k0,s0,t0,v0,h0,p0⟩:=x;dsimp only at hk8;have:(k0==8)=false:=by simpa using hk8
 have EX:=(zW w (.cells (aj k0 s0 t0 v0 h0 p0) nV)).alloc sI (.cells di mi);have CX:=ae.aa dL c hc EX;have H0:=h.call EX;have UY:nU ((w.alloc (.cells (aj k0 s0 t0 v0 h0 p0) nV)).alloc (.cells di mi)) c (w.heap.size+1) mi di:=⟨ai.dR w (.cells (aj k0 s0 t0 v0 h0 p0) nV) mi di,hc _ oM⟩;have BX:=(ai.new w nV (aj k0 s0 t0 v0 h0 p0)).alloc (.cells di mi);have NX:=hc w.heap.size lR;have q0:=BX.z 0 (I6 k0);obtain⟨gs,hz,hst,hkp⟩:=yD H0;have HZ:=hz;have nI:=hst;have HKp:=hkp;clear h hc hx ho hn hk hk8 hR EX HQ H0 hz hst hkp;go_enter func340,ntmps340;go_upto_region 3 with fail
 clear q0;obtain⟨W0,hW0⟩:=zE ((w.alloc (.cells (aj k0 s0 t0 v0 h0 p0) nV)).alloc (.cells di mi));obtain⟨gx,hgx⟩:=zE w.heap.size;obtain⟨gy,Ai⟩:=zE (gx+1);rw[<-hW0]at CX UY BX HZ nI HKp |-;rw[<-hgx]at BX NX UY |-;rw[<-Ai]at UY |-;have HGy:=zD Ai;have mL:=zD hgx;clear hW0 hgx Ai;refine zr (λ_=>false) (λwS=>ah (λj=>(∃t,c j=some t/\dO t)\/j=gy) W0 wS) ?_;have S0:=(ah.refl (λj=>(∃t,c j=some t/\dO t)\/j=gy) W0).drew;refine zk 3 [0,2] [_,_] (.c rfl rfl zp<|.c rfl rfl (zl λ_ hW1=>zb (BX.upd hW1 (λh=>by rcases h with⟨t,e,_⟩|e;(rw[NX]at e;cases e);(have:=HGy.out;omega))) underlying65) .nil) S0 ?_
 refine zQ 1 ?_;go_wp2_with(go_at_call 160;refine zN (nI _ bR.drew) ?_);refine .i S0 ?_;refine zQ 3 ?_;go_wp2_with(go_at_call 23;refine(HDo W0.drew c gs (HZ.call bR.drew) CX.fresh).mono ?_;rintro e w4 ⟨c4,rfl,Z4,yE⟩;have T4:=(ae.aa dO c CX.fresh (Below.refl _ W0).drew).trans yE eu;have U4:=UY.step T4;clear yE);refine .i ((show ah (λj=>(∃t,c j=some t/\dO t)\/j=gy) W0 w4 from ah.mono T4.upd (λk hk=>Or.inl hk))) ?_;have S4:ah (λj=>(∃t,c j=some t/\dO t)\/j=gy) W0 w4:=ah.mono T4.upd (λk hk=>Or.inl hk);refine zQ 4 ?_;go_wp2_with(refine zJ U4.blk ?_;intro w9 X9 G9);refine .i ((S4).grown G9 (λk e=>by injection e with e;exact .inl (.inr e.symm))) ?_;refine zd ?_;go_wp2;refine zU X9 underlying70 ?_;have UG:=ah.bE G9;obtain⟨k1,k2⟩:=HKp _ _ _ T4 Z4 Fp;exact⟨rfl,c4,k1.off UG (λj hj=>by rw[hj];exact U4.no),(CX.trans k2 aB).own UG (λj hj=>by rw[hj,HGy.out,mL.out];exact aC5 _)⟩
end
end
def ay2(s:ByteArray):Key:=⟨aO s,aP s⟩
theorem LD(s:ByteArray)(w:World)(hs:s.size<=maxLen):Calls prog 345 #[.string s] w (Rt (.agg (ay2 s).row) (Bl w)):=by
 have HP:=(λW=>fT s W hs);have B0:=(show Bl w (w.alloc (.cells #[V6 0,V6 0] aS)) by go_grown);go_enter func345,ntmps345;go_wp2_with(first
  |go_at_call 32;refine zM (HP _) λw1 hb=>?_;have B1:=zT B0 hb;have X1:=((ai.new w aS #[V6 0,V6 0]).call hb).alloc (.cells #[V6 (aO s:Nat),V6 (aP s:Nat)] aS);clear hb
  |refine zI (ai.new w1 aS #[V6 (aO s:Nat),V6 (aP s:Nat)]) underlying83 ?_
  |(refine zJ X1 ?_;intro w9 X9 G9))
 refine zU X9 underlying83 ?_;have E1:=B1.alloc B1.size (.cells #[V6 (aO s:Nat),V6 (aP s:Nat)] aS);exact⟨rfl,E1.grown G9 E1.size (λj e=>by injection e with e;omega)⟩
abbrev ap3:TypeId:=277
abbrev Qv:Array Value:=#[.int .u32 0,.int .u32 0,.slice none 0 0]
def Zg:(prog.info? Np).map (λi=>(i.zero,i.size,i.bytes))=some (some (.agg Qv),3,32):=kZ
def Zh(hi:i<L):(madeCells Qv (L*3))[i*3]? = some (.int .u32 0)/\(madeCells Qv (L*3))[i*3+1]? = some (.int .u32 0)/\(madeCells Qv (L*3))[i*3+2]? = some (.slice none 0 0):=by
 unfold madeCells;simp only[Array.getElem?_map];have h0:(Array.range (L*3))[i*3]? = some (i*3):=by rw[aC6 sM];simp
 have h1:(Array.range (L*3))[i*3+1]? = some (i*3+1):=by rw[aC6 sM];simp
 have h2:(Array.range (L*3))[i*3+2]? = some (i*3+2):=by rw[aC6 sM];simp
 rw[h0,h1,h2];refine⟨?_,?_,?_⟩
 ·simp
 ·simp[show(i*3+1) % 3=1 by omega]
 ·simp[show(i*3+2) % 3=2 by omega]
def Zi{gl:Nat}(h:ai w gl Np (madeCells Qv (L*3)))(hi:i<L):mA w gl (i*3) Np (madeCells Qv (L*3)) (.slice none 0 0) lk0:=by
 obtain⟨a,b,d⟩:=Zh hi;exact⟨h,a,b,d,aK.nil _ _ _ _ _,λe=>by simp[Value.ownBlock]at e⟩
abbrev cgT:TypeId:=23
abbrev CD(cf:aM)(gs gl L:Nat):Array Value:=#[I6 cf.str,I6 cf.dE,I6 cf.lW,I6 cf.iI,pt gs,.slice (some ⟨gl,0,none⟩) L L,.int .u32 0,.int .u32 0,.slice none 0 0,.slice none 0 0,.slice none 0 0,.slice none 0 0,.map none,.map none,.bool false,.slice none 0 0]
def Vp{gs gl:Nat}(hb:ai w g zz (CD cf gs gl L))(hl:ai w gl Np (madeCells Qv (L*3)))(hs:cG w c gs (aL.new cf))(hL:(L:Int)=cf.str+1)(h1:c g=some (.at_ 10))(h2:c gl=some (.at_ 11)):bD w c g (Gw.new cf):=by
 have hno:∀k,(Value.slice none 0 0).ownBlock≠some k:=λk e=>by simp[Value.ownBlock]at e
 have hlen:(Gw.new cf).ay.length=L:=by unfold Gw.new;simp;omega
 refine⟨CD cf gs gl L,gs,gl,_,List.replicate L (.slice none 0 0),.slice none 0 0,.slice none 0 0,.slice none 0 0,.slice none 0 0,.map none,.map none,.slice none 0 0,hb,h1,rfl,rfl,rfl,rfl,rfl,by rw[hlen];rfl,rfl,⟨⟨hb,rfl,rfl,rfl,aK.nil _ _ _ _ _,hno g⟩,rfl,aK.nil _ _ _ _ _,hno g⟩,⟨⟨hb,rfl,rfl,aK.nil _ _ _ _ _,aK.nil _ _ _ _ _,hno g,hno g,λk e=>absurd e (hno k)⟩,rfl,rfl,rfl,.inl ⟨rfl,rfl⟩,.inl ⟨rfl,rfl⟩,(λk e=>by cases e),Iff.rfl⟩,aK.nil _ _ _ _ _,hs,⟨by rw[hlen];simp,h2,hl,λi u l hu hl2=>?_,λi u k hu hk=>?_⟩,λk e=>absurd e (hno k),λk e=>absurd e (hno k),(λk e=>by rcases e with e|e<;>exact absurd e (hno k)),(λk e=>by rcases e with e|e<;>cases e),λk e=>absurd e (hno k)⟩
 ·have iO:=aU8 (aC1 hu);have hl3:l=lk0:=by unfold Gw.new at hl2;exact aU8 (aC1 hl2)
  subst iO;subst hl3;exact Zi hl (sH (d9.1 hu).1)
 ·have iO:=aU8 (aC1 hu)
  subst iO;exact absurd hk (hno k)
theorem LF(cf:aM)(c:bh)(w:World)(hf:cf.fit)(a8:cf.gV)(hc:∀k,w.heap.size<=k->c k=none) :
 Calls prog 111 #[.agg cf.row] w λe w'=>∃g,e=.returned (.tuple #[pt g,I6 0])/\zF c g (Gw.new cf) w w':=by
 have hr:=a7 a8.1;obtain⟨L,hL⟩:∃L:Nat,(L:Int)=cf.str+1:=⟨(cf.str+1).toNat,oM⟩
 obtain⟨i0,hi0,hz0,hz1,hz2⟩:=info_parts Zg;have hmk:∀W:World,(Instr.makeSlice ap3 (I6 (L:Int)) (I6 (L:Int))).run prog W=.ok (.slice (some ⟨W.heap.size,0,none⟩) L L) (W.alloc (.cells (madeCells Qv (L*3)) Np)):=λW=>by
  have:=run_make (P:=prog) W ap3 Np i0 (.agg Qv) underlying277 hi0 hz0 .i64 .i64 L L oM (aW5 _) (by rw[hz2];omega) oM;rw[hz1]at this;exact this
 have BX:nU (w.alloc (.cells cf.row cgT)) c w.heap.size cgT cf.row:=⟨ai.new _ _ _,hc _ lR⟩;have CX:=ae.aa dO c hc (zW w (.cells cf.row cgT));have HR:=(λW=>fQ cf W hf);rw[show im cf=0 from if_pos a8]at HR;have Ee:=(λW=>iq cf W oM oM);rw[<-hL]at Ee;have HSn:=(λW c1 h=>Qp cf c1 W hf a8 h);have HL:=zD hL;clear hf a8 hc hr hL hz0 hz1 hz2 hi0;go_enter func111,ntmps111;go_upto_region 5 with(first
  |refine zI BX.blk underlying23 ?_
  |go_at_call 53;refine zM (HR _) λw1 hb1=>?_;have X1:=BX.call hb1;have C1:=CX.trans (ae.aa dO c CX.fresh hb1) eu;clear hb1
  |refine zI X1.blk underlying23 ?_
  |(go_at_call 19;refine(HSn _ c C1.fresh).mono ?_;rintro e w2 ⟨gs,c2,rfl,hz2,oD⟩;have X2:=X1.step oD;have Z2:=hz2;have C2:=C1.trans oD eu;clear hz2 oD))
 obtain⟨gx,hgx⟩:=zE w.heap.size;rw[<-hgx]at X2 |-;clear hgx;refine zB λS0=>?_
 refine zk 6 [0,1,2,7] [_,_,_,I6 0] (.c rfl rfl (zl λ_ h=>zb (X2.blk.call h) underlying23)<|.q zX<|.c rfl rfl (zl λ_ h=>zb (X2.blk.call h) underlying23)<|.e) S0<|zQ 3 ?_;go_wp2_with(go_at_call 171;refine zM (Ee _) λw3 hb3=>?_);refine .i (zT S0 hb3) ?_;have S3:=zT S0 hb3;refine zQ 4 ?_;go_wp2_with fail;refine .i ((S3).alloc (S3).size (.cells (madeCells Qv (L*3)) Np)) ?_;have S4:=(S3).alloc (S3).size (.cells (madeCells Qv (L*3)) Np);refine zq 3 [5] [.agg (CD cf gs w3.heap.size L)] S4<|zQ 6 ?_;obtain⟨G,hG,bG,lG⟩:=dp (S:=S4) (CD cf gs w3.heap.size L) 291;go_wp2_with fail;refine .i (S4.alloc S4.size _) ?_
 (try simp only[hG])
 clear hG;have SG:=S4.alloc S4.size (.cells (CD cf gs w3.heap.size L) 291);refine zq 0 [8,9] [pt G,I6 0] SG<|zd ?_;have:=S3.size;have hS:=SG;have hG:G≠w3.heap.size:=λe=>by
  exact(UW bG ((ai.new w3 Np (madeCells Qv (L*3))).alloc (.cells (CD cf gs w3.heap.size L) zz)) dC) e
 go_wp2;go_ret2;have C3:=(C2.mono λt e=>dL.st e).trans (ae.aa dL c2 C2.fresh hS) aB;have:=C2.upd.size;have C4:=C3.tag (λk=>k=w3.heap.size) (.at_ 11) (dL.at_ oM oM) (λk hk=>by rw[hk];exact⟨oM,by simp;omega⟩);have C5:=C4.tag (λk=>k=G) (.at_ 10) (dL.at_ oM oM) (λk hk=>by rw[hk];exact⟨oM,bG.lt⟩);have hE:nQ c2 (ft (λk=>k=G) (.at_ 10) (ft (λk=>k=w3.heap.size) (.at_ 11) c2)):=λj t e=>by
  rw[aC (λh=>by rw[h,C2.fresh G oM]at e;cases e),aC (λh=>by rw[h,C2.fresh _ oM]at e;cases e)];exact e
 exact⟨G,rfl,_,Vp bG ((ai.new w3 Np (madeCells Qv (L*3))).alloc _) ((Z2.call hS).ext hE) HL.out (bw rfl) (by rw[aC (λh=>hG h.symm)];exact bw rfl),C5⟩
section
abbrev vW:TypeId:=293
abbrev qp(gw:Nat)(A:Option Addr)(n cc:Nat)(ov:Value)(at_:Int)(x:Cl):Array Value:=#[pt gw,.slice A n cc,ov,I6 x.task,I6 (x.nth:Int),I6 at_,I6 x.wants,I6 x.rep.err,I6 x.rep.bV,I6 x.rep.RX,I6 x.rep.stat.count,I6 x.rep.stat.sum,I6 x.rep.stat.least,I6 x.rep.stat.most,I6 x.rep.stat.qV,I6 x.rep.ei.tick,I6 x.rep.ei.load,I6 x.rep.ei.want,I6 x.rep.ei.aQ,I6 x.rep.ei.why]
def LH(w:World)(ov:Value)(l:List iM):Prop:=(ov=.slice none 0 0/\l=[])\/∃b off n cc,ov=.slice (some ⟨b,off,none⟩) n cc/\ag w 2 iM.cells (some ⟨b,off,none⟩) n cc l/\l≠[]/\b<w.heap.size
structure mB(w:World)(c:bh)(g gw i:Nat)(A:Option Addr)(n cc:Nat)(ov:Value)(at_:Int)(x:Cl):Prop where
 blk:ai w g vW (qp gw A n cc ov at_ x)
 prog:ag w 11 ak.cells A n cc x.prog
 pl:∀a,A=some a->a.block<w.heap.size
 ops:LH w ov x.ops
 cg:c g=some (.at_ (20+i))
 cp:∀a,A=some a->c a.block=some (.at_ (20+i))
 co:∀k,ov.ownBlock=some k->c k=some (.at_ (20+i))
 np:∀a,A=some a->a.block≠g
 no:∀k,ov.ownBlock=some k->k≠g
def Iy(w:World)(c:bh)(g gw i:Nat)(x:Cl):Prop:=∃A n cc ov,mB w c g gw i A n cc ov (x.at_:Int) x
def sG(i:Nat)(t:Tag):Prop:=dL t\/t=.at_ (20+i)
def cZ{n:Nat}(h:17<=n):¬dL (.at_ n):=by
 rintro(h1|⟨m,h1,h2,h3⟩|⟨j,h1⟩)
 ·exact fB oM h1
 ·injection h3;omega
 ·cases h1
def cB(i:Nat):¬sG i .nS:=by
 rintro(h|h)
 ·exact aB h
 ·cases h
section
variable{T:Tag->Prop}{S:Nat->Prop}{w w' : World}{c c' : bh}{g gw i:Nat}{A:Option Addr}{n cc:Nat}{ov:Value}{at_:Int}{x:Cl}
def LH.upd{l:List iM}(h:LH w ov l)(hu:ah S w w')(hn:∀k,ov.ownBlock=some k->¬S k):LH w' ov l:=by
 rcases h with h|⟨b,off,n,cc,rfl,h1,h2,h3⟩
 ·exact .inl h
 ·exact .inr ⟨b,off,n,cc,rfl,aV h1 hu (λa ha=>by cases ha;exact hn b rfl),h2,aB9 h3 hu.size⟩
def LH.lt{l:List iM}(h:LH w ov l):∀k,ov.ownBlock=some k->k<w.heap.size:=by
 rcases h with⟨rfl,-⟩|⟨b,off,n,cc,rfl,h1,h2,h3⟩
 ·intro k hk;simp[Value.ownBlock]at hk
 ·intro k hk;simp[Value.ownBlock]at hk;subst hk;exact h3
def mB.step(h:mB w c g gw i A n cc ov at_ x)(hs:ae T w w' c c')(h1:¬T (.at_ (20+i))):mB w' c' g gw i A n cc ov at_ x:=
 ⟨hs.blk h.blk h.cg h1,aV h.prog hs.upd (λa ha=>ae.lX (S:=λ_=>True) (h.cp a ha) h1),λa ha=>aB9 (h.pl a ha) hs.upd.size,h.ops.upd hs.upd (λk hk=>ae.lX (S:=λ_=>True) (h.co k hk) h1),hs.keep h.blk.lt h.cg h1,λa ha=>hs.keep (h.pl a ha) (h.cp a ha) h1,λk hk=>hs.keep (h.ops.lt k hk) (h.co k hk) h1,h.np,h.no⟩
def mB.call(h:mB w c g gw i A n cc ov at_ x)(hb:Bl w w'):mB w' c g gw i A n cc ov at_ x:=
 ⟨h.blk.call hb,af h.prog hb,λa ha=>aB9 (h.pl a ha) hb.size,h.ops.upd (S:=λ_=>False) (ah.aa hb) (λ_ _ h=>h),h.cg,h.cp,h.co,h.np,h.no⟩
def mB.off(h:mB w c g gw i A n cc ov at_ x)(hu:ah S w w')(hS:∀k,S k->c k=none):mB w' c g gw i A n cc ov at_ x:=by
 have hn:∀k t,c k=some t->¬S k:=λk t e hs=>by rw[hS k hs]at e;cases e
 exact⟨h.blk.upd hu (hn g _ h.cg),aV h.prog hu (λa ha=>hn _ _ (h.cp a ha)),λa ha=>aB9 (h.pl a ha) hu.size,h.ops.upd hu (λk hk=>hn k _ (h.co k hk)),h.cg,h.cp,h.co,h.np,h.no⟩
def Iy.step(h:Iy w c g gw i x)(hs:ae T w w' c c')(h1:¬T (.at_ (20+i))):Iy w' c' g gw i x:=by
 obtain⟨A,n,cc,ov,h⟩:=h;exact⟨A,n,cc,ov,h.step hs h1⟩
def Iy.call(h:Iy w c g gw i x)(hb:Bl w w'):Iy w' c g gw i x:=by
 obtain⟨A,n,cc,ov,h⟩:=h;exact⟨A,n,cc,ov,h.call hb⟩
def mB.put(h:mB w c g gw i A n cc ov at_ x){ov' : Value}{at' : Int}{x' : Cl}(hu:ah (λk=>k=g) w w')(hb:ai w' g vW (qp gw A n cc ov' at' x'))(hp:x'.prog=x.prog)(ho:LH w' ov' x'.ops)(hc:∀k,ov'.ownBlock=some k->c k=some (.at_ (20+i)))(hn:∀k,ov'.ownBlock=some k->k≠g):mB w' c g gw i A n cc ov' at' x':=
 ⟨hb,by rw[hp];exact aV h.prog hu (λa ha=>h.np a ha),λa ha=>aB9 (h.pl a ha) hu.size,ho,h.cg,h.cp,hc,h.np,hn⟩
def mB.Gu(h:mB w c g gw i A n cc ov at_ x){at' : Int}{x' : Cl}(hu:ah (λk=>k=g) w w')(hb:ai w' g vW (qp gw A n cc ov at' x'))(hp:x'.prog=x.prog)(ho:x'.ops=x.ops):mB w' c g gw i A n cc ov at' x':=
 h.put hu hb hp (by rw[ho];exact h.ops.upd hu (λk hk=>h.no k hk)) h.co h.no
def mB.n_(h:mB w c g gw i A n cc ov at_ x):n=x.prog.length:=h.prog.1.symm
end
theorem Ef{w:World}{c:bh}{g gw i:Nat}{A:Option Addr}{n cc:Nat}{ov:Value}{at_:Int}{x:Cl}(h:mB w c g gw i A n cc ov at_ x):Calls prog 334 #[pt g] w (Rt (.bool x.over) (Bl w)):=by
 have:=h.blk.z 1 (.slice A n cc);have:=h.blk.z 4 (I6 (x.nth:Int));have HQ:x.over=decide ((n:Int)<=(x.nth:Int)):=by unfold Cl.over;rw[h.n_];simp
 rw[HQ];clear h;generalize x.nth=N at *
 by_cases hle:n<=N
 ·have d1:decide ((n:Int)<=(N:Int))=true:=sH hle
  rw[d1];go_enter func334,ntmps334;go_wp2;go_quiet(fail);go_wp2;go_ret;exact⟨rfl,below_drewN bR _⟩
 ·have d1:decide ((n:Int)<=(N:Int))=false:=sH hle
  rw[d1];go_enter func334,ntmps334;go_wp2;go_quiet(fail);go_wp2;go_ret;exact⟨rfl,below_drewN bR _⟩
end
end Go.Proofs.YtjgmjohiehbgaaaGreat
