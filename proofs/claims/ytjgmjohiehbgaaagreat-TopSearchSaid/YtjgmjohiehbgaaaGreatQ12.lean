/- Part 12. -/
import Derived.Test.YtjgmjohiehbgaaaGreatQ11
import Derived.Deep.WholeRow
namespace Go.Proofs.YtjgmjohiehbgaaaGreat
open Go.RowKit Go.Proofs.Tryz
set_option maxHeartbeats 20000000
set_option maxRecDepth 100000
set_option linter.all false
variable{F:Fence}{P R S S1 S2 T:List bo}{Q:Exit->Act->World->Prop}{W w wr:World}{a g j k n:Nat}{b:Int}{e:Ev}{f:Bool}{l:List Ev}{op:Oper}{ops:Array Oper}{rest:List Oper}{x:bo}
theorem oT(N:Nat)(IH:ah1 N)(g n c a m b lo hi:Nat)(P X Y Q:List bo)(w:World)(hN:b-a<=N+1)(ha:a=P.length)(hm:m=a+X.length)(hb:b=m+Y.length)(hX:1<X.length)(hY:1<Y.length)(hn:b+Q.length=n)(fo:n<=100000)
 (hbr:(a+b) / 2<m/\lo=(a+b) / 2+m-b/\hi=(a+b) / 2\/¬(a+b) / 2<m/\lo=a/\hi=m) (sX:ja cY X) (sY:ja cY Y) (h:bI w g (P++X++Y++Q)) :
 Calls prog 312 #[.slice (some ⟨g,0,none⟩) n c,I6 a,I6 m,I6 b,ia] w (kj w g (P++mg cY X Y++Q)):=by
 obtain⟨mid,Ie⟩:=zE ((a+b) / 2);obtain⟨nn,YI⟩:=zE (mid+m);rcases hbr with⟨b1,b2,b3⟩|⟨b1,b2,b3⟩
 all_goals (
 first|rw[<-Ie]at b1 b2 b3|rw[<-Ie]at b1
 obtain⟨K,⟨k1,k2,k3,k4,k5,k6⟩,key,X1,X2,Y1,Y2,eX,eY,lX1,lX2,lY1,lY2,emg⟩:=Qf X Y a m b mid nn lo hi hm hb oM oM Ie YI oM sX sY;have:b<=n:=oM
 obtain⟨e,he⟩:∃e,e+K=mid+m:=⟨mid+m-K,by omega⟩
 obtain⟨L2,L3,t1,n1,t2,n2,t3,n3⟩:=Us N IH g n c a m b mid K e P Q X1 X2 Y1 Y2 hN ha k3 k4 k5 oM he oM oM Ie oM lX1 lX2 lY1 oM hn fo (by rw[eX]at sX;exact(aH3.1 sX).1) (by rw[eX]at sX;exact(aH3.1 sX).2.1) (by rw[eY]at sY;exact(aH3.1 sY).1) (by rw[eY]at sY;exact(aH3.1 sY).2.1);have e0:P++X++Y++Q=P++X1++X2++Y1++(Y2++Q):=by rw[eX,eY];simp
 rw[<-e0]at t1 n1;have T1:=zD t1;have T2:=zD t2;have T3:=zD t3;have N1:=zD n1;have N2:=zD n2;have N3:=zD n3;have H0:=zD h;have:=zD (show(P++X++Y++Q).length=n from by simp;omega);have HY:=zD (λ(e:Nat)(p1:lo<=e)(p2:e<hi)=>(show ∃x y,(P++X++Y++Q)[e]? = some x/\(P++X++Y++Q)[nn-1-e]? = some y/\cY x y=decide (e<K)from by
  obtain⟨x,y,q1,q2,q3⟩:=key e p1 p2;refine⟨x,y,?_,?_,q3⟩
  ·rw[aD0,aD0,aC7 oM,aC9 (by have:=(d9.1 q1).1;omega),<-ha,q1]
  ·have:=(d9.1 q2).1
   rw[aD0,aC7 sM,aC9 sM,<-q2]
   congr 1;simp;omega))
 have EL:=zD (show P++(mg cY X1 Y1)++(mg cY X2 Y2)++Q=P++mg cY X Y++Q from by rw[emg];simp);have:IntKind.i64.wrap ((m:Int)-(a:Int))=(X.length:Int):=by rw[IntKind.wrap_i64];omega
 have:IntKind.i64.wrap ((b:Int)-(m:Int))=(Y.length:Int):=by rw[IntKind.wrap_i64];omega
 have:((X.length:Int)==1)=false:=by simp;omega
 have:((Y.length:Int)==1)=false:=by simp;omega
 generalize P++X++Y++Q=L0 at *;generalize P++mg cY X Y++Q=L1 at *;generalize X.length=xl at *;generalize Y.length=yl at *;have:a<=100000:=oM
 have:m<=100000:=oM
 have:b<=100000:=oM
 have:mid<=100000:=oM
 have:((a:Int)+(b:Int)) / 2=(mid:Int):=oM
 have: ∀args W,(callFunc 285 args).run prog W=.ok (.enter 285 args) W:=λ_ _=>by rfl
 have:=zD Ie;have tB:=zD YI;have HEe:=zD he;have:m<n:=oM
 have:a<m:=oM
 have JS:hi<=m:=oM
 have JT:hi<=mid:=oM
 have tY:mid+m<=b+lo:=oM
 first|(have:decide (mid<m)=true:=by simp;omega)|(have:decide (mid<m)=false:=by simp;omega)
 clear t1 t2 t3 n1 n2 n3 e0 h key eX eY emg sX sY lX1 lX2 lY1 lY2
 first|(have HBr:=zD (show I6 ((mid:Int)+(m:Int)-(b:Int))=I6 (lo:Int)/\I6 (mid:Int)=I6 (hi:Int)from⟨congrArg (Value.int .i64) oM,congrArg (Value.int .i64) oM⟩))|(have HBr:=zD (show I6 ((a:Int))=I6 (lo:Int)/\I6 (m:Int)=I6 (hi:Int)from⟨congrArg (Value.int .i64) oM,congrArg (Value.int .i64) oM⟩))
 clear ha hm hb hn hX hY Ie YI he b2 b3;go_enter func312,ntmps312;go_wp2;go_loopw[20,21] (λvi vj wr=>∃(i j:Nat),vi = I6 i/\vj = I6 j/\lo<=i/\i<=K/\K<=j/\j<=hi/\bI wr g L0/\ah (λk=>k=g) w wr) (λvi vj _=>(intOf vj).toNat-(intOf vi).toNat)
 case atStart=>exact⟨lo,hi,HBr.out.1,HBr.out.2,aC2 _,k1,k2,aC2 _,H0.out,ah.refl _ _⟩
 case round=>
 obtain⟨i,j,rfl,rfl,wD,Fl,Fo,JU,mZ,zy⟩:=hrel;have HA:=zD mZ;have HU:=zD zy;clear mZ zy
 by_cases hij:i<j
 ·obtain⟨h,hh⟩:=zE ((i+j) / 2)
  have:((i:Int)+(j:Int)) / 2=(h:Int):=oM
  have:i<=100000:=oM
  have:j<=100000:=oM
  have:i<=h:=oM
  have:h<j:=oM
  obtain⟨x,y,hx,hy,hge⟩:=HY.out h oM oM;obtain⟨q,hq⟩:=zE (nn-1-h);have:(mid:Int)+(m:Int)-1-(h:Int)=(q:Int):=by have:=tB.out;omega
  have:q<n:=oM
  have:IntKind.i64.wrap (q:Int)=(q:Int):=by rw[IntKind.wrap_i64];omega
  rw[<-hq]at hy;have HXh:=zD hx;have HYq:=zD hy;obtain⟨C,hC,hcm⟩:=uk y x;have HC:=zD hcm;rw[hge]at hC;clear hx hy hcm hge hh hq
  by_cases hhK:h<K
  ·rw[decide_eq_true hhK]at hC
   go_upto_region 35 with fail
   refine zB λS0=>?_
   refine zk 9 [0,1,2,3,4] [ia,_,_,_,I6 (q:Int)] (.q zK<|.q zK<|.q zK<|.q zK<|.f) S0 ?_;refine zk 4 [5,6,7,8,9] [.pointer (some ⟨g,q*3,none⟩),.agg y.row,_,_,.pointer (some ⟨g,h*3,none⟩)] (.c rfl rfl (zl λ_ _=>aN rfl rfl rfl oM)<|.c rfl rfl (zl λ_ h=>aF (ty:=kP) (x:=.tmp 163) rfl rfl (bI.load (HA.out.call h) HYq.out))<|.c rfl rfl zPP<|.c rfl rfl zPP<|.c rfl rfl (zl λ_ _=>aN rfl rfl rfl oM) .nil) S0 ?_;refine zk 3 [10] [.agg x.row] (.c rfl rfl (zl λ_ h=>aF (ty:=kP) (x:=.tmp 167) rfl rfl (bI.load (HA.out.call h) HXh.out)) .nil) S0 ?_;refine zQ 11 ?_;go_wp2_with(go_at_fn 285;refine zM (HC.out _) λv9 b8=>?_);refine .i (zT S0 b8) ?_;have S9:=zT S0 b8;refine zk 0 [12,13] [.bool false,.bool true] (.q zK<|.f) S9 ?_;refine zd ?_;have J:=zD (HA.out.call S9);have U:=zD (HU.out.call S9);clear b8 S9 S0 HC hC;go_wp2;go_roundw
   case rel=>exact⟨h+1,j,by first|rfl|go_num,rfl,by omega,by omega,by omega,by omega,J.out,U.out⟩
   case measure=>first|(simp[intOf];done)|(simp[intOf];omega)
  ·rw[decide_eq_false hhK]at hC
   go_upto_region 35 with fail
   refine zB λS0=>?_
   refine zk 9 [0,1,2,3,4] [ia,_,_,_,I6 (q:Int)] (.q zK<|.q zK<|.q zK<|.q zK<|.f) S0 ?_;refine zk 4 [5,6,7,8,9] [.pointer (some ⟨g,q*3,none⟩),.agg y.row,_,_,.pointer (some ⟨g,h*3,none⟩)] (.c rfl rfl (zl λ_ _=>aN rfl rfl rfl oM)<|.c rfl rfl (zl λ_ h=>aF (ty:=kP) (x:=.tmp 163) rfl rfl (bI.load (HA.out.call h) HYq.out))<|.c rfl rfl zPP<|.c rfl rfl zPP<|.c rfl rfl (zl λ_ _=>aN rfl rfl rfl oM) .nil) S0 ?_;refine zk 3 [10] [.agg x.row] (.c rfl rfl (zl λ_ h=>aF (ty:=kP) (x:=.tmp 167) rfl rfl (bI.load (HA.out.call h) HXh.out)) .nil) S0 ?_;refine zQ 11 ?_;go_wp2_with(go_at_fn 285;refine zM (HC.out _) λv9 b8=>?_);refine .i (zT S0 b8) ?_;have S9:=zT S0 b8;refine zk 0 [12,13] [.bool true,.bool false] (.q zK<|.f) S9 ?_;refine zd ?_;have J:=zD (HA.out.call S9);have U:=zD (HU.out.call S9);clear b8 S9 S0 HC hC;go_wp2;go_roundw
   case rel=>exact⟨i,h,rfl,by first|rfl|go_num,by omega,by omega,by omega,by omega,J.out,U.out⟩
   case measure=>first|(simp[intOf];done)|(simp[intOf];omega)
 ·obtain rfl:i=K:=oM
  obtain rfl:i=j:=oM
  have:i<=100000:=oM
  have:e<=100000:=by have:=HEe.out;omega
  have A0:=HA;have JV:=HEe.out;have:(mid:Int)+(m:Int)-(i:Int)=(e:Int):=oM
  clear hij
  by_cases c1:i<m<;>by_cases c4:i<mid<;>by_cases c3:a<i<;>by_cases c2:e<b
  all_goals
   have C1:=zD c1;have C2:=zD c2;have C3:=zD c3;have C4:=zD c4
  ·
   first
   |exfalso;omega
   |have:m<e:=oM
    have:mid<e:=oM
    have HC:=zD (T1.out wr oM oM A0.out);clear k1 k2 k3 k4 k5 k6 Fl Fo wD JU JV JS JT tY;go_wp2_with fail
    with_reducible (refine Calls.mono HC.out ?_)
    rintro e2 w2 ⟨rfl,ha2,iO⟩;have A2:=zD ha2;have U2:=zD (HU.out.trans iO iL);clear ha2 iO;have JN:=zD (T2.out w2 C3.out C4.out A2.out);go_wp2_with fail
    with_reducible (refine Calls.mono JN.out ?_)
    rintro e3 w3 ⟨rfl,Ut,jP⟩;have A3:=zD Ut;have U3:=zD (U2.out.trans jP iL);clear Ut jP;have tT:=zD (T3.out w3 C1.out C2.out A3.out);go_wp2_with fail
    with_reducible (refine Calls.mono tT.out ?_)
    rintro e4 w4 ⟨rfl,Cu,ki⟩;have A4:=zD (show bI w4 g L1 from by rw[<-EL.out];exact Cu);have U4:=zD (U3.out.trans ki iL);clear Cu ki;go_wp2;go_returns;exact⟨rfl,A4.out,U4.out⟩
  ·
   first
   |exfalso;omega
   |have:m<e:=oM
    have:mid<e:=oM
    have HC:=zD (T1.out wr oM oM A0.out);clear k1 k2 k3 k4 k5 k6 Fl Fo wD JU JV JS JT tY;go_wp2_with fail
    with_reducible (refine Calls.mono HC.out ?_)
    rintro e2 w2 ⟨rfl,ha2,iO⟩;have A2:=zD ha2;have U2:=zD (HU.out.trans iO iL);clear ha2 iO;have JN:=zD (T2.out w2 C3.out C4.out A2.out);go_wp2_with fail
    with_reducible (refine Calls.mono JN.out ?_)
    rintro e3 w3 ⟨rfl,Ut,jP⟩;have A3:=zD Ut;have U3:=zD (U2.out.trans jP iL);clear Ut jP;have A4:=zD (show bI w3 g L1 from by rw[<-EL.out,<-N3.out (λhh=>C2.out hh.2)];exact A3.out);go_wp2;go_returns;exact⟨rfl,A4.out,U3.out⟩
  ·
   first
   |exfalso;omega
   |have:m<e:=oM
    have:mid<e:=oM
    have HC:=zD (T1.out wr oM oM A0.out);clear k1 k2 k3 k4 k5 k6 Fl Fo wD JU JV JS JT tY;go_wp2_with fail
    with_reducible (refine Calls.mono HC.out ?_)
    rintro e2 w2 ⟨rfl,ha2,iO⟩;have A2:=zD ha2;have U2:=zD (HU.out.trans iO iL);clear ha2 iO;have A3:=zD (show bI w2 g L3 from by rw[<-N2.out (λhh=>C3.out hh.1)];exact A2.out);have tT:=zD (T3.out w2 C1.out C2.out A3.out);go_wp2_with fail
    with_reducible (refine Calls.mono tT.out ?_)
    rintro e4 w4 ⟨rfl,Cu,ki⟩;have A4:=zD (show bI w4 g L1 from by rw[<-EL.out];exact Cu);have U4:=zD (U2.out.trans ki iL);clear Cu ki;go_wp2;go_returns;exact⟨rfl,A4.out,U4.out⟩
  ·
   first
   |exfalso;omega
   |have:m<e:=oM
    have:mid<e:=oM
    have HC:=zD (T1.out wr oM oM A0.out);clear k1 k2 k3 k4 k5 k6 Fl Fo wD JU JV JS JT tY;go_wp2_with fail
    with_reducible (refine Calls.mono HC.out ?_)
    rintro e2 w2 ⟨rfl,ha2,iO⟩;have A2:=zD ha2;have U2:=zD (HU.out.trans iO iL);clear ha2 iO;have A3:=zD (show bI w2 g L3 from by rw[<-N2.out (λhh=>C3.out hh.1)];exact A2.out);have A4:=zD (show bI w2 g L1 from by rw[<-EL.out,<-N3.out (λhh=>C2.out hh.2)];exact A3.out);go_wp2;go_returns;exact⟨rfl,A4.out,U2.out⟩
  ·
   first
   |exfalso;omega
   |have: ¬(m<e):=oM
    have:mid<e:=oM
    have A2:=zD (show bI wr g L2 from by rw[<-N1.out oM];exact A0.out);clear k1 k2 k3 k4 k5 k6 Fl Fo wD JU JV JS JT tY;have A3:=zD (show bI wr g L3 from by rw[<-N2.out (λhh=>C4.out hh.2)];exact A2.out);have tT:=zD (T3.out wr C1.out C2.out A3.out);go_wp2_with fail
    with_reducible (refine Calls.mono tT.out ?_)
    rintro e4 w4 ⟨rfl,Cu,ki⟩;have A4:=zD (show bI w4 g L1 from by rw[<-EL.out];exact Cu);have U4:=zD (HU.out.trans ki iL);clear Cu ki;go_wp2;go_returns;exact⟨rfl,A4.out,U4.out⟩
  ·
   first
   |exfalso;omega
   |have: ¬(m<e):=oM
    have:mid<e:=oM
    have A2:=zD (show bI wr g L2 from by rw[<-N1.out oM];exact A0.out);clear k1 k2 k3 k4 k5 k6 Fl Fo wD JU JV JS JT tY;have A3:=zD (show bI wr g L3 from by rw[<-N2.out (λhh=>C4.out hh.2)];exact A2.out);have A4:=zD (show bI wr g L1 from by rw[<-EL.out,<-N3.out (λhh=>C2.out hh.2)];exact A3.out);go_wp2;go_returns;exact⟨rfl,A4.out,HU.out⟩
  ·
   first
   |exfalso;omega
   |have: ¬(m<e):=oM
    have:mid<e:=oM
    have A2:=zD (show bI wr g L2 from by rw[<-N1.out oM];exact A0.out);clear k1 k2 k3 k4 k5 k6 Fl Fo wD JU JV JS JT tY;have A3:=zD (show bI wr g L3 from by rw[<-N2.out (λhh=>C3.out hh.1)];exact A2.out);have tT:=zD (T3.out wr C1.out C2.out A3.out);go_wp2_with fail
    with_reducible (refine Calls.mono tT.out ?_)
    rintro e4 w4 ⟨rfl,Cu,ki⟩;have A4:=zD (show bI w4 g L1 from by rw[<-EL.out];exact Cu);have U4:=zD (HU.out.trans ki iL);clear Cu ki;go_wp2;go_returns;exact⟨rfl,A4.out,U4.out⟩
  ·
   first
   |exfalso;omega
   |have: ¬(m<e):=oM
    have:mid<e:=oM
    have A2:=zD (show bI wr g L2 from by rw[<-N1.out oM];exact A0.out);clear k1 k2 k3 k4 k5 k6 Fl Fo wD JU JV JS JT tY;have A3:=zD (show bI wr g L3 from by rw[<-N2.out (λhh=>C3.out hh.1)];exact A2.out);have A4:=zD (show bI wr g L1 from by rw[<-EL.out,<-N3.out (λhh=>C2.out hh.2)];exact A3.out);go_wp2;go_returns;exact⟨rfl,A4.out,HU.out⟩
  ·
   first
   |exfalso;omega
   |have:m<e:=oM
    have: ¬(mid<e):=oM
    have A2:=zD (show bI wr g L2 from by rw[<-N1.out oM];exact A0.out);clear k1 k2 k3 k4 k5 k6 Fl Fo wD JU JV JS JT tY;have JN:=zD (T2.out wr C3.out C4.out A2.out);go_wp2_with fail
    with_reducible (refine Calls.mono JN.out ?_)
    rintro e3 w3 ⟨rfl,Ut,jP⟩;have A3:=zD Ut;have U3:=zD (HU.out.trans jP iL);clear Ut jP;have A4:=zD (show bI w3 g L1 from by rw[<-EL.out,<-N3.out (λhh=>C1.out hh.1)];exact A3.out);go_wp2;go_returns;exact⟨rfl,A4.out,U3.out⟩
  ·
   first
   |exfalso;omega
   |have:m<e:=oM
    have: ¬(mid<e):=oM
    have A2:=zD (show bI wr g L2 from by rw[<-N1.out oM];exact A0.out);clear k1 k2 k3 k4 k5 k6 Fl Fo wD JU JV JS JT tY;have JN:=zD (T2.out wr C3.out C4.out A2.out);go_wp2_with fail
    with_reducible (refine Calls.mono JN.out ?_)
    rintro e3 w3 ⟨rfl,Ut,jP⟩;have A3:=zD Ut;have U3:=zD (HU.out.trans jP iL);clear Ut jP;have A4:=zD (show bI w3 g L1 from by rw[<-EL.out,<-N3.out (λhh=>C1.out hh.1)];exact A3.out);go_wp2;go_returns;exact⟨rfl,A4.out,U3.out⟩
  ·
   first
   |exfalso;omega
   |have:m<e:=oM
    have: ¬(mid<e):=oM
    have A2:=zD (show bI wr g L2 from by rw[<-N1.out oM];exact A0.out);clear k1 k2 k3 k4 k5 k6 Fl Fo wD JU JV JS JT tY;have A3:=zD (show bI wr g L3 from by rw[<-N2.out (λhh=>C3.out hh.1)];exact A2.out);have A4:=zD (show bI wr g L1 from by rw[<-EL.out,<-N3.out (λhh=>C1.out hh.1)];exact A3.out);go_wp2;go_returns;exact⟨rfl,A4.out,HU.out⟩
  ·
   first
   |exfalso;omega
   |have:m<e:=oM
    have: ¬(mid<e):=oM
    have A2:=zD (show bI wr g L2 from by rw[<-N1.out oM];exact A0.out);clear k1 k2 k3 k4 k5 k6 Fl Fo wD JU JV JS JT tY;have A3:=zD (show bI wr g L3 from by rw[<-N2.out (λhh=>C3.out hh.1)];exact A2.out);have A4:=zD (show bI wr g L1 from by rw[<-EL.out,<-N3.out (λhh=>C1.out hh.1)];exact A3.out);go_wp2;go_returns;exact⟨rfl,A4.out,HU.out⟩
  ·
   first
   |exfalso;omega
   |have: ¬(m<e):=oM
    have: ¬(mid<e):=oM
    have A2:=zD (show bI wr g L2 from by rw[<-N1.out oM];exact A0.out);clear k1 k2 k3 k4 k5 k6 Fl Fo wD JU JV JS JT tY;have A3:=zD (show bI wr g L3 from by rw[<-N2.out (λhh=>C4.out hh.2)];exact A2.out);have A4:=zD (show bI wr g L1 from by rw[<-EL.out,<-N3.out (λhh=>C1.out hh.1)];exact A3.out);go_wp2;go_returns;exact⟨rfl,A4.out,HU.out⟩
  ·
   first
   |exfalso;omega
   |have: ¬(m<e):=oM
    have: ¬(mid<e):=oM
    have A2:=zD (show bI wr g L2 from by rw[<-N1.out oM];exact A0.out);clear k1 k2 k3 k4 k5 k6 Fl Fo wD JU JV JS JT tY;have A3:=zD (show bI wr g L3 from by rw[<-N2.out (λhh=>C4.out hh.2)];exact A2.out);have A4:=zD (show bI wr g L1 from by rw[<-EL.out,<-N3.out (λhh=>C1.out hh.1)];exact A3.out);go_wp2;go_returns;exact⟨rfl,A4.out,HU.out⟩
  ·
   first
   |exfalso;omega
   |have: ¬(m<e):=oM
    have: ¬(mid<e):=oM
    have A2:=zD (show bI wr g L2 from by rw[<-N1.out oM];exact A0.out);clear k1 k2 k3 k4 k5 k6 Fl Fo wD JU JV JS JT tY;have A3:=zD (show bI wr g L3 from by rw[<-N2.out (λhh=>C3.out hh.1)];exact A2.out);have A4:=zD (show bI wr g L1 from by rw[<-EL.out,<-N3.out (λhh=>C1.out hh.1)];exact A3.out);go_wp2;go_returns;exact⟨rfl,A4.out,HU.out⟩
  ·
   first
   |exfalso;omega
   |have: ¬(m<e):=oM
    have: ¬(mid<e):=oM
    have A2:=zD (show bI wr g L2 from by rw[<-N1.out oM];exact A0.out);clear k1 k2 k3 k4 k5 k6 Fl Fo wD JU JV JS JT tY;have A3:=zD (show bI wr g L3 from by rw[<-N2.out (λhh=>C3.out hh.1)];exact A2.out);have A4:=zD (show bI wr g L1 from by rw[<-EL.out,<-N3.out (λhh=>C1.out hh.1)];exact A3.out);go_wp2;go_returns;exact⟨rfl,A4.out,HU.out⟩)
structure DF(w wr:World)(g a j:Nat)(P T R:List bo)(x:bo)(S1 S2:List bo):Prop where
 la:a=P.length
 lj:j=a+S1.length
 hT:S1++S2=T
 gt:∀y∈S2,cY y x=false
 arr:bI wr g (P++S1++x::S2++R)
 upd:ah (λk=>k=g) w wr
def DF.call(h:DF w wr g a j P T R x S1 S2)(hb:Bl wr W):DF w W g a j P T R x S1 S2:=
 ⟨h.la,h.lj,h.hT,h.gt,h.arr.call hb,h.upd.call hb⟩
def DF.here(h:DF w wr g a j P T R x S1 S2):(P++S1++x::S2++R)[j]? = some x:=by
 rw[h.lj,h.la,aD0 (P++S1),<-aB8,aE0];simp
def DF.prev(h:DF w wr g a (j+1) P T R x S1 S2)(hj:a<j+1): ∃S y,S1=S++[y]/\j=a+S.length/\(P++S1++x::S2++R)[j]? = some y/\((P++S1++x::S2++R).set (j+1) y).set j x=P++S++x::(y::S2)++R:=by
 rcases aS6 S1 with e|⟨S,y,e⟩
 ·have:=h.lj;rw[e]at this;simp at this;omega
 ·rw[aS7]at e
  have l1:j=a+S.length:=by have:=h.lj;rw[e]at this;simp at this;omega
  have l2:j=(P++S).length:=by rw[aB8,<-h.la];exact l1
  refine⟨S,y,e,l1,?_,?_⟩
  ·rw[e,l2]
   simp
  ·have e0:P++S1++x::S2++R=(P++S)++y::([]++x::(S2++R)):=by rw[e];simp
   have:=Nz (P++S) [] (S2++R) y x;rw[e0,l2];rw[List.set_comm _ _ oM];rw[show(P++S).length+1=(P++S).length+1+([]:List bo).length from rfl,this];simp
def DF.next{w': World}{y:bo}(h:DF w wr g a (j+1) P T R x (S++[y]) S2)(hj:j=a+S.length)(hy:cY y x=false)(ha:bI w' g (P++S++x::(y::S2)++R))(hu:ah (λk=>k=g) w w'):DF w w' g a j P T R x S (y::S2):=
 ⟨h.la,hj,by rw[<-h.hT];simp,λz hz=>by rcases aE6.1 hz with rfl|hz;exact hy;exact h.gt z hz,ha,hu⟩
def vU(P S Q:List bo)(k:Nat):List bo:=P++bL cY (S.take k)++S.drop k++Q
def DF.start{Q:List bo}(la:a=P.length)(hx:S[k]? = some x)(h:bI wr g (vU P S Q k))(hu:ah (λk=>k=g) w wr):DF w wr g a (a+k) P (bL cY (S.take k)) (S.drop (k+1)++Q) x (bL cY (S.take k)) []:=by
 have hk:=(d9.1 hx).1;refine⟨la,by rw[fx,aC3];omega,sI,(λy hy=>by simp at hy),?_,hu⟩;have hd:S.drop k=x::S.drop (k+1):=by rw[aH2 hk,(d9.1 hx).2]
 unfold vU at h;rw[hd]at h
 simpa using h
def DF.stop{Q:List bo}(h:DF w wr g a j P (bL cY (S.take k)) (S.drop (k+1)++Q) x S1 S2)(hx:S[k]? = some x)(hs:j=a\/∃T y,S1=T++[y]/\cY y x=true):bI wr g (vU P S Q (k+1)):=by
 have h1:∀y∈S1,cY y x=true:=by
  rcases hs with hs|⟨T,y,rfl,hy⟩
  ·intro y hy
   have:=h.lj;have:S1=[]:=aC0 oM;rw[this]at hy;simp at hy
  ·intro z hz
   rcases aD1.1 hz with hz|hz
   ·have hsrt:=jM wL iw (S.take k)
    rw[<-h.hT]at hsrt;unfold ja at hsrt;exact iw _ _ _ ((aH3.1 (aH3.1 hsrt).1).2.2 z hz y sI) hy
   ·simp at hz;rw[hz];exact hy
 have e:vU P S Q (k+1)=P++S1++x::S2++(S.drop (k+1)++Q):=by
  unfold vU;rw[ie hx,iu,<-h.hT,Ny h1 h.gt];simp
 rw[e];exact h.arr
theorem Qg(P S Q:List bo):vU P S Q 1=P++S++Q:=by
 unfold vU;cases S with
 |nil=>simp[bL]
 |cons x S=>simp[bL,nP]
def Uu(P S Q:List bo)(h:S.length<=k):vU P S Q k=P++bL cY S++Q:=by
 unfold vU;rw[aB5 h,aG3 h];simp
def DF.len{Q:List bo}(h:DF w wr g a j P (bL cY (S.take k)) (S.drop (k+1)++Q) x S1 S2)(hk:k<S.length):(P++S1++x::S2++(S.drop (k+1)++Q)).length=(P++S++Q).length:=by
 have:=congrArg List.length h.hT;rw[fx,aB8,aC3]at this;simp;omega
def Uv(x y:bo):∃C:Int,decide (C<0) = !cY y x/\∀W,Calls prog 285 #[.agg x.row,.agg y.row] W (Rt (I6 C) (Bl W)):=
 ⟨Uo x y,NC x y,λW=>NF x y W⟩
theorem uo(g n c a b:Nat)(P S Q:List bo)(w:World)(ha:a=P.length)(hb:b=a+S.length)(hn:b+Q.length=n)(hm:n<=100000)(h:bI w g (P++S++Q)) :
 Calls prog 311 #[.slice (some ⟨g,0,none⟩) n c,.int .i64 a,.int .i64 b,ia] w (kj w g (P++bL cY S++Q)):=by
 have H0:=zD (show bI w g (vU P S Q 1) by rw[Qg];exact h)
 have HA:=zD ha
 have HS:=zD hb
 have HX:=zD (λk (hk:a+k<b)=>(show ∃x,S[k]? = some x from⟨_,aB3 (by omega)⟩))
 have fJ:=zD (show(P++S++Q).length=n from by simp;omega)
 have hbn:b<=n:=by omega
 have ha5:a<=100000:=by omega
 clear ha hb hn h
 go_enter func311,ntmps311
 go_wp2
 go_loopw[8] (λv wr=>∃(i k:Nat),v=.int .i64 (i:Int)/\i=a+k/\1<=k/\(i<=b\/k=1)/\bI wr g (vU P S Q k)/\ah (λk=>k=g) w wr) (λi _=>b-(intOf i).toNat)
 case atStart=>exact⟨a+1,1,by go_num,rfl,aC2 _,.inr rfl,H0.out,ah.refl _ _⟩
 case round=>
  obtain⟨i0,k,rfl,hik,hk1,hkb,mZ,zy⟩:=hrel
  have HK:=zD hik
  by_cases hlt:i0<b
  ·obtain⟨x,hx⟩:=HX.out k (by omega)
   have I0:=zD (show DF w wr g a i0 P (bL cY (List.take k S)) (List.drop (k+1) S++Q) x (bL cY (List.take k S)) []from by rw[hik];exact DF.start HA.out hx mZ zy)
   have HXx:=zD hx
   have hltz:(i0:Int)<(b:Int):=by omega
   have hai:a<=i0:=by omega
   have dx:i0<=100000:=by omega
   clear mZ zy hx hkb hik
   go_wp2
   go_loopw[9] (λjv wr=>∃(j:Nat)(S1 S2:List bo),jv=.int .i64 j/\a<=j/\j<=i0/\DF w wr g a j P (bL cY (List.take k S)) (List.drop (k+1) S++Q) x S1 S2) (λjv _=>(intOf jv).toNat)
   case atStart=>exact⟨i0,_,_,rfl,hai,aC2 _,I0.out⟩
   case round=>
    obtain⟨j,S1,S2,rfl,hja,hjk,hin⟩:=hrel
    have HI:=zD hin
    by_cases hj:a<j
    ·obtain⟨i,rfl⟩:∃i,j=i+1:=⟨j-1,by omega⟩
     obtain⟨T,y,rfl,hiT,hy,hsw⟩:=hin.prev hj
     have HH:=zD hin.here
     have HY:=zD hy
     have HSW:=zD hsw
     have HT:=zD hiT
     have NH:=zD (show(P++(T++[y])++x::S2++(List.drop (k+1) S++Q)).length=n from by rw[hin.len (by have:=HS.out;have:=HK.out;omega)];exact fJ.out)
     have dj:(a:Int)<(i:Int)+1:=by omega
     have zi:IntKind.i64.wrap (i:Int)=(i:Int):=by rw[IntKind.wrap_i64];omega
     have eg:∀args W,(callFunc 285 args).run prog W=.ok (.enter 285 args) W:=λ_ _=>by rfl
     obtain⟨C,hC,hcm⟩:=Uv x y
     have HC:=zD hcm
     clear hin hy hsw hiT hcm
     focus(go_upto_region 4 with fail)
     cases hge:cY y x
     ·rw[hge]at hC
      refine zr (λ_=>false) (λwS=>Below wr.heap.size wr wS) ?_
      have S0:=(Below.refl wr.heap.size wr).drew
      refine zk 12 [0,1,2,3,4] [_,_,.bool true,.bool true,ia] (.q zK<|.q zK<|.q zK<|.q zK<|.f) S0 ?_
      refine zk 7 [5,6,7,8,9] [_,_,.pointer (some ⟨g,(i+1)*3,none⟩),.agg x.row,_] (.c rfl rfl zPP<|.c rfl rfl zPP<|.c rfl rfl (zl λ_ _=>aN rfl rfl rfl (by omega))<|.c rfl rfl (zl λ_ h=>aF (ty:=kP) (x:=.tmp 25) rfl rfl (bI.load (HI.out.arr.call h) HH.out))<|.f) S0 ?_
      refine zk 3 [10,11,12,13] [_,.int .i64 (i:Int),.pointer (some ⟨g,i*3,none⟩),.agg y.row] (.c rfl rfl zPP<|.c rfl rfl zPP<|.c rfl rfl (zl λ_ _=>aN rfl rfl rfl (by omega))<|.c rfl rfl (zl λ_ h=>aF (ty:=kP) (x:=.tmp 30) rfl rfl (bI.load (HI.out.arr.call h) HY.out)) .nil) S0 ?_
      refine zo 14 (λQ2 aI=>?_);go_wp2_with(go_at_fn 285;refine(HC.out _).mono ?_;rintro e v14 ⟨rfl,Li⟩);refine aI _ _ (λ_=>S0.trans (Li.mono S0.size)) ?_;clear aI Q2
      have S14:=S0.trans (Li.mono S0.size)
      refine zk 0 [15,16] [.bool true,.bool true] (.q zK<|.f) S14 ?_
      refine eQ (by kernel_rfl) ?_ _
      have J:=zD (HI.out.call S14)
      clear Li S14 S0 HC eg dj hC
      go_wp2
      focus(go_upto_region 6 with fail)
      refine zr (λ_=>false) (λwS=>ah (λk=>k=g) v14 wS) ?_
      have S0:=(ah.refl (λk=>k=g) v14).drew
      refine zk 13 [0,1,2,3,4] [_,_,_,_,.int .i64 (i:Int)] (.q zK<|.q zK<|.q zK<|.q zK<|.f) S0 ?_
      refine zk 8 [5,6,7,8,10] [_,_,.int .i64 (i:Int),.pointer (some ⟨g,i*3,none⟩),_] (.c rfl rfl zPP<|.c rfl rfl zPP<|.c rfl rfl zPP<|.c rfl rfl (zl λ_ _=>aN rfl rfl rfl (by omega))<|.f) S0 ?_
      refine zk 6 [11,12] [_,.pointer (some ⟨g,(i+1)*3,none⟩)] (.c rfl rfl zPP<|.c rfl rfl (zl λ_ _=>aN rfl rfl rfl (by omega)) .nil) S0 ?_
      refine FN (i:=9) (j:=13) (by kernel_rfl) rfl (by rfl) rfl (by rfl) (λQ2 aI=>?_) (λQ2 aI=>?_)
      ·
       go_wp2_with(refine bI.ld (w:=v14.drew) J.out.arr HY.out rfl (.tmp 45) rfl rfl rfl ?_)
       refine aI _ _ (λ_=>S0) ?_
       clear aI Q2
       refine zo 13 (λQ2 aI=>?_);go_wp2_with(refine bI.ld (w:=v14.drew) J.out.arr HH.out rfl (.tmp 49) rfl rfl rfl ?_);refine aI _ _ (λ_=>S0) ?_;clear aI Q2
       refine zk 3 [14] [.pointer (some ⟨g,(i+1)*3,none⟩)] (.c rfl rfl (zl λ_ _=>aN rfl rfl rfl (by omega)) .nil) S0 ?_
       refine zo 15 (λQ2 aI=>?_);go_wp2_with(refine bI.store (w:=v14.drew) J.out.arr (i:=i+1) (by rw[NH.out];omega) y rfl (.tmp 51) (.tmp 46) rfl rfl rfl rfl ?_;intro w5 h5 u5);refine aI _ _ (λ_=>S0.trans u5 (λk hk=>.inl hk)) ?_;clear aI Q2
       have S5:=S0.trans u5 (λk hk=>.inl hk)
       refine zk 1 [16] [.pointer (some ⟨g,i*3,none⟩)] (.c rfl rfl (zl λ_ _=>aN rfl rfl rfl (by omega)) .nil) S5 ?_
       refine zo 17 (λQ2 aI=>?_);go_wp2_with(refine bI.store h5 (i:=i) (by rw[aF3,NH.out];omega) x rfl (.tmp 52) (.tmp 50) rfl rfl rfl rfl ?_;intro w6 h6 u6);refine aI _ _ (λ_=>S5.trans u6 (λk hk=>.inl hk)) ?_;clear aI Q2
       have S6:=S5.trans u6 (λk hk=>.inl hk)
       refine eQ (by kernel_rfl) ?_ _
       have X6:=zD (J.out.next HT.out hge (by rw[<-HSW.out];exact h6) (J.out.upd.trans S6 (λk hk=>.inl hk)))
       clear h5 h6 u5 u6 S0 S5 S6
       go_wp2
       go_roundw
       case rel=>exact⟨i,_,_,by first|rfl|go_num,by omega,by omega,X6.out⟩
       case measure=>first|(simp[intOf];done)|(simp[intOf];omega)
      ·
       go_wp2_with(refine bI.ld (w:=v14.drew) J.out.arr HH.out rfl (.tmp 49) rfl rfl rfl ?_)
       refine aI _ _ (λ_=>S0) ?_
       clear aI Q2
       refine zo 9 (λQ2 aI=>?_);go_wp2_with(refine bI.ld (w:=v14.drew) J.out.arr HY.out rfl (.tmp 45) rfl rfl rfl ?_);refine aI _ _ (λ_=>S0) ?_;clear aI Q2
       refine zk 3 [14] [.pointer (some ⟨g,(i+1)*3,none⟩)] (.c rfl rfl (zl λ_ _=>aN rfl rfl rfl (by omega)) .nil) S0 ?_
       refine zo 15 (λQ2 aI=>?_);go_wp2_with(refine bI.store (w:=v14.drew) J.out.arr (i:=i+1) (by rw[NH.out];omega) y rfl (.tmp 51) (.tmp 46) rfl rfl rfl rfl ?_;intro w5 h5 u5);refine aI _ _ (λ_=>S0.trans u5 (λk hk=>.inl hk)) ?_;clear aI Q2
       have S5:=S0.trans u5 (λk hk=>.inl hk)
       refine zk 1 [16] [.pointer (some ⟨g,i*3,none⟩)] (.c rfl rfl (zl λ_ _=>aN rfl rfl rfl (by omega)) .nil) S5 ?_
       refine zo 17 (λQ2 aI=>?_);go_wp2_with(refine bI.store h5 (i:=i) (by rw[aF3,NH.out];omega) x rfl (.tmp 52) (.tmp 50) rfl rfl rfl rfl ?_;intro w6 h6 u6);refine aI _ _ (λ_=>S5.trans u6 (λk hk=>.inl hk)) ?_;clear aI Q2
       have S6:=S5.trans u6 (λk hk=>.inl hk)
       refine eQ (by kernel_rfl) ?_ _
       have X6:=zD (J.out.next HT.out hge (by rw[<-HSW.out];exact h6) (J.out.upd.trans S6 (λk hk=>.inl hk)))
       clear h5 h6 u5 u6 S0 S5 S6
       go_wp2
       go_roundw
       case rel=>exact⟨i,_,_,by first|rfl|go_num,by omega,by omega,X6.out⟩
       case measure=>first|(simp[intOf];done)|(simp[intOf];omega)
     ·rw[hge]at hC
      refine zr (λ_=>false) (λwS=>Below wr.heap.size wr wS) ?_
      have S0:=(Below.refl wr.heap.size wr).drew
      refine zk 12 [0,1,2,3,4] [_,_,.bool true,.bool true,ia] (.q zK<|.q zK<|.q zK<|.q zK<|.f) S0 ?_
      refine zk 7 [5,6,7,8,9] [_,_,.pointer (some ⟨g,(i+1)*3,none⟩),.agg x.row,_] (.c rfl rfl zPP<|.c rfl rfl zPP<|.c rfl rfl (zl λ_ _=>aN rfl rfl rfl (by omega))<|.c rfl rfl (zl λ_ h=>aF (ty:=kP) (x:=.tmp 25) rfl rfl (bI.load (HI.out.arr.call h) HH.out))<|.f) S0 ?_
      refine zk 3 [10,11,12,13] [_,.int .i64 (i:Int),.pointer (some ⟨g,i*3,none⟩),.agg y.row] (.c rfl rfl zPP<|.c rfl rfl zPP<|.c rfl rfl (zl λ_ _=>aN rfl rfl rfl (by omega))<|.c rfl rfl (zl λ_ h=>aF (ty:=kP) (x:=.tmp 30) rfl rfl (bI.load (HI.out.arr.call h) HY.out)) .nil) S0 ?_
      refine zo 14 (λQ2 aI=>?_);go_wp2_with(go_at_fn 285;refine(HC.out _).mono ?_;rintro e v14 ⟨rfl,Li⟩);refine aI _ _ (λ_=>S0.trans (Li.mono S0.size)) ?_;clear aI Q2
      have S14:=S0.trans (Li.mono S0.size)
      refine zk 0 [15,16] [.bool false,.bool false] (.q zK<|.f) S14 ?_
      refine eQ (by kernel_rfl) ?_ _
      have J:=zD (HI.out.call S14)
      have X6:=zD (J.out.stop HXx.out (.inr ⟨T,y,rfl,hge⟩))
      clear Li S14 S0 HC eg dj hC
      go_wp2
      go_roundw
      case rel=>exact⟨i0+1,k+1,by go_num,by have:=HK.out;omega,by omega,.inl (by omega),X6.out,J.out.upd⟩
      case measure=>first|(simp[intOf];done)|(simp[intOf];omega)
    ·obtain rfl:j=a:=by omega
     have dj:decide ((j:Int)<(j:Int))=false:=by simp
     have J0:=zD (hin.stop HXx.out (.inl rfl))
     clear hin
     focus(go_upto_region 4 with fail)
     refine zr (λ_=>false) (λwS=>Below wr.heap.size wr wS) ?_
     have S0:=(Below.refl wr.heap.size wr).drew
     refine zk 12 [0,1,2,3,4] [_,_,.bool false,.bool false,undef] (.q zK<|.q zK<|.q zK<|.q zK<|.c rfl rfl zn .nil) S0 ?_
     refine zk 7 [5,6,7,8,9] [undef,undef,undef,undef,undef] (.q zw<|.q zw<|.q zw<|.q zw<|.c rfl rfl zn .nil) S0 ?_
     refine zk 2 [10,11,12,13,14] [undef,undef,undef,undef,undef] (.q zw<|.q zw<|.q zw<|.q zw<|.c rfl rfl zn .nil) S0 ?_
     refine zk 0 [15,16] [undef,.bool false] (.q zw<|.f) S0 ?_
     refine eQ (by kernel_rfl) ?_ _
     have J:=zD (show bI wr.drew g (vU P S Q (k+1))from J0.out)
     have U:=zD (show ah (λk=>k=g) w wr.drew from HI.out.upd.drew)
     clear S0
     go_wp2
     go_roundw
     case rel=>exact⟨i0+1,k+1,by go_num,by have:=HK.out;omega,by omega,.inl (by omega),J.out,U.out⟩
     case measure=>first|(simp[intOf];done)|(simp[intOf];omega)
  ·have HE:=zD (Uu P S Q (k:=k) (by have:=HS.out;omega))
   have J:=zD mZ
   have U:=zD zy
   have hltz:(b:Int)<=(i0:Int):=by omega
   clear mZ zy hkb hik
   go_wp2
   go_returns
   exact⟨rfl,HE.out ▸ J.out,U.out⟩
abbrev pW:TypeId:=265
abbrev nj(n l:Int)(k:Key):Array Value:=#[I6 n,I6 l,V6 k.hi,V6 k.lo]
def ZQ(g:Nat)(n l:Int)(k:Key)(w:World)(e:Ending)(w' : World):Prop:=e=.returned (.bool true)/\ai w' g pW (nj n l k)/\ah (λj=>j=g) w w'
theorem as5{a:Int}(hab:a=1/\b=0\/a=2/\b=1\/a=3/\b=2\/a=5/\b=4\/a=6/\b=5\/a=7/\b=5\/a=7/\b=6)(tk n:Int)(cl:ak)(rp:kO)(ky kz:Key)(ad:aU)(hn:0<=n/\n<=1000)(h:ai w g pW (nj n b ky)):
 Calls prog 165 #[pt g,.agg (Ev.row ⟨a,tk,n,cl,rp,ky,ad⟩)] w (ZQ g n a ky w):=by
 have EX:=zW w (.cells (Ev.row ⟨a,tk,n,cl,rp,ky,ad⟩) eL);have BX:=ai.new w eL (Ev.row ⟨a,tk,n,cl,rp,ky,ad⟩);have H0:=h.call EX;have hgx:¬g=w.heap.size:=oH h.lt
 obtain⟨W1,hW1⟩:=zE ((w.alloc (.cells (Ev.row ⟨a,tk,n,cl,rp,ky,ad⟩) eL)).setCell ⟨g,1,none⟩ (I6 a));have U1:=((ah.refl (λj=>j=g) (w.alloc (.cells (Ev.row ⟨a,tk,n,cl,rp,ky,ad⟩) eL))).setCell (p:=⟨g,1,none⟩) (.inl rfl) (I6 a));have BL:=(H0.aX 1 (I6 a));rw[<-hW1]at U1 BL;have vP:=BX.upd U1 (λe=>hgx e.symm);have HB:ai W1 g pW (nj n a ky):=BL;have E1:ah (λj=>j=g) w W1:=(ah.aa EX).trans U1 iL;obtain⟨q1,q2,-⟩:=qC ky ky;rw[show jQ ky ky=true by simp[jQ]]at q2;have h0:=H0.z 0 (I6 n);have h1:=H0.z 1 (I6 b);have h2:=H0.z 2 (V6 ky.hi);have h3:=H0.z 3 (V6 ky.lo);have f0:=H0.frozen 0;have f1:=H0.frozen 1;have f2:=H0.frozen 2;have f3:=H0.frozen 3;have b0:=BX.z 0 (I6 a);have b2:=BX.z 2 (I6 n);have b27:=BX.z 27 (V6 ky.hi);have b28:=BX.z 28 (V6 ky.lo);clear h EX BX U1 BL;rcases hab with⟨rfl,rfl⟩|⟨rfl,rfl⟩|⟨rfl,rfl⟩|⟨rfl,rfl⟩|⟨rfl,rfl⟩|⟨rfl,rfl⟩|⟨rfl,rfl⟩<;>(go_enter func165,ntmps165;go_upto_region 21 with fail)<;>(rw[<-hW1];clear h0 h1 h2 h3 f0 f1 f2 f3 b0 b2 b27 b28 H0 hW1;have:=vP.z 2 (I6 n);have:=vP.z 27 (V6 ky.hi);have:=vP.z 28 (V6 ky.lo);have:=HB.z 0 (I6 n);have:=HB.z 2 (V6 ky.hi);have:=HB.z 3 (V6 ky.lo);generalize w.heap.size=gx at *;go_quiet(fail);go_wp2;go_ret;exact⟨rfl,(HB.call (below_drewN (Below.refl _ W1) nq)),(E1.trans (ah.aa (below_drewN (Below.refl _ W1) nq)) iL)⟩)
theorem as6{a:Int}(hab:a=1/\b=3)(tk n:Int)(cl:ak)(rp:kO)(ky kz:Key)(ad:aU)(hn:0<=n/\n<=1000)(h:ai w g pW (nj n b ky)):
 Calls prog 165 #[pt g,.agg (Ev.row ⟨a,tk,(n+1),cl,rp,ky,ad⟩)] w (ZQ g (n+1) a ky w):=by
 have EX:=zW w (.cells (Ev.row ⟨a,tk,(n+1),cl,rp,ky,ad⟩) eL);have BX:=ai.new w eL (Ev.row ⟨a,tk,(n+1),cl,rp,ky,ad⟩);have H0:=h.call EX;have hgx:¬g=w.heap.size:=oH h.lt
 obtain⟨W1,hW1⟩:=zE (((w.alloc (.cells (Ev.row ⟨a,tk,(n+1),cl,rp,ky,ad⟩) eL)).setCell ⟨g,0,none⟩ (I6 (n+1))).setCell ⟨g,1,none⟩ (I6 a));have U1:=(((ah.refl (λj=>j=g) (w.alloc (.cells (Ev.row ⟨a,tk,(n+1),cl,rp,ky,ad⟩) eL))).setCell (p:=⟨g,0,none⟩) (.inl rfl) (I6 (n+1))).setCell (p:=⟨g,1,none⟩) (.inl rfl) (I6 a));have BL:=((H0.aX 0 (I6 (n+1))).aX 1 (I6 a));rw[<-hW1]at U1 BL;have vP:=BX.upd U1 (λe=>hgx e.symm);have HB:ai W1 g pW (nj (n+1) a ky):=BL;have E1:ah (λj=>j=g) w W1:=(ah.aa EX).trans U1 iL;obtain⟨q1,q2,-⟩:=qC ky ky;rw[show jQ ky ky=true by simp[jQ]]at q2;have h0:=H0.z 0 (I6 n);have h1:=H0.z 1 (I6 b);have h2:=H0.z 2 (V6 ky.hi);have h3:=H0.z 3 (V6 ky.lo);have f0:=H0.frozen 0;have f1:=H0.frozen 1;have f2:=H0.frozen 2;have f3:=H0.frozen 3;have b0:=BX.z 0 (I6 a);have b2:=BX.z 2 (I6 (n+1));have b27:=BX.z 27 (V6 ky.hi);have b28:=BX.z 28 (V6 ky.lo);clear h EX BX U1 BL;rcases hab with⟨rfl,rfl⟩<;>(go_enter func165,ntmps165;go_upto_region 21 with fail)<;>(rw[<-hW1];clear h0 h1 h2 h3 f0 f1 f2 f3 b0 b2 b27 b28 H0 hW1;have:=vP.z 2 (I6 (n+1));have:=vP.z 27 (V6 ky.hi);have:=vP.z 28 (V6 ky.lo);have:=HB.z 0 (I6 (n+1));have:=HB.z 2 (V6 ky.hi);have:=HB.z 3 (V6 ky.lo);generalize w.heap.size=gx at *;go_quiet(fail);go_wp2;go_ret;exact⟨rfl,(HB.call (below_drewN (Below.refl _ W1) nq)),(E1.trans (ah.aa (below_drewN (Below.refl _ W1) nq)) iL)⟩)
theorem as7{a:Int}(hab:a=4/\b=0\/a=4/\b=7)(tk n:Int)(cl:ak)(rp:kO)(ky kz:Key)(ad:aU)(hn:0<=n/\n<=1000)(h:ai w g pW (nj n b kz)):
 Calls prog 165 #[pt g,.agg (Ev.row ⟨a,tk,n,cl,rp,ky,ad⟩)] w (ZQ g n a ky w):=by
 have EX:=zW w (.cells (Ev.row ⟨a,tk,n,cl,rp,ky,ad⟩) eL);have BX:=ai.new w eL (Ev.row ⟨a,tk,n,cl,rp,ky,ad⟩);have H0:=h.call EX;have hgx:¬g=w.heap.size:=oH h.lt
 obtain⟨W1,hW1⟩:=zE ((((w.alloc (.cells (Ev.row ⟨a,tk,n,cl,rp,ky,ad⟩) eL)).setCell ⟨g,2,none⟩ (V6 (ky.hi:Nat))).setCell ⟨g,3,none⟩ (V6 (ky.lo:Nat))).setCell ⟨g,1,none⟩ (I6 a));have U1:=((((ah.refl (λj=>j=g) (w.alloc (.cells (Ev.row ⟨a,tk,n,cl,rp,ky,ad⟩) eL))).setCell (p:=⟨g,2,none⟩) (.inl rfl) (V6 (ky.hi:Nat))).setCell (p:=⟨g,3,none⟩) (.inl rfl) (V6 (ky.lo:Nat))).setCell (p:=⟨g,1,none⟩) (.inl rfl) (I6 a));have BL:=(((H0.aX 2 (V6 (ky.hi:Nat))).aX 3 (V6 (ky.lo:Nat))).aX 1 (I6 a));rw[<-hW1]at U1 BL;have vP:=BX.upd U1 (λe=>hgx e.symm);have HB:ai W1 g pW (nj n a ky):=BL;have E1:ah (λj=>j=g) w W1:=(ah.aa EX).trans U1 iL;obtain⟨q1,q2,-⟩:=qC ky ky;rw[show jQ ky ky=true by simp[jQ]]at q2;have h0:=H0.z 0 (I6 n);have h1:=H0.z 1 (I6 b);have h2:=H0.z 2 (V6 kz.hi);have h3:=H0.z 3 (V6 kz.lo);have f0:=H0.frozen 0;have f1:=H0.frozen 1;have f2:=H0.frozen 2;have f3:=H0.frozen 3;have b0:=BX.z 0 (I6 a);have b2:=BX.z 2 (I6 n);have b27:=BX.z 27 (V6 ky.hi);have b28:=BX.z 28 (V6 ky.lo);clear h EX BX U1 BL;rcases hab with⟨rfl,rfl⟩|⟨rfl,rfl⟩<;>(go_enter func165,ntmps165;go_upto_region 21 with fail)<;>(rw[<-hW1];clear h0 h1 h2 h3 f0 f1 f2 f3 b0 b2 b27 b28 H0 hW1;have:=vP.z 2 (I6 n);have:=vP.z 27 (V6 ky.hi);have:=vP.z 28 (V6 ky.lo);have:=HB.z 0 (I6 n);have:=HB.z 2 (V6 ky.hi);have:=HB.z 3 (V6 ky.lo);generalize w.heap.size=gx at *;go_quiet(fail);go_wp2;go_ret;exact⟨rfl,(HB.call (below_drewN (Below.refl _ W1) nq)),(E1.trans (ah.aa (below_drewN (Below.refl _ W1) nq)) iL)⟩)
structure JY where
 n:Int
 l:Int
 key:Key
def Jm:JY:=⟨0,0,nO⟩
abbrev JY.row(t:JY):Array Value:=nj t.n t.l t.key
def JY.ok(t:JY)(e:Ev):Bool:=
 ([(1,0),(1,3),(2,1),(3,2),(4,0),(4,7),(5,4),(6,5),(7,5),(7,6)]:List (Int×Int)).contains (e.kind,t.l)&&decide (e.nth=if e.kind=1/\t.l=3 then t.n+1 else t.n)&&(decide (e.kind=4)||decide (e.key=t.key))&&decide (0<=t.n/\t.n<=1000)
def JY.next(t:JY)(e:Ev):JY:=⟨e.nth,e.kind,e.key⟩
def Ot(m:Int->JY)(e:Ev):Int->JY:=λt=>if t=e.task then(m t).next e else m t
def Mn:(Int->JY)->List Ev->Bool
 |_,[]=>true
 |m,e::l=>decide (0<=e.task/\e.task<32)&&(m e.task).ok e&&Mn (Ot m e) l
def y4(m:Int->JY)(l:List Ev):Int->JY:=l.foldl Ot m
theorem ZR{m:Int->JY}(h:Mn m l=true)(he:l[k]? = some e):(0<=e.task/\e.task<32)/\(y4 m (l.take k) e.task).ok e=true/\y4 m (l.take (k+1))=Ot (y4 m (l.take k)) e:=by
 induction l generalizing m k with
 |nil=>simp at he
 |cons x l ih=>
  simp only[Mn,aF5,decide_eq_true_eq]at h;cases k with
  |zero=>
   simp at he;subst he;exact⟨h.1.1,h.1.2,rfl⟩
  |succ k=>exact ih h.2 (sH he)
def ZT(t:JY)(e:Ev)(h:ai w g pW t.row)(ho:t.ok e=true):
 Calls prog 165 #[pt g,.agg e.row] w (ZQ g e.nth e.kind e.key w):=by
 obtain⟨kd,tk,nt,cl,rp,ky,ad⟩:=e;obtain⟨n,l,kz⟩:=t;unfold JY.ok at ho;simp only[aF5,decide_eq_true_eq,Bool.or_eq_true,List.contains_iff_mem,aE6,aU0,or_false,Prod.mk.injEq]at ho;obtain⟨⟨⟨h1,h2⟩,h3⟩,h4⟩:=ho;rcases h1 with⟨rfl,rfl⟩|⟨rfl,rfl⟩|⟨rfl,rfl⟩|⟨rfl,rfl⟩|⟨rfl,rfl⟩|⟨rfl,rfl⟩|⟨rfl,rfl⟩|⟨rfl,rfl⟩|⟨rfl,rfl⟩|⟨rfl,rfl⟩<;>simp at h2 h3<;>subst h2<;>(try subst h3)
 all_goals first|exact as5 sI tk _ cl rp _ nO ad h4 h|exact as6 sI tk _ cl rp _ nO ad h4 h|exact as7 sI tk _ cl rp ky kz ad h4 h
abbrev mtT:TypeId:=263
def CL:prog.underlying mtT=some (.map 3 pW):=underlying263
abbrev CM:Array Value:=ev0.row
def dF{P:Program}{a:Act}{o:Oper}(hw:Region.wanted o (yielded ops a.tmps)=true)(h:wpList P ops Q ({o with guard:=none} :: rest) a w):wpList P ops Q (o::rest) a w:=by
 unfold wpList at h |-;rw[if_pos (by simp[Region.wanted])]at h;rw[if_pos hw];exact h
def wQ(e:Ev):e.cells.toArray.all (·.oneCell')=true:=by
 simp only[List.all_toArray,aI7];exact DU e
def Wj(w:World):(zeroValue pW).run prog w=.ok (.agg Jm.row) w:=kZ
theorem Jn(A:Option Addr)(n cap:Nat)(l:List Ev)(w:World)(hs:gS w A n cap l)(hn:n<=100000)(a8:Mn (λ_=>Jm) l=true) :
 Calls prog 96 #[.slice A n cap] w (Rt (.bool true) (Bl w)):=by
 have Xy:=@run_makeMap prog;have HS:=hs;have kh:=a8;have HL:=hs.1;have hm:cap<=9223372036854775807:=by have:=hs.2.2.1;unfold maxLen at this;omega
 have hle:n<=cap:=hs.2.1;clear hs a8;go_enter func96,ntmps96;go_wp2;go_loopw[10] (λi wr=>∃(k:Nat)(f:Int->Option Value)(ks:List Int),k<=n/\i = I6 k/\bP XK wr w.heap.size f ks/\(∀t,(f t).getD (.agg Jm.row)=.agg (y4 (λ_=>Jm) (l.take k) t).row)/\ks.length<=k/\Bl w wr) (λi _=>n-(intOf i).toNat)
 case atStart=>exact⟨0,λ_=>none,[],aB6 _,rfl,bP.made XK w,λt=>rfl,aC2 _,(Below.refl _ w).alloc lR _⟩
 case round=>
  obtain⟨k,f,ks,hk,rfl,hg,hf,zt,aT⟩:=hrel;have HGm:=hg;have HFm:=hf;have Qn:=zt;have HB:=aT;clear hg hf zt aT
  by_cases hlt:k<n
  ·have Fb:(k:Int)<(n:Int):=oM
   obtain⟨b,off,e,rfl,he,fH,hcl⟩:=ag.at_ (af HS HB) hlt;have mC:wr.rangeAt b (off+k*34) e.cells:=λj v hv=>by have h9:=hcl j v hv;rw[<-aD9]at h9;exact h9
   obtain⟨ht,YV,hts⟩:=ZR kh he;have zZ:=ht;have HTo:=YV;have HTs:=hts;clear he hcl ht YV hts;go_upto_region 5 with(first
    |refine wpList_load_mid rfl eL (.tmp 12) rfl b (off+k*34) rfl e.cells _ mC underlying93 rfl kZ ?_
    |(refine wpList_store_row rfl eL (.tmp 5) (.tmp 13) rfl wr.heap.size eL _ _ rfl rfl (ai.new wr eL CM) rF kZ (wQ e) ?_;intro w2 hb2 hg2))
   have hlw:=HGm.lt;have HLw:=hlw;have HG2:=(HGm.alloc _).grown hg2 (by intro h;injection h with h;omega);have tG:=(HB.alloc HB.size _).grown hg2 (by have:=HB.size;simp;omega) (by intro b h;injection h with h;have:=HB.size;omega);have HS2:=hg2.size;have H2:=hb2;have c1:=hb2.z 1 (I6 e.task);have f1:=hb2.frozen 1;clear hlw hg2 hb2;go_upto_region 6 with(refine ik XK _ rfl _ _ mtT rfl pW CL _ (Wj _) w.heap.size f ks rfl HG2 e.task rfl ⟨by have:=zZ.1;omega,by have:=zZ.2;omega⟩ ?_;rw[HFm])
   clear c1 f1;have hl2:=tG.size;have hl3:=H2.lt;generalize hT:y4 (λ_=>Jm) (l.take k) e.task=T at *;have HT:=hT;clear hT;have HG3:=HG2.alloc (.cells T.row pW);have RZ:=tG.alloc tG.size (.cells T.row pW);have ZU:=H2.alloc (.cells T.row pW);have H3:=ai.new w2 pW T.row;have zu:=hl2;have HL3:=hl3;clear hl2 hl3;have aR4:=ZT _ e H3 HTo;have c1:=ZU.z 1 (I6 e.task);have f1:=ZU.frozen 1;have t1:¬e.task<0:=by have:=zZ.1;omega
   have t2:¬32<=e.task:=by have:=zZ.2;omega
   go_upto_region 8 with(first
    |refine dF rF ?_;refine zI ZU underlying93 ?_
    |(go_at_call 165;refine aR4.mono ?_;rintro e' w4 ⟨rfl,hb4,ki⟩;have H4:=hb4;have U4:=ki;clear hb4 ki))
   clear c1 f1;have HG4:=HG3.block (U4.block w.heap.size HG3.lt (by have:=HLw;have:=HS2;simp at this;omega));have HE4:=ZU.upd U4 (by have:=HL3;omega);have HB4:=RZ.trans (U4.below (B:=w.heap.size) (by intro k hk;have:=zu;omega) RZ.size);have:=HE4.z 1 (I6 e.task);have:=HE4.frozen 1;go_upto_region 9 with(first
    |refine zI H4 underlying265 ?_
    |(refine df XK _ rfl _ _ _ mtT rfl pW CL w.heap.size f ks rfl HG4 (by have:=Qn;have:=hn;unfold maxLen;omega) e.task rfl ⟨by have:=zZ.1;omega,by have:=zZ.2;omega⟩ (.agg (nj e.nth e.kind e.key)) rfl ?_;intro w5 HG5 iK;have HB5:=HB4.grown iK HB4.size (by intro b h;injection h with h;omega);clear iK))
   go_wp2;refine⟨⟨k+1,lg f e.task _,cE ks e.task,oM,sI,HG5,?_,?_,HB5⟩,?_⟩
   ·intro t
    rw[HTs];unfold Ot lg
    by_cases ht:t=e.task
    ·rw[if_pos ht,if_pos ht];rfl
    ·rw[if_neg ht,if_neg ht];exact HFm t
   ·have:=Qn;have:=jG ks e.task;omega
   ·simp[intOf];omega
  ·go_wp2
   go_ret;exact⟨rfl,HB⟩
section
open Go.RowKit Go.Maps
structure Oc where
 task:Int
 nth:Int
deriving DecidableEq
abbrev Oc.row(x:Oc):Array Value:=#[I6 x.task,I6 x.nth]
def Oc.good(x:Oc):Prop:=aw x.task/\aw x.nth
abbrev Mx:TypeId:=269
def ad9:WideMaps.KeyLaw prog Mx:=deep_law_laid FU (m:=3) oM (of_decide_eq_true kZ) kZ (by rw[underlying269])
def Ww:prog.keyType Mx=true:=kZ
def wR:prog.cellsOf Mx=2:=kZ
def Js:prog.cellsOf 3=1:=kZ
def ZY(n:Nat)(a b:Int)(ha:(Lit.int .i64 a).wf=true)(hb:(Lit.int .i64 b).wf=true):prog.keyLits (n+2) Mx [.int .i64 a,.int .i64 b]=some [.int .i64 a,.int .i64 b]:=by
 have hu:=underlying269;have qd:=underlying3;unfold Program.keyLits;simp only[hu];simp[wR,Js];unfold Program.keyLits;simp[qd,ha,hb]
def Wx(x:Oc):Lit:=.string (keyBytes [.int .i64 x.task,.int .i64 x.nth])
def Wy{x:Oc}(hx:x.good):keyOf prog Mx (.agg x.row)=some (Wx x):=by
 have hu:=underlying269;obtain⟨n,hn⟩:∃n,prog.types.size+1=n+2:=⟨prog.types.size-1,by have:1<prog.types.size:=of_decide_eq_true kZ;omega⟩
 unfold keyOf;simp only[hu,Ww,hn];have hf:(Value.agg x.row).formed prog Mx=true:=by simp[Value.formed,hu,wR]
 rw[hf];simp only[Bool.and_self,if_true]
 show(Program.keyLits _ _ _ [I6 x.task,I6 x.nth]).map _=_
 rw[ZY n _ _ (WalkArith.wf_i64 hx.1) (WalkArith.wf_i64 hx.2)]
 rfl
theorem ak8{u:Value}{y:Lit}(h:keyOf prog Mx u=some y):∃x:Oc,x.good/\u=.agg x.row/\y=Wx x:=by
 have hu:=underlying269;obtain⟨n,hn⟩:∃n,prog.types.size+1=n+2:=⟨prog.types.size-1,by have:1<prog.types.size:=of_decide_eq_true kZ;omega⟩
 have:=h;unfold keyOf at h;simp only[hu,Ww,hn,Bool.true_and]at h
 split at h
 ·rename_i hf
  cases u<;>simp[Value.formed,hu,wR]at hf
  rename_i cs;obtain⟨c0,c1,rfl⟩:∃c0 c1,cs=#[c0,c1]:=by
   obtain⟨l⟩:=cs
   match l,hf with
   |[c0,c1],_=>exact⟨c0,c1,rfl⟩
  have h2:(prog.keyLits (n+2) Mx [c0,c1]).map (λls=>Lit.string (keyBytes ls))=some y:=h;unfold Program.keyLits at h2;simp only[hu]at h2;simp[wR,Js]at h2;unfold Program.keyLits at h2;simp only[underlying3]at h2;cases c0<;>simp at h2
  rename_i k0 n0
  by_cases e0:k0=.i64/\(Lit.int .i64 n0).wf=true
  ·obtain⟨rfl,w0⟩:=e0
   simp only[w0,and_self,if_true]at h2;cases c1<;>simp at h2
   rename_i k1 n1
   by_cases e1:k1=.i64/\(Lit.int .i64 n1).wf=true
   ·obtain⟨rfl,w1⟩:=e1
    simp[w1]at h2;exact⟨⟨n0,n1⟩,⟨dw w0,dw w1⟩,rfl,h2.symm⟩
   ·simp[e1]at h2
  ·simp[e0]at h2
 ·cases h
def My{x y:Oc}(h:Value.agg x.row=.agg y.row):x=y:=by
 obtain⟨a,b⟩:=x;obtain⟨c,d⟩:=y;simp at h;simp[h.1,h.2]
def EOc:mK prog Mx Oc where
 kd:=Keyed.of_law ad9
 v:=λx=>.agg x.row
 l:=Wx
 good:=Oc.good
 ok:=Wy
 inv:=ak8
 inj:=λ{x y} hx hy h=>My ((Keyed.of_law ad9).inj (Wy hx) (by rw[h];exact Wy hy))
end
section
open Go.RowKit Go.Maps
abbrev otT:TypeId:=267
def CP:prog.underlying otT=some (.map Mx 70):=underlying267
theorem ak9(x:kO)(W:World):(binOp .neq 70 (.agg x.row) (.agg x.row)).run prog W=.ok (.bool false) W:=by
 have e:(Op.equalIn 10000 70 (.agg x.row) (.agg x.row)).run prog W=.ok true W:=by
  have hs:prog.underlying 70=some (.struct (prog.fieldsOf 70)):=kZ
  have hp:prog.stoodInHeld 70=false:=kZ
  rw[show(10000:Nat)=9997+1+1+1 from rfl,run_equalIn_agg W (9997+1+1) _ _ _ hs hp];simp[Program.fieldsOf,underlying70,go_sem]
 rw[run_neq_struct,e]
 rfl
def Wz(w:World):(zeroValue 70).run prog w=.ok (.agg eo.row) w:=kZ
def Rj(m:Oc->Option kO)(e:Ev):Oc->Option kO:=if e.kind=2 then λo=>if o=⟨e.task,e.nth⟩then some e.rep else m o else m
def za:(Oc->Option kO)->List Ev->Bool
 |_,[]=>true
 |m,e::l=>decide (0<=e.task/\e.task<1000000/\0<=e.nth/\e.nth<1000000)&&(decide (e.kind≠3)||decide (m ⟨e.task,e.nth⟩=some e.rep))&&za (Rj m e) l
def Jt(m:Oc->Option kO)(l:List Ev):Oc->Option kO:=l.foldl Rj m
theorem WA{m:Oc->Option kO}(h:za m l=true)(he:l[k]? = some e):(0<=e.task/\e.task<1000000/\0<=e.nth/\e.nth<1000000)/\(e.kind≠3\/Jt m (l.take k) ⟨e.task,e.nth⟩=some e.rep)/\Jt m (l.take (k+1))=Rj (Jt m (l.take k)) e:=by
 induction l generalizing m k with
 |nil=>simp at he
 |cons x l ih=>
  simp only[za,aF5,Bool.or_eq_true,decide_eq_true_eq]at h;cases k with
  |zero=>
   simp at he;subst he;exact⟨h.1.1,h.1.2,rfl⟩
  |succ k=>exact ih h.2 (sH he)
theorem Mz(h:ai w g eL e.row):w.rangeAt g 14 e.rep.row.toList:=λj v hv=>by
 rw[h.cell]
 match j,hv with
 |0,hv=>injection hv with hv;subst hv;rfl
 |1,hv=>injection hv with hv;subst hv;rfl
 |2,hv=>injection hv with hv;subst hv;rfl
 |3,hv=>injection hv with hv;subst hv;rfl
 |4,hv=>injection hv with hv;subst hv;rfl
 |5,hv=>injection hv with hv;subst hv;rfl
 |6,hv=>injection hv with hv;subst hv;rfl
 |7,hv=>injection hv with hv;subst hv;rfl
 |8,hv=>injection hv with hv;subst hv;rfl
 |9,hv=>injection hv with hv;subst hv;rfl
 |10,hv=>injection hv with hv;subst hv;rfl
 |11,hv=>injection hv with hv;subst hv;rfl
 |12,hv=>injection hv with hv;subst hv;rfl
theorem MB(A:Option Addr)(n cap:Nat)(l:List Ev)(w:World)(hs:gS w A n cap l)(hn:n<=100000)(a8:za (λ_=>none) l=true) :
 Calls prog 97 #[.slice A n cap] w (Rt (.bool true) (Bl w)):=by
 have Xy:=@run_makeMap prog;have HS:=hs;have kh:=a8;have HL:=hs.1;have hm:cap<=9223372036854775807:=by have:=hs.2.2.1;unfold maxLen at this;omega
 have:n<=cap:=hs.2.1;clear hs a8;go_enter func97,ntmps97;go_wp2;go_loopw[12] (λi wr=>∃(k:Nat)(f:Oc->Option Value)(ks:List Oc),k<=n/\i = I6 k/\bP EOc wr w.heap.size f ks/\(∀o,f o=(Jt (λ_=>none) (l.take k) o).map λr=>.agg r.row)/\ks.length<=k/\Bl w wr) (λi _=>n-(intOf i).toNat)
 case atStart=>exact⟨0,λ_=>none,[],aB6 _,rfl,bP.made EOc w,λt=>rfl,aC2 _,(Below.refl _ w).alloc lR _⟩
 case round=>
  obtain⟨k,f,ks,hk,rfl,hg,hf,zt,aT⟩:=hrel;have HGm:=hg;have HFm:=hf;have Qn:=zt;have HB:=aT;clear hg hf zt aT
  by_cases hlt:k<n
  ·have:(k:Int)<(n:Int):=oM
   obtain⟨b,off,e,rfl,he,fH,hcl⟩:=ag.at_ (af HS HB) hlt;have mC:wr.rangeAt b (off+k*34) e.cells:=λj v hv=>by have h9:=hcl j v hv;rw[<-aD9]at h9;exact h9
   obtain⟨ht,YV,hts⟩:=WA kh he;have:=ht;have HTo:=YV;have HTs:=hts;have Ko:EOc.good ⟨e.task,e.nth⟩:=⟨⟨by show _<=e.task;omega,by show e.task<=_;omega⟩,⟨by show _<=e.nth;omega,by show e.nth<=_;omega⟩⟩;clear he hcl ht YV hts;go_upto_region 5 with(first
    |refine wpList_load_mid rfl eL (.tmp 14) rfl b (off+k*34) rfl e.cells _ mC underlying93 rfl kZ ?_
    |(refine wpList_store_row rfl eL (.tmp 5) (.tmp 15) rfl wr.heap.size eL _ _ rfl rfl (ai.new wr eL CM) rF kZ (wQ e) ?_;intro w2 hb2 hg2))
   have:=HGm.lt;have HG2:=(HGm.alloc _).grown hg2 (by intro h;injection h with h;omega);have tG:=(HB.alloc HB.size _).grown hg2 (by have:=HB.size;simp;omega) (by intro b h;injection h with h;have:=HB.size;omega);have:=hg2.size;have H2:=hb2;have c0:=hb2.z 0 (I6 e.kind);have f0:=hb2.frozen 0;have c1:=hb2.z 1 (I6 e.task);have f1:=hb2.frozen 1;have c2:=hb2.z 2 (I6 e.nth);have f2:=hb2.frozen 2;clear hg2 hb2;go_upto_region 6 with(fail)
   clear c0 f0 c1 f1 c2 f2;have:=tG.size;have:=H2.lt;have HG3:=HG2.alloc (.cells (Oc.row ⟨e.task,e.nth⟩) Mx);have RZ:=tG.alloc tG.size (.cells (Oc.row ⟨e.task,e.nth⟩) Mx);have ZU:=H2.alloc (.cells (Oc.row ⟨e.task,e.nth⟩) Mx);have H3:=ai.new w2 Mx (Oc.row ⟨e.task,e.nth⟩);have c0:=ZU.z 0 (I6 e.kind);have f0:=ZU.frozen 0
   by_cases hk2:e.kind=2
   ·go_upto_region 13 with(first
     |refine zI H3 underlying269 ?_
     |refine wpList_load_mid rfl 70 (.tmp 27) rfl wr.heap.size 14 rfl e.rep.row.toList _ (Mz ZU) underlying70 rfl kZ ?_
     |(refine df EOc _ rfl _ _ _ otT rfl 70 CP w.heap.size f ks rfl HG3 (by have:=Qn;have:=hn;unfold maxLen;omega) ⟨e.task,e.nth⟩ rfl Ko (.agg e.rep.row) rfl ?_;intro w5 HG5 iK;have HB5:=RZ.grown iK RZ.size (by intro b h;injection h with h;omega);clear iK))
    go_wp2;refine⟨⟨k+1,lg f ⟨e.task,e.nth⟩ _,cE ks ⟨e.task,e.nth⟩,oM,sI,HG5,?_,?_,HB5⟩,?_⟩
    ·intro o
     rw[HTs];unfold Rj lg;rw[if_pos hk2]
     by_cases ho:o=⟨e.task,e.nth⟩
     ·simp only[if_pos ho];rfl
     ·simp only[if_neg ho];exact HFm o
    ·have:=Qn;have:=jG ks ⟨e.task,e.nth⟩;omega
    ·simp[intOf];omega
   ·by_cases hk3:e.kind=3
    ·have hy:Jt (λ_=>none) (l.take k) ⟨e.task,e.nth⟩=some e.rep:=by
      rcases HTo with h|h
      ·exact absurd hk3 h
      ·exact h
     have HFy:=(HFm ⟨e.task,e.nth⟩).trans (by rw[hy];rfl:_=some (Value.agg e.rep.row))
     clear hy;go_upto_region 11 with(first
      |refine zI H3 underlying269 ?_
      |(refine bQ EOc _ rfl _ _ otT rfl 70 CP _ (Wz _) w.heap.size f ks rfl HG3 ⟨e.task,e.nth⟩ rfl Ko ?_;simp only[HFy,aF6,Option.isSome_some]))
     clear c0 f0;have hq:=ak9 e.rep;go_upto_region 13 with(first
      |refine dF rF ?_;refine zI (ai.dR w2 (.cells (Oc.row ⟨e.task,e.nth⟩) Mx) 70 e.rep.row) underlying70 ?_
      |(refine dF rF<|wpList_load_mid rfl 70 (.tmp 41) rfl wr.heap.size 14 rfl e.rep.row.toList _ (Mz (ZU.alloc (.cells e.rep.row 70))) underlying70 rfl kZ ?_))
     clear hq;go_wp2;refine⟨⟨k+1,f,ks,oM,sI,(HG3.alloc (.cells e.rep.row 70)),?_,oH Qn,(RZ.alloc RZ.size (.cells e.rep.row 70))⟩,?_⟩
     ·intro o
      rw[HTs];unfold Rj;rw[if_neg hk2];exact HFm o
     ·simp[intOf];omega
    ·go_wp2
     refine⟨⟨k+1,f,ks,oM,sI,HG3,?_,oH Qn,RZ⟩,?_⟩
     ·intro o
      rw[HTs];unfold Rj;rw[if_neg hk2];exact HFm o
     ·simp[intOf];omega
  ·go_wp2
   go_ret;exact⟨rfl,HB⟩
end
def ZZ:∀n,n<39->Tz.getD n 0=if n=0 then 45 else if n=1 then 46 else if n<12 then 46+n else if n=12 then 95 else 84+n:=dC
theorem EJ(n:Nat)(h1:0<n)(h2:n<=39)(w:World) :
 Calls prog 120 #[V6 (n:Int)] w (Rt (.int .u8 ((Tz.getD (n-1) 0:Nat):Int)) (Bl w)):=by
 rw[ZZ (n-1) oM]
 by_cases e1:n=1
 ·subst e1
  go_enter func120,ntmps120;go_wp2;go_ret;exact⟨rfl,Below.refl _ _⟩
 ·by_cases e2:n=2
  ·subst e2
   go_enter func120,ntmps120;go_wp2;go_ret;exact⟨rfl,Below.refl _ _⟩
  ·by_cases e3:n<13
   ·have: ¬(n:Int)=1:=oM
    have: ¬(n:Int)=2:=oM
    have:(n:Int)<13:=oM
    rw[if_neg oM,if_neg oM,if_pos oM,show((46+(n-1):Nat):Int)=48+(n:Int)-3 by omega];go_enter func120,ntmps120;go_wp2;go_ret;exact⟨rfl,Below.refl _ _⟩
   ·by_cases e4:n=13
    ·subst e4
     go_enter func120,ntmps120;go_wp2;go_ret;exact⟨rfl,Below.refl _ _⟩
    ·have: ¬(n:Int)=1:=oM
     have: ¬(n:Int)=2:=oM
     have: ¬(n:Int)<13:=oM
     have: ¬(n:Int)=13:=oM
     rw[if_neg oM,if_neg oM,if_neg oM,if_neg oM,show((84+(n-1):Nat):Int)=97+(n:Int)-14 by omega];go_enter func120,ntmps120;go_wp2;go_ret;exact⟨rfl,Below.refl _ _⟩
def atN(hi lo:Nat)(i:Nat):Nat:=(if i<10 then hi / 2 ^ (6*(9-i % 10))else lo / 2 ^ (6*(9-i % 10))) % 64
def at3(a:Nat)(ha:a<18446744073709551616):bits .and .u64 (a:Int) 63=((a % 64:Nat):Int):=by
 rw[show(63:Int)=((63:Nat):Int)from rfl,bits_and_u64_nat a 63 ha oM,show(63:Nat)=2 ^ 6-1 from rfl,aV8]
def WB(a q:Nat)(ha:a<18446744073709551616):bits .and .u64 ((a:Int) / 2 ^ q) 63=((a / 2 ^ q % 64:Nat):Int):=by
 rw[<-at3 (a / 2 ^ q) (Nat.lt_of_le_of_lt (Nat.div_le_self _ _) ha)]
 congr 1
theorem WC(x:Key)(hx:x.good)(i:Nat)(hi:i<20)(w:World) :
 Calls prog 119 #[.agg x.row,I6 (i:Int)] w (Rt (V6 ((atN x.hi x.lo i:Nat):Int)) (Bl w)):=by
 by_cases h10:i<10
 ·have: ¬(10:Int)<=(i:Int):=oM
  go_enter func119,ntmps119;go_wp2;go_ret;rw[WB _ _ hx.1];exact⟨by unfold atN;rw[if_pos h10];rfl,(Below.refl _ w).alloc lR _⟩
 ·have:(10:Int)<=(i:Int):=oM
  go_enter func119,ntmps119;go_wp2;go_ret;rw[WB _ _ hx.2];exact⟨by unfold atN;rw[if_neg h10];rfl,(Below.refl _ w).alloc lR _⟩
theorem Rk(A:List Nat):∀(n:Nat)(B:List Nat),B.length=n->hq (A++B)=hq A*64 ^ n+hq B:=by
 intro n
 induction n with
 |zero=>intro B hB;rw[aC0 hB];simp[hq]
 |succ n ih=>
  intro B hB;rcases aS6 B with rfl|⟨m,c,rfl⟩
  ·simp at hB
  ·rw[aS7]at *
   have h1:=ih m (sH hB);rw[<-aD0,pz,pz,h1,aT7];have:hq A*64 ^ n*64=hq A*(64 ^ n*64):=aH7 _ _ _;rw[aD6,this];omega
def WD(L:List Nat)(hc:∀c∈L,c<64)(j:Nat)(hj:j<L.length):hq L / 64 ^ (L.length-1-j) % 64=L[j]:=by
 have e:L=(L.take j++[L[j]])++L.drop (j+1):=by
  rw[aD0,List.singleton_append,List.getElem_cons_drop hj,aF0]
 have hl:(L.drop (j+1)).length=L.length-1-j:=by rw[aD2];omega
 have hlt:=ad2 _ (L.drop (j+1)) hl (λc h=>hc c (aT4 h));have h1:hq L=(hq (L.take j)*64+L[j])*64 ^ (L.length-1-j)+hq (L.drop (j+1)):=by
  conv=>lhs;rw[e]
  rw[Rk _ _ _ hl,pz]
 have:=hc L[j] (List.getElem_mem hj);rw[h1,aF9,Nat.mul_add_div (Nat.pow_pos oM),Nat.div_eq_of_lt hlt];omega
def vD(l:List Nat)(hl:l.length<=10)(hc:∀c∈l,c<64)(j:Nat)(hj:j<10):oJ l / 2 ^ (6*(9-j)) % 64=l.getD j 0:=by
 have h0:oJ l=hq (l++List.replicate (10-l.length) 0):=by rw[GH];rfl
 have hL:(l++List.replicate (10-l.length) 0).length=10:=by simp;omega
 have h:=WD (l++List.replicate (10-l.length) 0) (λc hc'=>by
  rcases aD1.1 hc' with h|h
  ·exact hc c h
  ·rw[(List.mem_replicate.1 h).2];omega) j oM
 rw[h0,show(2:Nat) ^ (6*(9-j))=64 ^ (9-j) by rw[Nat.pow_mul]];simp only[hL]at h;rw[show(10-1-j)=9-j by omega]at h;rw[h];rw[List.getElem_append]
 split
 ·rename_i xi;simp[List.getD,xi]
 ·rename_i xi;simp[List.getD,aE1 (Nat.le_of_not_lt xi)]
def Z9(s:ByteArray)(h:eO s=true)(i:Nat)(hi:i<20):atN (aO s) (aP s) i=(b9 s).getD i 0:=by
 have:=(pB h).1;have:=fS s;have hlt:=l9 s;unfold atN aO aP;rw[if_pos h,if_pos h];unfold JP KB
 by_cases h10:i<10
 ·rw[if_pos h10,aW8 h10,vD _ sM (λc hc=>hlt c (aI0 hc)) i h10]
  simp[List.getD,aE4,h10]
 ·rw[if_neg h10,show i % 10=i-10 by omega,vD _ sM (λc hc=>hlt c (aT4 hc)) (i-10) oM]
  simp[List.getD,aE5,show 10+(i-10)=i by omega]
abbrev byC(b:Nat):List Value:=[.int .u8 (b:Int)]
def aa0:(prog.info? 5).map (λi=>(i.zero,i.size,i.bytes))=some (some (.int .u8 0),1,1):=kZ
def al0:∀x:Nat,∀u∈byC x,u.oneCell' = true:=λx u hu=>by
 simp at hu;subst hu;rfl
abbrev at4(w:World)(base:Nat)(v:Value)(l:List Nat):Prop:=Own w base 5 1 byC v l
def R9(s:ByteArray):List Nat:=s.data.toList.map (·.toNat)
def nr(s:ByteArray):(R9 s).length=s.size:=by simp[R9]
def aa1{s:ByteArray}(h:eO s=true)(hk:k<s.size):0<(b9 s).getD k 0/\(b9 s).getD k 0<=39/\(R9 s)[k]? = some (Tz.getD ((b9 s).getD k 0-1) 0):=by
 have h1:=(pB h).2 k hk;have h2:=jK hk;have h3:=l8 ((s[k]'hk).toNat:Int);have h4:=PB (s[k]'hk).toNat (s[k]'hk).toNat_lt h1;have e:(b9 s).getD k 0=(dY ((s[k]'hk).toNat:Int)).toNat:=by simp[List.getD,h2]
 rw[e];refine⟨oM,oM,?_⟩;rw[h4.2];unfold R9;rw[List.getElem?_map];have:s.data.toList[k]? = some (s[k]'hk):=by
  rw[aG0,aC6 hk];rfl
 rw[this];rfl
abbrev kR(s:ByteArray):Array Value:=#[V6 (aO s:Nat),V6 (aP s:Nat)]
def Ow(s:ByteArray):strOfNums ((R9 s).map λn:Nat=>(n:Int))=s:=by
 obtain⟨d⟩:=s;unfold strOfNums R9
 congr 1
 simp[List.map_map,Function.comp_def]
def Rl{base:Nat}{A:Option Addr}{c:Nat}{s:ByteArray}(h:at4 w base (.slice A n c) (R9 s))(hs:1<=s.size): ∃g,A=some ⟨g,0,none⟩/\n=s.size/\base<=g/\g<w.heap.size/\rQ w g (R9 s):=by
 have h0:=h;have hl:=nr s;rcases h.2 with⟨he,hz⟩|⟨g,cap,cur,heq,hbg,aA5⟩
 ·omega
 ·cases heq
  refine⟨g,rfl,hl,hbg,(World.ownsRow.lt h0 g rfl).2,λj m hj=>?_⟩;have xi:j<(R9 s).length:=by
   rcases aE2 j (R9 s).length with h|h
   ·exact h
   ·rw[aE1 h]at hj;cases hj
  obtain⟨b,off,x,he,hx,-,hc⟩:=ag.at_ (Own.is h0 (λ_=>rfl)) xi;cases he;rw[hj]at hx;injection hx with hx
  subst hx;have h3:=hc 0 _ rfl
  simpa using h3
theorem EK(s:ByteArray)(h:eO s=true)(w:World) :
 Calls prog 47 #[.agg #[V6 (aO s:Nat),V6 (aP s:Nat)]] w (Rt (.tuple #[.string s,.bool true]) (Bl w)):=by
 have HI:=h;have OS:=(pB h).1;have HKg:Key.good ⟨aO s,aP s⟩:=⟨aB9 (jY s) dC,aB9 (jZ s) dC⟩;clear h;go_enter func47,ntmps47;go_wp2;go_loopw[4,9] (λb i wr=>∃k:Nat,k<=20/\i = I6 k/\at4 wr (w.heap.size+1) b ((R9 s).take k)/\ai wr w.heap.size 83 (kR s)/\Bl w wr) (λ_ i _=>20-(intOf i).toNat)
 case atStart=>exact⟨0,aB6 _,rfl,Own.nil _ _ _ _ _,ai.new w _ _,(Below.refl _ w).alloc lR _⟩
 case round=>
  obtain⟨k,hk,rfl,ho,hb,aT⟩:=hrel;obtain⟨A,n,c,rfl,kX,-⟩:=ho.shape (λ_=>rfl);have HO:=ho;have HNl:=zD (show n=min k s.size by rw[kX,aC3,nr]);have ZN:=hb;have HB:=aT;clear ho hb aT kX
  by_cases hlt:k<20
  ·have:(k:Int)<20:=oM
   have HAt:=(λW=>WC ⟨aO s,aP s⟩ HKg k hlt W);go_upto_region 6 with(first
    |refine zI ZN underlying83 ?_
    |(go_at_call 119;refine zM (HAt _) λw1 B1=>?_;simp only[(Z9 s HI k hlt)]))
   generalize hN:(b9 s).getD k 0=N at *;have Xf:=zT HB B1;have HO1:=HO.call B1;have aa2:=ZN.call B1
   by_cases wB:k<s.size
   ·obtain⟨p1,p2,p3⟩:=aa1 HI wB
    rw[hN]at p1 p2 p3;obtain rfl:n=k:=oH HNl.out
    have HP3:=p3;have: ¬(39:Int)<(N:Int):=oM
    have:(0:Int)<(N:Int):=oM
    have Ag:=(λW=>EJ N p1 p2 W);have fJ:=(show((R9 s).take n).length<1000000 by rw[aC3];omega);generalize hX:Tz.getD (N-1) 0=X at *;clear p1 p2 p3 hN hX;go_upto_region 10 with(first
     |go_at_call 120;refine zM (Ag _) λw2 hb2=>?_;have B2:=hb2;clear hb2
     |(at_builtin;refine cU _ rfl (.tmp 31) (.tmp 34) 202 rfl (w.heap.size+1) 5 _ 1 1 byC underlying202 aa0 rF dC (λ_=>rfl) al0 (.slice A n c) _ rfl ((HO1.call B2).alloc _) ⟨w2.heap.size,0,none⟩ 1 X rfl (br (α:=Nat) (vs:=byC X) (ai.new w2 _ _) rfl) fJ dC (by have:=aa2.lt;have:=B2.size;simp;omega) ?_;intro v' w3 kJ jP hw3;have O3:=kJ;have U3:=jP;clear kJ jP hw3))
    go_wp2;have hb3:=U3.below (B:=w.heap.size+1) (λk hk=>(World.ownsRow.lt HO1 k hk).1) (by have:=aa2.lt;have:=B2.size;simp;omega);refine⟨⟨n+1,oM,sI,by rw[jX HP3];exact O3,((aa2.call B2).alloc _).below hb3 (Nat.lt_succ_self _),(((zT Xf B2).alloc (zT Xf B2).size _).trans (hb3.mono (aC5 _)))⟩,?_⟩;simp[intOf];omega
   ·obtain rfl:N=0:=by rw[<-hN];simp[List.getD,aE1 (show(b9 s).length<=k by rw[fS];omega)]
    clear hN;go_wp2;refine⟨⟨k+1,oM,sI,by rw[aB5 (by rw[nr];omega)];have h9:=HO1;rw[aB5 (by rw[nr];omega)]at h9;exact h9,aa2,Xf⟩,?_⟩;simp[intOf];omega
  ·obtain rfl:k=20:=oM
   have ho:=HO;rw[aB5 (by rw[nr];exact OS.2)]at ho;obtain⟨g,rfl,rfl,hg1,hg2,hby⟩:=Rl ho OS.1;have HBy:=hby;have:=hg1;have HG2:=hg2;have HPk:=(λW=>fT s W (by have:=OS;unfold maxLen;omega));have r1:(convert 202 9 (.slice (some ⟨g,0,none⟩) s.size c)).run prog wr=.ok (.string s) wr:=by
    rw[qa wr 202 5 9 underlying202 underlying5 underlying9 g _ c _ (nr s) HBy,Ow]
   clear ho hg1 hg2 hby;go_upto_region 12 with(go_at_call 32;refine zM (HPk _) λw2 hb2=>?_;have B2:=hb2;clear hb2)
   clear r1;rw[show cT s=0 by unfold cT;rw[if_pos HI]];have tG:=zT HB B2;have:(convert 202 9 (.slice (some ⟨g,0,none⟩) s.size c)).run prog (w2.alloc (.cells (kR s) 83))=.ok (.string s) (w2.alloc (.cells (kR s) 83)):=by
    rw[qa _ 202 5 9 underlying202 underlying5 underlying9 g _ c _ (nr s) ((HBy.below B2 HG2).below (zW w2 (.cells (kR s) 83)) (aB9 HG2 B2.size)),Ow]
   have: ∀W:World,(binOp .neq 83 (.agg (kR s)) (.agg (kR s))).run prog W=.ok (.bool false) W:=by
    have h:=(qC ⟨aO s,aP s⟩ ⟨aO s,aP s⟩).2.2
    rwa [show jQ ⟨aO s,aP s⟩ ⟨aO s,aP s⟩=true by simp[jQ]]at h
   go_upto_region 14 with(first
    |refine dF rF ?_;refine zI (ai.new w2 83 (kR s)) underlying83 ?_
    |(refine dF rF<|zI ((ZN.call B2).alloc (.cells (kR s) 83)) underlying83 ?_))
   go_wp2;go_ret2;exact⟨rfl,(tG.alloc tG.size (.cells (kR s) 83))⟩
section
open Go.RowKit Go.Shelf Go.Maps
attribute [local go_sem] Oper.semAt_some
def JZ(l:List Ev)(m:Nat):List (Ev×Nat):=(l.take m).zipIdx.reverse
def WH{m:Nat}{x:Ev}(h:l[m]? = some x):JZ l (m+1)=(x,m)::JZ l m:=by
 unfold JZ;rw[aE3,h,Option.toList,List.zipIdx_append,List.reverse_append];simp[aC3,aG5 (aU3 (d9.1 h).1)]
def tj{P:Program}{a:Act}(hgd:op.guard=none)(ty:TypeId)(x:Operand)(ho:op.op=.load ty x)(b o:Nat)(hx:a.eval x=.pointer (some ⟨b,o,none⟩))(cs:List Value)(d:TypeDesc)(hc:w.rangeAt b o cs)(hu:P.underlying ty=some d)(hd:d.isRow=true)(hi:(P.info? ty).map (·.size)=some cs.length)(h:wpListIn F n P ops Q rest (a.put op.dst (.agg cs.toArray)) w):wpListIn F n P ops Q (op::rest) a w:=by
 refine wpListIn_plain hgd λK hK=>?_
 unfold Oper.wpIn;refine⟨by simp[Oper.about,ho],?_⟩;rw[Oper.semAt_plain F _ _ (by rw[ho];intro c hc';cases hc')];simp only[execOp,ho,hx,Instr.loadAt,Instr.sureAddr,Sem.run_bind,Sem.run_pure,Result.andThen_ok,run_loadVar_mid w b o ty cs d hc hu hd hi];exact hK _ _ h
structure BwM(w:World)(Bn:Nat)(A:Option Addr)(n c:Nat)(l:List Ev):Prop where
 box:w.cell? ⟨Bn,0,none⟩=some (.slice A n c)
 ev:gS w A n c l
theorem aa6(n:Nat)(hn:1<=n)(l Bn n₀:Nat)(A:Option Addr)(m c:Nat)(es:List Ev)(J Jx:List (Ev×Nat)->World->Prop)
 (hY:∀pre x W,J pre W->pre.length<m->YieldAt Fence.wide (n-1) prog l #[I6 x.2,.agg x.1.row] W λe W'=>
  (e=.returned (.bool true)/\J (pre++[x]) W'/\Below n₀ W W')\/(e=.returned (.bool false)/\Jx (pre++[x]) W'))
 (W:World) (hJ:AbidesFrom W.heap.size J) (oq:n₀<=W.heap.size) (hM:∀W',Below n₀ W W'->BwM W' Bn A m c es) (h0:J [] W) :
 CallsIn Fence.wide n prog 164 #[.func (.yield l) #[] #[],pt Bn] W λe W'=>(∃v,e=.returned v)/\
  ((∃ys,ys=JZ es m/\J ys W')\/(∃pre,pre <+: JZ es m/\Jx pre W')):=by
 have HY:=hY;have HM:=hM;have m0:=hM W bR;have b0:=m0.box;have xB:=m0.ev.2.1;have hfm:c<=9223372036854775807:=by have:=m0.ev.2.2.1;unfold maxLen at this;omega
 clear hY hJ hM m0;refine callsIn_of_wp func164 rfl trivial ?_ rfl;simp only[ntmps164,aF1,aC4,aG6,Nat.reduceAdd,Nat.reduceSub,aF7,aF8,aG7,aG2,aD4,aE0]
 gi_wp2
 clear b0
 gi_loopw[3] (λi wr=>∃(k:Nat)(v:Int)(pre:List (Ev×Nat)),k<=m/\i = I6 v/\v+1=(k:Int)/\pre.length+k=m/\pre++JZ es k=JZ es m/\J pre wr/\Below n₀ W wr) (λi _=>(intOf i+1).toNat)
 case atStart=>exact⟨m,(m:Int)-1,[],aC2 _,sI,oM,sI,rfl,h0,Below.refl _ _⟩
 case round=>
  obtain⟨k,v,pre,hk,rfl,hv,hpl,hap,hJs,aT⟩:=hrel;have m0:=HM _ aT;have qg:=aT;have HJs:=hJs;have RV:=hap;clear aT hJs hap;cases k with
  |zero=>
   have hv0:v = -1:=oM
   subst hv0;clear m0
   gi_wp2
   go_end0;exact⟨⟨_,rfl⟩,.inl ⟨_,by have h:=RV;simpa[JZ]using h,HJs⟩⟩
  |succ k=>
   have hv0:v=(k:Int):=oM
   subst hv0;have hlt:k<m:=oM
   have:(k:Int)<(m:Int):=oM
   obtain⟨b,off,x,rfl,hx,fH,hcl⟩:=ag.at_ m0.ev hlt;have:=m0.box;obtain⟨fn,tmps,assign,body,hy,hR⟩:=HY pre (x,k) _ HJs oM;have:(Instr.yield l #[I6 (k:Int),.agg x.cells.toArray]).run prog wr=.ok (.round l fn tmps assign body) wr:=hy;have zu:=hpl;clear hy;have HX:=WH hx;have HC:wr.rangeAt b (off+k*34) x.cells:=λj v hv=>by have h9:=hcl j v hv;rw[<-aD9]at h9;exact h9
   clear m0 hx fH hpl hv hcl
   gi_wp2_with(first
    |refine tj rfl eL (.tmp 15) rfl b (off+k*34) rfl x.cells _ HC underlying93 rfl kZ ?_
    |gi_in)
   refine hR.mono ?_;rintro e W3 (⟨rfl,hJ4,hk4⟩|⟨rfl,Kz⟩)
   ·gi_wp2
    go_roundw
    case rel=>exact⟨k,(k:Int)-1,pre++[(x,k)],oM,by go_num,oM,by have h:=zu;rw[aB8,aS8];omega,by have h:=RV;rw[HX]at h;simpa using h,hJ4,qg.trans hk4⟩
    case measure=>first|(simp[intOf];done)|(simp[intOf];omega)
   ·gi_wp2
    refine bodyPost_ret (results_none rfl _ _ _) rfl ?_;exact⟨⟨_,rfl⟩,.inr ⟨_,⟨JZ es k,by have h:=RV;rw[HX]at h;simpa using h⟩,Kz⟩⟩
end
section
open Go.RowKit Go.Shelf Go.Maps
attribute [local go_sem] Oper.semAt_some
def WI(n:Nat)(hn:1<=n)(Bn n₀:Nat)(A:Option Addr)(m c:Nat)(es:List Ev)(w:World)(oq:n₀<=w.heap.size)(hM:∀W',Below n₀ w W'->BwM W' Bn A m c es) :
 SeqStopsK Fence.wide n prog 164 #[pt Bn] (λx:Ev×Nat=>#[I6 x.2,.agg x.1.row]) (Below n₀) (λys=>ys=JZ es m) (λpre=>pre <+: JZ es m) m w:=λl J Jx W hW hJ _ hY h0=>
 aa6 n hn l Bn n₀ A m c es J Jx hY W hJ (aB4 oq hW.size) (λW' hb=>hM W' ((hW.mono oq).trans hb)) h0
theorem al1(n:Nat)(A:Option Addr)(m c:Nat)(w:World) :
 CallsIn Fence.wide n prog 95 #[.slice A m c] w λe w'=>e=.returned (.func (.func 164) #[] #[pt w.heap.size])/\w' = w.alloc (.cells #[.slice A m c] Bg):=by
 refine callsIn_of_wp func95 rfl trivial ?_ rfl;simp only[ntmps95,aF1,aC4,aG6,Nat.reduceAdd,Nat.reduceSub,aF7,aF8,aG7,aG2,aD4,aE0]
 gi_wp2
 go_ret;exact⟨rfl,rfl⟩
def zj(k:Key)(e:Ev):Bool:=decide (e.kind=6)&&decide (e.key=k)
def kU(l:List Ev)(k:Key):Option aU:=(l.reverse.find? (zj k)).map (·.ei)
def ri{P:Program}{a:Act}{w0:World}(hgd:op.guard=none)(ty:TypeId)(x y:Operand)(ho:op.op=.store ty x y)(t:TypeId)(old new:Array Value)(hx:a.eval x = pt w0.heap.size)(hy:a.eval y=.agg new)(hs:old.size=new.size)(hi:(P.info? ty).map (·.size)=some new.size)(h1:new.all (·.oneCell')=true)(h:wpListIn F n P ops Q rest (a.put op.dst undef) (w0.alloc (.cells new t))):wpListIn F n P ops Q (op::rest) a (w0.alloc (.cells old t)):=by
 refine wpListIn_plain hgd λK hK=>?_
 unfold Oper.wpIn;refine⟨by simp[Oper.about,ho],?_⟩;rw[Oper.semAt_plain F _ _ (by rw[ho];intro c hc';cases hc')];simp only[execOp,ho,hx,hy,Instr.storeAt,Instr.sureAddr,Sem.run_bind,Sem.run_pure,Result.andThen_ok,run_storeVar_row _ _ t ty old new (World.alloc_heap_new w0 _) hi hs h1,World.setRow_alloc_new];exact hK _ _ h
def kD{P:Program}{a:Act}(hgd:op.guard=none)(ty:TypeId)(x y:Operand)(ho:op.op=.store ty x y)(g:Nat)(t:TypeId)(cs new:Array Value)(hx:a.eval x = pt g)(hy:a.eval y=.agg new)(hb:ai w g t cs)(hs:new.size=cs.size)(hi:(P.info? ty).map (·.size)=some new.size)(h1:new.all (·.oneCell')=true)(h:∀w',ai w' g t new->w.grownBy w' (some g)->wpListIn F n P ops Q rest (a.put op.dst undef) w'):wpListIn F n P ops Q (op::rest) a w:=by
 refine wpListIn_plain hgd λK hK=>?_
 unfold Oper.wpIn;refine⟨by simp[Oper.about,ho],?_⟩;rw[Oper.semAt_plain F _ _ (by rw[ho];intro c hc';cases hc')];simp only[execOp,ho,hx,hy,Instr.storeAt,Instr.sureAddr,Sem.run_bind,Sem.run_pure,Result.andThen_ok,run_storeVar_mid w g 0 ty new (hb.there hs.symm) hi h1];exact hK _ _ (h _ (hb.store new hs).1 (hb.store new hs).2)
def al2(x:Ev):x.row.all (·.oneCell')=true:=all_oneCell_toArray (cs:=x.cells) (DU x)
def Ox(x:aU):(cI x).all (·.oneCell')=true:=all_oneCell_toArray (cs:=x.cells) (mJ x)
structure J3(w:World)(k:Key)(a:aU)(f:Bool)(W:World):Prop where
 bk:ai W w.heap.size aS k.row
 ba:ai W (w.heap.size+1) 49 (cI a)
 bf:ai W (w.heap.size+2) 4 #[.bool f]
 CR:Bl w W
 sz:w.heap.size+4<=W.heap.size
def wT{B:Nat}{X Y:World}{row:Option Nat}{t:TypeId}{cs:Array Value}(h:ai X g t cs)(hg:X.grownBy Y row)(hr:∀r,row=some r->B<=r/\∃o:Obj,X.heap[r]? = some o/\o.isCells=false):ai Y g t cs:=
 h.grown hg (λe=>by
  obtain⟨o,ho,hc⟩:=(hr g e.symm).2;rw[show X.heap[g]? = _ from h]at ho;cases ho;cases hc)
def J3.grown{X Y:World}{k:Key}{a:aU}{row:Option Nat}(h:J3 w k a f X)(hg:X.grownBy Y row)(hr:∀r,row=some r->w.heap.size<=r/\∃o:Obj,X.heap[r]? = some o/\o.isCells=false):J3 w k a f Y:=
 ⟨wT h.bk hg hr,wT h.ba hg hr,wT h.bf hg hr,h.CR.trans ⟨hg.os,hg.tape,hg.output,hg.size,λj hj=>hg.block j (oH h.CR.size) (λe=>oH (hr j e.symm).1)⟩,aB4 h.sz hg.size⟩
def J3.alloc{k:Key}{a:aU}(h:J3 w k a f W)(o:Obj):J3 w k a f (W.alloc o):=
 h.grown (World.grownBy_alloc W o none) (λr e=>by cases e)
def J3.put{W1:World}{k:Key}{a a0:aU}{f0:Bool}(f:Bool)(h:J3 w k a0 f0 W)(b1:ai W1 (w.heap.size+1) 49 (cI a))(g1:W.grownBy W1 (some (w.heap.size+1))):
 KeepsOthers W (W1.setCell ⟨w.heap.size+2,0,none⟩ (.bool f))/\J3 w k a f (W1.setCell ⟨w.heap.size+2,0,none⟩ (.bool f)):=by
 have g2:=grownBy_setCell' W1 (w.heap.size+2) (.bool f);refine⟨(KeepsOthers.of_grownBy g1 (λj o e ho=>?_)).trans (KeepsOthers.setCell _ _ _),(h.bk.grown g1 sI).grown g2 sI,b1.grown g2 sI,(h.bf.grown g1 sI).aX 0 (.bool f),?_,aB4 h.sz (aB4 g1.size g2.size)⟩
 ·cases e
  rw[show W.heap[w.heap.size+1]? = _ from h.ba]at ho;cases ho;rfl
 ·refine h.CR.trans (Below.trans ⟨g1.os,g1.tape,g1.output,g1.size,λj hj=>g1.block j (oH h.sz) (λe=>by cases e;omega)⟩ ⟨g2.os,g2.tape,g2.output,g2.size,λj hj=>g2.block j (oI h.sz g1.size) (λe=>by cases e;omega)⟩)
def J3.obj{k:Key}{a:aU}(h:J3 w k a f W){D:Nat}{o:Obj}(o' : Obj)(hB:w.heap.size<=D)(hl:W.heap[D]? = some o)(ho:o.isCells=false):J3 w k a f (W.putObj D o'):=
 OwnFrom.putObj (I:=λ(_:Unit) X=>J3 w k a f X) (λ_ X Y row hs hg hr=>hs.grown hg hr) (s:=()) o' h hB hl ho
theorem mm{fn:Func}{p q:Tmp}(h:fn.results=#[.cell p 49,.cell q 4])(tmps:Array Value)(w:World)(g g2:Nat)(a:aU)(f:Bool)
 (hp:tmps.getD p undef = pt g) (hq:tmps.getD q undef = pt g2) (hg:ai w g 49 (cI a)) (hf:ai w g2 4 #[.bool f]) :
 (results fn tmps).run prog w=.ok (.tuple #[.agg (cI a),.bool f]) w:=by
 have hp' : tmps[p]?.getD undef = pt g:=sH hp
 have hq' : tmps[q]?.getD undef = pt g2:=sH hq
 have:w.cell? ⟨g2,0,none⟩=some (.bool f):=hf.ar (i:=0) rfl;have hb:(loadVar 4 ⟨g2,0,none⟩).run prog w=.ok (.bool f) w:=by go_simp
 simp[results,h,hp',hq',asAddr,run_loadVar_row w g 49 49 (cI a) (0,0) _ hg underlying49 rfl kZ,hb]
def aa7(es:List Ev):(JZ es es.length).map (·.1)=es.reverse:=by
 unfold JZ;rw[aW7,List.map_reverse]
 congr 1
 exact List.zipIdx_map_fst 0 es
def CQ(es:List Ev)(k:Key):kU es k=((JZ es es.length).find? (λx=>zj k x.1)).map (·.1.ei):=by
 unfold kU;rw[<-aa7,List.find?_map,Option.map_map]
 rfl
def MC{es:List Ev}{k:Key}(h:∀x∈JZ es es.length,zj k x.1=false):kU es k=none:=by
 rw[CQ,aW2.2 (λx hx=>by rw[h x hx];simp)];rfl
def ME{es:List Ev}{k:Key}{p:List (Ev×Nat)}{x:Ev×Nat}(h:p++[x] <+: JZ es es.length)(hx:zj k x.1=true)(hp:∀y∈p,zj k y.1=false):kU es k=some x.1.ei:=by
 obtain⟨r,hr⟩:=h;rw[CQ,<-hr,aD0,List.find?_append,aW2.2 (λy hy=>by rw[hp y hy];simp),Option.none_or,List.singleton_append,aT5,hx]
 rfl
theorem wm(n:Nat)(hn:3<=n)(k:Key)(A:Option Addr)(m c:Nat)(es:List Ev)(w:World)(hE:gS w A m c es) :
 CallsIn Fence.wide n prog 33 #[.slice A m c,.agg k.row] w λe W'=>(e=.returned (.tuple #[.agg (cI ((kU es k).getD eU)),.bool (kU es k).isSome]))/\Bl w W':=by
 have h1:1<=n:=oM
 refine callsIn_of_wp_marks func33 rfl trivial ?_ rfl;simp only[ntmps33,aF1,aC4,aG6,Nat.reduceAdd,Nat.reduceSub,aF7,aF8,aG7,aG2,aD4,aE0]
 gi_wp2_with(refine⟨trivial,?_⟩;gi_at_call 95;refine(al1 (n-1) _ _ _ _).mono ?_;rintro e w' ⟨rfl,rfl⟩)
 have HE:=hE;obtain⟨W0,hW0⟩:∃W0,(((w.alloc (.cells k.row aS)).alloc (.cells #[I6 0,I6 0,I6 0,I6 0,I6 0] 49)).alloc (.cells #[.bool false] 4)).alloc (.cells #[.slice A m c] Bg)=W0:=⟨_,rfl⟩
 have hsz:W0.heap.size=w.heap.size+4:=by rw[<-hW0];simp
 have RO:Bl w W0:=by rw[<-hW0];go_grown
 have hI0:J3 w k eU false W0:=by
  refine⟨?_,?_,?_,RO,oM⟩<;>rw[<-hW0]
  ·exact(((ai.new w _ _).alloc _).alloc _).alloc _
  ·have h:=((ai.new (w.alloc (.cells k.row aS)) 49 (cI eU)).alloc (.cells #[.bool false] 4)).alloc (.cells #[.slice A m c] Bg)
   rw[World.size_alloc]at h;exact h
  ·have h:=(ai.new ((w.alloc (.cells k.row aS)).alloc (.cells (cI eU) 49)) 4 #[.bool false]).alloc (.cells #[.slice A m c] Bg)
   rw[World.size_alloc,World.size_alloc]at h;exact h
 have hbx:Boxed W0 (w.heap.size+3) Bg (.slice A m c):=by
  have h:=Boxed.new (((w.alloc (.cells k.row aS)).alloc (.cells (cI eU) 49)).alloc (.cells #[.bool false] 4)) Bg (.slice A m c);rw[World.size_alloc,World.size_alloc,World.size_alloc]at h;rw[<-hW0];exact h
 clear hE;rw[hW0];clear hW0;refine wpIn_rangeFunc_ownH rfl h1 (gf:=164) (lb:=#[pt (w.heap.size+3)]) rfl trivial (enters_of func164 kZ rfl)
  (WI (n-1) oM (w.heap.size+3) W0.heap.size A m c es W0 lR (λW' hb=>⟨(hb.cell (p:=⟨w.heap.size+3,0,none⟩) (by show w.heap.size+3<_;omega)).trans hbx.cell,af HE (zT RO hb)⟩)) Below.trans (λW l o o' hl h1 h2 h3=>belowK_b (w:=W0) lR W l o o' hl h1 h2 h3) bR (λ_=>rfl)
  (λpre W=>J3 w k eU false W/\∀x∈pre,zj k x.1=false)
  (λcd pre W=>cd=.ret/\∃p x,pre=p++[x]/\zj k x.1=true/\(∀y∈p,zj k y.1=false)/\J3 w k x.1.ei true W)
  (λpre X Y row hs hg hr=>⟨hs.1.grown hg (λr e=>⟨oH (hr r e).1,(hr r e).2⟩),hs.2⟩)
  (λcd pre X Y row hs hg hr=>by
   obtain⟨h1,p,x,h2,h3,h4,h5⟩:=hs;exact⟨h1,p,x,h2,h3,h4,h5.grown hg (λr e=>⟨oH (hr r e).1,(hr r e).2⟩)⟩)
  ⟨hI0,sI⟩
  (λx a' W=>∃Bx,w.heap.size+3<Bx/\ai W Bx eL x.1.row/\a' = {tmps:=#[.slice A m c,.agg k.row,undef,pt w.heap.size,pt (w.heap.size+1),pt (w.heap.size+2),undef,pt Bx,.slice A m c,.func (.func 164) #[] #[pt (w.heap.size+3)],I6 x.2,.agg x.1.row,undef,undef,undef,undef,undef,undef,undef,undef,undef,undef,undef,undef],defers:=[]})
  (λx a' _ X Y row hs hg hr=>by
   obtain⟨Bx,h1,h2,h3⟩:=hs;exact⟨Bx,h1,wT h2 hg hr,h3⟩)
  ?assign ?body ?done ?stop
 case assign=>
  rintro l pre ⟨x,i⟩ W K ⟨hI,hp⟩ hK
  gi_wp2_with(first
   |refine ri rfl eL (.tmp 7) (.tmp 11) rfl eL ev0.row x.row rfl rfl rfl kZ (al2 x) ?_
   |gi_in)
  exact hK _ _ ((KeepsOthers.alloc _ _).from _) ((Below.refl _ W).alloc (hsz▸hI.sz) _) ⟨hI.alloc _,hp⟩ ⟨W.heap.size,oH hI.sz,ai.new W _ _,rfl⟩
 case body=>
  rintro l pre ⟨x,i⟩ a' W hl ⟨r,hr⟩ ⟨hI,hp⟩ ⟨Bx,hBx,bX,rfl⟩ hlt;have:W.cell? ⟨Bx,0,none⟩=some (I6 x.kind):=bX.ar (i:=0) rfl;have:W.cell? ⟨Bx,27,none⟩=some (V6 x.key.hi):=bX.ar (i:=27) rfl;have:W.cell? ⟨Bx,28,none⟩=some (V6 x.key.lo):=bX.ar (i:=28) rfl;have:W.cell? ⟨Bx,29,none⟩=some (I6 x.ei.tick):=bX.ar (i:=29) rfl;have:W.cell? ⟨Bx,30,none⟩=some (I6 x.ei.load):=bX.ar (i:=30) rfl;have:W.cell? ⟨Bx,31,none⟩=some (I6 x.ei.want):=bX.ar (i:=31) rfl;have:W.cell? ⟨Bx,32,none⟩=some (I6 x.ei.aQ):=bX.ar (i:=32) rfl;have:W.cell? ⟨Bx,33,none⟩=some (I6 x.ei.why):=bX.ar (i:=33) rfl;have:W.cell? ⟨w.heap.size,0,none⟩=some (V6 k.hi):=hI.bk.ar (i:=0) rfl;have:W.cell? ⟨w.heap.size,1,none⟩=some (V6 k.lo):=hI.bk.ar (i:=1) rfl;have:=(qC x.key k).1;have q2:=(qC x.key k).2.1;have HI:=hI;have HP:=hp;clear hI hp hr bX hlt RO hI0 hbx
  by_cases hk6:x.kind=6
  ·by_cases hkk:x.key=k
   ·rw[show jQ x.key k=true from decide_eq_true hkk]at q2
    gi_wp2_with(first
     |refine kD rfl 49 (.tmp 4) (.tmp 22) rfl (w.heap.size+1) 49 (cI eU) (cI x.ei) rfl rfl HI.ba rfl kZ (Ox _) ?_;intro W1 b1 g1;have:W1.cell? ⟨w.heap.size+2,0,none⟩=some (.bool false):=(HI.bf.grown g1 sI).ar (i:=0) rfl;have:=(HI.bf.grown g1 sI).frozen 0;have Z1:=HI.put true b1 g1;clear b1 g1
     |gi_in)
    exact⟨Z1.1.from _,rfl,pre,(x,i),rfl,by simp[zj,hk6,hkk],HP,Z1.2⟩
   ·rw[show jQ x.key k=false from decide_eq_false hkk]at q2
    gi_wp2
    exact⟨KeepsFrom.refl _ _,Below.refl _ _,HI,λy hy=>by rcases aD1.1 hy with hy|hy;exact HP y hy;simp at hy;subst hy;simp[zj,hkk]⟩
  ·gi_wp2
   exact⟨KeepsFrom.refl _ _,Below.refl _ _,HI,λy hy=>by rcases aD1.1 hy with hy|hy;exact HP y hy;simp at hy;subst hy;simp[zj,hk6]⟩
 case done=>
  rintro D ys W hD rfl ⟨hI,hp⟩ hK;have HI:=hI;have HP:=hp;have HK:=hK;clear hI hp hK RO hI0 hbx
  gi_wp2_with(first
   |refine kD rfl 49 (.tmp 4) (.tmp 23) rfl (w.heap.size+1) 49 (cI eU) (cI eU) rfl rfl HI.ba rfl kZ (Ox _) ?_;intro W1 b1 g1;have:W1.cell? ⟨w.heap.size+2,0,none⟩=some (.bool false):=(HI.bf.grown g1 sI).ar (i:=0) rfl;have:=(HI.bf.grown g1 sI).frozen 0;have Z1:=HI.put false b1 g1;clear b1 g1
   |gi_in)
  have hD2:=Z1.1.same D _ HK rfl;have hz:=Z1.2.obj (.deferred none) oM hD2 rfl;refine⟨sI,.inl ⟨_,_,rfl,run_takeDeferred hD2,?_⟩⟩;have hm:=HE.1;have hl:kU es k=none:=MC (λx hx=>HP x (hm▸hx));exact⟨_,mm rfl _ _ (w.heap.size+1) (w.heap.size+2) eU false rfl rfl hz.ba hz.bf,by rw[hl];rfl,hz.CR⟩
 case stop=>
  rintro D cd pre W hD az7 ⟨rfl,p,x,rfl,hx,hp,hI⟩ hK
  gi_wp2
  refine⟨sI,.inl ⟨_,_,rfl,run_takeDeferred hK,?_⟩⟩;have hz:=hI.obj (.deferred none) oM hK rfl;have hl:kU es k=some x.1.ei:=ME (HE.1▸az7) hx hp;exact⟨_,mm rfl _ _ (w.heap.size+1) (w.heap.size+2) x.1.ei true rfl rfl hz.ba hz.bf,by rw[hl];rfl,hz.CR⟩
def EO(k:Key)(A:Option Addr)(m c:Nat)(es:List Ev)(w:World)(hE:gS w A m c es) :
 Calls prog 33 #[.slice A m c,.agg k.row] w λe W'=>(e=.returned (.tuple #[.agg (cI ((kU es k).getD eU)),.bool (kU es k).isSome]))/\Bl w W':=
 callsIn_wide.1 (wm 3 lR k A m c es w hE)
end
end Go.Proofs.YtjgmjohiehbgaaaGreat
