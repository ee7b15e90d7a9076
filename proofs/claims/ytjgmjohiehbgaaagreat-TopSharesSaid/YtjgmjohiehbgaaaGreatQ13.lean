/- Part 13. -/
import Derived.Test.YtjgmjohiehbgaaaGreatQ12
namespace Go.Proofs.YtjgmjohiehbgaaaGreat
open Go.RowKit Go.Proofs.Tryz
set_option maxHeartbeats 20000000
set_option maxRecDepth 100000
set_option linter.all false
theorem oT (N:Nat) (IH:ah1 N) (g n c a m b lo hi:Nat) (P X Y Q:List bo) (w:World) (hN:b-a<=N+1) (ha:a=P.length) (hm:m=a+X.length) (hb:b=m+Y.length) (hX:1<X.length) (hY:1<Y.length) (hn:b+Q.length=n) (fo:n<=100000)
 (hbr:(a+b) / 2<m/\lo=(a+b) / 2+m-b/\hi=(a+b) / 2\/¬(a+b) / 2<m/\lo=a/\hi=m) (sX:ja cY X) (sY:ja cY Y) (h:bI w g (P++X++Y++Q)) :
 Calls prog 312 #[.slice (some ⟨g,0,none⟩) n c,I6 a,I6 m,I6 b,ia] w (kj w g (P++mg cY X Y++Q)):=by
 obtain⟨mid,Ie⟩:=zE ((a+b) / 2);obtain⟨nn,YI⟩:=zE (mid+m);rcases hbr with⟨b1,b2,b3⟩|⟨b1,b2,b3⟩
 all_goals (
 first|rw[<-Ie]at b1 b2 b3|rw[<-Ie]at b1
 obtain⟨K,⟨k1,k2,k3,k4,k5,k6⟩,key,X1,X2,Y1,Y2,eX,eY,lX1,lX2,lY1,lY2,emg⟩:=Qf X Y a m b mid nn lo hi hm hb oM oM Ie YI oM sX sY;have:b<=n:=oM
 obtain⟨e,he⟩:∃e,e+K=mid+m:=⟨mid+m-K,by omega⟩
 obtain⟨L2,L3,t1,n1,t2,n2,t3,n3⟩:=Us N IH g n c a m b mid K e P Q X1 X2 Y1 Y2 hN ha k3 k4 k5 oM he oM oM Ie oM lX1 lX2 lY1 oM hn fo (by rw[eX]at sX;exact(aH7.1 sX).1) (by rw[eX]at sX;exact(aH7.1 sX).2.1) (by rw[eY]at sY;exact(aH7.1 sY).1) (by rw[eY]at sY;exact(aH7.1 sY).2.1);have e0:P++X++Y++Q=P++X1++X2++Y1++(Y2++Q):=by rw[eX,eY];simp
 rw[<-e0]at t1 n1;have T1:=zD t1;have T2:=zD t2;have T3:=zD t3;have N1:=zD n1;have N2:=zD n2;have N3:=zD n3;have H0:=zD h;have:=zD (show(P++X++Y++Q).length=n from by simp;omega);have HY:=zD (fun(e:Nat) (p1:lo<=e) (p2:e<hi)=>(show ∃x y,(P++X++Y++Q)[e]? = some x/\(P++X++Y++Q)[nn-1-e]? = some y/\cY x y=decide (e<K)from by
  obtain⟨x,y,q1,q2,q3⟩:=key e p1 p2;refine⟨x,y,?_,?_,q3⟩
  ·rw[aC7,aC7,aC8 oM,aD3 (by have:=(d9.1 q1).1;omega),<-ha,q1]
  ·have:=(d9.1 q2).1
   rw[aC7,aC8 sM,aD3 sM,<-q2]
   congr 1;simp;omega))
 have EL:=zD (show P++(mg cY X1 Y1)++(mg cY X2 Y2)++Q=P++mg cY X Y++Q from by rw[emg];simp);have:IntKind.i64.wrap ((m:Int)-(a:Int))=(X.length:Int):=by rw[IntKind.wrap_i64];omega
 have:IntKind.i64.wrap ((b:Int)-(m:Int))=(Y.length:Int):=by rw[IntKind.wrap_i64];omega
 have:((X.length:Int)==1)=false:=by simp;omega
 have:((Y.length:Int)==1)=false:=by simp;omega
 generalize P++X++Y++Q=L0 at *;generalize P++mg cY X Y++Q=L1 at *;generalize X.length=xl at *;generalize Y.length=yl at *;have:a<=100000:=oM
 have:m<=100000:=oM
 have:b<=100000:=oM
 have:mid<=100000:=oM
 have:((a:Int)+(b:Int)) / 2=(mid:Int):=oM
 have: ∀args W,(callFunc 285 args).run prog W=.ok (.enter 285 args) W:=fun _ _=>by rfl
 have:=zD Ie;have tB:=zD YI;have HEe:=zD he;have:m<n:=oM
 have:a<m:=oM
 have JS:hi<=m:=oM
 have JT:hi<=mid:=oM
 have tY:mid+m<=b+lo:=oM
 first|(have:decide (mid<m)=true:=by simp;omega)|(have:decide (mid<m)=false:=by simp;omega)
 clear t1 t2 t3 n1 n2 n3 e0 h key eX eY emg sX sY lX1 lX2 lY1 lY2
 first|(have HBr:=zD (show I6 ((mid:Int)+(m:Int)-(b:Int))=I6 (lo:Int)/\I6 (mid:Int)=I6 (hi:Int)from⟨congrArg (Value.int .i64) oM,congrArg (Value.int .i64) oM⟩))|(have HBr:=zD (show I6 ((a:Int))=I6 (lo:Int)/\I6 (m:Int)=I6 (hi:Int)from⟨congrArg (Value.int .i64) oM,congrArg (Value.int .i64) oM⟩))
 clear ha hm hb hn hX hY Ie YI he b2 b3;go_enter func312,ntmps312;go_wp2;go_loopw[20,21] (fun vi vj wr=>∃(i j:Nat),vi = I6 i/\vj = I6 j/\lo<=i/\i<=K/\K<=j/\j<=hi/\bI wr g L0/\ah (fun k=>k=g) w wr) (fun vi vj _=>(intOf vj).toNat-(intOf vi).toNat)
 case atStart=>exact⟨lo,hi,HBr.out.1,HBr.out.2,aC1 _,k1,k2,aC1 _,H0.out,ah.refl _ _⟩
 case round=>
 obtain⟨i,j,rfl,rfl,wD,Fl,Fo,JU,mZ,zy⟩:=hrel;have HA:=zD mZ;have HU:=zD zy;clear mZ zy
 by_cases hij:i<j
 ·obtain⟨h,hh⟩:=zE ((i+j) / 2)
  have:((i:Int)+(j:Int)) / 2=(h:Int):=oM
  have:i<=100000:=oM
  have:j<=100000:=oM
  have:i<=h:=oM
  have:h<j:=oM
  obtain⟨x,y,hx,hy,hge⟩:=HY.out h oM oM;obtain⟨q,hq⟩:=zE (nn-1-h);have:(mid:Int)+(m:Int)-1-(h:Int)=(q:Int):=by have:=tB.out;omega
  have:q<n:=oM
  have:IntKind.i64.wrap (q:Int)=(q:Int):=by rw[IntKind.wrap_i64];omega
  rw[<-hq]at hy;have HXh:=zD hx;have HYq:=zD hy;obtain⟨C,hC,hcm⟩:=uk y x;have HC:=zD hcm;rw[hge]at hC;clear hx hy hcm hge hh hq
  by_cases hhK:h<K
  ·rw[decide_eq_true hhK]at hC
   go_upto_region 35 with fail
   refine zB fun S0=>?_
   refine zk 9 [0,1,2,3,4] [ia,_,_,_,I6 (q:Int)] (.c rfl rfl zPP<|.c rfl rfl zPP<|.c rfl rfl zPP<|.c rfl rfl zPP<|.c rfl rfl zPP .nil) S0 ?_;refine zk 4 [5,6,7,8,9] [.pointer (some ⟨g,q*3,none⟩),.agg y.row,_,_,.pointer (some ⟨g,h*3,none⟩)] (.c rfl rfl (zl fun _ _=>aN rfl rfl rfl oM)<|.c rfl rfl (zl fun _ h=>aF (ty:=kP) (x:=.tmp 163) rfl rfl (bI.load (HA.out.call h) HYq.out))<|.c rfl rfl zPP<|.c rfl rfl zPP<|.c rfl rfl (zl fun _ _=>aN rfl rfl rfl oM) .nil) S0 ?_;refine zk 3 [10] [.agg x.row] (.c rfl rfl (zl fun _ h=>aF (ty:=kP) (x:=.tmp 167) rfl rfl (bI.load (HA.out.call h) HXh.out)) .nil) S0 ?_;refine zQ 11 ?_;go_wp2_with(go_at_fn 285;refine zM (HC.out _) fun v9 b8=>?_);refine .i (zT S0 b8) ?_;have S9:=zT S0 b8;refine zk 0 [12,13] [.bool false,.bool true] (.c rfl rfl zPP<|.c rfl rfl zPP .nil) S9 ?_;refine zd ?_;have J:=zD (HA.out.call S9);have U:=zD (HU.out.call S9);clear b8 S9 S0 HC hC;go_wp2;go_roundw
   case rel=>exact⟨h+1,j,by first|rfl|go_num,rfl,by omega,by omega,by omega,by omega,J.out,U.out⟩
   case measure=>first|(simp[intOf];done)|(simp[intOf];omega)
  ·rw[decide_eq_false hhK]at hC
   go_upto_region 35 with fail
   refine zB fun S0=>?_
   refine zk 9 [0,1,2,3,4] [ia,_,_,_,I6 (q:Int)] (.c rfl rfl zPP<|.c rfl rfl zPP<|.c rfl rfl zPP<|.c rfl rfl zPP<|.c rfl rfl zPP .nil) S0 ?_;refine zk 4 [5,6,7,8,9] [.pointer (some ⟨g,q*3,none⟩),.agg y.row,_,_,.pointer (some ⟨g,h*3,none⟩)] (.c rfl rfl (zl fun _ _=>aN rfl rfl rfl oM)<|.c rfl rfl (zl fun _ h=>aF (ty:=kP) (x:=.tmp 163) rfl rfl (bI.load (HA.out.call h) HYq.out))<|.c rfl rfl zPP<|.c rfl rfl zPP<|.c rfl rfl (zl fun _ _=>aN rfl rfl rfl oM) .nil) S0 ?_;refine zk 3 [10] [.agg x.row] (.c rfl rfl (zl fun _ h=>aF (ty:=kP) (x:=.tmp 167) rfl rfl (bI.load (HA.out.call h) HXh.out)) .nil) S0 ?_;refine zQ 11 ?_;go_wp2_with(go_at_fn 285;refine zM (HC.out _) fun v9 b8=>?_);refine .i (zT S0 b8) ?_;have S9:=zT S0 b8;refine zk 0 [12,13] [.bool true,.bool false] (.c rfl rfl zPP<|.c rfl rfl zPP .nil) S9 ?_;refine zd ?_;have J:=zD (HA.out.call S9);have U:=zD (HU.out.call S9);clear b8 S9 S0 HC hC;go_wp2;go_roundw
   case rel=>exact⟨i,h,rfl,by first|rfl|go_num,by omega,by omega,by omega,by omega,J.out,U.out⟩
   case measure=>first|(simp[intOf];done)|(simp[intOf];omega)
 ·obtain rfl:i=K:=oM
  obtain rfl:i=j:=oM
  have:i<=100000:=oM
  have:e<=100000:=by have:=HEe.out;omega
  have A0:=HA;have JV:=HEe.out;have:(mid:Int)+(m:Int)-(i:Int)=(e:Int):=oM
  clear hij
  by_cases c1:i<m<;>by_cases c4:i<mid<;>by_cases c3:a<i<;>by_cases c2:e<b
  all_goals
   have C1:=zD c1;have C2:=zD c2;have C3:=zD c3;have C4:=zD c4
  ·
   first
   |exfalso;omega
   |have:m<e:=oM
    have:mid<e:=oM
    have HC:=zD (T1.out wr oM oM A0.out);clear k1 k2 k3 k4 k5 k6 Fl Fo wD JU JV JS JT tY;go_wp2_with fail
    with_reducible (refine Calls.mono HC.out ?_)
    rintro e2 w2 ⟨rfl,ha2,iO⟩;have A2:=zD ha2;have U2:=zD (HU.out.trans iO iL);clear ha2 iO;have JN:=zD (T2.out w2 C3.out C4.out A2.out);go_wp2_with fail
    with_reducible (refine Calls.mono JN.out ?_)
    rintro e3 w3 ⟨rfl,Ut,jP⟩;have A3:=zD Ut;have U3:=zD (U2.out.trans jP iL);clear Ut jP;have tT:=zD (T3.out w3 C1.out C2.out A3.out);go_wp2_with fail
    with_reducible (refine Calls.mono tT.out ?_)
    rintro e4 w4 ⟨rfl,Cu,ki⟩;have A4:=zD (show bI w4 g L1 from by rw[<-EL.out];exact Cu);have U4:=zD (U3.out.trans ki iL);clear Cu ki;go_wp2;go_returns;exact⟨rfl,A4.out,U4.out⟩
  ·
   first
   |exfalso;omega
   |have:m<e:=oM
    have:mid<e:=oM
    have HC:=zD (T1.out wr oM oM A0.out);clear k1 k2 k3 k4 k5 k6 Fl Fo wD JU JV JS JT tY;go_wp2_with fail
    with_reducible (refine Calls.mono HC.out ?_)
    rintro e2 w2 ⟨rfl,ha2,iO⟩;have A2:=zD ha2;have U2:=zD (HU.out.trans iO iL);clear ha2 iO;have JN:=zD (T2.out w2 C3.out C4.out A2.out);go_wp2_with fail
    with_reducible (refine Calls.mono JN.out ?_)
    rintro e3 w3 ⟨rfl,Ut,jP⟩;have A3:=zD Ut;have U3:=zD (U2.out.trans jP iL);clear Ut jP;have A4:=zD (show bI w3 g L1 from by rw[<-EL.out,<-N3.out (fun hh=>C2.out hh.2)];exact A3.out);go_wp2;go_returns;exact⟨rfl,A4.out,U3.out⟩
  ·
   first
   |exfalso;omega
   |have:m<e:=oM
    have:mid<e:=oM
    have HC:=zD (T1.out wr oM oM A0.out);clear k1 k2 k3 k4 k5 k6 Fl Fo wD JU JV JS JT tY;go_wp2_with fail
    with_reducible (refine Calls.mono HC.out ?_)
    rintro e2 w2 ⟨rfl,ha2,iO⟩;have A2:=zD ha2;have U2:=zD (HU.out.trans iO iL);clear ha2 iO;have A3:=zD (show bI w2 g L3 from by rw[<-N2.out (fun hh=>C3.out hh.1)];exact A2.out);have tT:=zD (T3.out w2 C1.out C2.out A3.out);go_wp2_with fail
    with_reducible (refine Calls.mono tT.out ?_)
    rintro e4 w4 ⟨rfl,Cu,ki⟩;have A4:=zD (show bI w4 g L1 from by rw[<-EL.out];exact Cu);have U4:=zD (U2.out.trans ki iL);clear Cu ki;go_wp2;go_returns;exact⟨rfl,A4.out,U4.out⟩
  ·
   first
   |exfalso;omega
   |have:m<e:=oM
    have:mid<e:=oM
    have HC:=zD (T1.out wr oM oM A0.out);clear k1 k2 k3 k4 k5 k6 Fl Fo wD JU JV JS JT tY;go_wp2_with fail
    with_reducible (refine Calls.mono HC.out ?_)
    rintro e2 w2 ⟨rfl,ha2,iO⟩;have A2:=zD ha2;have U2:=zD (HU.out.trans iO iL);clear ha2 iO;have A3:=zD (show bI w2 g L3 from by rw[<-N2.out (fun hh=>C3.out hh.1)];exact A2.out);have A4:=zD (show bI w2 g L1 from by rw[<-EL.out,<-N3.out (fun hh=>C2.out hh.2)];exact A3.out);go_wp2;go_returns;exact⟨rfl,A4.out,U2.out⟩
  ·
   first
   |exfalso;omega
   |have: ¬(m<e):=oM
    have:mid<e:=oM
    have A2:=zD (show bI wr g L2 from by rw[<-N1.out oM];exact A0.out);clear k1 k2 k3 k4 k5 k6 Fl Fo wD JU JV JS JT tY;have A3:=zD (show bI wr g L3 from by rw[<-N2.out (fun hh=>C4.out hh.2)];exact A2.out);have tT:=zD (T3.out wr C1.out C2.out A3.out);go_wp2_with fail
    with_reducible (refine Calls.mono tT.out ?_)
    rintro e4 w4 ⟨rfl,Cu,ki⟩;have A4:=zD (show bI w4 g L1 from by rw[<-EL.out];exact Cu);have U4:=zD (HU.out.trans ki iL);clear Cu ki;go_wp2;go_returns;exact⟨rfl,A4.out,U4.out⟩
  ·
   first
   |exfalso;omega
   |have: ¬(m<e):=oM
    have:mid<e:=oM
    have A2:=zD (show bI wr g L2 from by rw[<-N1.out oM];exact A0.out);clear k1 k2 k3 k4 k5 k6 Fl Fo wD JU JV JS JT tY;have A3:=zD (show bI wr g L3 from by rw[<-N2.out (fun hh=>C4.out hh.2)];exact A2.out);have A4:=zD (show bI wr g L1 from by rw[<-EL.out,<-N3.out (fun hh=>C2.out hh.2)];exact A3.out);go_wp2;go_returns;exact⟨rfl,A4.out,HU.out⟩
  ·
   first
   |exfalso;omega
   |have: ¬(m<e):=oM
    have:mid<e:=oM
    have A2:=zD (show bI wr g L2 from by rw[<-N1.out oM];exact A0.out);clear k1 k2 k3 k4 k5 k6 Fl Fo wD JU JV JS JT tY;have A3:=zD (show bI wr g L3 from by rw[<-N2.out (fun hh=>C3.out hh.1)];exact A2.out);have tT:=zD (T3.out wr C1.out C2.out A3.out);go_wp2_with fail
    with_reducible (refine Calls.mono tT.out ?_)
    rintro e4 w4 ⟨rfl,Cu,ki⟩;have A4:=zD (show bI w4 g L1 from by rw[<-EL.out];exact Cu);have U4:=zD (HU.out.trans ki iL);clear Cu ki;go_wp2;go_returns;exact⟨rfl,A4.out,U4.out⟩
  ·
   first
   |exfalso;omega
   |have: ¬(m<e):=oM
    have:mid<e:=oM
    have A2:=zD (show bI wr g L2 from by rw[<-N1.out oM];exact A0.out);clear k1 k2 k3 k4 k5 k6 Fl Fo wD JU JV JS JT tY;have A3:=zD (show bI wr g L3 from by rw[<-N2.out (fun hh=>C3.out hh.1)];exact A2.out);have A4:=zD (show bI wr g L1 from by rw[<-EL.out,<-N3.out (fun hh=>C2.out hh.2)];exact A3.out);go_wp2;go_returns;exact⟨rfl,A4.out,HU.out⟩
  ·
   first
   |exfalso;omega
   |have:m<e:=oM
    have: ¬(mid<e):=oM
    have A2:=zD (show bI wr g L2 from by rw[<-N1.out oM];exact A0.out);clear k1 k2 k3 k4 k5 k6 Fl Fo wD JU JV JS JT tY;have JN:=zD (T2.out wr C3.out C4.out A2.out);go_wp2_with fail
    with_reducible (refine Calls.mono JN.out ?_)
    rintro e3 w3 ⟨rfl,Ut,jP⟩;have A3:=zD Ut;have U3:=zD (HU.out.trans jP iL);clear Ut jP;have A4:=zD (show bI w3 g L1 from by rw[<-EL.out,<-N3.out (fun hh=>C1.out hh.1)];exact A3.out);go_wp2;go_returns;exact⟨rfl,A4.out,U3.out⟩
  ·
   first
   |exfalso;omega
   |have:m<e:=oM
    have: ¬(mid<e):=oM
    have A2:=zD (show bI wr g L2 from by rw[<-N1.out oM];exact A0.out);clear k1 k2 k3 k4 k5 k6 Fl Fo wD JU JV JS JT tY;have JN:=zD (T2.out wr C3.out C4.out A2.out);go_wp2_with fail
    with_reducible (refine Calls.mono JN.out ?_)
    rintro e3 w3 ⟨rfl,Ut,jP⟩;have A3:=zD Ut;have U3:=zD (HU.out.trans jP iL);clear Ut jP;have A4:=zD (show bI w3 g L1 from by rw[<-EL.out,<-N3.out (fun hh=>C1.out hh.1)];exact A3.out);go_wp2;go_returns;exact⟨rfl,A4.out,U3.out⟩
  ·
   first
   |exfalso;omega
   |have:m<e:=oM
    have: ¬(mid<e):=oM
    have A2:=zD (show bI wr g L2 from by rw[<-N1.out oM];exact A0.out);clear k1 k2 k3 k4 k5 k6 Fl Fo wD JU JV JS JT tY;have A3:=zD (show bI wr g L3 from by rw[<-N2.out (fun hh=>C3.out hh.1)];exact A2.out);have A4:=zD (show bI wr g L1 from by rw[<-EL.out,<-N3.out (fun hh=>C1.out hh.1)];exact A3.out);go_wp2;go_returns;exact⟨rfl,A4.out,HU.out⟩
  ·
   first
   |exfalso;omega
   |have:m<e:=oM
    have: ¬(mid<e):=oM
    have A2:=zD (show bI wr g L2 from by rw[<-N1.out oM];exact A0.out);clear k1 k2 k3 k4 k5 k6 Fl Fo wD JU JV JS JT tY;have A3:=zD (show bI wr g L3 from by rw[<-N2.out (fun hh=>C3.out hh.1)];exact A2.out);have A4:=zD (show bI wr g L1 from by rw[<-EL.out,<-N3.out (fun hh=>C1.out hh.1)];exact A3.out);go_wp2;go_returns;exact⟨rfl,A4.out,HU.out⟩
  ·
   first
   |exfalso;omega
   |have: ¬(m<e):=oM
    have: ¬(mid<e):=oM
    have A2:=zD (show bI wr g L2 from by rw[<-N1.out oM];exact A0.out);clear k1 k2 k3 k4 k5 k6 Fl Fo wD JU JV JS JT tY;have A3:=zD (show bI wr g L3 from by rw[<-N2.out (fun hh=>C4.out hh.2)];exact A2.out);have A4:=zD (show bI wr g L1 from by rw[<-EL.out,<-N3.out (fun hh=>C1.out hh.1)];exact A3.out);go_wp2;go_returns;exact⟨rfl,A4.out,HU.out⟩
  ·
   first
   |exfalso;omega
   |have: ¬(m<e):=oM
    have: ¬(mid<e):=oM
    have A2:=zD (show bI wr g L2 from by rw[<-N1.out oM];exact A0.out);clear k1 k2 k3 k4 k5 k6 Fl Fo wD JU JV JS JT tY;have A3:=zD (show bI wr g L3 from by rw[<-N2.out (fun hh=>C4.out hh.2)];exact A2.out);have A4:=zD (show bI wr g L1 from by rw[<-EL.out,<-N3.out (fun hh=>C1.out hh.1)];exact A3.out);go_wp2;go_returns;exact⟨rfl,A4.out,HU.out⟩
  ·
   first
   |exfalso;omega
   |have: ¬(m<e):=oM
    have: ¬(mid<e):=oM
    have A2:=zD (show bI wr g L2 from by rw[<-N1.out oM];exact A0.out);clear k1 k2 k3 k4 k5 k6 Fl Fo wD JU JV JS JT tY;have A3:=zD (show bI wr g L3 from by rw[<-N2.out (fun hh=>C3.out hh.1)];exact A2.out);have A4:=zD (show bI wr g L1 from by rw[<-EL.out,<-N3.out (fun hh=>C1.out hh.1)];exact A3.out);go_wp2;go_returns;exact⟨rfl,A4.out,HU.out⟩
  ·
   first
   |exfalso;omega
   |have: ¬(m<e):=oM
    have: ¬(mid<e):=oM
    have A2:=zD (show bI wr g L2 from by rw[<-N1.out oM];exact A0.out);clear k1 k2 k3 k4 k5 k6 Fl Fo wD JU JV JS JT tY;have A3:=zD (show bI wr g L3 from by rw[<-N2.out (fun hh=>C3.out hh.1)];exact A2.out);have A4:=zD (show bI wr g L1 from by rw[<-EL.out,<-N3.out (fun hh=>C1.out hh.1)];exact A3.out);go_wp2;go_returns;exact⟨rfl,A4.out,HU.out⟩)
end Go.Proofs.YtjgmjohiehbgaaaGreat
