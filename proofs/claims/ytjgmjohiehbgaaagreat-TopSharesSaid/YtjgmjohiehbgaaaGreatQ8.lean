/- Part 8. -/
import Derived.Test.YtjgmjohiehbgaaaGreatQ7
namespace Go.Proofs.YtjgmjohiehbgaaaGreat
open Go.RowKit Go.Proofs.Tryz
set_option maxHeartbeats 20000000
set_option maxRecDepth 100000
set_option linter.all false
variable {d k n:Nat} {f t x:Int} {l:List aD} {p:dI} {past:List aU} {w:World} {α:Type}
open Nat (div_add_mod)
def dZ (c:aM) (s:ByteArray):Int:=if eO s then Fe (aO s) (aP s) c.str else -1
theorem qN (c:aM) (s:ByteArray) (w:World) (hs:s.size<=maxLen) (hc:c.fit) :
 Calls prog 263 #[.agg c.row,.string s] w (Rt (I6 (dZ c s)) (Bl w)):=by
 have HP:=(fun W=>fT s W hs);have hk1:=jY s;have hk2:=jZ s;have HO:=(fun W=>xO (aO s) (aP s) c.str W hc.1 oM oM);have X:=And.intro (ai.new w 23 c.row) (show Bl w (w.alloc (.cells c.row 23)) by go_grown);clear hk1 hk2;cases hi:eO s
 ·have HE:dZ c s = -1:=by unfold dZ;rw[hi];rfl
  have he:cT s=2:=by unfold cT;rw[hi];rfl
  rw[he]at HP;clear hi he hc;go_enter func263,ntmps263;go_wp2_with(go_at_call 32;refine zM (HP _) fun w1 hb1=>?_;have D1:=zT X.2 hb1;have B1:=X.1.call hb1;have z1:=B1.lt;clear hb1);go_ret;exact⟨au HE.symm,by have:=D1.alloc D1.size;exact this _⟩
 ·have HE:dZ c s=Fe (aO s) (aP s) c.str:=by unfold dZ;rw[hi];rfl
  have he:cT s=0:=by unfold cT;rw[hi];rfl
  rw[he]at HP;clear hi he hc;generalize Fe (aO s) (aP s) c.str=R at *;go_enter func263,ntmps263;go_wp2_with(first
   |go_at_call 32;refine zM (HP _) fun w1 hb1=>?_;have D1:=zT X.2 hb1;have B1:=X.1.call hb1;have:=B1.lt;have:=B1.z 0 (I6 c.str);clear hb1
   |(go_at_call 134;refine zM (HO _) fun w2 hb2=>?_;have D2:=(D1.alloc D1.size _).trans (hb2.mono (D1.alloc D1.size _).size);clear hb2))
  go_ret;exact⟨au HE.symm,D2⟩
theorem pE {w1 w2:World} {v1 v2:Value} {l1 l2:List iM} {b1:Nat} (h1:qL w1 b1 v1 l1) (h2:qL w2 w1.heap.size v2 l2):∀k,v1.ownBlock=some k->v2.ownBlock≠some k:=fun k hk hk2=>by
 have:=(h1.se k hk).2;have:=(h2.se k hk2).1;omega
theorem qO {w1 w2:World} {v1 v2:Value} {l1 l2:List iM} {b1:Nat} (h1:qL w1 b1 v1 l1) (h2:qL w2 w1.heap.size v2 l2):∀k,v2.ownBlock=some k->v1.ownBlock≠some k:=fun k hk hk2=>pE h1 h2 k hk2 hk
theorem Yl (c:aM) (k:Int) (s:ByteArray) (t v h:Int) (p:dI) (n:Nat) (w:World) (hs:s.size<=maxLen) (hc:c.fit) (hn:c.str=n) (qd:n<=64) (hk:k=1) :
 Calls prog 216 #[.agg c.row,.agg (aj k s t v h p)] w (mS w (gI (dZ c s) n k)):=by
 have HH:=zD (fun W=>qN c s W hs hc)
 have HO:=zD (fun W=>pC 3 (dZ c s) W)
 have HL:=zD (fun W=>iq c W (oM) (oM))
 have HQ:=zD (show gI (dZ c s) n k=lI 3 (dZ c s)++[⟨3,c.str+1⟩,⟨6,0⟩,⟨5,c.str+1⟩]from by unfold gI;rw[if_pos (oM),hn])
 have X:=zD (And.intro ((ai.new w 23 c.row).alloc (.cells (aj k s t v h p) 65)) (And.intro (ai.dR w (.cells c.row 23) 65 (aj k s t v h p)) (show Below w.heap.size w ((w.alloc (.cells c.row 23)).alloc (.cells (aj k s t v h p) 65)) by go_grown)))
 generalize dZ c s=H at *
 generalize gI H n k=R at *
 obtain⟨L,hL⟩:∃L,L=c.str+1:=⟨_,rfl⟩
 rw[<-hL]at HL HQ
 have d1:(k==1)=true:=by subst hk;rfl
 clear hc hn qd hL hk
 go_enter func216,ntmps216
 focus(go_upto_region 4 with(fail))
 obtain⟨w0,hw0⟩:∃w0,w0=(w.alloc (.cells c.row 23)).alloc (.cells (aj k s t v h p) 65):=⟨_,rfl⟩
 rw[<-hw0]at X |-
 clear hw0
 refine zr (fun _=>false) (fun wS=>Below w0.heap.size w0 wS) ?_
 have S0:=(Below.refl w0.heap.size w0).drew
 refine zk 10 [0,1,2,5,8] [_,_,.string s,_,_] (.c rfl rfl (zl fun _ h=>zb (X.out.1.call h) underlying23)<|.q zX<|.q (zS fun _ h=>(X.out.2.1.call h).ar (i:=1) (v:=.string s) rfl)<|.c rfl rfl (zl fun _ h=>zb (X.out.1.call h) underlying23)<|.e) S0 ?_
 refine zk 9 [9] [_] (.c rfl rfl (zl fun _ h=>zb (X.out.1.call h) underlying23) .nil) S0 ?_
 refine zo 3 (fun Q2 aI=>?_);go_wp2_with(go_at_call 263;refine(HH.out _).mono ?_;rintro e v3 ⟨rfl,hb3⟩);refine aI _ _ (fun _=>S0.trans (hb3.mono S0.size)) ?_;clear aI Q2
 have S3:=S0.trans (hb3.mono S0.size)
 refine zo 4 (fun Q2 aI=>?_);go_wp2_with(go_at_call 262;refine(HO.out _).mono ?_;rintro e v4 ⟨V,rfl,oV,hb4⟩;obtain⟨A4,n4,c4,rfl,-,-⟩:=oV.shape bK;have oV:=oV.mono (S3).size);refine aI _ _ (fun _=>S3.trans (hb4.mono S3.size)) ?_;clear aI Q2
 have S4:=S3.trans (hb4.mono S3.size)
 refine zo 6 (fun Q2 aI=>?_);go_wp2_with(go_at_call 171;refine(HL.out _).mono ?_;rintro e v6 ⟨rfl,dJ⟩;(try have oV:=(by first|exact oV.call dJ|exact(oV.alloc _).call dJ)));refine aI _ _ (fun _=>S4.trans (dJ.mono S4.size)) ?_;clear aI Q2
 have S6:=S4.trans (dJ.mono S4.size)
 refine zq 5 [7] [_] S6 ?_
 refine zo 10 (fun Q2 aI=>?_);go_wp2_with(go_at_call 171;refine(HL.out _).mono ?_;rintro e v10 ⟨rfl,lJ⟩;(try have oV:=(by first|exact oV.call lJ|exact(oV.alloc _).call lJ)));refine aI _ _ (fun _=>S6.trans (lJ.mono S6.size)) ?_;clear aI Q2
 have AB:=S6.trans (lJ.mono S6.size)
 refine zq 3 [11] [_] AB ?_
 refine zo 12 (fun Q2 aI=>?_)
 have nG:=dp (S:=AB) (#[.int .i64 3,.int .i64 L,.int .i64 6,.int .i64 0,.int .i64 5,.int .i64 L]) 334
 obtain⟨G,hG,bG,lG⟩:=nG
 go_wp2_with fail
 refine aI _ _ (fun _=>AB.alloc AB.size _) ?_
 clear aI Q2
 (try simp only[hG])
 clear hG
 have SG:=AB.alloc AB.size (.cells (#[.int .i64 3,.int .i64 L,.int .i64 6,.int .i64 0,.int .i64 5,.int .i64 L]) 334)
 refine zo 13 (fun Q2 aI=>?_);go_wp2_with(refine x4 _ rfl (.tmp 14) (.tmp 22) rfl w0.heap.size (.slice A4 n4 c4) _ rfl (by first|exact oV|exact oV.alloc _) (some ⟨G,0,none⟩) 3 3 [⟨3,L⟩,⟨6,0⟩,⟨5,L⟩] rfl (lS (l:=[(⟨3,L⟩:iM),⟨6,0⟩,⟨5,L⟩]) bK (bG) rfl (by unfold maxLen;simp)) (by simp[lI]) (SG).size ?_;intro v5 w5 kG dx iK;obtain⟨A5,n5,c5,rfl,-,-⟩:=kG.shape bK);refine aI _ _ (fun _=>SG.trans dx) ?_;clear aI Q2
 have S5:=SG.trans dx
 refine zq 0 [14] [.slice A5 n5 c5] S5 ?_
 refine eQ (kZ) ?_ _
 have O5:=zD kG
 have E5:=zD S5
 go_wp2
 go_ret
 exact⟨_,rfl,by rw[HQ.out];exact O5.out.mono X.out.2.2.size,X.out.2.2.trans (E5.out.mono X.out.2.2.size)⟩
theorem Ym (c:aM) (k:Int) (s:ByteArray) (t v h:Int) (p:dI) (n:Nat) (w:World) (hn:c.str=n) (qd:n<=64) (H:Int) (hk:k=2) :
 Calls prog 216 #[.agg c.row,.agg (aj k s t v h p)] w (mS w (gI H n k)):=by
 have HA:=zD (fun W=>pD c 3 n W hn qd)
 have HB:=zD (fun W=>pD c 5 n W hn qd)
 have HQ:=zD (show gI H n k=l7 n 3++[⟨4,0⟩]++l7 n 5 from by unfold gI;rw[if_neg (oM),if_pos hk])
 have X:=zD (And.intro ((ai.new w 23 c.row).alloc (.cells (aj k s t v h p) 65)) (show Below w.heap.size w ((w.alloc (.cells c.row 23)).alloc (.cells (aj k s t v h p) 65)) by go_grown))
 have HN:=zD (And.intro (jW n 3) (And.intro (jW n 5) qd))
 generalize gI H n k=R at *
 generalize l7 n 3=L3 at *
 generalize l7 n 5=L5 at *
 have d1:(k==1)=false:=by subst hk;rfl
 have d6:(k==6)=false:=by subst hk;rfl
 have d2:(k==2)=true:=by subst hk;rfl
 clear hn qd hk
 go_enter func216,ntmps216
 focus(go_upto_region 6 with(fail))
 obtain⟨w0,hw0⟩:∃w0,w0=(w.alloc (.cells c.row 23)).alloc (.cells (aj k s t v h p) 65):=⟨_,rfl⟩
 rw[<-hw0]at X |-
 clear hw0
 refine zr (fun _=>false) (fun wS=>Below w0.heap.size w0 wS) ?_
 have S0:=(Below.refl w0.heap.size w0).drew
 refine zk 6 [0,2,5] [_,_,_] (.c rfl rfl (zl fun _ h=>zb (X.out.1.call h) underlying23)<|.q zX<|.c rfl rfl (zl fun _ h=>zb (X.out.1.call h) underlying23) .nil) S0<|FN (i:=1) (j:=3) (kZ) rfl (by rfl) rfl (by rfl) (fun Q2 aI=>?_) (fun Q2 aI=>?_)
 ·
  go_wp2_with(go_at_call 264;refine(HA.out _).mono ?_;rintro e v1 ⟨V,rfl,oA,hb1⟩;obtain⟨A1,n1,c1,rfl,-,-⟩:=oA.shape bK;(try have nAB:=qO (w1:=_) (w2:=v1) (by first|exact oB|exact oB.alloc _) oA);have oA:=oA.mono (S0).size;(try have oB:=(by first|exact oB.call hb1|exact(oB.alloc _).call hb1)))
  refine aI _ _ (fun _=>S0.trans (hb1.mono S0.size)) ?_
  clear aI Q2
  have S1:=S0.trans (hb1.mono S0.size)
  refine zo 3 (fun Q2 aI=>?_)
  have nG:=dp (S:=S1) (#[.int .i64 4,.int .i64 0]) 334
  obtain⟨G,hG,bG,lG⟩:=nG
  go_wp2_with fail
  refine aI _ _ (fun _=>S1.alloc S1.size _) ?_
  clear aI Q2
  (try simp only[hG])
  clear hG
  have SG:=S1.alloc S1.size (.cells (#[.int .i64 4,.int .i64 0]) 334)
  refine zo 4 (fun Q2 aI=>?_);go_wp2_with(refine xZ _ rfl (.tmp 27) (.tmp 29) rfl w0.heap.size (.slice A1 n1 c1) _ rfl (by first|exact oA|exact oA.alloc _) G _ 1 ⟨4,0⟩ rfl (bG) (oH HN.out) (SG).size ?_;intro v4 w4 qP hb4 hg4;obtain⟨A4,n4,c4,rfl,-,-⟩:=qP.shape bK);refine aI _ _ (fun _=>SG.trans hb4) ?_;clear aI Q2
  have S4:=SG.trans hb4
  refine zo 6 (fun Q2 aI=>?_);go_wp2_with(go_at_call 264;refine(HB.out _).mono ?_;rintro e v6 ⟨VB,rfl,oB,dJ⟩;obtain⟨A6,n6,c6,rfl,Xk,-⟩:=oB.shape bK;have N6:=zD Xk;clear Xk;(try have nAB:=pE (w2:=v6) (by first|exact oA|exact oA.alloc _) oB);have oB:=oB.mono (S4).size;(try have qP:=(by first|exact qP.call dJ|exact(qP.alloc _).call dJ));(try have oA:=(by first|exact oA.call dJ|exact(oA.alloc _).call dJ)));refine aI _ _ (fun _=>S4.trans (dJ.mono S4.size)) ?_;clear aI Q2
  have S6:=S4.trans (dJ.mono S4.size)
  refine zo 7 (fun Q2 aI=>?_);go_wp2_with(refine x4 _ rfl (.tmp 30) (.tmp 32) rfl w0.heap.size (.slice A4 n4 c4) _ rfl (by first|exact qP|exact qP.alloc _) A6 n6 c6 L5 rfl (by obtain⟨A9,n9,c9,e9,-,h9⟩:=(show qL _ _ (.slice A6 n6 c6) L5 from by first|exact oB|exact oB.alloc _).shape bK;cases e9;exact h9) (by have:=HN.out;have:=N6.out;simp;omega) (S6).size ?_;intro v7 w7 Ck lV Yn;obtain⟨A7,n7,c7,rfl,-,-⟩:=Ck.shape bK);refine aI _ _ (fun _=>S6.trans lV) ?_;clear aI Q2
  have S7:=S6.trans lV
  refine zq 0 [8] [.slice A7 n7 c7] S7<|eQ (kZ) ?_ _
  have O7:=zD Ck
  have E7:=zD S7
  go_wp2
  go_ret
  exact⟨_,rfl,HQ.out▸O7.out.mono X.out.2.size,X.out.2.trans (E7.out.mono X.out.2.size)⟩
 ·
  skip
  obtain⟨G,hG,bG,lG⟩:=dp (S:=S0) (#[.int .i64 4,.int .i64 0]) 334
  go_wp2_with fail
  refine aI _ _ (fun _=>S0.alloc S0.size _) ?_
  clear aI Q2
  (try simp only[hG])
  clear hG
  have SG:=S0.alloc S0.size (.cells (#[.int .i64 4,.int .i64 0]) 334)
  refine zo 1 (fun Q2 aI=>?_);go_wp2_with(go_at_call 264;refine(HA.out _).mono ?_;rintro e v1 ⟨V,rfl,oA,hb1⟩;obtain⟨A1,n1,c1,rfl,-,-⟩:=oA.shape bK;(try have nAB:=qO (w1:=_) (w2:=v1) (by first|exact oB|exact oB.alloc _) oA);have oA:=oA.mono (SG).size;(try have oB:=(by first|exact oB.call hb1|exact(oB.alloc _).call hb1)));refine aI _ _ (fun _=>SG.trans (hb1.mono SG.size)) ?_;clear aI Q2
  have S1:=SG.trans (hb1.mono SG.size)
  refine zo 4 (fun Q2 aI=>?_);go_wp2_with(refine xZ _ rfl (.tmp 27) (.tmp 29) rfl w0.heap.size (.slice A1 n1 c1) _ rfl (by first|exact oA|exact oA.alloc _) G _ 1 ⟨4,0⟩ rfl ((bG).call hb1) (oH HN.out) (S1).size ?_;intro v4 w4 qP hb4 hg4;obtain⟨A4,n4,c4,rfl,-,-⟩:=qP.shape bK);refine aI _ _ (fun _=>S1.trans hb4) ?_;clear aI Q2
  have S4:=S1.trans hb4
  refine zo 6 (fun Q2 aI=>?_);go_wp2_with(go_at_call 264;refine(HB.out _).mono ?_;rintro e v6 ⟨VB,rfl,oB,dJ⟩;obtain⟨A6,n6,c6,rfl,Xk,-⟩:=oB.shape bK;have N6:=zD Xk;clear Xk;(try have nAB:=pE (w2:=v6) (by first|exact oA|exact oA.alloc _) oB);have oB:=oB.mono (S4).size;(try have qP:=(by first|exact qP.call dJ|exact(qP.alloc _).call dJ));(try have oA:=(by first|exact oA.call dJ|exact(oA.alloc _).call dJ)));refine aI _ _ (fun _=>S4.trans (dJ.mono S4.size)) ?_;clear aI Q2
  have S6:=S4.trans (dJ.mono S4.size)
  refine zo 7 (fun Q2 aI=>?_);go_wp2_with(refine x4 _ rfl (.tmp 30) (.tmp 32) rfl w0.heap.size (.slice A4 n4 c4) _ rfl (by first|exact qP|exact qP.alloc _) A6 n6 c6 L5 rfl (by obtain⟨A9,n9,c9,e9,-,h9⟩:=(show qL _ _ (.slice A6 n6 c6) L5 from by first|exact oB|exact oB.alloc _).shape bK;cases e9;exact h9) (by have:=HN.out;have:=N6.out;simp;omega) (S6).size ?_;intro v7 w7 Ck lV Yn;obtain⟨A7,n7,c7,rfl,-,-⟩:=Ck.shape bK);refine aI _ _ (fun _=>S6.trans lV) ?_;clear aI Q2
  have S7:=S6.trans lV
  refine zq 0 [8] [.slice A7 n7 c7] S7<|eQ (kZ) ?_ _
  go_wp2
  go_ret
  exact⟨_,rfl,HQ.out▸Ck.mono X.out.2.size,X.out.2.trans (S7.mono X.out.2.size)⟩
theorem Yo (c:aM) (k:Int) (s:ByteArray) (t v h:Int) (p:dI) (n:Nat) (w:World) (hn:c.str=n) (qd:n<=64) (H:Int) (hk:k=3) :
 Calls prog 216 #[.agg c.row,.agg (aj k s t v h p)] w (mS w (gI H n k)):=by
 have HA:=zD (fun W=>pD c 2 n W hn qd)
 have HB:=zD (fun W=>pD c 5 n W hn qd)
 have HC:=zD (fun W=>qM c W)
 have HO:=zD (fun W=>pC 3 c.str W)
 have HQ:=zD (show gI H n k=l7 n 2++lI 3 c.str++l7 n 5 from by unfold gI;rw[if_neg (by omega),if_neg (by omega),if_pos hk,hn])
 have X:=zD (And.intro ((ai.new w 23 c.row).alloc (.cells (aj k s t v h p) 65)) (show Below w.heap.size w ((w.alloc (.cells c.row 23)).alloc (.cells (aj k s t v h p) 65)) by go_grown))
 have HN:=zD (And.intro (jW n 2) (And.intro (jW n 5) (And.intro qd (show(lI 3 c.str).length=3 from rfl))))
 generalize gI H n k=R at *
 generalize l7 n 2=L3 at *
 generalize l7 n 5=L5 at *
 obtain⟨CS,hCS⟩:∃CS,CS=c.str:=⟨_,rfl⟩
 rw[<-hCS]at HC HO HQ HN
 generalize lI 3 CS=LO at *
 have d1:(k==1)=false:=by subst hk;rfl
 have d6:(k==6)=false:=by subst hk;rfl
 have d2:(k==2)=false:=by subst hk;rfl
 have d3:(k==3)=true:=by subst hk;rfl
 clear hn qd hk hCS
 go_enter func216,ntmps216
 focus(go_upto_region 8 with(fail))
 obtain⟨w0,hw0⟩:∃w0,w0=(w.alloc (.cells c.row 23)).alloc (.cells (aj k s t v h p) 65):=⟨_,rfl⟩
 rw[<-hw0]at X |-
 clear hw0
 refine zr (fun _=>false) (fun wS=>Below w0.heap.size w0 wS) ?_
 have S0:=(Below.refl w0.heap.size w0).drew
 refine zk 7 [0,2,6] [_,_,_] (.c rfl rfl (zl fun _ h=>zb (X.out.1.call h) underlying23)<|.c rfl rfl (zl fun _ h=>zb (X.out.1.call h) underlying23)<|.c rfl rfl (zl fun _ h=>zb (X.out.1.call h) underlying23) .nil) S0 ?_
 refine zo 1 (fun Q2 aI=>?_);go_wp2_with(go_at_call 264;refine(HA.out _).mono ?_;rintro e v1 ⟨V,rfl,oA,hb1⟩;obtain⟨A1,n1,c1,rfl,-,-⟩:=oA.shape bK;(try have nAB:=qO oB oA);have oA:=oA.mono (S0).size;(try have oB:=oB.call hb1);(try have oO:=oO.call hb1));refine aI _ _ (fun _=>S0.trans (hb1.mono S0.size)) ?_;clear aI Q2
 have S1:=S0.trans (hb1.mono S0.size)
 refine zo 3 (fun Q2 aI=>?_);go_wp2_with(go_at_call 265;refine(HC.out _).mono ?_;rintro e v3 ⟨rfl,hb3⟩;(try have oA:=oA.call hb3);(try have oB:=oB.call hb3));refine aI _ _ (fun _=>S1.trans (hb3.mono S1.size)) ?_;clear aI Q2
 have S3:=S1.trans (hb3.mono S1.size)
 refine zo 4 (fun Q2 aI=>?_);go_wp2_with(go_at_call 262;refine(HO.out _).mono ?_;rintro e v4 ⟨VO,rfl,oO,hb4⟩;obtain⟨A2,n2,c2,rfl,fo,-⟩:=oO.shape bK;have N2:=zD fo;clear fo;(try have oA:=oA.call hb4);(try have oB:=oB.call hb4));refine aI _ _ (fun _=>S3.trans (hb4.mono S3.size)) ?_;clear aI Q2
 have S4:=S3.trans (hb4.mono S3.size)
 refine zo 5 (fun Q2 aI=>?_);go_wp2_with(refine x4 _ rfl (.tmp 37) (.tmp 40) rfl w0.heap.size (.slice A1 n1 c1) _ rfl oA A2 n2 c2 LO rfl (by obtain⟨A9,n9,c9,e9,-,h9⟩:=oO.shape bK;cases e9;exact h9) (by have:=HN.out;have:=N2.out;omega) (S4).size ?_;intro v4 w4 qP hb4 hg4;obtain⟨A4,n4,c4,rfl,-,-⟩:=qP.shape bK);refine aI _ _ (fun _=>S4.trans hb4) ?_;clear aI Q2
 have S4:=S4.trans hb4
 refine zo 7 (fun Q2 aI=>?_);go_wp2_with(go_at_call 264;refine(HB.out _).mono ?_;rintro e v6 ⟨VB,rfl,oB,dJ⟩;obtain⟨A6,n6,c6,rfl,Xk,-⟩:=oB.shape bK;have N6:=zD Xk;clear Xk;(try have nAB:=pE oA oB);have oB:=oB.mono (S4).size;(try have qP:=qP.call dJ);(try have oA:=oA.call dJ);(try have oO:=oO.call dJ));refine aI _ _ (fun _=>S4.trans (dJ.mono S4.size)) ?_;clear aI Q2
 have S6:=S4.trans (dJ.mono S4.size)
 refine zo 8 (fun Q2 aI=>?_);go_wp2_with(refine x4 _ rfl (.tmp 41) (.tmp 43) rfl w0.heap.size (.slice A4 n4 c4) _ rfl qP A6 n6 c6 L5 rfl (by obtain⟨A9,n9,c9,e9,-,h9⟩:=oB.shape bK;cases e9;exact h9) (by have:=HN.out;have:=N6.out;simp;omega) (S6).size ?_;intro v7 w7 Ck lV Yn;obtain⟨A7,n7,c7,rfl,-,-⟩:=Ck.shape bK);refine aI _ _ (fun _=>S6.trans lV) ?_;clear aI Q2
 have S7:=S6.trans lV
 refine zq 0 [9] [.slice A7 n7 c7] S7 ?_
 refine eQ (by kernel_rfl) ?_ _
 have O7:=zD Ck
 have E7:=zD S7
 go_wp2
 go_ret
 exact⟨_,rfl,by rw[HQ.out];exact O7.out.mono X.out.2.size,X.out.2.trans (E7.out.mono X.out.2.size)⟩
theorem Yp (c:aM) (k:Int) (s:ByteArray) (t v h:Int) (p:dI) (n:Nat) (w:World) (hs:s.size<=maxLen) (hc:c.fit) (hn:c.str=n) (qd:n<=64) (hk:k=6) :
 Calls prog 216 #[.agg c.row,.agg (aj k s t v h p)] w (mS w (gI (dZ c s) n k)):=by
 have HH:=zD (fun W=>qN c s W hs hc)
 have HO:=zD (fun W=>pC 3 (dZ c s) W)
 have HL:=zD (fun W=>iq c W (oM) (oM))
 have HQ:=zD (show gI (dZ c s) n k=lI 3 (dZ c s)++[⟨3,c.str+1⟩,⟨6,0⟩,⟨5,c.str+1⟩]from by unfold gI;rw[if_pos (oM),hn])
 have X:=zD (And.intro ((ai.new w 23 c.row).alloc (.cells (aj k s t v h p) 65)) (And.intro (ai.dR w (.cells c.row 23) 65 (aj k s t v h p)) (show Below w.heap.size w ((w.alloc (.cells c.row 23)).alloc (.cells (aj k s t v h p) 65)) by go_grown)))
 generalize dZ c s=H at *
 generalize gI H n k=R at *
 obtain⟨L,hL⟩:∃L,L=c.str+1:=⟨_,rfl⟩
 rw[<-hL]at HL HQ
 have d1:(k==1)=false:=by subst hk;rfl
 have d6:(k==6)=true:=by subst hk;rfl
 clear hc hn qd hL hk
 go_enter func216,ntmps216
 focus(go_upto_region 4 with(fail))
 obtain⟨w0,hw0⟩:∃w0,w0=(w.alloc (.cells c.row 23)).alloc (.cells (aj k s t v h p) 65):=⟨_,rfl⟩
 rw[<-hw0]at X |-
 clear hw0
 refine zr (fun _=>false) (fun wS=>Below w0.heap.size w0 wS) ?_
 have S0:=(Below.refl w0.heap.size w0).drew
 refine zk 10 [0,1,2,5,8] [_,_,.string s,_,_] (.c rfl rfl (zl fun _ h=>zb (X.out.1.call h) underlying23)<|.q zX<|.q (zS fun _ h=>(X.out.2.1.call h).ar (i:=1) (v:=.string s) rfl)<|.c rfl rfl (zl fun _ h=>zb (X.out.1.call h) underlying23)<|.e) S0 ?_
 refine zk 9 [9] [_] (.c rfl rfl (zl fun _ h=>zb (X.out.1.call h) underlying23) .nil) S0 ?_
 refine zo 3 (fun Q2 aI=>?_);go_wp2_with(go_at_call 263;refine(HH.out _).mono ?_;rintro e v3 ⟨rfl,hb3⟩);refine aI _ _ (fun _=>S0.trans (hb3.mono S0.size)) ?_;clear aI Q2
 have S3:=S0.trans (hb3.mono S0.size)
 refine zo 4 (fun Q2 aI=>?_);go_wp2_with(go_at_call 262;refine(HO.out _).mono ?_;rintro e v4 ⟨V,rfl,oV,hb4⟩;obtain⟨A4,n4,c4,rfl,-,-⟩:=oV.shape bK;have oV:=oV.mono (S3).size);refine aI _ _ (fun _=>S3.trans (hb4.mono S3.size)) ?_;clear aI Q2
 have S4:=S3.trans (hb4.mono S3.size)
 refine zo 6 (fun Q2 aI=>?_);go_wp2_with(go_at_call 171;refine(HL.out _).mono ?_;rintro e v6 ⟨rfl,dJ⟩;(try have oV:=(by first|exact oV.call dJ|exact(oV.alloc _).call dJ)));refine aI _ _ (fun _=>S4.trans (dJ.mono S4.size)) ?_;clear aI Q2
 have S6:=S4.trans (dJ.mono S4.size)
 refine zq 5 [7] [_] S6 ?_
 refine zo 10 (fun Q2 aI=>?_);go_wp2_with(go_at_call 171;refine(HL.out _).mono ?_;rintro e v10 ⟨rfl,lJ⟩;(try have oV:=(by first|exact oV.call lJ|exact(oV.alloc _).call lJ)));refine aI _ _ (fun _=>S6.trans (lJ.mono S6.size)) ?_;clear aI Q2
 have AB:=S6.trans (lJ.mono S6.size)
 refine zq 3 [11] [_] AB ?_
 refine zo 12 (fun Q2 aI=>?_)
 have nG:=dp (S:=AB) (#[.int .i64 3,.int .i64 L,.int .i64 6,.int .i64 0,.int .i64 5,.int .i64 L]) 334
 obtain⟨G,hG,bG,lG⟩:=nG
 go_wp2_with fail
 refine aI _ _ (fun _=>AB.alloc AB.size _) ?_
 clear aI Q2
 (try simp only[hG])
 clear hG
 have SG:=AB.alloc AB.size (.cells (#[.int .i64 3,.int .i64 L,.int .i64 6,.int .i64 0,.int .i64 5,.int .i64 L]) 334)
 refine zo 13 (fun Q2 aI=>?_);go_wp2_with(refine x4 _ rfl (.tmp 14) (.tmp 22) rfl w0.heap.size (.slice A4 n4 c4) _ rfl (by first|exact oV|exact oV.alloc _) (some ⟨G,0,none⟩) 3 3 [⟨3,L⟩,⟨6,0⟩,⟨5,L⟩] rfl (lS (l:=[(⟨3,L⟩:iM),⟨6,0⟩,⟨5,L⟩]) bK (bG) rfl (by unfold maxLen;simp)) (by simp[lI]) (SG).size ?_;intro v5 w5 kG dx iK;obtain⟨A5,n5,c5,rfl,-,-⟩:=kG.shape bK);refine aI _ _ (fun _=>SG.trans dx) ?_;clear aI Q2
 have S5:=SG.trans dx
 refine zq 0 [14] [.slice A5 n5 c5] S5 ?_
 refine eQ (kZ) ?_ _
 have O5:=zD kG
 have E5:=zD S5
 go_wp2
 go_ret
 exact⟨_,rfl,by rw[HQ.out];exact O5.out.mono X.out.2.2.size,X.out.2.2.trans (E5.out.mono X.out.2.2.size)⟩
theorem Yq (c:aM) (k:Int) (s:ByteArray) (t v h:Int) (p:dI) (n:Nat) (w:World) (hs:s.size<=maxLen) (hc:c.fit) (hn:c.str=n) (qd:n<=64) (hk:k≠1/\k≠6/\k≠2/\k≠3) :
 Calls prog 216 #[.agg c.row,.agg (aj k s t v h p)] w (mS w (gI (dZ c s) n k)):=by
 have HH:=(fun W=>qN c s W hs hc);have HC:=(fun W=>qM c W);have HL:=(fun W=>iq c W oM oM);have HO:=(fun a b W=>pC a b W);have X:=And.intro ((ai.new w 23 c.row).alloc (.cells (aj k s t v h p) 65)) (show Bl w ((w.alloc (.cells c.row 23)).alloc (.cells (aj k s t v h p) 65)) by go_grown);have HQ:gI (dZ c s) n k=if k=4 then lI 3 c.str else if k=5 then lI 2 c.str else if k=7 then lI 2 (dZ c s)else lI 3 (c.str+1):=by
  unfold gI;rw[if_neg oM,if_neg oM,if_neg oM,hn]
 generalize dZ c s=H at *;generalize gI H n k=R at *;obtain⟨L,hL⟩:=zE (c.str+1);rw[<-hL]at HL HQ;obtain⟨e1,e6,e2,e3⟩:=hk;have:(k==1)=false:=sH e1
 have:(k==6)=false:=sH e6
 have:(k==2)=false:=sH e2
 have:(k==3)=false:=sH e3
 clear e1 e6 e2 e3 hc hn qd hL;have hd:(k=4/\(k==4)=true)\/(k=5/\(k==4)=false/\(k==5)=true)\/(k=7/\(k==4)=false/\(k==5)=false/\(k==7)=true)\/((k≠4/\k≠5/\k≠7)/\(k==4)=false/\(k==5)=false/\(k==7)=false):=by
  by_cases h4:k=4
  ·exact .inl ⟨h4,sH h4⟩
  by_cases h5:k=5
  ·exact .inr (.inl ⟨h5,sH h4,sH h5⟩)
  by_cases h7:k=7
  ·exact .inr (.inr (.inl ⟨h7,sH h4,sH h5,sH h7⟩))
  ·exact .inr (.inr (.inr ⟨⟨h4,h5,h7⟩,sH h4,sH h5,sH h7⟩))
 rcases hd with⟨hk,g4⟩|⟨hk,g4,g5⟩|⟨hk,g4,g5,g7⟩|⟨hk,g4,g5,g7⟩
 ·have HE:=HQ.trans (if_pos hk)
  clear hk HQ HH HL;go_enter func216,ntmps216;go_wp2_with(first
   |go_at_call 265;refine zM (HC _) fun v1 hb1=>?_;have D1:=zT X.2 hb1;clear hb1
   |(go_at_call 262;refine(HO _ _ _).mono ?_;rintro e v2 ⟨V,rfl,o2,hb2⟩;have O2:=o2.mono D1.size;have D2:=zT D1 hb2;clear o2 hb2))
  go_ret;exact⟨_,rfl,HE▸O2,D2⟩
 ·have HE:=HQ.trans ((if_neg oM).trans (if_pos hk))
  clear hk HQ HH HL;go_enter func216,ntmps216;go_wp2_with(first
   |go_at_call 265;refine zM (HC _) fun v1 hb1=>?_;have D1:=zT X.2 hb1;clear hb1
   |(go_at_call 262;refine(HO _ _ _).mono ?_;rintro e v2 ⟨V,rfl,o2,hb2⟩;have O2:=o2.mono D1.size;have D2:=zT D1 hb2;clear o2 hb2))
  go_ret;exact⟨_,rfl,HE▸O2,D2⟩
 ·have HE:=HQ.trans ((if_neg oM).trans ((if_neg oM).trans (if_pos hk)))
  clear hk HQ HC HL;go_enter func216,ntmps216;go_wp2_with(first
   |go_at_call 263;refine zM (HH _) fun v1 hb1=>?_;have D1:=zT X.2 hb1;clear hb1
   |(go_at_call 262;refine(HO _ _ _).mono ?_;rintro e v2 ⟨V,rfl,o2,hb2⟩;have O2:=o2.mono D1.size;have D2:=zT D1 hb2;clear o2 hb2))
  go_ret;exact⟨_,rfl,HE▸O2,D2⟩
 ·have HE:=HQ.trans ((if_neg oM).trans ((if_neg oM).trans (if_neg oM)))
  clear hk HQ HC HH;go_enter func216,ntmps216;go_wp2_with(first
   |go_at_call 171;refine zM (HL _) fun v1 hb1=>?_;have D1:=zT X.2 hb1;clear hb1
   |(go_at_call 262;refine(HO _ _ _).mono ?_;rintro e v2 ⟨V,rfl,o2,hb2⟩;have O2:=o2.mono D1.size;have D2:=zT D1 hb2;clear o2 hb2))
  go_ret;exact⟨_,rfl,HE▸O2,D2⟩
theorem GM (c:aM) (k:Int) (s:ByteArray) (t v h:Int) (p:dI) (n:Nat) (w:World) (hs:s.size<=maxLen) (hc:c.fit) (hn:c.str=n) (qd:n<=64) :
 Calls prog 216 #[.agg c.row,.agg (aj k s t v h p)] w (mS w (gI (dZ c s) n k)):=by
 by_cases h1:k=1
 ·exact Yl c k s t v h p n w hs hc hn qd h1
 by_cases h6:k=6
 ·exact Yp c k s t v h p n w hs hc hn qd h6
 by_cases h2:k=2
 ·exact Ym c k s t v h p n w hn qd _ h2
 by_cases h3:k=3
 ·exact Yo c k s t v h p n w hn qd _ h3
 exact Yq c k s t v h p n w hs hc hn qd ⟨h1,h6,h2,h3⟩
theorem gu (k:Int) (s:ByteArray) (t v h:Int) (p:dI) (w:World) (hs:s.size<=maxLen) :
 Calls prog 25 #[.agg (aj k s t v h p)] w (Rt (I6 (bJ k s t v p)) (Bl w)):=by
 have HI:=(fun W=>iN s W hs);have HP:=(fun W=>aY p W);have HR:=(fun W=>Cj t v W);have HR0:=(fun W=>Cj t 0 W);have hc:(k<1\/8<k)\/k=1\/k=6\/(k=5\/k=7)\/k=2\/(k=3\/k=4\/k=8):=oM
 have X:=And.intro (ai.new w 65 (aj k s t v h p)) (show Bl w (w.alloc (.cells (aj k s t v h p) 65)) by go_grown);rcases hc with hc|rfl|rfl|hc|rfl|hc
 ·have HE:bJ k s t v p=14:=if_pos hc
  have:(k==1)=false:=by simp;omega
  have:(k==2)=false:=by simp;omega
  have:(k==3)=false:=by simp;omega
  have:(k==4)=false:=by simp;omega
  have:(k==5)=false:=by simp;omega
  have:(k==6)=false:=by simp;omega
  have:(k==7)=false:=by simp;omega
  have:(k==8)=false:=by simp;omega
  clear hc;go_enter func25,ntmps25;go_wp2;go_ret;exact⟨au HE.symm,X.2⟩
 ·cases hi:eO s
  all_goals
   have HE:bJ 1 s t v p=if cT s=0 then xY t v else cT s:=by
    unfold bJ cT;rw[if_neg oM,hi];simp
   have JQ:(cT s != 0) = !eO s:=by unfold cT;cases eO s<;>rfl
   rw[hi]at JQ;simp only[Bool.not_true,Bool.not_false]at JQ;generalize cT s=IE at *;clear hi;generalize bJ 1 s t v p=R at *;generalize xY t v=SR at *;go_enter func25,ntmps25;go_upto_region 5 with(fail)
   obtain⟨w0,hw0⟩:=zE (w.alloc (.cells (aj 1 s t v h p) 65));rw[<-hw0]at X |-;clear hw0;refine zB fun S0=>?_
   refine zk 5 [0,1,3,4,5] [_,.string s,_,I6 t,_] (.q zX<|.q (zS fun _ h=>(X.1.call h).z 1 (.string s))<|.q zX<|.q (zS fun _ h=>(X.1.call h).z 2 (I6 t))<|.e) S0 ?_;refine zk 4 [6] [I6 v] (.q (zS fun _ h=>(X.1.call h).z 3 (I6 v)) .nil) S0 ?_;refine zQ 2 ?_;go_wp2_with(go_at_call 58;refine zM (HI _) fun v1 hb1=>?_);refine .i (zT S0 hb1) ?_;have S1:=zT S0 hb1;refine zQ 7 ?_;go_wp2_with(go_at_call 78;refine zN (HR _) ?_);refine .i S1 ?_;refine zq 0 [8,9] [I6 IE,I6 SR] S1 ?_;refine zd ?_;have E:=zT X.2 S1;go_wp2;go_ret;exact⟨au (by rw[HE];simp at JQ;simp[JQ]),E⟩
 ·cases hi:eO s
  all_goals
   have HE:bJ 6 s t v p=if cT s=0 then dy p else cT s:=by
    unfold bJ cT;rw[if_neg oM,hi];simp
   have JQ:(cT s != 0) = !eO s:=by unfold cT;cases eO s<;>rfl
   rw[hi]at JQ;simp only[Bool.not_true,Bool.not_false]at JQ;generalize cT s=IE at *;clear hi;generalize bJ 6 s t v p=R at *;generalize dy p=SR at *;go_enter func25,ntmps25;go_upto_region 9 with(fail)
   obtain⟨w0,hw0⟩:=zE (w.alloc (.cells (aj 6 s t v h p) 65));rw[<-hw0]at X |-;clear hw0;refine zB fun S0=>?_
   refine zk 4 [0,1,3,4] [_,.string s,_,(.agg #[I6 p.min,I6 p.max,I6 p.target,I6 p.lz,I6 p.bp,I6 p.hold])] (.q zX<|.q (zS fun _ h=>(X.1.call h).z 1 (.string s))<|.q zX<|.c rfl rfl (zl fun _ h=>by obtain⟨c0,c1,c2,c3,c4,c5,c6,c7,c8,c9⟩:=TA (X.1.call h);go_simp) .nil) S0 ?_;refine zQ 2 ?_;go_wp2_with(go_at_call 58;refine zM (HI _) fun v1 hb1=>?_);refine .i (zT S0 hb1) ?_;have S1:=zT S0 hb1;refine zQ 5 ?_;go_wp2_with(go_at_call 79;refine zM (HP _) fun v2 hb2=>?_);refine .i (zT S1 hb2) ?_;have S2:=zT S1 hb2;refine zq 0 [6,7] [I6 IE,I6 SR] S2 ?_;refine zd ?_;have E:=zT X.2 S2;go_wp2;go_ret;exact⟨au (by rw[HE];simp at JQ;simp[JQ]),E⟩
 ·cases hi:eO s
  all_goals
   have JQ:cT s=if eO s then 0 else 2:=rfl
   rw[hi]at JQ;simp only[if_true,aG8,if_false]at JQ;rw[JQ]at HI;have HE:bJ k s t v p=cT s:=by
    unfold bJ;rw[if_neg oM,JQ,hi];rcases hc with rfl|rfl<;>simp
   rw[JQ]at HE;clear JQ hi;have hk:k=5\/k=7:=hc;clear hc;rcases hk with rfl|rfl
   all_goals
    have:=X.1.z 1 (.string s);go_enter func25,ntmps25;go_wp2_with(go_at_call 58;refine zM (HI _) fun v1 hb1=>?_;have E:=zT X.2 hb1;clear hb1);go_ret;exact⟨au HE.symm,E⟩
 ·have HE:bJ 2 s t v p=xY t 0:=by
   unfold bJ xY;rw[if_neg oM]
   by_cases ht:t<0<;>simp[ht]
  go_enter func25,ntmps25;go_wp2_with(go_at_call 78;refine zN (HR0 _) ?_);go_ret;exact⟨au HE.symm,X.2⟩
 ·have HE:bJ k s t v p=0:=by
   unfold bJ;rw[if_neg oM,if_neg oM,if_neg oM,if_neg oM,if_neg oM]
  rcases hc with rfl|rfl|rfl
  all_goals
   go_enter func25,ntmps25;go_wp2;go_ret;exact⟨au HE.symm,X.2⟩
def cN (c:aM) (k:Int) (s:ByteArray) (t v:Int) (p:dI):List iM:=vR (decide c.gV) (bJ k s t v p) (dZ c s) c.str.toNat k
theorem x6 (c:aM) (k:Int) (s:ByteArray) (t v:Int) (p:dI):(cN c k s t v p).length<=136:=by
 unfold cN
 by_cases h:c.gV
 ·have:=Tt (decide c.gV) (bJ k s t v p) (dZ c s) c.str.toNat k
  have:=a7 h.1;omega
 ·unfold vR
  rw[if_neg (sH h)];simp
theorem Cm (c:aM) (k:Int) (s:ByteArray) (t v h:Int) (p:dI) (w:World) (hs:s.size<=maxLen) (hc:c.fit) :
 Calls prog 166 #[.agg c.row,.agg (aj k s t v h p)] w (mS w (cN c k s t v p)):=by
 have HR:=zD (fun W=>fQ c W hc);have HK:=zD (fun W=>gu k s t v h p W hs);have X:=zD (And.intro ((ai.new w 23 c.row).alloc (.cells (aj k s t v h p) 65)) (And.intro (ai.dR w (.cells c.row 23) 65 (aj k s t v h p)) (show Bl w ((w.alloc (.cells c.row 23)).alloc (.cells (aj k s t v h p) 65)) by go_grown)))
 by_cases a8:c.gV
 ·obtain⟨n,hn,qd⟩:∃n:Nat,c.str=n/\n<=64:=by
   have:=a7 a8.1;exact⟨c.str.toNat,oM,oM⟩
  have HI:=zD (fun W=>GM c k s t v h p n W hs hc hn qd);have hcE:im c=0:=if_pos a8;have hdE:decide c.gV=true:=decide_eq_true a8;have HQ:=zD (show cN c k s t v p=[⟨1,0⟩]++(if bJ k s t v p=0 then gI (dZ c s) n k else[])++[⟨7,0⟩]from by
   unfold cN vR;rw[hdE,if_pos rfl,hn];rfl)
  have fJ:=zD (GG (dZ c s) n k);rw[hcE]at HR;generalize cN c k s t v p=R at *;generalize gI (dZ c s) n k=LI at *;clear a8 hcE hdE hn hc;generalize hE:bJ k s t v p=CE at *;clear hE
  by_cases h0:CE=0
  ·have Fh:=zD (HQ.out.trans (by rw[if_pos h0]))
   subst h0;go_enter func166,ntmps166;go_wp2_with(first
    |refine zI X.out.1 underlying23 ?_
    |go_at_call 53;refine zM (HR.out _) fun v1 hb1=>?_;have D1:=zD (zT X.out.2.2 hb1);have B1:=zD (X.out.1.call hb1);have C1:=zD (X.out.2.1.call hb1);clear hb1;have O1:=zD (Dr (base:=w.heap.size) (l:=[(⟨1,0⟩:iM)]) bK (ai.new v1 334 #[I6 1,I6 0]) rfl (by unfold maxLen;simp) D1.out.size);have D2:=zD (D1.out.alloc D1.out.size (.cells #[I6 1,I6 0] 334));have C2:=zD (C1.out.alloc (.cells #[I6 1,I6 0] 334))
    |refine zI C2.out underlying65 ?_
    |go_at_call 25;refine zM (HK.out _) fun v2 hb2=>?_;have D3:=zD (zT D2.out hb2);have B3:=zD ((B1.out.alloc (.cells #[I6 1,I6 0] 334)).call hb2);have C3:=zD (C2.out.call hb2);have O2:=zD (O1.out.call hb2);clear hb2
    |refine zI B3.out underlying23 ?_
    |refine zI C3.out underlying65 ?_
    |go_at_call 216;refine(HI.out _).mono ?_;rintro e v3 ⟨V3,rfl,o3,hb3⟩;obtain⟨A3,n3,c3,rfl,Tg,hs3⟩:=o3.shape bK;have S3:=zD hs3;have N3:=zD Tg;have D4:=zD (zT D3.out hb3);have O3:=zD (O2.out.call hb3);clear hb3 Tg hs3 o3
    |at_builtin;refine x4 _ rfl (.tmp 14) (.tmp 17) rfl w.heap.size _ _ rfl O3.out A3 n3 c3 LI rfl S3.out (by have:=N3.out;have:=fJ.out;simp;omega) D4.out.size ?_;intro v' w5 ho dx iK;obtain⟨A5,n5,c5,rfl,-,-⟩:=ho.shape bK;have O5:=zD ho;have D5:=zD (D4.out.trans dx);clear ho dx iK
    |(at_builtin;refine xZ _ rfl (.tmp 19) (.tmp 21) rfl w.heap.size _ _ rfl (O5.out.alloc _) w5.heap.size 334 1 ⟨7,0⟩ rfl (ai.new _ _ _) (by have:=fJ.out;simp;omega) (by have:=D5.out.size;simp;omega) ?_;intro v' w6 ho dJ RU;obtain⟨A6,n6,c6,rfl,-,-⟩:=ho.shape bK;have O6:=zD ho;have D6:=zD ((D5.out.alloc D5.out.size _).trans dJ);clear ho dJ RU))
   go_ret;exact⟨_,rfl,Fh.out▸O6.out,D6.out⟩
  ·have Fh:=zD (HQ.out.trans (by rw[if_neg h0]))
   have:(CE==0)=false:=sH h0
   clear h0;go_enter func166,ntmps166;go_wp2_with(first
    |refine zI X.out.1 underlying23 ?_
    |go_at_call 53;refine zM (HR.out _) fun v1 hb1=>?_;have D1:=zD (zT X.out.2.2 hb1);have C1:=zD (X.out.2.1.call hb1);clear hb1;have O1:=zD (Dr (base:=w.heap.size) (l:=[(⟨1,0⟩:iM)]) bK (ai.new v1 334 #[I6 1,I6 0]) rfl (by unfold maxLen;simp) D1.out.size)
    |refine zI (C1.out.alloc (.cells #[I6 1,I6 0] 334)) underlying65 ?_
    |go_at_call 25;refine zM (HK.out _) fun v2 hb2=>?_;have D3:=zD (zT (D1.out.alloc D1.out.size (.cells #[I6 1,I6 0] 334)) hb2);have O2:=zD (O1.out.call hb2);clear hb2
    |(at_builtin;refine xZ _ rfl (.tmp 19) (.tmp 21) rfl w.heap.size _ _ rfl (O2.out.alloc _) v2.heap.size 334 1 ⟨7,0⟩ rfl (ai.new _ _ _) sI (by have:=D3.out.size;simp;omega) ?_;intro v' w6 ho dJ RU;obtain⟨A6,n6,c6,rfl,-,-⟩:=ho.shape bK;have O6:=zD ho;have D6:=zD ((D3.out.alloc D3.out.size _).trans dJ);clear ho dJ RU))
   go_ret;exact⟨_,rfl,Fh.out▸O6.out,D6.out⟩
 ·have hcE:im c=1:=if_neg a8
  have hdE:decide c.gV=false:=decide_eq_false a8;have HQ:=zD (show cN c k s t v p=[]from by unfold cN vR;rw[hdE];rfl);rw[hcE]at HR;clear a8 hcE hdE hc;go_enter func166,ntmps166;go_wp2_with(first
   |refine zI X.out.1 underlying23 ?_
   |(go_at_call 53;refine zM (HR.out _) fun v1 hb1=>?_;have D1:=zD (zT X.out.2.2 hb1);clear hb1))
  go_ret;exact⟨_,rfl,HQ.out▸Own.nil _ _ _ _ _,D1.out⟩
theorem TR (r x y:Nat) (hx:x<18446744073709551616) (hy:y=(2*r+x / 9223372036854775808) % 18446744073709551616):bits .or .u64 (IntKind.u64.wrap ((r:Int)*2)) ((x:Int) / 9223372036854775808)=(y:Int):=by
 have e:IntKind.u64.wrap ((r:Int)*2)=((2*r % 18446744073709551616:Nat):Int):=by rw[IntKind.wrap_u64];omega
 have e2:(x:Int) / 9223372036854775808=((x / 9223372036854775808:Nat):Int):=oM
 rw[e,e2,u64_or_nat _ _ oM oM,nat_join1 _ _ oM oM];omega
theorem TS (q m:Nat) (hq:q<18446744073709551616) (hm:m<64):bits .or .u64 (q:Int) (IntKind.u64.wrap (2 ^ m))=((q ||| 2 ^ m:Nat):Int):=by
 have hl:2 ^ m<18446744073709551616:=aB8 (Nat.pow_lt_pow_right (n:=64) dC hm) dC;have e:IntKind.u64.wrap (2 ^ m)=((2 ^ m:Nat):Int):=by
  rw[show(2:Int) ^ m=((2 ^ m:Nat):Int) by simp,IntKind.wrap_u64];generalize 2 ^ m=p at *;omega
 rw[e,u64_or_nat _ _ hq hl]
theorem TU (h l d:Nat) (w:World) (hh:h<2 ^ 64) (hl:l<2 ^ 64) (hd:d<2 ^ 64) (Yw:1<=d) :
 Calls prog 277 #[.agg #[V6 h,V6 l],V6 d] w fun e w'=>
  e=.returned (.tuple #[.agg #[V6 ((jg (two h l / d):Nat):Int),V6 ((kF (two h l / d):Nat):Int)],V6 ((two h l % d:Nat):Int),.bool true])/\Bl w w':=by
 have dd:((d:Int)==0)=false:=by simp;omega
 have HH:=hh;have HL:=hl;have HD:=hd;clear hh hl hd;go_enter func277,ntmps277;go_wp2;go_loopw[8,14] (fun r i wr=>∃k Q R xh xl qh ql:Nat,k<=128/\i = I6 k/\r = V6 R/\jh (two h l) d k Q R (two xh xl)/\two qh ql=Q*2 ^ (128-k)/\xh<18446744073709551616/\xl<18446744073709551616/\qh<18446744073709551616/\ql<18446744073709551616/\
  ai wr w.heap.size 388 #[V6 xh,V6 xl]/\ai wr (w.heap.size+1) 388 #[V6 0,V6 0]/\ai wr (w.heap.size+1+1) 388 #[V6 qh,V6 ql]/\Bl w wr) (fun _ i _=>128-(intOf i).toNat)
 case atStart=>
  refine⟨0,0,0,h,l,0,0,by omega,rfl,rfl,jh.start (by unfold two;have:=HH;have:=HL;omega) oM,by simp[two],HH,HL,by omega,by omega,?_,?_,?_,by go_grown⟩
  ·exact((ai.new w _ _).alloc _).alloc _
  ·exact(ai.an2 w _ _ _).alloc _
  ·exact ai.an3 w _ _ _ _
 case round=>
  obtain⟨k,Q,R,xh,xl,qh,ql,hk,rfl,rfl,hdiv,hq,bxh,bxl,bqh,bql,h0,h1,h2,aT⟩:=hrel;have HV:=hdiv;have HQ:=hq;have H0:=h0;have H1:=h1;have H2:=h2;have sj:=aT;clear hdiv hq h0 h1 h2 aT
  by_cases hlt:k<128
  ·obtain⟨R2,sk⟩:∃R2:Nat,R2=(2*R+xh / 9223372036854775808) % 18446744073709551616:=⟨_,rfl⟩
   obtain⟨Hn,KP⟩:∃Hn:Nat,Hn=(2*xh+xl / 9223372036854775808) % 18446744073709551616:=⟨_,rfl⟩
   obtain⟨JR,PR⟩:∃JR:Nat,JR=2*xl % 18446744073709551616:=⟨_,rfl⟩
   have hRd:R<d:=HV.rest;have hdd:=HD;have e1:bits .or .u64 (IntKind.u64.wrap ((R:Int)*2)) ((xh:Int) / 9223372036854775808)=(R2:Int):=TR R xh R2 oM sk;have e2:bits .or .u64 (IntKind.u64.wrap ((xh:Int)*2)) ((xl:Int) / 9223372036854775808)=(Hn:Int):=TR xh xl Hn oM KP;have e3:IntKind.u64.wrap ((xl:Int)*2)=(JR:Int):=by rw[IntKind.wrap_u64];omega
   have e4:∀(h:R<9223372036854775808),bits .or .u64 ((R:Int)*2) ((xh:Int) / 9223372036854775808)=(R2:Int):=fun h=>by
    rw[<-e1,IntKind.wrap_u64];congr 1;omega
   have hx2:two Hn JR=2*two xh xl % 2 ^ 128:=by rw[KP,PR];unfold two;omega
   have Dz:xh / 9223372036854775808=two xh xl / 2 ^ 127:=by unfold two;omega
   have Hf:Hn<18446744073709551616:=oM
   have TV:JR<18446744073709551616:=oM
   have r0:=H0.z 0 (V6 xh);have r1:=H0.z 1 (V6 xl);have f0:=H0.frozen 0;have f1:=H0.frozen 1;have r2:=H2.z 0 (V6 qh);have r3:=H2.z 1 (V6 ql);have f2:=H2.frozen 0;have f3:=H2.frozen 1
   by_cases hc:2*R+xh / 9223372036854775808<d
   ·have HS:=(show jh (two h l) d (k+1) (2*Q) R2 (two Hn JR) by
     have:=HV.step0 (by rw[<-Dz];exact hc);rw[<-Dz,<-hx2]at this;rw[show R2=2*R+xh / 9223372036854775808 by omega];exact this)
    have Xe:R<9223372036854775808:=oM
    have d1:((R:Int) / 9223372036854775808==0)=true:=by simp;omega
    have d2:(R:Int) / 9223372036854775808=0:=oM
    have d3:R2<d:=oM
    have e5:=e4 Xe;clear e4 Dz sk KP PR hx2 hc;go_wp2;go_roundw
    case rel=>
     refine⟨k+1,2*Q,R2,Hn,JR,qh,ql,by omega,by go_num,rfl,HS,by rw[Ta hlt];exact HQ,Hf,TV,bqh,bql,?_,(H1.far sN _).far sN _,(H2.far sN _).far sN _,(sj.setCell sN _).setCell sN _⟩;exact(H0.aX 0 _).aX 1 _
    case measure=>simp[intOf];omega
   ·obtain⟨R3,hR3⟩:∃R3:Nat,R3=2*R+xh / 9223372036854775808-d:=⟨_,rfl⟩
    have HS:=(show jh (two h l) d (k+1) (2*Q+1) R3 (two Hn JR) by
     have:=HV.an1 (by rw[<-Dz];omega);rw[<-Dz,<-hx2,<-hR3]at this;exact this)
    have e6:IntKind.u64.wrap ((R2:Int)-(d:Int))=(R3:Int):=by rw[IntKind.wrap_u64];omega
    have hsm:=HV.small (by unfold two;have:=HH;have:=HL;omega) hk;have aA4:R2<18446744073709551616:=oM
    by_cases aw6:k<64
    ·obtain⟨q1,q2,q3,q4⟩:=Tb aw6 hsm (by have:=bql;omega) HQ
     have aw7:bits .or .u64 (qh:Int) (IntKind.u64.wrap (2 ^ (63-k)))=((qh ||| 2 ^ (63-k):Nat):Int):=TS qh (63-k) bqh oM;generalize(qh ||| 2 ^ (63-k))=qn at *;have Q1:=q1;clear q1 q2
     by_cases Xe:R<9223372036854775808
     ·have d1:((R:Int) / 9223372036854775808==0)=true:=by simp;omega
      have d2:(R:Int) / 9223372036854775808=0:=oM
      have d3:decide (R2<d)=false:=by simp;omega
      have e5:=e4 Xe;clear e4 Dz sk KP PR hx2 hc hR3;go_wp2;go_region;go_wp2;go_roundw
      case rel=>
       refine⟨k+1,2*Q+1,R3,Hn,JR,qn,ql,by omega,by go_num,rfl,HS,Q1,Hf,TV,q4,bql,?_,?_,?_,?_⟩
       ·exact((((H0.aX 0 _).aX 1 _).far sN _).drew)
       ·exact((((H1.far sN _).far sN _).far sN _).drew)
       ·have:=(((H2.far (p:=⟨w.heap.size,0,none⟩) sN (V6 Hn)).far (p:=⟨w.heap.size,1,none⟩) sN (V6 JR)).aX 0 (V6 qn)).drew
        exact this
       ·exact((((sj.setCell sN _).setCell sN _).setCell sN _).drew)
      case measure=>simp[intOf];omega
     ·have d1:((R:Int) / 9223372036854775808==0)=false:=by simp;omega
      have d2:¬(R:Int) / 9223372036854775808=0:=oM
      clear e4 Dz sk KP PR hx2 hc hR3;go_wp2;go_region;go_wp2;go_roundw
      case rel=>
       refine⟨k+1,2*Q+1,R3,Hn,JR,qn,ql,by omega,by go_num,rfl,HS,Q1,Hf,TV,q4,bql,?_,?_,?_,?_⟩
       ·exact((((H0.aX 0 _).aX 1 _).far sN _).drew)
       ·exact((((H1.far sN _).far sN _).far sN _).drew)
       ·have:=(((H2.far (p:=⟨w.heap.size,0,none⟩) sN (V6 Hn)).far (p:=⟨w.heap.size,1,none⟩) sN (V6 JR)).aX 0 (V6 qn)).drew
        exact this
       ·exact((((sj.setCell sN _).setCell sN _).setCell sN _).drew)
      case measure=>simp[intOf];omega
    ·obtain⟨q1,q3,q4⟩:=XW hlt oM hsm (by have:=bql;omega) HQ
     have aw7:bits .or .u64 (ql:Int) (IntKind.u64.wrap (2 ^ (127-k)))=((ql ||| 2 ^ (127-k):Nat):Int):=TS ql (127-k) bql oM;generalize(ql ||| 2 ^ (127-k))=qn at *;have Q1:=q1;clear q1
     by_cases Xe:R<9223372036854775808
     ·have d1:((R:Int) / 9223372036854775808==0)=true:=by simp;omega
      have d2:(R:Int) / 9223372036854775808=0:=oM
      have d3:decide (R2<d)=false:=by simp;omega
      have e5:=e4 Xe;clear e4 Dz sk KP PR hx2 hc hR3;go_wp2;go_region;go_wp2;go_roundw
      case rel=>
       refine⟨k+1,2*Q+1,R3,Hn,JR,qh,qn,by omega,by go_num,rfl,HS,Q1,Hf,TV,bqh,q4,?_,?_,?_,?_⟩
       ·exact((((H0.aX 0 _).aX 1 _).far sN _).drew)
       ·exact((((H1.far sN _).far sN _).far sN _).drew)
       ·have:=(((H2.far (p:=⟨w.heap.size,0,none⟩) sN (V6 Hn)).far (p:=⟨w.heap.size,1,none⟩) sN (V6 JR)).aX 1 (V6 qn)).drew
        exact this
       ·exact((((sj.setCell sN _).setCell sN _).setCell sN _).drew)
      case measure=>simp[intOf];omega
     ·have d1:((R:Int) / 9223372036854775808==0)=false:=by simp;omega
      have d2:¬(R:Int) / 9223372036854775808=0:=oM
      clear e4 Dz sk KP PR hx2 hc hR3;go_wp2;go_region;go_wp2;go_roundw
      case rel=>
       refine⟨k+1,2*Q+1,R3,Hn,JR,qh,qn,by omega,by go_num,rfl,HS,Q1,Hf,TV,bqh,q4,?_,?_,?_,?_⟩
       ·exact((((H0.aX 0 _).aX 1 _).far sN _).drew)
       ·exact((((H1.far sN _).far sN _).far sN _).drew)
       ·have:=(((H2.far (p:=⟨w.heap.size,0,none⟩) sN (V6 Hn)).far (p:=⟨w.heap.size,1,none⟩) sN (V6 JR)).aX 1 (V6 qn)).drew
        exact this
       ·exact((((sj.setCell sN _).setCell sN _).setCell sN _).drew)
      case measure=>simp[intOf];omega
  ·obtain rfl:k=128:=oM
   obtain⟨e1,e2⟩:=HV.done;have hq:=HQ;rw[Nat.sub_self,Nat.pow_zero,Nat.mul_one,e1]at hq;obtain⟨g1,g2⟩:=xP (N:=two h l / d) (h:=qh) (l:=ql) hq.symm oM;have G1:=g1;have G2:=g2;have E2:=e2;clear e1 e2 g1 g2 hq;have:=H2.z 0 (V6 qh);have:=H2.z 1 (V6 ql);have:=H1.z 0 (V6 0);have:=H1.z 1 (V6 0);have:=H1.frozen 0;have:=H1.frozen 1;go_wp2;refine bodyPost_ret (tD rfl _ _ (w.heap.size+1) _ _ _ rfl ((H1.aX 0 _).aX 1 _) underlying388 rfl kZ) rfl ⟨?_,(sj.setCell sN _).setCell sN _⟩;rw[G1,G2,<-E2]
   rfl
theorem KQ (A:Option Addr) (len cap:Nat) (l:List Int) (w:World) (hs:gB w A len cap l) (hg:∀x∈l,aw x) (hn:len<=1000000) :
 Calls prog 278 #[.slice A len cap] w (Rt (.agg #[V6 ((jg (gZ l):Nat):Int),V6 ((kF (gZ l):Nat):Int)]) (Bl w)):=by
 have HS:=hs;have HG:=hg;have HL:=hs.1;clear hs hg;go_enter func278,ntmps278;go_wp2;go_loopw[8] (fun i wr=>∃k O:Nat,k<=len/\i = I6 k/\O=gZ (l.take k)/\ai wr w.heap.size 388 #[V6 0,V6 0]/\ai wr (w.heap.size+1) 388 #[V6 ((jg O:Nat):Int),V6 ((kF O:Nat):Int)]/\Bl w wr) (fun i _=>len-(intOf i).toNat)
 case atStart=>
  refine⟨0,0,by omega,rfl,rfl,?_,?_,by go_grown⟩
  ·exact(ai.new w _ _).alloc _
  ·exact ai.an2 w _ _ _
 case round=>
  obtain⟨k,O,hk,rfl,hO,h0,h1,aT⟩:=hrel;have H0:=h0;have H1:=h1;have sj:=aT
  by_cases hlt:k<len
  ·obtain⟨b,off,x,rfl,hx,hb,hc⟩:=HS.at_ hlt
   have kc:=(aT.cell (p:=⟨b,off+k,none⟩) hb).trans hc;have hxI:=HG x (aB7 hx);unfold aw at hxI;have hsn:=Pr (l.take k) x;rw[<-dP hx,<-hO]at hsn;have hle:=Di (l.take k) (Tc HG k);have hlk:(l.take k).length<=1000000:=by rw[aC3];omega
   have hle2:gZ (l.take k)<=1000000*9223372036854775807:=aB4 hle (aE6 _ hlk);rw[<-hO]at hle2;clear hle hlk;have Fb:(k:Int)<(len:Int):=oM
   by_cases zP:0<x
   ·obtain⟨X,rfl⟩:∃X:Nat,x=(X:Int):=⟨x.toNat,by omega⟩
    rw[Int.toNat_natCast]at hsn;have HN:=zD (show jU (O+X)=gZ (l.take (k+1)) by rw[hsn];unfold jU;rw[if_pos oM]);have HM:=(show O<2 ^ 128/\X<2 ^ 128/\X<2 ^ 64 by omega);have hX0:(0:Int)=((jg X:Nat):Int):=by
     have:jg X=0:=by unfold jg;omega
     rw[this];rfl
    have hX1:(X:Int)=((kF X:Nat):Int):=by
     have:kF X=X:=by unfold kF;omega
     rw[this]
    have HC:=(fun W=>(px O X W HM.1 HM.2.1));rw[<-hX0,<-hX1]at HC;have:=H1.z 0 (V6 ((jg O:Nat):Int));have:=H1.z 1 (V6 ((kF O:Nat):Int));have:=H1.frozen 0;have:=H1.frozen 1;clear hsn hle2 hO hx hc hb h0 h1 hX0 hX1;go_wp2_with(first|(go_at_call 279;refine zM (HC _) fun v2 hb2=>?_;have:=(H1.call hb2).z 0 (V6 ((jg O:Nat):Int));have:=(H1.call hb2).z 1 (V6 ((kF O:Nat):Int));have:=(H1.call hb2).frozen 0;have:=(H1.call hb2).frozen 1));go_roundw
    case rel=>
     refine⟨k+1,jU (O+X),by omega,by go_num,HN.out,((H0.call hb2).far sI _).far sI _,((H1.call hb2).aX 0 _).aX 1 _,((zT sj hb2).setCell sI _).setCell sI _⟩
    case measure=>simp[intOf];omega
   ·have:decide (0<x)=false:=by simpa using zP
    have HN:=zD (show O=gZ (l.take (k+1)) by rw[hsn,show x.toNat=0 by omega,aH5]);clear hsn hle2 hO hx hc hb h0 h1;go_wp2;go_roundw
    case rel=>exact⟨k+1,O,by omega,by go_num,HN.out,H0,H1,sj⟩
    case measure=>simp[intOf];omega
  ·obtain rfl:k=len:=oM
   obtain rfl:O=gZ l:=by rw[hO,aB5 (by have:=HL;omega)]
   clear hO h0 h1;have:=H1.z 0 (V6 ((jg (gZ l):Nat):Int));have:=H1.z 1 (V6 ((kF (gZ l):Nat):Int));have:=H0.z 0 (V6 0);have:=H0.z 1 (V6 0);have:=H0.frozen 0;have:=H0.frozen 1;go_wp2;refine zU ((H0.aX 0 _).aX 1 _) underlying388 ⟨rfl,(sj.setCell sN _).setCell sN _⟩
theorem Cp (N d:Nat) (w:World) (hN:N<2 ^ 128) (hd:d<2 ^ 64) (Yw:1<=d) :
 Calls prog 277 #[.agg #[V6 ((jg N:Nat):Int),V6 ((kF N:Nat):Int)],V6 d] w fun e w'=>
  e=.returned (.tuple #[.agg #[V6 ((jg (N / d):Nat):Int),V6 ((kF (N / d):Nat):Int)],V6 ((N % d:Nat):Int),.bool true])/\Bl w w':=by
 have:=TU (jg N) (kF N) d w (Df hN) (tO N) hd Yw;rw[tQ]at this;exact this
theorem vp (N:Nat) (w:World) (hN:N<2 ^ 128) :
 Calls prog 280 #[.agg #[V6 ((jg N:Nat):Int),V6 ((kF N:Nat):Int)]] w (Rt (I6 ((ow N:Nat):Int)) (Bl w)):=by
 have:=Kh (jg N) (kF N) w (Df hN) (tO N);rw[tQ]at this;exact this
theorem Cq (N:Nat) (w:World) (hN:N<2 ^ 127) :
 Calls prog 279 #[.agg #[V6 ((jg N:Nat):Int),V6 ((kF N:Nat):Int)],.agg #[V6 0,V6 1]] w fun e w'=>
  e=.returned (.tuple #[.agg #[V6 ((jg (N+1):Nat):Int),V6 ((kF (N+1):Nat):Int)],.bool true])/\Bl w w':=by
 have:=px N 1 w oM oM;rw[show jU (N+1)=N+1 from if_pos oM,show mM (N+1)=true from decide_eq_true oM]at this;exact this
theorem TW (hd:0<d) (h:n % d=0):Ng n d=n / d:=by
 refine((rT hd).1 ⟨?_,?_⟩).symm
 ·have:=div_add_mod n d;rw[aF5];omega
 ·rcases Nat.eq_zero_or_pos (n / d)with h0|h0
  ·exact .inl h0
  ·right
   have:=div_add_mod n d;obtain⟨m,hm⟩:∃m,n / d=m+1:=⟨n / d-1,oM⟩
   rw[hm]at this |-;rw[Nat.add_sub_cancel,aF5];rw[Nat.mul_add]at this;omega
theorem Yx (hd:0<d) (h:0<n % d):Ng n d=n / d+1:=by
 refine((rT hd).1 ⟨?_,.inr ?_⟩).symm
 ·have:=div_add_mod n d;have:=Nat.mod_lt n hd;rw[aF5,Nat.mul_add];omega
 ·have:=div_add_mod n d;rw[Nat.add_sub_cancel,aF5];omega
def ji (l:List Int):Int:=if l.length=0 then 0 else(ow (Ng (gZ l) l.length):Nat)
theorem PS (A:Option Addr) (len cap:Nat) (l:List Int) (w:World) (hs:gB w A len cap l) (hg:∀x∈l,aw x) (hn:len<=1000000) :
 Calls prog 236 #[.slice A len cap] w (Rt (I6 (ji l)) (Bl w)):=by
 have hl:=hs.1
 by_cases h1:len=0
 ·have HQ:ji l=0:=if_pos oM
  have h0:((len:Int)==0)=true:=by simp;omega
  clear hs hl h1;go_enter func236,ntmps236;go_wp2;go_ret;exact⟨au HQ.symm,by go_grown⟩
 have HQ:=(show ji l=(ow (Ng (gZ l) len):Nat) by unfold ji;rw[if_neg oM,hl]);have h0:((len:Int)==0)=false:=by simp;omega
 have hle:=Di l hg;have hle2:gZ l<=1000000*9223372036854775807:=aB4 hle (aE6 _ oM);have HXY:=(show gZ l<2 ^ 128 by omega);have HQL:=(show gZ l / len<2 ^ 126 by exact Nat.lt_of_le_of_lt (Nat.div_le_self _ _) oM);have TX:=(fun W h=>KQ A len cap l W h hg hn);have HS:=hs;have d0:1<=len:=oM
 have HD:=(show len<2 ^ 64 by omega);clear hs hl hle hle2 hg h1;generalize gZ l=N at *;obtain⟨d,rfl⟩:=zE len
 by_cases hr:0<N % d
 ·have HU:=Yx (n:=N) d0 hr
  go_enter func236,ntmps236;go_wp2_with(first|(go_at_call 278;refine zM (TX _ HS) fun v1 hb1=>?_)|(go_at_call 277;refine zM (Cp N d _ HXY HD d0) fun v2 hb2=>?_)|(go_at_call 279;refine zM (Cq _ _ (by have:=HQL;omega)) fun v3 hb3=>?_;obtain⟨hc3,hf3⟩:=nu hb3;have hs3:=hb3.size;simp only[World.size_alloc]at hs3)|(go_at_call 280;refine zM (vp _ _ (by have:=HQL;omega)) fun v4 hb4=>?_));go_ret;refine⟨au (by rw[HQ,HU]),?_⟩;have e2:=zT hb1 hb2;have e3:=(e2.alloc e2.size (.cells #[V6 ((jg (N / d):Nat):Int),V6 ((kF (N / d):Nat):Int)] 388)).trans (hb3.mono (by have:=e2.size;simp;omega));have e4:=(e3.setCell (p:=⟨v2.heap.size,0,none⟩) e2.size (V6 ((jg (N / d+1):Nat):Int))).setCell (p:=⟨v2.heap.size,1,none⟩) e2.size (V6 ((kF (N / d+1):Nat):Int));exact zT e4 hb4
 ·have h0:N % d=0:=oM
  have HU:=TW (n:=N) d0 h0;have: decide (0<N % d)=false:=by simpa using hr
  clear hr;go_enter func236,ntmps236;go_wp2_with(first|(go_at_call 278;refine zM (TX _ HS) fun v1 hb1=>?_)|(go_at_call 277;refine zM (Cp N d _ HXY HD d0) fun v2 hb2=>?_)|(go_at_call 279;refine zM (Cq _ _ (by have:=HQL;omega)) fun v3 hb3=>?_;obtain⟨hc3,hf3⟩:=nu hb3;have hs3:=hb3.size;simp only[World.size_alloc]at hs3)|(go_at_call 280;refine zM (vp _ _ (by have:=HQL;omega)) fun v4 hb4=>?_));go_ret;refine⟨au (by rw[HQ,HU]),?_⟩;have e2:=zT hb1 hb2;have e4:=e2.alloc e2.size (.cells #[V6 ((jg (N / d):Nat):Int),V6 ((kF (N / d):Nat):Int)] 388);exact zT e4 hb4
def yc:List Int->Int
 |[]=>0
 |a::l=>l.foldl min a
def sq:List Int->Int
 |[]=>0
 |a::l=>l.foldl max a
theorem PT (a:Int) (l:List Int) (x:Int):yc (a::l++[x])=min (yc (a::l)) x:=by simp[yc]
theorem PU (a:Int) (l:List Int) (x:Int):sq (a::l++[x])=max (sq (a::l)) x:=by simp[sq]
theorem PV {l:List Int} (h:l[k]? = some x) (hk:1<=k):yc (l.take (k+1))=min (yc (l.take k)) x:=by
 rw[dP h];obtain⟨j,rfl⟩:∃j,k=j+1:=⟨k-1,oM⟩
 cases l with
 |nil=>simp at h
 |cons a l=>exact PT a (l.take j) x
theorem PW {l:List Int} (h:l[k]? = some x) (hk:1<=k):sq (l.take (k+1))=max (sq (l.take k)) x:=by
 rw[dP h];obtain⟨j,rfl⟩:∃j,k=j+1:=⟨k-1,oM⟩
 cases l with
 |nil=>simp at h
 |cons a l=>exact PU a (l.take j) x
theorem TY {l:List Int} (h:l[0]? = some x):yc (l.take 1)=x:=by
 cases l with
 |nil=>simp at h
 |cons a l=>simp at h;subst h;rfl
theorem TZ {l:List Int} (h:l[0]? = some x):sq (l.take 1)=x:=by
 cases l with
 |nil=>simp at h
 |cons a l=>simp at h;subst h;rfl
theorem KR (A:Option Addr) (len cap:Nat) (l:List Int) (w:World) (hs:gB w A len cap l) (h1:1<=len) (hn:len<=1000) :
 Calls prog 234 #[.slice A len cap] w fun e w'=>e=.returned (I6 (yc l))/\w=w':=by
 have HS:=hs;have HL:=hs.1;obtain⟨b,off,x0,rfl,hx0,hb0,hc0⟩:=gB.at_ hs (show 0<len by omega);have TD:=TY hx0;rw[aH5]at hc0;clear hs hx0;go_enter func234,ntmps234;go_wp2;clear hc0;go_loop[3,4] (fun m i=>∃k:Nat,1<=k/\k<=len/\i = I6 k/\m = I6 (yc (l.take k))) (fun _ i=>len-(intOf i).toNat)
 case atStart=>exact⟨1,oM,oM,rfl,by rw[TD]⟩
 case round=>
  obtain⟨k,hk1,hk,rfl,rfl⟩:=hrel
  by_cases hlt:k<len
  ·obtain⟨b',tL,x,hab,hx,hb,hc⟩:=gB.at_ HS hlt
   cases hab;have HN:=PV hx hk1;have:(k:Int)<(len:Int):=oM
   clear hx;generalize yc (l.take k)=m at *
   by_cases hlo:x<m
   ·have E:=(show min m x=x by omega)
    go_wp2;go_round
    case rel=>exact⟨k+1,oM,oM,by go_num,by rw[HN,E]⟩
    case measure=>simp[intOf];omega
   ·have E:=(show min m x=m by omega)
    go_wp2;go_round
    case rel=>exact⟨k+1,oM,oM,by go_num,by rw[HN,E]⟩
    case measure=>simp[intOf];omega
  ·have hE:l.take k=l:=aB5 (oH HL)
   rw[hE];clear hE;go_wp2;go_ret;exact⟨rfl,rfl⟩
theorem KS (A:Option Addr) (len cap:Nat) (l:List Int) (w:World) (hs:gB w A len cap l) (h1:1<=len) (hn:len<=1000) :
 Calls prog 235 #[.slice A len cap] w fun e w'=>e=.returned (I6 (sq l))/\w=w':=by
 have HS:=hs;have HL:=hs.1;obtain⟨b,off,x0,rfl,hx0,hb0,hc0⟩:=gB.at_ hs (show 0<len by omega);have TD:=TZ hx0;rw[aH5]at hc0;clear hs hx0;go_enter func235,ntmps235;go_wp2;clear hc0;go_loop[3,4] (fun m i=>∃k:Nat,1<=k/\k<=len/\i = I6 k/\m = I6 (sq (l.take k))) (fun _ i=>len-(intOf i).toNat)
 case atStart=>exact⟨1,oM,oM,rfl,by rw[TD]⟩
 case round=>
  obtain⟨k,hk1,hk,rfl,rfl⟩:=hrel
  by_cases hlt:k<len
  ·obtain⟨b',tL,x,hab,hx,hb,hc⟩:=gB.at_ HS hlt
   cases hab;have HN:=PW hx hk1;have:(k:Int)<(len:Int):=oM
   clear hx;generalize sq (l.take k)=m at *
   by_cases hlo:m<x
   ·have E:=(show max m x=x by omega)
    go_wp2;go_round
    case rel=>exact⟨k+1,oM,oM,by go_num,by rw[HN,E]⟩
    case measure=>simp[intOf];omega
   ·have E:=(show max m x=m by omega)
    go_wp2;go_round
    case rel=>exact⟨k+1,oM,oM,by go_num,by rw[HN,E]⟩
    case measure=>simp[intOf];omega
  ·have hE:l.take k=l:=aB5 (oH HL)
   rw[hE];clear hE;go_wp2;go_ret;exact⟨rfl,rfl⟩
structure Stat where
 count:Int
 sum:Int
 least:Int
 most:Int
 qV:Int
deriving DecidableEq
abbrev Stat.row (s:Stat):Array Value:=#[I6 s.count,I6 s.sum,I6 s.least,I6 s.most,I6 s.qV]
def iR (l:List aD):Stat:=if l.length=0 then⟨0,0,0,0,0⟩else⟨l.length,CU (kI l),yc (kI l),sq (kI l),ji (kI l)⟩
theorem PX (A:Option Addr) (len cap:Nat) (l:List aD) (w:World) (hs:cH w A len cap l) (hg:∀x∈l,x.good) (hn:len<=256) :
 Calls prog 181 #[.slice A len cap] w (Rt (.agg (iR l).row) (Bl w)):=by
 have HS:=hs;have HL:=hs.1;have HV:=Dy hg;clear hs hg;have E0:=(show Bl w (w.alloc (.cells #[I6 0,I6 0,I6 0,I6 0,I6 0] 68)) by go_grown);go_enter func181,ntmps181;go_wp2_with fail;refine(AP A len cap l _ (af HS E0) oM).mono ?_;rintro e w1 ⟨v,rfl,ho,hb1⟩;obtain⟨A',n',c',rfl,XQ,gU⟩:=ho.shape (fun _=>rfl);obtain rfl:n' = len:=by rw[XQ,Hm];exact HL
 have BR:=(ai.new w 68 #[I6 0,I6 0,I6 0,I6 0,I6 0]).call hb1;have E1:=zT E0 hb1;have SL:=gU;clear XQ ho gU hb1 E0
 by_cases h0:n' = 0
 ·have HQ:=(show iR l=⟨0,0,0,0,0⟩ by unfold iR;rw[if_pos (HL▸h0)])
  have:((n' : Int)==0)=true:=by simp;omega
  clear h0;go_wp2_with(refine zJ BR ?_;intro w9 b8 dM);refine zU b8 underlying68 ⟨by rw[HQ],E1.trans (Only.below dM lR E1.size)⟩
 ·have HQ:=(show iR l=⟨n',CU (kI l),yc (kI l),sq (kI l),ji (kI l)⟩ by unfold iR;rw[if_neg (HL▸h0),HL])
  have:((n' : Int)==0)=false:=by simp;omega
  have h1:1<=n':=oM
  have HG:=(fun x hx=>(show aw x by have:=HV x hx;unfold aw;omega):∀x∈kI l,aw x);clear h0;go_wp2_with fail;refine(XC _ _ _ _ _ SL HG oM).mono ?_;rintro e w2 ⟨rfl,rfl⟩;go_wp2_with fail;refine(KR _ _ _ _ _ SL h1 oM).mono ?_;rintro e w2 ⟨rfl,rfl⟩;go_wp2_with fail;refine(KS _ _ _ _ _ SL h1 oM).mono ?_;rintro e w2 ⟨rfl,rfl⟩;go_wp2_with fail;refine(PS _ _ _ _ _ SL HG oM).mono ?_;rintro e w2 ⟨rfl,hb2⟩;go_wp2_with(refine zJ (BR.call hb2) ?_;intro w9 b8 dM);have E2:=zT E1 hb2;refine zU b8 underlying68 ⟨by rw[HQ],E2.trans (Only.below dM lR E2.size)⟩
def iT (to width:Int):Int:=nN (nN (to-width)+1)
theorem Ho (to width:Int) (w:World) (h1:aw to) (h2:aw width) :
 Calls prog 183 #[I6 to,I6 width] w fun e w'=>e=.returned (I6 (iT to width))/\w=w':=by
 go_enter func183,ntmps183;go_wp2_with(first|(go_at_call 237;refine zN (MV _ _ _ h1 h2) ?_)|(go_at_call 170;refine zN (pd _ _ _ (nW _) (by unfold aw;omega)) ?_));go_ret;exact⟨rfl,rfl⟩
theorem ua (hg:∀x∈l,x.good) (f t:Int): ∀x∈iQ l f t,x.good:=fun x hx=>hg x ((aF9.1 hx).1)
theorem ub (A:Option Addr) (len cap:Nat) (l:List aD) (to width:Int) (w:World) (hs:cH w A len cap l) (hg:∀x∈l,x.good) (hn:len<=256) (h1:aw to) (h2:aw width) :
 Calls prog 133 #[.slice A len cap,I6 to,I6 width] w (Rt (.agg (iR (iQ l (iT to width) to)).row) (Bl w)):=by
 have HS:=hs;have HL:=hs.1;have HG:=hg;clear hs hg;have E0:=(show Bl w (w.alloc (.cells #[I6 0,I6 0,I6 0,I6 0,I6 0] 68)) by go_grown);go_enter func133,ntmps133;go_wp2_with fail;refine(Ho to width _ h1 h2).mono ?_;rintro e w1 ⟨rfl,rfl⟩;go_wp2_with fail;refine(KN A len cap l _ to _ (af HS E0) oM).mono ?_;rintro e w1 ⟨v,rfl,ho,hb1⟩;obtain⟨A',n',c',rfl,XQ,gU⟩:=ho.shape (fun _=>rfl);have fo:n'<=256:=oI (Hl l (iT to width) to) HL
 have BR:=(ai.new w 68 #[I6 0,I6 0,I6 0,I6 0,I6 0]).call hb1;have E1:=zT E0 hb1;have SL:=gU;clear XQ ho gU hb1 E0;go_wp2_with fail;refine(PX A' n' c' _ _ SL (ua HG _ _) fo).mono ?_;rintro e w2 ⟨rfl,hb2⟩;have E2:=zT E1 hb2;go_wp2_with(refine zJ (BR.call hb2) ?_;intro w9 b8 dM);refine zU b8 underlying68 ⟨rfl,E2.trans (Only.below dM lR E2.size)⟩
def dV (l:List aD):Int:=sq (l.map aD.tick)
theorem PY {x:aD} {a:Int} (h:l[k]? = some x):((l.take (k+1)).map aD.tick).foldl max a=max (((l.take k).map aD.tick).foldl max a) x.tick:=by
 rw[dP h,aE8,List.foldl_append];rfl
theorem KT {x:aD} (h:l[0]? = some x):(l.map aD.tick).foldl max x.tick=dV l:=by
 cases l with
 |nil=>simp at h
 |cons a l=>simp at h;subst h;simp[dV,sq]
theorem ud (cap:Nat) (A:Option Addr) (w:World) :
 Calls prog 383 #[.slice A 0 cap] w fun e w'=>e=.returned (.tuple #[I6 0,.bool false])/\w=w':=by
 go_enter func383,ntmps383;go_wp2;go_ret2;exact⟨rfl,rfl⟩
theorem AQ (A:Option Addr) (len cap:Nat) (l:List aD) (w:World) (hs:cH w A len cap l) (h1:1<=len) (hn:len<=1000) :
 Calls prog 383 #[.slice A len cap] w (Rt (.tuple #[I6 (dV l),.bool true]) (Bl w)):=by
 have HS:=hs;have HL:=hs.1;obtain⟨b,off,x0,rfl,hx0,hb0,u0,u1⟩:=hs.at_ (show 0<len by omega);rw[Nat.zero_mul,aH5]at u0;have TD:=hx0;have:((len:Int)==0)=false:=by simp;omega
 clear hs hx0 u1;go_enter func383,ntmps383;go_wp2;clear u0;go_loopw[4,16] (fun m i wr=>∃k:Nat,k<=len/\i = I6 k/\m = I6 (((l.take k).map aD.tick).foldl max x0.tick)/\Bl w wr) (fun _ i _=>len-(intOf i).toNat)
 case atStart=>exact⟨0,oM,rfl,rfl,Below.refl _ _⟩
 case round=>
  obtain⟨k,hk,rfl,rfl,aT⟩:=hrel
  by_cases hlt:k<len
  ·obtain⟨b',tL,x,hab,hx,hb,t0,t1⟩:=HS.at_ hlt
   cases hab;have:=(aT.cell (p:=⟨b,off+k*2,none⟩) hb).trans t0;have:=(aT.cell (p:=⟨b,off+k*2+1,none⟩) hb).trans t1;have HN:=PY (a:=x0.tick) hx;have:(k:Int)<(len:Int):=oM
   have HB:=aT;clear hx t0 t1 hb aT;generalize((l.take k).map aD.tick).foldl max x0.tick=m at *
   by_cases hlo:m<x.tick
   ·have E:=(show max m x.tick=x.tick by omega)
    go_wp2;go_roundw
    case rel=>exact⟨k+1,oM,by go_num,by rw[HN,E],HB.alloc HB.size _⟩
    case measure=>simp[intOf];omega
   ·have E:=(show max m x.tick=m by omega)
    go_wp2;go_roundw
    case rel=>exact⟨k+1,oM,by go_num,by rw[HN,E],HB.alloc HB.size _⟩
    case measure=>simp[intOf];omega
  ·have hE:l.take k=l:=aB5 (oH HL)
   rw[hE,KT TD];clear hE;go_wp2;go_ret2;exact⟨rfl,aT⟩
def Hp (p:dI) (past:List aU):Int:=if past.length=0 then p.min else CZ past (past.length-1)
theorem KU (p:dI) (A:Option Addr) (len cap:Nat) (l:List aU) (w:World) (hs:dB w A len cap l) (hn:len<=1000) :
 Calls prog 384 #[(.agg #[I6 p.min,I6 p.max,I6 p.target,I6 p.lz,I6 p.bp,I6 p.hold]),.slice A len cap] w (Rt (I6 (Hp p l)) (Bl w)):=by
 have HL:=hs.1
 by_cases h0:len=0
 ·have HQ:=(show Hp p l=p.min by unfold Hp;rw[if_pos oM])
  have:((len:Int)==0)=true:=by simp;omega
  clear hs h0;go_enter func384,ntmps384;go_wp2;go_ret;exact⟨au HQ.symm,gW⟩
 ·have HQ:=(show Hp p l=CZ l (len-1) by unfold Hp;rw[if_neg oM,HL])
  have:((len:Int)==0)=false:=by simp;omega
  obtain⟨j,rfl⟩:∃j,len=j+1:=⟨len-1,oM⟩
  obtain⟨b,off,x,rfl,hx,hb,t0,t1,t2,t3,t4⟩:=hs.at_ (show j<j+1 by omega);have HX:=OT hx;clear hs h0 hx t0 t1 t2 t4 HL;go_enter func384,ntmps384;go_wp2;go_ret;exact⟨au (by rw[HQ,Nat.add_sub_cancel,HX]),gW⟩
def Ua (p:dI) (held:Bool) (op now th:Int):Int:=if held then 4 else if p.max<op then 6 else if op<p.min then 5 else if now<th then 2 else if th<now then 3 else 1
theorem KV (p:dI) (held:Bool) (op now th:Int) (w:World) :
 Calls prog 390 #[(.agg #[I6 p.min,I6 p.max,I6 p.target,I6 p.lz,I6 p.bp,I6 p.hold]),.bool held,I6 op,I6 now,I6 th] w (Rt (I6 (Ua p held op now th)) (Bl w)):=by
 have HQ:=zD (show Ua p held op now th=if held then 4 else if p.max<op then 6 else if op<p.min then 5 else if now<th then 2 else if th<now then 3 else 1 from rfl);cases held
 all_goals
  go_enter func390,ntmps390;go_wp2
  all_goals
   go_ret;exact⟨au (by rw[HQ.out];simp only[aG8,if_false,if_true];repeat (first|rfl|rw[if_pos (by assumption)]|rw[if_neg oM])),by go_grown⟩
def hstep (f t:Int) (s:Int×Bool) (a:aU):Int×Bool:=if f<a.tick/\a.tick<=t/\(s.2=false\/s.1<a.want)then(a.want,true)else s
def ue (l:List aU) (f t:Int):Int×Bool:=l.foldl (hstep f t) (0,false)
def gK (l:List aU) (tick hold:Int):Int×Bool:=ue l (nN (tick-hold)) tick
theorem PZ {l:List aU} {x:aU} (h:l[k]? = some x):ue (l.take (k+1)) f t=hstep f t (ue (l.take k) f t) x:=by
 unfold ue;rw[dP h,List.foldl_append];rfl
theorem Cr {bst:Int} {is:Bool} {x:aU} (h1:f<x.tick) (h2:x.tick<=t) (h3:is=false\/bst<x.want):hstep f t (bst,is) x=(x.want,true):=if_pos ⟨h1,h2,h3⟩
theorem ye {bst:Int} {is:Bool} {x:aU} (h:¬(f<x.tick/\x.tick<=t/\(is=false\/bst<x.want))):hstep f t (bst,is) x=(bst,is):=if_neg h
theorem vS (A:Option Addr) (len cap:Nat) (l:List aU) (tick hold:Int) (w:World) (hs:dB w A len cap l) (hn:len<=1000) (h1:aw tick) (h2:aw hold) :
 Calls prog 397 #[.slice A len cap,I6 tick,I6 hold] w (Rt (.tuple #[I6 (gK l tick hold).1,.bool (gK l tick hold).2]) (Bl w)):=by
 have HS:=hs;have HL:=hs.1;clear hs;have HSub:=(fun W=>MV tick hold W h1 h2);have HH:gK l tick hold=ue l (nN (tick-hold)) tick:=rfl;generalize nN (tick-hold)=F at *;go_enter func397,ntmps397;go_wp2_with(go_at_call 237;refine zN (HSub _) ?_);go_loopw[9,10,18] (fun bv iv i wr=>∃k:Nat,∃bst:Int,∃is:Bool,k<=len/\i = I6 k/\bv = I6 bst/\iv=.bool is/\ue (l.take k) F tick=(bst,is)/\Bl w wr) (fun _ _ i _=>len-(intOf i).toNat)
 case atStart=>exact⟨0,0,false,oM,rfl,rfl,rfl,rfl,Below.refl _ _⟩
 case round=>
  obtain⟨k,bst,is,hk,rfl,rfl,rfl,hst,aT⟩:=hrel;have HST:=hst;clear hst
  by_cases hlt:k<len
  ·obtain⟨b,off,x,rfl,hx,hb,t0,t1,t2,t3,t4⟩:=HS.at_ hlt
   have:=(aT.cell (p:=⟨b,off+k*5,none⟩) hb).trans t0;have:=(aT.cell (p:=⟨b,off+k*5+1,none⟩) hb).trans t1;have:=(aT.cell (p:=⟨b,off+k*5+2,none⟩) hb).trans t2;have:=(aT.cell (p:=⟨b,off+k*5+3,none⟩) hb).trans t3;have:=(aT.cell (p:=⟨b,off+k*5+4,none⟩) hb).trans t4;have HN:=PZ (f:=F) (t:=tick) hx;have:(k:Int)<(len:Int):=oM
   have HB:=aT;clear hx t0 t1 t2 t3 t4 hb aT
   by_cases c1:F<x.tick
   ·by_cases c2:x.tick<=tick
    ·cases is
     ·have E:=Cr (bst:=bst) (is:=false) c1 c2 (.inl rfl)
      go_wp2;go_roundw
      case rel=>exact⟨k+1,_,_,oM,by go_num,rfl,rfl,by rw[HN,HST,E],HB.alloc HB.size _⟩
      case measure=>simp[intOf];omega
     ·by_cases c3:bst<x.want
      ·have E:=Cr (bst:=bst) (is:=true) c1 c2 (.inr c3)
       go_wp2;go_roundw
       case rel=>exact⟨k+1,_,_,oM,by go_num,rfl,rfl,by rw[HN,HST,E],HB.alloc HB.size _⟩
       case measure=>simp[intOf];omega
      ·have E:=ye (f:=F) (t:=tick) (bst:=bst) (is:=true) (x:=x) (fun h=>by rcases h.2.2 with h|h<;>first|cases h|exact c3 h)
       go_wp2;go_roundw
       case rel=>exact⟨k+1,_,_,oM,by go_num,rfl,rfl,by rw[HN,HST,E],HB.alloc HB.size _⟩
       case measure=>simp[intOf];omega
    ·have E:=ye (f:=F) (t:=tick) (bst:=bst) (is:=is) (x:=x) (fun h=>c2 h.2.1)
     go_wp2;go_roundw
     case rel=>exact⟨k+1,_,_,oM,by go_num,rfl,rfl,by rw[HN,HST,E],HB.alloc HB.size _⟩
     case measure=>simp[intOf];omega
   ·have E:=ye (f:=F) (t:=tick) (bst:=bst) (is:=is) (x:=x) (fun h=>c1 h.1)
    go_wp2;go_roundw
    case rel=>exact⟨k+1,_,_,oM,by go_num,rfl,rfl,by rw[HN,HST,E],HB.alloc HB.size _⟩
    case measure=>simp[intOf];omega
  ·have hE:l.take k=l:=aB5 (oH HL)
   have HF:=(show gK l tick hold=(bst,is) by rw[HH,<-hE];exact HST);clear hE;go_wp2;go_ret2;exact⟨by rw[HF];rfl,aT⟩
def jA (p:dI) (tick want:Int) (past:List aU):Int×Bool:=if(gK past tick p.hold).2=true/\want<(gK past tick p.hold).1 then((gK past tick p.hold).1,true)else(want,false)
theorem P0 (p:dI) (tick want:Int) (A:Option Addr) (len cap:Nat) (l:List aU) (w:World) (hp:p.fit) (hs:dB w A len cap l) (hn:len<=1000) (h1:aw tick) :
 Calls prog 388 #[(.agg #[I6 p.min,I6 p.max,I6 p.target,I6 p.lz,I6 p.bp,I6 p.hold]),I6 tick,I6 want,.slice A len cap] w (Rt (.tuple #[I6 (jA p tick want l).1,.bool (jA p tick want l).2]) (Bl w)):=by
 have HS:=zD hs;have E0:=zD (show Bl w (w.alloc (.cells p.row 43)) by go_grown);have HQ:=zD (show jA p tick want l=if(gK l tick p.hold).2=true/\want<(gK l tick p.hold).1 then((gK l tick p.hold).1,true)else(want,false)from rfl);have HHi:=zD (fun W hW=>vS A len cap l tick p.hold W hW hn h1 hp.2.2.2.2.2);generalize jA p tick want l=R at *;clear hs;generalize gK l tick p.hold=hh at *;obtain⟨bst,is⟩:=hh;dsimp only at HQ HHi;go_enter func388,ntmps388;go_wp2_with fail;refine(HHi.out _ (af HS.out E0.out)).mono ?_;rintro e w1 ⟨rfl,hb1⟩;have E1:=zD (zT E0.out hb1);clear hb1;cases is
 ·have HR:=zD (show R=(want,false) by rw[HQ.out];simp)
  go_wp2;go_ret2;exact⟨by rw[HR.out];rfl,E1.out⟩
 ·by_cases c:want<bst
  ·have HR:=zD (show R=(bst,true) by rw[HQ.out];simp[c])
   go_wp2;go_ret2;exact⟨by rw[HR.out];rfl,E1.out⟩
  ·have HR:=zD (show R=(want,false) by rw[HQ.out];simp[c])
   go_wp2;go_ret2;exact⟨by rw[HR.out];rfl,E1.out⟩
theorem Ub {q:Nat} (hd:0<d) (h:n<=q*d):Ng n d<=q:=by
 have h2:=(rT (n:=n) (d:=d) (q:=Ng n d) hd).2 rfl;rcases aE4 q (Ng n d)with hlt|hge
 ·rcases h2.2 with h3|h3
  ·omega
  ·have:=aE6 d (show q<=Ng n d-1 by omega)
   omega
 ·exact hge
theorem KW {l:List Int} (hg:∀x∈l,aw x) (hl:0<l.length):ji l=(Ng (gZ l) l.length:Nat)/\Ng (gZ l) l.length<=9223372036854775807:=by
 have h1:=Ub (q:=9223372036854775807) (d:=l.length) hl (by have:=Di l hg;rw[aF5];exact this);refine⟨?_,h1⟩;unfold ji ow;rw[if_neg oM,if_pos oM]
theorem KX {l:List Int} (hg:∀x∈l,aw x) (h0:∀x∈l,0<=x) (M:Nat):decide (gZ l<=M*l.length)=decide (ji l<=(M:Int))/\0<=ji l/\ji l<=9223372036854775807:=by
 by_cases hl:l.length=0
 ·have e:l=[]:=aC0 hl
  subst e;simp[gZ,ji]
 ·obtain⟨h1,h2⟩:=KW hg oM
  have:=(rT (n:=gZ l) (d:=l.length) (q:=Ng (gZ l) l.length) oM).2 rfl;rw[h1];refine⟨?_,oM,oM⟩;rw[Bool.eq_iff_iff];simp only[decide_eq_true_eq]
  constructor
  ·intro h
   have:=Ub oM h;omega
  ·intro h
   have:=aE6 l.length (show Ng (gZ l) l.length<=M by omega);omega
def ag3 (p:dI) (l:List aD) (past:List aU):aU:=
 let tick:=dV l
 let load:=ji (kI (iQ l (iT tick p.bp) tick))
 let now:=Hp p past
 let op:=j6 p load now
 let want:=eR p op
 let th:=eR p (jA p tick want past).1
 ⟨tick,load,want,th,Ua p (jA p tick want past).2 op now th⟩
def eU:aU:=⟨0,0,0,0,0⟩
def Xn (p:dI) (l:List aD) (past:List aU):aU:=if ¬p.xJ then eU else if l.length=0 then eU else ag3 p l past
def Uc (p:dI) (l:List aD):Int:=if ¬p.xJ then 7 else if l.length=0 then 5 else 0
theorem KY (l:List aD):(iR l).qV=ji (kI l):=by
 unfold iR
 split
 ·rename_i h
  rw[aC0 h];rfl
 ·rfl
theorem Hq (hg:∀x∈l,x.good):aw (dV l):=by
 unfold dV;cases l with
 |nil=>unfold sq aw;simp
 |cons a l=>
  show aw ((l.map aD.tick).foldl max a.tick)
  have key:∀(l:List aD),(∀x∈l,x.good)->∀m,aw m->aw ((l.map aD.tick).foldl max m):=by
   intro l
   induction l with
   |nil=>intro _ m hm;exact hm
   |cons x l ih=>
    intro hx m hm;refine ih (fun y hy=>hx y (by simp[hy])) _ ?_;have:=(hx x sI).1;unfold aw at *;omega
  exact key l (fun x hx=>hg x (by simp[hx])) _ (hg a sI).1
theorem Yy (hk:p.xJ) (h:l.length=0):Xn p l past=eU/\Uc p l=5:=by
 unfold Xn Uc;exact⟨by rw[if_neg (not_not_intro hk),if_pos h],by rw[if_neg (not_not_intro hk),if_pos h]⟩
theorem Ud (hk:p.xJ) (h:l.length≠0):Xn p l past=ag3 p l past/\Uc p l=0:=by
 unfold Xn Uc;exact⟨by rw[if_neg (not_not_intro hk),if_neg h],by rw[if_neg (not_not_intro hk),if_neg h]⟩
theorem ag4 (hk:¬p.xJ):Xn p l past=eU/\Uc p l=7:=by
 unfold Xn Uc;exact⟨if_pos hk,if_pos hk⟩
theorem P9 (p:dI) (load now:Int):Kj p load now=eR p (j6 p load now):=by
 unfold Kj j6;split<;>rfl
abbrev z28:Array Value:=#[I6 0,I6 0,I6 0,I6 0,I6 0]
def DI (w wr:World) (p:dI):Prop:=ai wr w.heap.size 43 p.row/\ai wr (w.heap.size+1) 49 z28/\Bl w wr
theorem DI.call {wr w': World} (h:DI w wr p) (hb:Bl wr w'):DI w w' p:=⟨h.1.call hb,h.2.1.call hb,zT h.2.2 hb⟩
theorem DI.start (w:World) (p:dI):DI w ((w.alloc (.cells p.row 43)).alloc (.cells z28 49)) p:=
 ⟨(ai.new w _ _).alloc _,ai.dR w _ _ _,gW⟩
theorem Qa (p:dI) (A:Option Addr) (len cap:Nat) (l:List aD) (B:Option Addr) (AR yf:Nat) (past:List aU) (w:World) (hp:p.fit) (hs:cH w A len cap l) (hg:∀x∈l,x.good) (hn:len<=200) (hs2:dB w B AR yf past) (fo:AR<=1000) :
 Calls prog 377 #[(.agg #[I6 p.min,I6 p.max,I6 p.target,I6 p.lz,I6 p.bp,I6 p.hold]),.slice A len cap,.slice B AR yf] w (Rt (.tuple #[.agg (Xn p l past).cells.toArray,I6 (Uc p l)]) (Bl w)):=by
 have HS:=hs;have HS2:=hs2;have HL:=hs.1;have HG:=hg;have HP:=hp;have HT:=Hq hg;have D0:=DI.start w p;clear hs hs2 hg hp
 by_cases hk:p.xJ
 ·have HC:=(fun W=>aY p W)
  rw[gj hk]at HC
  by_cases h0:len=0
  ·have HQ:=Yy (past:=past) hk (show l.length=0 by rw[HL];exact h0)
   subst h0;clear hk;go_enter func377,ntmps377;go_wp2_with fail;refine(HC _).mono ?_;rintro e v1 ⟨rfl,hb1⟩;have D1:=D0.call hb1;clear hb1;go_wp2_with fail;refine(ud cap A _).mono ?_;rintro e v2 ⟨rfl,rfl⟩;go_wp2_with(refine zJ D1.2.1 ?_;intro w9 b8 dM);refine bodyPost_ret (az rfl _ _ (w.heap.size+1) _ _ _ rfl b8 underlying49 rfl kZ) rfl ⟨by rw[HQ.1,HQ.2];rfl,D1.2.2.trans (Only.below dM oM D1.2.2.size)⟩
  ·have HQ:=Ud (past:=past) hk (show l.length≠0 by rw[HL];exact h0)
   have h1:1<=len:=oM
   have HDq:=(show ag3 p l past=(let tick:=dV l;let load:=ji (kI (iQ l (iT tick p.bp) tick));let now:=Hp p past;let op:=j6 p load now;let want:=eR p op;let th:=eR p (jA p tick want past).1;(⟨tick,load,want,th,Ua p (jA p tick want past).2 op now th⟩:aU))from rfl)
   have HLa:=(fun W hW=>AQ A len cap l W hW h1 oM);have HAt:=(fun W hW=>ub A len cap l (dV l) p.bp W hW HG (aB4 hn dC) HT HP.2.2.2.2.1);have hMI:aw (ji (kI (iQ l (iT (dV l) p.bp) (dV l)))):=by
    have:=KX (l:=kI (iQ l (iT (dV l) p.bp) (dV l))) (fun x hx=>by have:=Dy (ua HG _ _) x hx;unfold aw;omega) (fun x hx=>(Dy (ua HG _ _) x hx).1) 0;unfold aw;omega
   dsimp only at HDq;rw[<-(KY (iQ l (iT (dV l) p.bp) (dV l)))]at HDq hMI;generalize iR (iQ l (iT (dV l) p.bp) (dV l))=ST at *;generalize dV l=T at *;have Ks:=(fun W hW=>KU p B AR yf past W hW fo);generalize Hp p past=NW at *;have HWa:=(fun W=>rS p ST.qV W HP hMI);have mW:=(fun W=>mO p ST.qV NW W HP hMI);have HRa:=(fun W=>Gl p ST.qV NW W HP hMI);rw[P9]at HRa;have Ue:j6 p ST.qV NW=if oy p ST.qV NW then NW else xQ p ST.qV:=rfl
   generalize j6 p ST.qV NW=OP at *;generalize eR p OP=WT at *;have nI:=(fun W hW=>P0 p T WT B AR yf past W HP hW fo HT);generalize jA p T WT past=SQ at *;obtain⟨sn,sh⟩:=SQ;dsimp only at nI HDq;have HBo:=(fun W=>lC p sn W);generalize eR p sn=TH at *;have HWh:=(fun W=>KV p sh OP NW TH W);generalize Ua p sh OP NW TH=WY at *;clear h0 hk HT hMI;go_enter func377,ntmps377;go_wp2_with fail;refine(HC _).mono ?_;rintro e v1 ⟨rfl,hb1⟩;have D1:=D0.call hb1;clear hb1;go_wp2_with fail;refine(HLa _ (af HS D1.2.2)).mono ?_;rintro e v2 ⟨rfl,hb2⟩;have D2:=D1.call hb2;clear hb2;go_wp2;refine zB fun S0=>?_
   refine gi (i:=0) (v:=_) rfl kZ kZ kZ kZ rfl kZ (fun j hj=>by first|(simp at hj;done)|(simp at hj;simp;omega)) (fun _ _ _ h=>h) (Or.inl ⟨by rfl,fun W1 hW1=>by first|rfl|(go_simp;done)|(go_simp;with_reducible rfl)⟩) (S0)<|gi (i:=1) (v:=_) rfl kZ kZ kZ kZ rfl kZ (fun j hj=>by first|(simp at hj;done)|(simp at hj;simp;omega)) (fun _ _ _ h=>h) (Or.inl ⟨by rfl,fun W1 hW1=>by first|rfl|(go_simp;done)|(go_simp;with_reducible rfl)⟩) (S0)<|gi (i:=2) (v:=_) rfl kZ kZ kZ kZ rfl kZ (fun j hj=>by first|(simp at hj;done)|(simp at hj;simp;omega)) (fun _ _ _ h=>h) (Or.inl ⟨by rfl,fun W1 hW1=>by first|rfl|(go_simp;done)|(go_simp;with_reducible rfl)⟩) (S0)<|gi (i:=3) (v:=I6 p.bp) rfl kZ kZ kZ kZ rfl kZ (fun j hj=>by first|(simp at hj;done)|(simp at hj;simp;omega)) (fun _ _ _ h=>h) (Or.inl ⟨by rfl,fun W1 hW1=>by have:=(D2.1.call hW1).z 4 (I6 p.bp);go_simp⟩) (S0)<|gi (i:=6) (v:=_) rfl kZ kZ kZ kZ rfl kZ (fun j hj=>by first|(simp at hj;done)|(simp at hj;simp;omega)) (fun _ _ _ h=>h) (Or.inl ⟨by rfl,fun W1 hW1=>zb (D2.1.call hW1) underlying43⟩) (S0)<|gi (i:=7) (v:=_) rfl kZ kZ kZ kZ rfl kZ (fun j hj=>by first|(simp at hj;done)|(simp at hj;simp;omega)) (fun _ _ _ h=>h) (Or.inl ⟨by rfl,fun W1 hW1=>by first|rfl|(go_simp;done)|(go_simp;with_reducible rfl)⟩) (S0)<|zQ 4 ?_;go_wp2_with(go_at_call 133;refine zM (HAt _ (af HS (D2.call S0).2.2)) fun v3 hb3=>?_);refine .i (zT S0 hb3) ?_;have S3:=zT S0 hb3;refine gi (i:=5) (v:=I6 ST.qV) rfl kZ kZ kZ kZ rfl kZ (fun j hj=>by first|(simp at hj;done)|(simp at hj;simp;omega)) (fun _ _ _ h=>h) (Or.inl ⟨by rfl,fun W1 hW1=>by first|kernel_rfl|(go_simp;done)⟩) (S3)<|zQ 8 ?_;go_wp2_with(go_at_call 384;refine zM (Ks _ (af HS2 (D2.call S3).2.2)) fun v4 hb4=>?_);refine .i (zT S3 hb4) ?_;have S4:=zT S3 hb4;refine zQ 9 ?_;go_wp2_with fail;refine .i S4<|zQ 10 ?_;go_wp2_with fail;refine .i S4<|zd ?_;have D4:=D2.call S4;go_wp2_with(refine zI D4.1 underlying43 ?_);refine(HWa _).mono ?_;rintro e v5 ⟨rfl,dx⟩;have D5:=D4.call dx;clear dx;go_wp2_with(refine zI D5.1 underlying43 ?_);refine(mW _).mono ?_;rintro e v6 ⟨rfl,dJ⟩;have D6:=D5.call dJ;clear dJ;cases hnr:oy p ST.qV NW
   all_goals
    rw[hnr]at Ue;clear hnr;simp only[aG8,if_false,if_true]at Ue;go_wp2_with(refine zI D6.1 underlying43 ?_);refine(HRa _).mono ?_;rintro e v7 ⟨rfl,lV⟩;have D7:=D6.call lV;clear lV;go_wp2_with(refine zI D7.1 underlying43 ?_);refine(nI _ (af HS2 D7.2.2)).mono ?_;rintro e v8 ⟨rfl,sf⟩;have D8:=D7.call sf;clear sf;go_wp2_with(refine zI D8.1 underlying43 ?_);refine(HBo _).mono ?_;rintro e v9 ⟨rfl,b8⟩;have D9:=D8.call b8;clear b8
    first|(rw[Ue]at HWh)|skip
    go_wp2_with(refine zI D9.1 underlying43 ?_);refine(HWh _).mono ?_;rintro e v10 ⟨rfl,lJ⟩;have D10:=D9.call lJ;clear lJ;go_wp2_with(refine zJ D10.2.1 ?_;intro w9 b8 dM);refine bodyPost_ret (az rfl _ _ (w.heap.size+1) _ _ _ rfl b8 underlying49 rfl kZ) rfl ⟨by rw[HQ.1,HQ.2,HDq];rfl,D10.2.2.trans (Only.below dM oM D10.2.2.size)⟩
 ·have HC:=(fun W=>aY p W)
  rw[jI hk]at HC;have HQ:=ag4 (l:=l) (past:=past) hk;clear hk HT;go_enter func377,ntmps377;go_wp2_with fail;refine(HC _).mono ?_;rintro e v1 ⟨rfl,hb1⟩;have D1:=D0.call hb1;clear hb1;go_wp2_with(refine zJ D1.2.1 ?_;intro w9 b8 dM);refine bodyPost_ret (az rfl _ _ (w.heap.size+1) _ _ _ rfl b8 underlying49 rfl kZ) rfl ⟨by rw[HQ.1,HQ.2];rfl,D1.2.2.trans (Only.below dM oM D1.2.2.size)⟩
def VS (c:aM) (x:ak):Nat:=(cN c x.k x.s x.t x.v x.p).length
theorem Ok (c:aM) (x:ak):VS c x<=136:=x6 _ _ _ _ _ _
def ku (c:aM) (l:List ak):Nat:=(l.map (VS c)).sum
def gh (c:aM) (rows:List (bq ak)):Nat:=(rows.map fun r=>ku c r.l).sum
theorem uJ (c:aM) (l:List ak):ku c l<=136*l.length:=by
 induction l with
 |nil=>exact aC1 _
 |cons x l ih=>
  have:=Ok c x;unfold ku at *;rw[aG2,aI1,aC4];omega
theorem I9 {c:aM} {l:List ak} {j:Nat} {x:ak} (h:l[j]? = some x):ku c (l.take (j+1))=ku c (l.take j)+VS c x:=by
 unfold ku;rw[aD4,h,Option.toList_some,aE8,List.sum_append];simp
theorem Ja {c:aM} {rows:List (bq ak)} {r:bq ak} (h:rows[k]? = some r):gh c (rows.take (k+1))=gh c (rows.take k)+ku c r.l:=by
 unfold gh;rw[aD4,h,Option.toList_some,aE8,List.sum_append];simp
theorem uK (c:aM) (rows:List (bq ak)) (h:∀r∈rows,r.l.length<=20):gh c rows<=2720*rows.length:=by
 induction rows with
 |nil=>exact aC1 _
 |cons r rows ih=>
  have:=uJ c r.l;have:=h r sI;have:=ih (fun x hx=>h x (by simp[hx]));unfold gh at *;rw[aG2,aI1,aC4];omega
theorem yO {b off j:Nat} {x:ak} (hc:∀(i:Nat) (v:Value),x.cells[i]? = some v->w.cell? ⟨b,off+(j*11+i),none⟩=some v):
 w.cell? ⟨b,off+j*11,none⟩=some (I6 x.k)/\w.cell? ⟨b,off+j*11+1,none⟩=some (.string x.s)/\w.cell? ⟨b,off+j*11+2,none⟩=some (I6 x.t)/\w.cell? ⟨b,off+j*11+3,none⟩=some (I6 x.v)/\w.cell? ⟨b,off+j*11+4,none⟩=some (I6 x.h)/\w.cell? ⟨b,off+j*11+5,none⟩=some (I6 x.p.min)/\w.cell? ⟨b,off+j*11+6,none⟩=some (I6 x.p.max)/\w.cell? ⟨b,off+j*11+7,none⟩=some (I6 x.p.target)/\w.cell? ⟨b,off+j*11+8,none⟩=some (I6 x.p.lz)/\w.cell? ⟨b,off+j*11+9,none⟩=some (I6 x.p.bp)/\w.cell? ⟨b,off+j*11+10,none⟩=some (I6 x.p.hold):=by
 have h:∀(i:Nat) (v:Value),x.cells[i]? = some v->w.cell? ⟨b,off+j*11+i,none⟩=some v:=fun i v hv=>by rw[aD0];exact hc i v hv
 exact⟨h 0 _ rfl,h 1 _ rfl,h 2 _ rfl,h 3 _ rfl,h 4 _ rfl,h 5 _ rfl,h 6 _ rfl,h 7 _ rfl,h 8 _ rfl,h 9 _ rfl,h 10 _ rfl⟩
theorem VT {A:Option Addr} {len cap:Nat} {rows:List (bq ak)} (h:ag w 1 bq.hdr A len cap rows) (hk:k<len):
 ∃(b off:Nat) (r:bq ak),A=some ⟨b,off,none⟩/\rows[k]? = some r/\b<w.heap.size/\w.cell? ⟨b,off+k,none⟩=some (.slice r.A r.n r.c):=by
 obtain⟨b,off,r,h1,h2,h3,h4⟩:=ag.at_ h hk;exact⟨b,off,r,h1,h2,h3,sH (h4 0 _ rfl)⟩
theorem Jb (c:aM) (A:Option Addr) (len cap:Nat) (rows:List (bq ak)) (w:World) (hr:dK w 11 ak.cells A len cap rows) (hg:∀r∈rows,∀x∈r.l,x.good) (hc:c.fit) (hn:len<=40) (Fg:∀r∈rows,r.n<=20) :
 Calls prog 100 #[.agg c.row,.slice A len cap] w (Rt (I6 (gh c rows:Nat)) (Bl w)):=by
 have Er:=hr;have Nv:=hr.1.1;have HG:=hg;have HC:=hc;have H20:=Fg;have hm:cap<=9223372036854775807:=by have:=hr.1.2.2.1;unfold maxLen at this;omega
 have hle:len<=cap:=hr.1.2.1;have X:=And.intro (ai.new w 23 c.row) (show Bl w (w.alloc (.cells c.row 23)) by go_grown);have HT:=(fun k (hk:k<=len)=>(show gh c (rows.take k)<=108800 from by
  have h1:=uK c (rows.take k) (fun r h=>by have h2:=Fg r (aG4 h);have h3:=(hr.2 r (aG4 h)).1;omega);have h2:=List.length_take_le k rows;omega))
 clear hr hg hc Fg;go_enter func100,ntmps100;go_wp2;go_loopw[5,12] (fun s i wr=>∃k:Nat,k<=len/\i = I6 k/\s = I6 (gh c (rows.take k):Nat)/\ai wr w.heap.size 23 c.row/\Bl w wr) (fun _ i _=>len-(intOf i).toNat)
 case atStart=>exact⟨0,aB6 _,rfl,rfl,X.1,X.2⟩
 case round=>
  obtain⟨k,hk,rfl,rfl,hb,aT⟩:=hrel;have HB:=hb;have HE:=aT;clear hb aT
  by_cases hlt:k<len
  ·have Fb:(k:Int)<(len:Int):=oM
   obtain⟨b,off,r,rfl,hx,fH,t0⟩:=VT (af Er.1 HE) hlt;obtain⟨RA,rn,rc,rl⟩:=r;have kv:=aB7 hx;have VU:=Er.2 _ kv;have hrn:rn<=20:=H20 _ kv;have HGr:=HG _ kv;have Nl:rl.length=rn:=(Er.2 _ kv).1;have hrc:rn<=rc:=(Er.2 _ kv).2.1;have ay9:rc<=9223372036854775807:=by have:=(Er.2 _ kv).2.2.1;unfold maxLen at this;simp only at this;omega
   have HN:=Ja (c:=c) hx;have HNl:=Nl;have:=HT k hk;have nh:=HT (k+1) oM;rw[HN]at nh;simp only at nh VU HGr;clear hx kv Nl;generalize gh c (rows.take k)=T at *;obtain⟨wo,hwo⟩:=zE wr;rw[<-hwo]at HB HE t0 fH |-;clear hwo;go_wp2;go_loopw[5,18] (fun s i wr2=>∃j:Nat,j<=rn/\i = I6 j/\s = I6 (T+ku c (rl.take j):Nat)/\ai wr2 w.heap.size 23 c.row/\Bl w wr2) (fun _ i _=>rn-(intOf i).toNat)
   case atStart=>exact⟨0,aB6 _,rfl,rfl,HB,HE⟩
   case round=>
    obtain⟨j,hj,rfl,rfl,hb2,qu⟩:=hrel;have tG:=hb2;have HE2:=qu;clear hb2 qu t0;have:ku c (rl.take j)<=136*20:=oI (uJ c (rl.take j)) (List.length_take_le j rl)
    by_cases hlt2:j<rn
    ·have:(j:Int)<(rn:Int):=oM
     obtain⟨b2,gY,x,rfl,hx2,yP,hcl⟩:=ag.at_ (af VU HE2) hlt2;obtain⟨u0,u1,u2,u3,u4,u5,u6,u7,u8,u9,u10⟩:=yO hcl;have fG:=I9 (c:=c) hx2;have hxg:x.s.size<=maxLen:=HGr x (aB7 hx2);have HO:=(fun W=>Cm c x.k x.s x.t x.v x.h x.p W hxg HC);have:=Ok c x;have NH:(cN c x.k x.s x.t x.v x.p).length=VS c x:=rfl;generalize cN c x.k x.s x.t x.v x.p=L at *;generalize VS c x=lx at *;generalize ku c (rl.take j)=RT at *;have B3:=tG.alloc (.cells (aj x.k x.s x.t x.v x.h x.p) 65);clear hcl hx2 hxg;go_wp2_with(first
      |refine zI B3 underlying23 ?_
      |refine zI (ai.new wr 65 (aj x.k x.s x.t x.v x.h x.p)) underlying65 ?_
      |(go_at_call 166;refine(HO _).mono ?_;rintro e v2 ⟨V2,rfl,o2,hb2⟩;obtain⟨A2,n2,c2,rfl,fo,-⟩:=o2.shape bK;obtain rfl:lx=n2:=(fo▸NH.symm);have D2:=zT (HE2.alloc HE2.size (.cells (aj x.k x.s x.t x.v x.h x.p) 65)) hb2;have B4:=B3.call hb2;clear hb2 o2 fo))
     go_roundw
     case rel=>exact⟨j+1,oM,by go_num,by rw[fG,<-aD0];go_num,B4,D2⟩
     case measure=>simp[intOf];omega
    ·obtain rfl:j=rn:=oM
     have zZ:rl.take j=rl:=aB5 (HNl▸aC1 _);go_wp2;go_roundw
     case rel=>exact⟨k+1,oM,by go_num,by rw[HN,zZ],tG,HE2⟩
     case measure=>simp[intOf];omega
  ·have zZ:rows.take k=rows:=aB5 (oH Nv)
   go_wp2;go_ret;exact⟨by rw[zZ];rfl,HE⟩
def VV (c:aM) (m:Nat) (wk:Int):Prop:=¬c.gV\/wk<0\/32<wk\/(m:Int)+wk<1\/32<(m:Int)+wk
instance (c:aM) (m:Nat) (wk:Int):Decidable (VV c m wk):=by unfold VV;infer_instance
def VW {α:Type} (rows:List (bq α)):Bool:=rows.any fun r=>decide (256<r.n)
def ix {α:Type} (c:aM) (rows:List (bq α)) (wk:Int):Int:=if VV c rows.length wk then 1 else if VW rows then 12 else 0
theorem LZ {A:Option Addr} {len cap:Nat} {rows:List (bq α)} (h:ag w 1 bq.hdr A len cap rows) (hk:k<len):
 ∃(b off:Nat) (r:bq α),A=some ⟨b,off,none⟩/\rows[k]? = some r/\b<w.heap.size/\w.cell? ⟨b,off+k,none⟩=some (.slice r.A r.n r.c):=by
 obtain⟨b,off,r,h1,h2,h3,h4⟩:=ag.at_ h hk;exact⟨b,off,r,h1,h2,h3,sH (h4 0 _ rfl)⟩
def o5 {α:Type} (rows:List (bq α)) (k:Nat):Prop:=∀i r,i<k->rows[i]? = some r->r.n<=256
theorem o5.next {rows:List (bq α)} {r:bq α} (h:o5 rows k) (hr:rows[k]? = some r) (hn:r.n<=256):o5 rows (k+1):=by
 intro i s hi hs;rcases aE4 i k with h1|h1
 ·exact h i s h1 hs
 ·obtain rfl:i=k:=oM
  rw[hr]at hs;injection hs with hs;rw[<-hs];exact hn
theorem o5.all {rows:List (bq α)} (h:o5 rows rows.length):VW rows=false:=by
 unfold VW;rw[List.any_eq_false];intro r hr;obtain⟨i,hi⟩:=aD1 hr;have:=h i r (d9.1 hi).1 hi;simp;omega
theorem VX {rows:List (bq α)} {r:bq α} (hr:rows[k]? = some r) (hn:256<r.n):VW rows=true:=List.any_eq_true.2 ⟨r,aB7 hr,sH hn⟩
theorem o7 (c:aM) (A:Option Addr) (len cap:Nat) (rows:List (bq α)) (wk:Int) (w:World) (hr:ag w 1 bq.hdr A len cap rows) (hc:c.fit) (hn:len<=100000):
 Calls prog 99 #[.agg c.row,.slice A len cap,I6 wk] w (Rt (I6 (ix c rows wk)) (Bl w)):=by
 have Er:=hr;have Nv:=hr.1;have hm:cap<=9223372036854775807:=by have:=hr.2.2.1;unfold maxLen at this;omega
 have OG:rows.length=len:=hr.1;have HR:=(fun W=>fQ c W hc);have X:=And.intro (ai.new w 23 c.row) (show Bl w (w.alloc (.cells c.row 23)) by go_grown);clear hr
 by_cases a8:c.gV
 ·rw[show im c=0 from if_pos a8]at HR
  clear hc
  by_cases h1:wk<0
  ·have HE:ix c rows wk=1:=if_pos (.inr (.inl h1))
   have:decide (wk<0)=true:=sH h1
   clear h1 a8;go_enter func99,ntmps99;go_wp2_with(first
   |refine zI X.1 underlying23 ?_
   |(go_at_call 53;refine zM (HR _) fun v1 hb1=>?_;have D1:=zT X.2 hb1;clear hb1))
   go_ret;exact⟨au HE.symm,D1⟩
  have:decide (wk<0)=false:=sH h1
  by_cases h2:32<wk
  ·have HE:ix c rows wk=1:=if_pos (.inr (.inr (.inl h2)))
   have:decide (32<wk)=true:=sH h2
   clear h1 h2 a8;go_enter func99,ntmps99;go_wp2_with(first
   |refine zI X.1 underlying23 ?_
   |(go_at_call 53;refine zM (HR _) fun v1 hb1=>?_;have D1:=zT X.2 hb1;clear hb1))
   go_ret;exact⟨au HE.symm,D1⟩
  have:decide (32<wk)=false:=sH h2
  have:IntKind.i64.wrap ((len:Int)+wk)=(len:Int)+wk:=IntWalk.i64_in _ oM
  by_cases h3:(len:Int)+wk<1
  ·have HE:ix c rows wk=1:=if_pos (.inr (.inr (.inr (.inl (OG▸h3)))))
   have:decide ((len:Int)+wk<1)=true:=sH h3
   have:0<=wk:=oM
   have:wk<=32:=oM
   clear h1 h2 h3 a8;go_enter func99,ntmps99;go_wp2_with(first
   |refine zI X.1 underlying23 ?_
   |(go_at_call 53;refine zM (HR _) fun v1 hb1=>?_;have D1:=zT X.2 hb1;clear hb1))
   go_ret;exact⟨au HE.symm,D1⟩
  have:decide ((len:Int)+wk<1)=false:=sH h3
  by_cases h4:32<(len:Int)+wk
  ·have HE:ix c rows wk=1:=if_pos (.inr (.inr (.inr (.inr (OG▸h4)))))
   have:decide (32<(len:Int)+wk)=true:=sH h4
   clear h1 h2 h3 h4 a8;go_enter func99,ntmps99;go_wp2_with(first
   |refine zI X.1 underlying23 ?_
   |(go_at_call 53;refine zM (HR _) fun v1 hb1=>?_;have D1:=zT X.2 hb1;clear hb1))
   go_ret;exact⟨au HE.symm,D1⟩
  have:decide (32<(len:Int)+wk)=false:=sH h4
  have HE:ix c rows wk=if VW rows then 12 else 0:=if_neg (by unfold VV;rw[OG];rintro(h|h|h|h|h)<;>first|exact h a8|omega)
  clear h1 h2 h3 h4 a8 OG;go_enter func99,ntmps99;go_wp2_with(first
   |refine zI X.1 underlying23 ?_
   |(go_at_call 53;refine zM (HR _) fun v1 hb1=>?_;have D1:=zT X.2 hb1;clear hb1))
  go_loopw[37] (fun i wr=>∃k:Nat,k<=len/\i = I6 k/\o5 rows k/\Bl w wr) (fun i _=>len-(intOf i).toNat)
  case atStart=>exact⟨0,aB6 _,rfl,(fun i r h=>oM),D1⟩
  case round=>
   obtain⟨k,hk,rfl,hsm,aT⟩:=hrel;have vY:=hsm;have HB:=aT;clear hsm aT
   by_cases hlt:k<len
   ·have:(k:Int)<(len:Int):=oM
    obtain⟨b,off,r,rfl,hx,fH,t0⟩:=LZ (af Er HB) hlt
    by_cases hbig:256<r.n
    ·have HE2:ix c rows wk=12:=HE.trans (by simp[VX hx hbig])
     have:decide ((256:Int)<(r.n:Int))=true:=by simp;omega
     clear hx hbig;go_wp2;go_ret;exact⟨au HE2.symm,HB⟩
    ·have HN:=vY.next hx oM
     have:decide ((256:Int)<(r.n:Int))=false:=by simp;omega
     clear hx hbig;go_wp2;go_roundw
     case rel=>exact⟨k+1,oM,by go_num,HN,HB⟩
     case measure=>simp[intOf];omega
   ·have HE2:ix c rows wk=0:=HE.trans (by simp[o5.all (show o5 rows rows.length from by rw[Nv,show len=k by omega];exact vY)])
    go_wp2;go_ret;exact⟨au HE2.symm,HB⟩
 ·rw[show im c=1 from if_neg a8]at HR
  have HE:ix c rows wk=1:=if_pos (.inl a8);clear a8 hc;go_enter func99,ntmps99;go_wp2_with(first
   |refine zI X.1 underlying23 ?_
   |(go_at_call 53;refine zM (HR _) fun v1 hb1=>?_;have D1:=zT X.2 hb1;clear hb1))
  go_ret;exact⟨au HE.symm,D1⟩
end Go.Proofs.YtjgmjohiehbgaaaGreat
