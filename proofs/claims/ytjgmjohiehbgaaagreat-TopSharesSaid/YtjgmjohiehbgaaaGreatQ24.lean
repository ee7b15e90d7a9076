/- Part 24. -/
import Derived.Test.YtjgmjohiehbgaaaGreatQ23
namespace Go.Proofs.YtjgmjohiehbgaaaGreat
open Go.RowKit Go.Proofs.Tryz
set_option maxHeartbeats 20000000
set_option maxRecDepth 100000
set_option linter.all false
theorem Xb {l:List aU} (h:∀a∈l,0<=a.aQ) (k:Nat):0<=((l.take k).map aU.aQ).sum/\((l.take k).map aU.aQ).sum<=(l.map aU.aQ).sum:=by
 have nn:∀m:List aU,(∀a∈m,0<=a.aQ)->0<=(m.map aU.aQ).sum:=by
  intro m
  induction m with
  |nil=>intro _;simp
  |cons x m ih=>
   intro hm;have:=hm x sI;have:=ih (fun y hy=>hm y (by simp[hy]));rw[aG2,aI1];omega
 have:=nn (l.take k) (fun a ha=>h a (aG4 ha));have:=nn (l.drop k) (fun a ha=>h a (aI7 ha));have:(l.map aU.aQ).sum=((l.take k).map aU.aQ).sum+((l.drop k).map aU.aQ).sum:=by rw[<-List.sum_append,<-aE8,aD9]
 omega
theorem ab8 {w:World} {g:Nat} {A:Option Addr} {n c:Nat} {B:Option Addr} {m d:Nat} {p:dI} {r:Bool} (h:ai w g jq (bl A n c B m d p r)):w.rangeAt g 2 [I6 p.min,I6 p.max,I6 p.target,I6 p.lz,I6 p.bp,I6 p.hold]:=fun j v hv=>by
 have:j<6:=(d9.1 hv).1;rw[(h.cell (2+j)),<-hv];rcases(show j=0\/j=1\/j=2\/j=3\/j=4\/j=5 by omega)with rfl|rfl|rfl|rfl|rfl|rfl<;>rfl
theorem ab9:∀x:dI,∀u∈ET x,u.oneCell' = true:=by
 intro x u hu;simp[ET]at hu;rcases hu with rfl|rfl|rfl|rfl|rfl|rfl<;>rfl
theorem Xc:(prog.info? plT).map (fun i=>(i.zero,i.size,i.bytes))=some (some (.agg #[I6 0,I6 0,I6 0,I6 0,I6 0,I6 0]),6,48):=kZ
theorem Xd (c0 c1 c2 c3:Int) (A:Option Addr) (len cap:Nat) (rows:List (bq ak)) (wk:Int) (rA:Option Addr) (rn rc:Nat) (raw:List Int) (total:Int) (w:World) (i0:aw c0) (i1:aw c1) (i2:aw c2) (i3:aw c3) (hr:dK w 11 ak.cells A len cap rows) (hg:∀r∈rows,∀x∈r.l,bM x) (hwk:aw wk) (hs:dt w rA rn rc raw) (hg2:∀x∈raw,aw x) (UQ:aw total) :
 Calls prog 3 #[.agg #[I6 c0,I6 c1,I6 c2,I6 c3],.slice A len cap,I6 wk,.slice rA rn rc,I6 total] w (Rt (.bool true) (Bl w)):=by
 obtain⟨cf,rfl,rfl,rfl,rfl⟩:∃cf:aM,c0=cf.str/\c1=cf.dE/\c2=cf.lW/\c3=cf.iI:=⟨⟨c0,c1,c2,c3⟩,rfl,rfl,rfl,rfl⟩
 have hf:cf.fit:=⟨i0,i1,i2,i3⟩;have EX:=zD (zW w (.cells cf.row qw));have BX:=zD (ai.new w qw cf.row);have Ee:=zD (fun W (hb:Bl w W)=>Rv cf A len cap rows wk rA rn rc W (af hr.1 hb));have HR:=zD hr;have HG:=zD hg;have HS:=zD (And.intro hs hg2);have HF:=zD hf;have HT:=zD UQ;have hlen:=hr.1.1;have qB:=zD hlen;clear hr hg hs hg2 hf hwk i0 i1 i2 i3 UQ hlen;go_enter func3,ntmps3;go_upto_region 3 with(go_at_call 7;refine zM (Ru _) fun w1 hb1=>?_;have B1:=zD (zT EX.out hb1);have X1:=zD (BX.out.call hb1);clear hb1)
 cases hQ:(decide (cf.str<=8)&&kE rows wk rn)with
 |false=>
  have zu:=zD (fun W (hb:Bl w W)=>by have h9:=Ee.out W hb;rw[hQ]at h9;exact h9);clear hQ Ee;go_wp2_with(first
   |refine zI X1.out underlying23 ?_
   |(go_at_call 8;refine zM (zu.out _ B1.out) fun w2 hb2=>?_;have B2:=zD (zT B1.out hb2);clear hb2))
  go_ret;exact⟨rfl,B2.out⟩
 |true=>
 have zu:=zD (fun W (hb:Bl w W)=>by have h9:=Ee.out W hb;rw[hQ]at h9;exact h9);have h8:cf.str<=8/\kE rows wk rn=true:=by simpa using hQ
 have H8:=zD h8;clear hQ Ee h8
 by_cases h0:total<0
 ·have d0:decide (total<0)=true:=decide_eq_true h0
  go_wp2_with(first
   |refine zI X1.out underlying23 ?_
   |(go_at_call 8;refine zM (zu.out _ B1.out) fun w2 hb2=>?_;have B2:=zD (zT B1.out hb2);clear hb2))
  go_ret;exact⟨rfl,B2.out⟩
 by_cases h3:300<total
 ·have d0:decide (total<0)=false:=decide_eq_false h0
  have d1:decide (300<total)=true:=decide_eq_true h3;go_wp2_with(first
   |refine zI X1.out underlying23 ?_
   |(go_at_call 8;refine zM (zu.out _ B1.out) fun w2 hb2=>?_;have B2:=zD (zT B1.out hb2);clear hb2))
  go_ret;exact⟨rfl,B2.out⟩
 have d0:decide (total<0)=false:=decide_eq_false h0;have d1:decide (300<total)=false:=decide_eq_false h3;go_upto_region 5 with(first
  |refine zI X1.out underlying23 ?_
  |(go_at_call 8;refine zM (zu.out _ B1.out) fun w2 hb2=>?_;have B2:=zD (zT B1.out hb2);have X2:=zD (X1.out.call hb2);clear hb2))
 clear d0 d1 zu;have RR:len<=5:=by have h1:=(JK H8.out.2).2.1;have h2:=qB.out;omega
 by_cases rz:ix cf rows wk=0
 ·obtain⟨k,rfl⟩:∃k:Nat,wk=(k:Int):=⟨wk.toNat,by have:=(MK rz).2.1;omega⟩
  obtain⟨es,ids,u,o,rs,e1,e2,e3,hFi⟩:=EY HR.out HG.out HF.out H8.out.1 H8.out.2 rz HS.out.1 HS.out.2;have HFi:=zD hFi;have HE:=zD (And.intro e1 (And.intro e2 e3));have HC:=zD (MK rz).1;clear hFi e1 e2 e3 rz;go_upto_region 8 with(first
   |refine zI X2.out underlying23 ?_
   |(go_at_call 9;refine(HFi.out _ B2.out).mono ?_;rintro e w3 ⟨A3,n3,c3,A4,n4,c4,rfl,hs3,hb3⟩;have S3:=zD hs3;have B3:=zD (zT B2.out hb3);have X3:=zD (X2.out.call hb3);clear hs3 hb3))
  obtain⟨W4,JX⟩:=zE (w3.alloc (.cells #[.slice A3 n3 c3,I6 u,I6 o,.slice A4 n4 c4,.bool rs] outT));rw[<-JX];have C4:=zD (show Bl w3 W4 from by rw[JX];exact(Below.refl _ w3).alloc lR _);have B4:=zD (zT B3.out C4.out);have X4:=zD (X3.out.call C4.out);have o0:W4.cell? ⟨w3.heap.size,0,none⟩=some (.slice A3 n3 c3):=by rw[JX];exact(ai.new w3 _ _).ar (i:=0) rfl
  have HAf:=zD (Jv cf A3 n3 c3 es ids W4 (af S3.out C4.out) HF.out HC.out (by have h1:=S3.out.1;have h2:=HE.out.2.1;omega) (by have h1:=S3.out.1;have h2:=HE.out.1;omega) HE.out.2.2);obtain⟨m,hm⟩:=zE (Ju (Fm.new cf) (es.zip ids));have HMI:=zD (show rB cf m (es.zip ids).length from by
   have h1:=rB.st HC.out HE.out.2.2 (es.zip ids).length;rw[List.take_length,<-hm]at h1;exact h1)
  have HMR:=zD (show iy m from HMI.out.room HC.out (by rw[List.length_zip];have:=HE.out.2.1;omega));rw[<-hm]at HAf;clear JX hm;go_upto_region 12 with(first
   |refine zI X4.out underlying23 ?_
   |go_at_call 10;refine HAf.out.mono ?_;rintro e w5 ⟨g,mp,A5,n5,c5,l5,rfl,hf5,-,-,dx⟩;have F5:=zD hf5;have B5:=zD (zT B4.out dx);clear hf5 dx
   |(go_at_call 11;refine(Jp F5.out).mono ?_;rintro e w6 ⟨v6,rfl,tA,dJ⟩;obtain⟨A6,n6,c6,rfl,Xk,uZ⟩:=tA.shape (fun _=>rfl);have S6:=zD uZ;have N6:=zD Xk;have F6:=zD (F5.out.call dJ);have B6:=zD (zT B5.out dJ);clear tA dJ uZ Xk))
  have tB:=zD (show n6<=100000 from by have h1:=N6.out;rw[y6]at h1;have h2:=F6.out.b.len;omega);obtain⟨L6,hL6⟩:=zE (pX m.ks);have HL6:=zD hL6;rw[<-hL6]at S6 N6;clear hL6 o0 HAf X4 qB RR;go_loopw[14,15,61] (fun ls qs is wr=>∃(k:Nat) (lA:Option Addr) (ln lc:Nat) (qA:Option Addr) (qn qc:Nat),k<=n6/\is = I6 (k:Int)/\ls=.slice lA ln lc/\qs=.slice qA qn qc/\
   Own wr w6.heap.size BD 5 aU.cells (.slice lA ln lc) ((wA m (L6.take k)).map (·.1))/\Own wr w6.heap.size plT 6 ET (.slice qA qn qc) ((wA m (L6.take k)).map (·.2))/\
   (∀q,(Value.slice lA ln lc).ownBlock=some q->(Value.slice qA qn qc).ownBlock≠some q)/\Bl w6 wr) (fun _ _ is _=>n6-(intOf is).toNat)
  case atStart=>exact⟨0,none,0,0,none,0,0,aB6 _,rfl,rfl,rfl,Own.nil _ _ _ _ _,Own.nil _ _ _ _ _,fun q e=>by simp[Value.ownBlock]at e,Below.refl _ _⟩
  case round=>
   obtain⟨k,lA,ln,lc,qA,qn,qc,hk,rfl,rfl,rfl,hol,hoq,hne,hb⟩:=hrel;have Xp:=zD hol;have HOq:=zD hoq;have mW:=zD hne;have HB:=zD hb;clear hol hoq hne hb
   by_cases hlt:k<n6
   ·obtain⟨b,off,s,rfl,hs,fH,hcl⟩:=ag.at_ (af S6.out HB.out) hlt
    have q0:wr.cell? ⟨b,off+k,none⟩=some (.string s):=by have h9:=hcl 0 _ rfl;simpa[Wo]using h9
    have hin:s∈m.ks:=(y7 m.ks s).1 (by rw[<-HL6.out];exact aB7 hs);have FR:=F6.out.call HB.out;have Nw:s.size<=maxLen:=by obtain⟨f,hf⟩:=FR.b.map;exact hf.map.good s hin
    have hsz:=Wl HMR.out.ok s;have HLd:=zD (uL FR.b s Nw oM oM);have fG:=zD (RJ (m:=m) hs);have:(k:Int)<(n6:Int):=oM
    have:=tB.out;have at9:=zD (show(m.M s).getD eF=m.get s from rfl);have UZ:=zD hsz.2;rw[at9.out]at HLd UZ;have HSq:=zD (show ML m s=(m.get s).past.getLast?.map fun a=>(a,(m.get s).cM)from rfl);clear hs fH hcl hin FR Nw hsz at9;generalize m.M s=MS at *;generalize m.get s=x at *;go_upto_region 15 with(go_at_call 12;refine HLd.out.mono ?_;rintro e w7 ⟨v7,rfl,⟨A7,n7,c7,D7,m7,d7,rfl,-,hP7,-⟩,lV⟩;have P7:=zD (hP7.is (fun _=>rfl));have B7:=zD lV;clear hP7 lV)
    obtain⟨W8,Br⟩:=zE (w7.alloc (.cells (bl A7 n7 c7 D7 m7 d7 x.cM x.nM) jq));rw[<-Br];have G8:=zD (show ai W8 w7.heap.size jq (bl A7 n7 c7 D7 m7 d7 x.cM x.nM)from by rw[Br];exact ai.new _ _ _);have C8:=zD (show Bl wr W8 from by rw[Br];exact B7.out.alloc B7.out.size _);have P8:=zD (show dB W8 D7 m7 d7 x.past from by rw[Br];exact af P7.out ((Below.refl _ w7).alloc lR _));have g1:=G8.out.z 1 (.slice D7 m7 d7);have Ol8:=zD (Xp.out.call C8.out);have Oq8:=zD (HOq.out.call C8.out);have B8:=zD (zT HB.out C8.out);have:=zD (show w6.heap.size<=w7.heap.size from aB4 HB.out.size B7.out.size);clear Br q0;rcases Nat.eq_zero_or_pos m7 with hm0|hm0
    ·have Cv:¬(0:Int)<(m7:Int):=oM
     have HQn:=zD (show ML m s=none from by
      rw[HSq.out,aC0 (P8.out.1.trans hm0)];rfl)
     clear hm0;go_wp2;go_roundw
     case rel=>exact⟨k+1,lA,ln,lc,qA,qn,qc,oM,by go_num,rfl,rfl,by rw[fG.out,HQn.out];simpa using Ol8.out,by rw[fG.out,HQn.out];simpa using Oq8.out,mW.out,B8.out⟩
     case measure=>simp[intOf];omega
    ·obtain⟨j,rfl⟩:∃j,m7=j+1:=⟨m7-1,oM⟩
     obtain⟨bd,od,a,rfl,ha,hbd,hcd⟩:=ag.at_ P8.out (k:=j) oM;have mC:=zD (show W8.rangeAt bd (od+j*5) [I6 a.tick,I6 a.load,I6 a.want,I6 a.aQ,I6 a.why]from fun i v hv=>by have h9:=hcd i v hv;rw[<-aD0]at h9;exact h9);have HQs:=zD (show ML m s=some (a,x.cM)from by
      rw[HSq.out,List.getLast?_eq_getElem?,show x.past.length-1=j by have:=P8.out.1;omega,ha];rfl)
     have Cv:(0:Int)<((j+1:Nat):Int):=oM
     have ej:((j+1:Nat):Int)-1=(j:Int):=oM
     have ej2:(j:Int)+1-1=(j:Int):=oM
     have hji:(j:Int)<((j+1:Nat):Int):=oM
     have:j<=1000:=by have h1:=P8.out.1;have h2:=UZ.out;omega
     have qf:=zD (show((wA m (L6.take k)).map (·.1)).length<1000000/\((wA m (L6.take k)).map (·.2)).length<1000000 from by
      have h1:(wA m (L6.take k)).length<=(L6.take k).length:=List.length_filterMap_le _ _;rw[aD5,aD5];have h2:(L6.take k).length<=k:=by rw[aC3];omega
      have h3:=tB.out;omega)
     clear hm0 ha hbd hcd HSq;go_upto_region 17 with(first
      |refine wpList_load_mid rfl BD (.tmp 82) rfl bd (od+j*5) rfl [I6 a.tick,I6 a.load,I6 a.want,I6 a.aQ,I6 a.why] _ mC.out underlying49 rfl kZ ?_
      |(at_builtin;refine cU _ rfl (.tmp 75) (.tmp 84) 37 rfl w6.heap.size BD _ 5 40 _ underlying37 lU rF dC (fun _=>rfl) mJ (.slice lA ln lc) _ rfl (Ol8.out.alloc _) ⟨W8.heap.size,0,none⟩ 1 a rfl (br (α:=aU) (vs:=aU.cells a) (ai.new W8 BD _) rfl) qf.out.1 dC (by have:=B8.out.size;simp;omega) ?_;intro v9 w9 ho9 hu9 hw9;obtain⟨A9,n9,c9,rfl,-,-⟩:=ho9.shape (fun _=>rfl);have O9:=zD ho9;have U9:=zD hu9;have W9:=zD hw9;clear ho9 hu9 hw9))
     obtain⟨W8a,ac0⟩:=zE (W8.alloc (.cells #[I6 a.tick,I6 a.load,I6 a.want,I6 a.aQ,I6 a.why] BD));have au0:=zD (fun q (e:(Value.slice lA ln lc).ownBlock=some q)=>Xp.out.lt q e);have au1:=zD (fun q (e:(Value.slice qA qn qc).ownBlock=some q)=>HOq.out.lt q e);have hz8:wr.heap.size<=W8.heap.size/\w7.heap.size<W8.heap.size/\W8a.heap.size=W8.heap.size+1/\wr.heap.size<=w7.heap.size:=⟨C8.out.size,G8.out.lt,by rw[ac0];simp,B7.out.size⟩;have G9:=zD ((G8.out.alloc (.cells #[I6 a.tick,I6 a.load,I6 a.want,I6 a.aQ,I6 a.why] BD)).upd U9.out (fun e=>by have:=au0.out _ e;omega));have Oq9:=zD ((Oq8.out.alloc (.cells #[I6 a.tick,I6 a.load,I6 a.want,I6 a.aQ,I6 a.why] BD)).upd U9.out (fun q e e2=>mW.out q e2 e));have B9:=zD (show Bl w6 w9 from(B8.out.alloc B8.out.size (.cells #[I6 a.tick,I6 a.load,I6 a.want,I6 a.aQ,I6 a.why] BD)).trans (U9.out.below (fun q e=>(au0.out q e).1) (aB4 B8.out.size sI)));have HPr:=zD (ab8 G9.out);have W9':=zD (show(Value.slice A9 n9 c9).ownBlock=(Value.slice lA ln lc).ownBlock\/(Value.slice A9 n9 c9).ownBlock=some W8a.heap.size from by rw[ac0];exact W9.out);have HZ8:=zD hz8;have:=zD (show W8a.heap.size<=w9.heap.size from by rw[ac0];exact U9.out.size);clear ac0 hz8 W9 ej ej2 hji Cv g1;go_wp2_with(first
      |refine wpList_load_mid rfl plT (.tmp 87) rfl w7.heap.size 2 rfl [I6 x.cM.min,I6 x.cM.max,I6 x.cM.target,I6 x.cM.lz,I6 x.cM.bp,I6 x.cM.hold] _ HPr.out underlying43 rfl kZ ?_
      |(at_builtin;refine cU _ rfl (.tmp 86) (.tmp 89) 38 rfl w6.heap.size plT _ 6 48 _ underlying38 Xc rF dC (fun _=>rfl) ab9 (.slice qA qn qc) _ rfl (Oq9.out.alloc _) ⟨w9.heap.size,0,none⟩ 1 x.cM rfl (br (α:=dI) (vs:=ET x.cM) (ai.new w9 plT _) rfl) qf.out.2 dC (by have:=B9.out.size;simp;omega) ?_;intro v10 w10 ho10 hu10 hw10;obtain⟨A10,n10,c10,rfl,-,-⟩:=ho10.shape (fun _=>rfl);have O10:=zD ho10;have U10:=zD hu10;have W10:=zD hw10;clear ho10 hu10 hw10))
     go_roundw
     case rel=>
      have hlq:∀q,(Value.slice A9 n9 c9).ownBlock=some q->(Value.slice qA qn qc).ownBlock≠some q:=fun q e e2=>by
       rcases W9'.out with h9|h9
       ·exact mW.out q (h9 ▸ e) e2
       ·rw[h9]at e;injection e with e;have h1:=au1.out q e2;have h2:=HZ8.out;omega
      refine⟨k+1,A9,n9,c9,A10,n10,c10,oM,by go_num,rfl,rfl,?_,?_,fun q e e2=>?_,?_⟩
      ·rw[fG.out,HQs.out]
       have h1:=(O9.out.alloc (.cells (ET x.cM).toArray plT)).upd U10.out (fun q e e2=>hlq q e e2)
       simpa using h1
      ·rw[fG.out,HQs.out]
       simpa using O10.out
      ·rcases W10.out with h10|h10
       ·exact hlq q e (h10 ▸ e2)
       ·rw[h10]at e2
        injection e2 with e2
        have h1:=(O9.out.lt q e).2;simp at e2;omega
      ·exact(B9.out.alloc B9.out.size (.cells (ET x.cM).toArray plT)).trans (U10.out.below (fun q e=>(au1.out q e).1) (aB4 B9.out.size sI))
     case measure=>simp[intOf];omega
   ·have: ¬(k:Int)<(n6:Int):=oM
    have Mw:L6.take k=L6:=aB5 (by have:=N6.out;omega);obtain⟨sl,gU⟩:=zE (wA m L6);have Ko:=zD (show ∀p∈sl,aw p.1.aQ/\aw p.2.min from by rw[gU];exact RL HMI.out L6);have hl1:ag wr 5 aU.cells lA ln lc (sl.map (·.1)):=by have h9:=Xp.out;rw[Mw,<-gU]at h9;exact h9.is (fun _=>rfl)
    have hq1:ag wr 6 ET qA qn qc (sl.map (·.2)):=by have h9:=HOq.out;rw[Mw,<-gU]at h9;exact h9.is (fun _=>rfl)
    have hqn:qn=ln:=by have h1:=hl1.1;have h2:=hq1.1;rw[aD5]at h1 h2;omega
    subst hqn;have au2:qn<=100000:=by
     have h1:=hl1.1;rw[aD5,gU]at h1;have h2:(wA m L6).length<=L6.length:=List.length_filterMap_le _ _;have h3:=tB.out;have:=N6.out;omega
    have Xx:=zD hl1;have HQ1:=zD hq1;have HFt:=zD (ab7 total lA qn lc (sl.map (·.1)) qA qc (sl.map (·.2)) wr hl1 hq1 (fun a ha=>by obtain⟨p,hp,rfl⟩:=aG9.1 ha;exact(Ko.out p hp).1) (fun a ha=>by obtain⟨p,hp,rfl⟩:=aG9.1 ha;exact(Ko.out p hp).2) au2 HT.out);have BW:=zD (zT B6.out HB.out);clear Mw gU hl1 hq1 Xp HOq mW HB S6 Ko;go_upto_region 20 with(go_at_call 13;refine HFt.out.mono ?_;rintro e w11 (⟨E,hE,rfl,ac1⟩|⟨fA,fn,fc,out,rfl,ac2,aA1,al5,JI,ac1⟩))
    ·have:(E != 0)=true:=by simpa using hE
     go_wp2;go_ret;exact⟨rfl,zT BW.out ac1⟩
    ·have hfn:fn=qn:=by have h1:=ac2.1;have h2:=Xx.out.1;omega
     subst hfn;have S11:=zD ac2;have HH:=zD al5;have B11:=zD ac1;have YI:∀a∈out,0<=a.aQ:=fun a ha=>by
      obtain⟨i,hi⟩:=aD1 ha;have:=(d9.1 hi).1;have h1:=Xx.out.1;have h2:=HQ1.out.1;have h3:=ac2.1;exact(al5 i a ((sl.map (·.1))[i]'oM) ((sl.map (·.2))[i]'oM) hi (aB3 _) (aB3 _)).2.2
     have aA2:=zD (fun k=>Xb YI k);have TX:=zD JI;clear ac2 aA1 al5 JI ac1 YI;go_wp2;go_loopw[22,111] (fun ss is wr2=>∃(k:Nat) (S:Int),k<=fn/\is = I6 (k:Int)/\ss = I6 S/\S=((out.take k).map aU.aQ).sum/\Bl w11 wr2) (fun _ is _=>fn-(intOf is).toNat)
     case atStart=>exact⟨0,0,aB6 _,rfl,rfl,sI,Below.refl _ _⟩
     case round=>
      obtain⟨k,S,hk,rfl,rfl,hS,hb⟩:=hrel;have HB:=zD hb;have vY:=zD hS;have HBr:=zD (zT B11.out hb);clear hb hS
      by_cases hlt:k<fn
      ·obtain⟨b,off,y,rfl,hy,fH,hcl⟩:=ag.at_ (af S11.out HB.out) hlt
       obtain⟨b2,gY,x,rfl,hx,yP,JF⟩:=ag.at_ (af Xx.out HBr.out) hlt;obtain⟨b3,WX,p,rfl,hp,WZ,Xa⟩:=ag.at_ (af HQ1.out HBr.out) hlt;have mC:=zD (show wr.rangeAt b (off+k*5) [I6 y.tick,I6 y.load,I6 y.want,I6 y.aQ,I6 y.why]from fun i v hv=>by have h9:=hcl i v hv;rw[<-aD0]at h9;exact h9);obtain⟨W1,hW1⟩:=zE (wr.alloc (.cells #[I6 y.tick,I6 y.load,I6 y.want,I6 y.aQ,I6 y.why] BD));have E1:=zD (show Bl wr W1 from by rw[hW1];exact(Below.refl _ wr).alloc lR _);have y3:W1.cell? ⟨wr.heap.size,3,none⟩=some (I6 y.aQ):=by rw[hW1];exact(ai.new wr _ _).ar (i:=3) rfl
       have x3:W1.cell? ⟨b2,gY+k*5+3,none⟩=some (I6 x.aQ):=(E1.out.cell (p:=⟨b2,gY+k*5+3,none⟩) yP).trans (by rw[aD0];exact JF 3 _ rfl);have p0:W1.cell? ⟨b3,WX+k*6,none⟩=some (I6 p.min):=(E1.out.cell (p:=⟨b3,WX+k*6,none⟩) WZ).trans (Xa 0 _ rfl);obtain⟨h1,h2,h3⟩:=HH.out k y x p hy hx hp;have d1:decide (x.aQ<y.aQ)=false:=decide_eq_false oM;have d2:decide (y.aQ<min p.min x.aQ)=false:=decide_eq_false oM;have rk:((out.take (k+1)).map aU.aQ).sum=S+y.aQ:=by rw[dP hy,aE8,List.sum_append,vY.out];simp
       have SZ:=(aA2.out (k+1));rw[rk]at SZ;have aA3:=TX.out;have:wrap64 (S+y.aQ)=S+y.aQ:=IntWalk.wrap64_in _ oM;have fG:=zD rk;have:(k:Int)<(fn:Int):=oM
       have E9:=zD (zT HB.out E1.out);have:=au2;clear hy hx hp fH yP WZ hcl JF Xa h1 h2 h3 rk SZ aA3;go_upto_region 28 with(refine wpList_load_mid rfl BD (.tmp 114) rfl b (off+k*5) rfl [I6 y.tick,I6 y.load,I6 y.want,I6 y.aQ,I6 y.why] _ mC.out underlying49 rfl kZ ?_)
       rw[<-hW1];clear hW1;go_quiet(fail);have: (W1.drewN nq).cell? ⟨wr.heap.size,3,none⟩=some (I6 y.aQ):=y3;clear y3 x3 p0 d1 d2;go_wp2;go_roundw
       case rel=>exact⟨k+1,S+y.aQ,oM,by go_num,by go_num,fG.out.symm,below_drewN E9.out nq⟩
       case measure=>simp[intOf];omega
      ·have: ¬(k:Int)<(fn:Int):=oM
       have Mw:out.take k=out:=aB5 (by have:=S11.out.1;omega);have hle:S<=total:=by rw[vY.out,Mw];exact TX.out
       have:decide (S<=total)=true:=decide_eq_true hle;clear Mw;go_wp2;go_ret;exact⟨rfl,zT BW.out HBr.out⟩
 ·have HE:=zD (wy cf A len cap rows wk (.slice rA rn rc) w2 (HR.out.keep B2.out) HF.out rz oM)
  have:(ix cf rows wk != 0)=true:=by simpa using rz
  generalize ix cf rows wk=E at *;clear rz;go_wp2_with(first
   |refine zI X2.out underlying23 ?_
   |(go_at_call 9;refine HE.out.mono ?_;rintro e w3 ⟨rfl,hb3⟩;have B3:=zD (zT B2.out hb3);clear hb3))
  go_ret;exact⟨rfl,B3.out.alloc B3.out.size _⟩
end Go.Proofs.YtjgmjohiehbgaaaGreat
