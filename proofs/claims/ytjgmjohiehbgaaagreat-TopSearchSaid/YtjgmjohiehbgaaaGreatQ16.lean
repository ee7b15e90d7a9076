/- Part 16. -/
import Derived.Test.YtjgmjohiehbgaaaGreatQ15
namespace Go.Proofs.YtjgmjohiehbgaaaGreat
open Go.RowKit Go.Proofs.Tryz
set_option maxHeartbeats 20000000
set_option maxRecDepth 100000
set_option linter.all false
variable{A sp:Option Addr}{K:Key}{W:Gw}{a cc g gw i n s:Nat}{at_ k:Int}{c c':bh}{cf:aM}{l:List iM}{ov:Value}{q2:Wq}{w w':World}{x:Cl}{y:Ld}
theorem Iz(h:mB w c g gw i A n cc ov at_ x)(hg:bD w c gw W)(hl:W.ay.length<=1000)(hw:aw x.wants)(ht:aw x.task):
 Calls prog 335 #[pt g] w (Rt (.bool (x.ready W)) (Bl w)):=by
 have HO:=(λW1 (hb:Bl w W1)=>Ef (h.call hb));have HB:=h.blk;have HH:=(λW1 (hb:Bl w W1)=>Ec (hg.call hb) hl x.wants x.task hw ht);obtain⟨R,hR⟩:=zE (x.ready W);rw[<-hR];unfold Cl.ready at hR;cases ho:x.over
 ·rw[ho]at hR HO
  simp only[Bool.not_false,Bool.true_and]at hR
  by_cases hw0:x.wants<0
  ·have HR:=zD (show R=true from by rw[hR,decide_eq_true hw0];rfl)
   rw[HR.out];have:decide (x.wants<0)=true:=decide_eq_true hw0;clear h hg hR ho;go_enter func335,ntmps335;go_upto_region 1 with fail
   refine zB λS0=>?_
   refine zq 26 [0] [_] S0 ?_;refine zQ 1 ?_;go_wp2_with(go_at_call 334;refine zM (HO _ (S0)) λw1 hb1=>?_);refine .i (zT S0 hb1) ?_;have S1:=zT S0 hb1;refine zq 20 [2,3,4,5,6] [.bool true,.bool true,_,_,_] S1 ?_;refine zk 15 [7,8,9,10,11] [I6 x.wants,.bool true,.bool true,undef,undef] (.q (zS λ_ h=>(HB.call h).z 6 (I6 x.wants))<|.q zX<|.q zX<|.q zw<|.q zw .nil) S1 ?_;refine zk 10 [12,13,14,15,16] [undef,undef,undef,undef,undef] (.q zw<|.q zw<|.q zw<|.q zw<|.q zw .nil) S1 ?_;refine zk 5 [17,18,19,20,21] [undef,undef,undef,undef,undef] (.q zw<|.q zw<|.q zw<|.q zw<|.q zw .nil) S1 ?_;refine zk 0 [22,23,24,25,26] [undef,undef,.bool true,.bool true,.bool true] (.q zw<|.q zw<|.q zX<|.q zX<|.e) S1 ?_;refine zd ?_;have U:=S1;clear S0 S1 hb1;go_wp2;go_ret;exact⟨rfl,U⟩
  ·obtain⟨K,hK⟩:=zE (W.held x.wants x.task)
   have HR:=zD (show R=(K != 0)from by rw[hR,decide_eq_false hw0,<-hK];by_cases e:K=0<;>simp[e])
   rw[HR.out];rw[<-hK]at HH;have:decide (x.wants<0)=false:=decide_eq_false hw0;clear h hg hR ho hK;go_enter func335,ntmps335;go_upto_region 1 with fail
   refine zB λS0=>?_
   refine zq 26 [0] [_] S0 ?_;refine zQ 1 ?_;go_wp2_with(go_at_call 334;refine zM (HO _ (S0)) λw1 hb1=>?_);refine .i (zT S0 hb1) ?_;have S1:=zT S0 hb1;refine zq 20 [2,3,4,5,6] [.bool true,.bool true,_,_,_] S1 ?_;refine zk 15 [7,8,9,10,11] [I6 x.wants,.bool false,.bool false,_,_] (.q (zS λ_ h=>(HB.call h).z 6 (I6 x.wants))<|.q zX<|.q zX<|.q zX<|.e) S1 ?_;refine zk 10 [12,13,14,15,16] [_,pt gw,_,_,_] (.q zX<|.q (zS λ_ h=>(HB.call h).z 0 (pt gw))<|.q zX<|.q zX<|.e) S1 ?_;refine zk 5 [17,18,19,20,21] [I6 x.wants,_,_,_,I6 x.task] (.q (zS λ_ h=>(HB.call h).z 6 (I6 x.wants))<|.q zX<|.q zX<|.q zX<|.q (zS λ_ h=>(HB.call h).z 3 (I6 x.task)) .nil) S1 ?_;refine zQ 22 ?_;go_wp2_with(go_at_call 204;refine zN (HH _ (S1)) ?_);refine .i S1 ?_;refine zq 0 [23,24,25,26] [.bool (K != 0),.bool (K != 0),.bool (K != 0),.bool (K != 0)] S1 ?_;refine zd ?_;have U:=S1;clear S0 S1 hb1;go_wp2;go_ret;exact⟨rfl,U⟩
 ·rw[ho]at hR HO
  simp only[Bool.not_true,Bool.false_and]at hR;subst hR;clear h hg ho;go_enter func335,ntmps335;go_upto_region 1 with fail
  refine zB λS0=>?_
  refine zq 26 [0] [_] S0 ?_;refine zQ 1 ?_;go_wp2_with(go_at_call 334;refine zM (HO _ (S0)) λw1 hb1=>?_);refine .i (zT S0 hb1) ?_;have S1:=zT S0 hb1;refine zk 20 [2,3,4,5,6] [.bool false,.bool false,undef,undef,undef] (.q zX<|.q zX<|.q zw<|.q zw<|.q zw .nil) S1 ?_;refine zk 15 [7,8,9,10,11] [undef,undef,undef,undef,undef] (.q zw<|.q zw<|.q zw<|.q zw<|.q zw .nil) S1 ?_;refine zk 10 [12,13,14,15,16] [undef,undef,undef,undef,undef] (.q zw<|.q zw<|.q zw<|.q zw<|.q zw .nil) S1 ?_;refine zk 5 [17,18,19,20,21] [undef,undef,undef,undef,undef] (.q zw<|.q zw<|.q zw<|.q zw<|.q zw .nil) S1 ?_;refine zk 0 [22,23,24,25,26] [undef,undef,undef,.bool false,.bool false] (.q zw<|.q zw<|.q zw<|.q zX<|.e) S1 ?_;refine zd ?_;have U:=S1;clear S0 S1 hb1;go_wp2;go_ret;exact⟨rfl,U⟩
def Eg{l:List ak}(h:ag w 11 ak.cells A n cc l){j:Nat}(hj:j<l.length): ∃b off,A=some ⟨b,off,none⟩/\b<w.heap.size/\j<n/\∀w' : World,w'.heap[b]? = w.heap[b]?->w'.rangeAt b (off+j*11) (ak.cells (l.getD j iU)):=by
 obtain⟨b,off,x,h1,h2,h3,h4⟩:=ag.at_ h (show j<n by have:=h.1;omega);have e:l.getD j iU=x:=by rw[aB7,h2];rfl
 refine⟨b,off,h1,h3,by have h9:=h.1;omega,λw' hb i v hv=>?_⟩;rw[e]at hv;have:=h4 i v hv;rw[aD9];exact(World.cell?_of_block (w:=w) hb).trans this
theorem yF{a:Act}{o:Oper}{x i:Operand}{off c k:Nat}(ho:o.op=.indexAddr 58 x i)(hx:a.eval x=.slice (some ⟨g,off,none⟩) n c)(hi:a.eval i = I6 (k:Int))(hk:k<n):(execOp a.eval o).run prog w=.ok (.value (.pointer (some ⟨g,off+k*11,none⟩))) w:=by
 unfold execOp;have:(0:Int)<=(k:Int):=oM
 have:(k:Int)<(n:Int):=oM
 simp only[ho,hx,hi];go_simp
abbrev Qw:Array Value:=#[I6 0,I6 0,I6 0,I6 0,.string ⟨#[]⟩,I6 0,I6 0,I6 0,I6 0,I6 0,I6 0,I6 0,I6 0,I6 0,I6 0,I6 0,I6 0,I6 0,I6 0,I6 0,I6 0,I6 0,I6 0,I6 0,I6 0,I6 0,I6 0,V6 0,V6 0,I6 0,I6 0,I6 0,I6 0,I6 0]
def mB.ai2(h:mB w c g gw i A n cc ov at_ x):w.rangeAt g 7 x.rep.row.toList:=λi v hv=>by
 rw[h.blk.cell];have e:(qp gw A n cc ov at_ x).toList.drop 7=x.rep.row.toList:=rfl;rw[<-e,aE5]at hv;rw[<-aG0];exact hv
def EvP(c:bh)(g gw i:Nat)(A:Option Addr)(n cc:Nat)(ov:Value)(at_:Int)(x:Cl)(W:Gw)(w w' : World):Prop:=∃c',bD w' c' gw W/\mB w' c' g gw i A n cc ov at_ x/\ae dL w w' c c'
theorem sJ{K:Int}(h:mB w c g gw i A n cc ov at_ x)(hg:bD w c gw W)(hc:∀k,w.heap.size<=k->c k=none)(hl:W.evs.length<100000)(hK:(K=1\/K=2)/\x.nth<x.prog.length\/K=3):
 Calls prog 341 #[pt g,I6 K] w λe w'=>e=.returned (.tuple #[])/\EvP c g gw i A n cc ov at_ x (W.note (x.ev K)) w w':=by
 have H0:=h;have H0_:=h;have G0:=hg;have HC:=hc;have HL:=hl;clear h hg hc hl;go_enter func341,ntmps341;go_upto_region 0 with fail
 refine zB λS0=>?_
 refine zk 7 [0,1,2,3,4] [I6 K,pt g,pt g,.pointer (some ⟨g,3,none⟩),I6 x.task] (.q zX<|.q zX<|.q zX<|.q zX<|.q (zS λ_ h=>(H0.blk.call h).z 3 (I6 x.task)) .nil) S0 ?_;refine zk 2 [5,6,7,8,9] [pt g,pt g,.pointer (some ⟨g,4,none⟩),I6 (x.nth:Int),.agg (#[I6 K,I6 x.task,I6 (x.nth:Int),I6 0,.string ⟨#[]⟩,I6 0,I6 0,I6 0,I6 0,I6 0,I6 0,I6 0,I6 0,I6 0,I6 0,I6 0,I6 0,I6 0,I6 0,I6 0,I6 0,I6 0,I6 0,I6 0,I6 0,I6 0,I6 0,V6 0,V6 0,I6 0,I6 0,I6 0,I6 0,I6 0])] (.q zX<|.q zX<|.q zX<|.q (zS λ_ h=>(H0.blk.call h).z 4 (I6 (x.nth:Int)))<|.e) S0 ?_;refine zQ 10 ?_;obtain⟨G,hG,bG,lG⟩:=dp (S:=S0) (Qw) 93;go_wp2_with fail;refine .i (S0.alloc S0.size _) ?_
 (try simp only[hG])
 clear hG;have SG:=S0.alloc S0.size (.cells (Qw) 93);refine zQ 11 ?_;go_wp2_with(refine zJ (bG) ?_;intro uG p9 jH);refine .i (SG.trans (Only.below jH lG SG.size)) ?_;have jf:=SG.trans (Only.below jH lG SG.size);refine zd ?_;have B1:Bl w uG:=jf;have C1:=ae.aa dL c HC jf;have H1:=H0.call jf;have W1:=G0.call jf;have U1:nU uG c G eL (#[I6 K,I6 x.task,I6 (x.nth:Int),I6 0,.string ⟨#[]⟩,I6 0,I6 0,I6 0,I6 0,I6 0,I6 0,I6 0,I6 0,I6 0,I6 0,I6 0,I6 0,I6 0,I6 0,I6 0,I6 0,I6 0,I6 0,I6 0,I6 0,I6 0,I6 0,V6 0,V6 0,I6 0,I6 0,I6 0,I6 0,I6 0]):=⟨p9,HC G lG⟩;have LG:=lG;clear S0 SG jf p9 jH bG lG H0 G0;obtain⟨K1,hK1⟩:=zE K;rcases hK with⟨rfl|rfl,hp⟩|rfl
 all_goals
  first
  |(
   obtain⟨pb,po,hA,ap4,RS,hrg⟩:=Eg H0_.prog hp;subst hA;have mC:=hrg;have HPb:=ap4;obtain⟨CA,hCA⟩:=zE x.call;clear hrg ap4;go_upto_region 2 with fail
   refine zr (λ_=>false) (λwS=>ah (λj=>j=G) uG wS) ?_;have S0:=(ah.refl (λj=>j=G) uG).drew;refine zk 7 [0,1,2,3,4] [pt g,pt g,.pointer (some ⟨g,1,none⟩),.slice (some ⟨pb,po,none⟩) n cc,pt g] (.q zX<|.q zX<|.q zX<|.q (zS λ_ h=>(H1.blk.upd h (λe=>by have h5:=H1.cg;rw[e,U1.no]at h5;cases h5)).z 1 (.slice (some ⟨pb,po,none⟩) n cc))<|.e) S0 ?_;refine zk 2 [5,6,7,8,9] [pt g,.pointer (some ⟨g,4,none⟩),I6 (x.nth:Int),.pointer (some ⟨pb,po+x.nth*11,none⟩),.agg (ak.cells x.call).toArray] (.c rfl rfl zp<|.c rfl rfl zp<|.c rfl rfl (zl λ_ h=>by have c:=(H1.blk.upd h (λe=>by have h5:=H1.cg;rw[e,U1.no]at h5;cases h5)).z 4 (I6 (x.nth:Int));go_simp)<|.c rfl rfl (zl λ_ _=>yF rfl rfl rfl RS)<|.c rfl rfl (zl λ_ h=>aF (ty:=nV) (x:=.tmp 25) rfl rfl (run_loadAt_mid _ _ _ _ _ _ (mC _ ((h.block pb (aB9 HPb B1.size) (λe=>by have h5:=H1.cp _ rfl;rw[show(⟨pb,po,none⟩:Addr).block=pb from rfl,e,U1.no]at h5;cases h5)).trans (B1.block pb HPb))) underlying65 rfl kZ)) .nil) S0 ?_;refine zq 1 [10] [.pointer (some ⟨G,3,none⟩)] S0 ?_;refine zQ 11 ?_;go_wp2_with(refine cu rfl nV (.tmp 27) (.tmp 26) rfl G 3 eL _ _ rfl rfl (U1.blk.call bR.drew) (by simp[ak.cells,aj]) kZ (by simp[ak.cells,aj,Value.oneCell']) ?_;intro u2 iO hw2);refine .i ((S0).grown hw2 (λk e=>by injection e with e;exact .inl e.symm)) ?_;have S2:=(S0).grown hw2 (λk e=>by injection e with e;exact .inl e.symm);refine zd ?_;have UG:=ah.bE hw2;have hno:∀k,k=G->c k=none:=λk e=>by rw[e];exact U1.no
   have H2:=H1.off (S2) hno;have W2:=W1.off (S2) hno;have C2:=C1.own (S2) (λk e=>e▸LG);have U2:nU u2 c G eL (Ev.row ⟨K1,x.task,(x.nth:Int),CA,eo,nO,eU⟩):=⟨by subst hK1 hCA;exact iO,U1.no⟩;clear S0 S2 iO hw2 UG hno H1 W1 C1 U1 B1
   skip)
  |(
   obtain⟨CA,hCA⟩:=zE iU;have U2:nU uG c G eL (Ev.row ⟨K1,x.task,(x.nth:Int),CA,eo,nO,eU⟩):=by subst hK1 hCA;exact U1
   have H2:=H1;have W2:=W1;have C2:=C1;clear H1 W1 C1 U1 B1;generalize uG=u2 at *)
 all_goals
  first
  |(
   go_upto_region 5 with(first
    |refine wpList_load_mid rfl mi (.tmp 32) rfl g 7 rfl x.rep.row.toList _ H2.ai2 underlying70 rfl kZ ?_
    |(refine cu rfl mi (.tmp 34) (.tmp 33) rfl G 14 eL _ _ rfl rfl (U2.blk) (by simp[kO.row]) kZ (by simp[kO.row,Value.oneCell']) ?_;intro u4 Vq Qx))
   obtain⟨RE,hRE⟩:=zE x.rep;have UG:=ah.bE Qx;have hno:∀k,k=G->c k=none:=λk e=>by rw[e];exact U2.no
   have H4:=H2.off (UG) hno;have W4:=W2.off (UG) hno;have C4:=C2.own (UG) (λk e=>e▸LG);have U4:nU u4 c G eL (Ev.row ⟨K1,x.task,(x.nth:Int),CA,RE,nO,eU⟩):=⟨by subst hRE;exact Vq,U2.no⟩;clear Vq Qx UG hno H2 W2 C2 U2)
  |(
   go_upto_region 5 with fail
   obtain⟨RE,hRE⟩:=zE eo;have U4:nU u2 c G eL (Ev.row ⟨K1,x.task,(x.nth:Int),CA,RE,nO,eU⟩):=by subst hRE;exact U2
   have H4:=H2;have W4:=W2;have C4:=C2;clear H2 W2 C2 U2;generalize u2=u4 at *)
 all_goals
  have E5:=(show x.ev K1=(⟨K1,x.task,(x.nth:Int),CA,RE,nO,eU⟩:Ev) by subst hRE hCA hK1;simp[Cl.ev]);have HN:=(λW1 (hb:Bl u4 W1)=>Ed (W4.call hb) (λk hk=>C4.fresh k (aB4 hb.size hk)) ⟨K1,x.task,(x.nth:Int),CA,RE,nO,eU⟩ HL);subst hRE hCA hK1;refine zr (λ_=>false) (λwS=>ah (λj=>∃t,c j=some t/\dL t) u4 wS) ?_;have S0:=(ah.refl (λj=>∃t,c j=some t/\dL t) u4).drew;refine zk 1 [0,1,2,3,4] [_,_,_,pt gw,_] (.q zX<|.q zX<|.q zX<|.q (zS λ_ h=>(H4.blk.upd h (λ⟨t,e,ht⟩=>by have h5:=H4.cg;rw[h5]at e;cases e;exact cZ oM ht)).z 0 (pt gw))<|.c rfl rfl (zl λ_ h=>zb (U4.blk.upd h (λ⟨t,e,_⟩=>by rw[U4.no]at e;cases e)) underlying93) .nil) S0 ?_;refine zQ 5 ?_;go_wp2_with(go_at_call 349;refine(HN _ bR.drew).mono ?_;rintro e w4 ⟨rfl,c4,G4,T4⟩);refine .i (S0.trans T4.upd iL) ?_;have:=S0.trans T4.upd iL;refine zd ?_;go_wp2;go_end0;have T5:=(C4.trans (ae.aa dL c C4.fresh bR.drew) aB).trans T4 aB;exact⟨rfl,c4,E5▸G4,H0_.step T5 (cZ oM),T5⟩
def ClP(c:bh)(g gw i:Nat)(at_:Int)(x:Cl)(W:Gw)(w w' : World):Prop:=∃c' A n cc ov,bD w' c' gw W/\mB w' c' g gw i A n cc ov at_ x/\ae (sG i) w w' c c'
def ae.wide(h:ae dL w w' c c')(hi:∀k,k<w.heap.size->c k=some (.at_ (20+i))->c' k=c k):ae (sG i) w w' c c':=
 ⟨h.upd.mono (λk ⟨t,e,ht⟩=>⟨t,e,.inl ht⟩),λk hk hn=>h.old k hk (λt e ht=>hn t e (.inl ht)),λk t hk e=>by
  rcases hk with hk|⟨t0,e0,Zj|Zj⟩
  ·rcases h.new k t (.inl hk) e with h1|h1
   ·exact .inl (.inl h1)
   ·exact .inr h1
  ·rcases h.new k t (.inr ⟨t0,e0,Zj⟩) e with h1|h1
   ·exact .inl (.inl h1)
   ·exact .inr h1
  ·subst Zj
   rcases aE2 k w.heap.size with hk|hk
   ·rw[hi k hk e0,e0]at e
    injection e with e
    exact .inl (.inr e.symm)
   ·rcases h.new k t (.inl hk) e with h1|h1
    ·exact .inl (.inl h1)
    ·exact .inr h1,h.fresh⟩
def ae.fM(h:ae dL w w' c c'):ae (sG i) w w' c c':=
 h.wide (λk hk e=>h.old k hk (λt e2 ht=>by rw[e]at e2;injection e2 with e2;subst e2;exact cZ oM ht))
def ae.iW{w2:World}(h:ae (sG i) w w' c c')(hu:ah (λk=>k=g) w' w2)(hg:c' g=some (.at_ (20+i))):ae (sG i) w w2 c c':=
 h.trans ⟨hu.mono (λk e=>by rw[e];exact⟨_,hg,.inr rfl⟩),λ_ _ _=>rfl,λk t hk e=>by
  rcases hk with hk|⟨t0,e0,Zj⟩
  ·rw[h.fresh k hk]at e;cases e
  ·rw[e0]at e;injection e with e;subst e;exact .inl Zj,λk hk=>h.fresh k (aB4 hu.size hk)⟩ (cB i)
def dm(h:bD w c gw W)(hu:ah (λk=>k=g) w w')(hg:c g=some (.at_ (20+i)))(hf:∀k,w.heap.size<=k->c k=none):bD w' c gw W:=
 h.step (T:=λt=>t=.at_ (20+i)) ⟨hu.mono (λk e=>by rw[e];exact⟨_,hg,rfl⟩),λ_ _ _=>rfl,λk t hk e=>by
  rcases hk with hk|⟨t0,e0,Zj⟩
  ·rw[hf k hk]at e;cases e
  ·rw[e0]at e;injection e with e;subst e;exact .inl Zj,λk hk=>hf k (aB4 hu.size hk)⟩ (λt ht e=>by subst e;exact cZ oM ht) (λe=>by cases e)
theorem ai3(h:mB w c g gw i A n cc ov at_ x)(hg:bD w c gw W)(hc:∀k,w.heap.size<=k->c k=none)(hl:W.evs.length<100000)(hn:x.nth<100000):
 Calls prog 346 #[pt g] w λe w'=>e=.returned (.tuple #[])/\ClP c g gw i (-1) {x with nth:=x.nth+1,ops:=[]} (W.note (x.ev 3)) w w':=by
 have HE:=sJ h hg hc hl (.inr rfl);have:=hn;clear h hg hc hl;go_enter func346,ntmps346;go_wp2_with(go_at_call 341;refine HE.mono ?_;rintro e w4 ⟨rfl,c4,G4,B4,T4⟩;have:=B4.blk.z 4 (I6 (x.nth:Int));have:=B4.blk.z 5 (I6 at_);have:=B4.blk.z 2 ov;have:=B4.blk.frozen 4;have:=B4.blk.frozen 5;have:=B4.blk.frozen 2);go_end0;have U:=(((ah.refl (λk=>k=g) w4).setCell (p:=⟨g,4,none⟩) (.inl rfl) (I6 ((x.nth:Int)+1))).setCell (p:=⟨g,5,none⟩) (.inl rfl) (I6 (-1))).setCell (p:=⟨g,2,none⟩) (.inl rfl) (.slice none 0 0);exact⟨rfl,c4,A,n,cc,.slice none 0 0,dm G4 U B4.cg T4.fresh,B4.put U (((B4.blk.aX 4 (I6 ((x.nth:Int)+1))).aX 5 (I6 (-1))).aX 2 (.slice none 0 0)) rfl (.inl ⟨rfl,rfl⟩) (λk hk=>by simp[Value.ownBlock]at hk) (λk hk=>by simp[Value.ownBlock]at hk),(T4.fM).iW U B4.cg⟩
abbrev Zk:Array Value:=#[I6 0,.string ⟨#[]⟩,I6 0,I6 0,I6 0,I6 0,I6 0,I6 0,I6 0,I6 0,I6 0]
def IA(W:Gw)(e:Ev):(W.note e).evs.length=W.evs.length+1:=by simp[Gw.note]
theorem Vr(h:mB w c g gw i A n cc ov at_ x)(hg:bD w c gw W)(hc:∀k,w.heap.size<=k->c k=none)(hl:W.evs.length+1<100000)(hp:x.nth<x.prog.length)(hs:x.call.s.size<=maxLen):
 Calls prog 338 #[pt g] w λe w'=>e=.returned (.tuple #[])/\ClP c g gw i at_ (x.begin W).2 (x.begin W).1 w w':=by
 have H0:=zD h;have G0:=zD hg;have HC:=zD hc;have HL:=zD hl;have HP:=zD hp;have wN:=zD (λW1=>gu x.call.k x.call.s x.call.t x.call.v x.call.h x.call.p W1 hs);obtain⟨E,hE⟩:=zE (bJ x.call.k x.call.s x.call.t x.call.v x.call.p);have:=zD hE;rw[<-hE]at wN;have HX:=zD (show x.begin W=(if E≠0 then((W.note (({x with rep:=cK E} : Cl).ev 1)).note (({x with rep:=cK E} : Cl).ev 2))else W.note (({x with rep:=cK E} : Cl).ev 1),{x with rep:=cK E})from by simp only[Cl.begin,ak.err,<-hE];rfl);obtain⟨R,hR⟩:=zE (x.begin W);have HR:=zD (hR.trans HX.out);rw[<-hR];clear hE hR HX;obtain⟨pb,po,hA,hpb,RS,hrg⟩:=(Eg h.prog hp);subst hA;have mC:=zD hrg;have HPb:=zD hpb;clear hrg hpb h hg hc hl hs hp;go_enter func338,ntmps338;go_upto_region 0 with fail
 refine zB λS0=>?_
 refine zk 7 [0,1,2,3,4] [pt g,pt g,.pointer (some ⟨g,1,none⟩),.slice (some ⟨pb,po,none⟩) n cc,pt g] (.q zX<|.q zX<|.q zX<|.q (zS λ_ h=>(H0.out.blk.call h).z 1 (.slice (some ⟨pb,po,none⟩) n cc))<|.e) S0 ?_;refine zk 2 [5,6,7,8,9] [pt g,.pointer (some ⟨g,4,none⟩),I6 (x.nth:Int),.pointer (some ⟨pb,po+x.nth*11,none⟩),.agg (ak.cells x.call).toArray] (.c rfl rfl zp<|.c rfl rfl zp<|.c rfl rfl (zl λ_ h=>by have c:=(H0.out.blk.call h).z 4 (I6 (x.nth:Int));go_simp)<|.c rfl rfl (zl λ_ _=>yF rfl rfl rfl RS)<|.c rfl rfl (zl λ_ h=>aF (ty:=nV) (x:=.tmp 11) rfl rfl (run_loadAt_mid _ _ _ _ _ _ (mC.out _ (h.block pb HPb.out)) underlying65 rfl kZ)) .nil) S0 ?_;refine zQ 10 ?_;obtain⟨G,hG,bG,lG⟩:=dp (S:=S0) (Zk) 65;go_wp2_with fail;refine .i (S0.alloc S0.size _) ?_
 (try simp only[hG])
 clear hG;have SG:=S0.alloc S0.size (.cells (Zk) 65);refine zQ 11 ?_;go_wp2_with(refine wpList_store_row rfl nV (.tmp 2) (.tmp 12) rfl G nV _ _ rfl rfl (bG) (by simp[ak.cells,aj]) kZ (by simp[ak.cells,aj,Value.oneCell']) ?_;intro uG p9 jH);refine .i ((SG).trans (Only.below jH lG (SG).size)) ?_;have S9:=(SG).trans (Only.below jH lG (SG).size);refine zd ?_;have BG:=zD (show ai uG G nV (aj x.call.k x.call.s x.call.t x.call.v x.call.h x.call.p)from by have h9:=p9;unfold ak.cells at h9;rwa [Array.toArray_toList]at h9)
 have C1:=zD ((ae.aa dL c HC.out S9).fM (i:=i));have H1:=zD (H0.out.call S9);have W1:=zD (G0.out.call S9);clear S0 SG S9 p9 jH bG lG H0 G0;go_upto_region 3 with(first
  |refine zI BG.out underlying65 ?_
  |go_at_call 25;refine zM (wN.out _) λw1 hb1=>?_;have:=zD hb1;have H2:=zD (H1.out.call hb1);have W2:=zD (W1.out.call hb1);have C2:=zD (C1.out.trans (ae.aa (sG i) c C1.out.fresh hb1) (cB i));clear hb1
  |refine cu rfl mi (.tmp 18) (.tmp 16) rfl g 7 vW _ _ rfl rfl (H2.out.blk) sI kZ (by simp[Value.oneCell']) ?_;intro u4 ki hw4;have Vq:=zD ki;have Qx:=zD (ah.bE hw4);clear ki hw4;have C3:=zD (C2.out.iW Qx.out H2.out.cg)
  |(go_at_call 341;refine(sJ (H2.out.Gu (x':={x with rep:=cK E}) Qx.out Vq.out rfl rfl) (dm W2.out Qx.out H2.out.cg C2.out.fresh) C3.out.fresh (Nat.lt_of_succ_lt HL.out) (.inl ⟨.inl rfl,HP.out⟩)).mono ?_;rintro e w4 ⟨rfl,c4,hg4,hb4,yE⟩;have G4:=zD hg4;have B4:=zD hb4;have C4:=zD (C3.out.trans yE.fM (cB i));have:=hb4.blk.z 7 (I6 E);clear hg4 hb4 yE))
 by_cases hE:E=0
 ·have e9:=HR.out
  rw[if_neg (λh=>h hE)]at e9;subst e9;subst hE;clear HR;go_wp2;go_end0;exact⟨rfl,c4,_,n,cc,ov,G4.out,B4.out,C4.out⟩
 ·have:(E==0)=false:=sH hE
  have e9:=HR.out;rw[if_pos hE]at e9;subst e9;have HL4:=zD (show(W.note (({x with rep:=cK E} : Cl).ev 1)).evs.length<100000 from by rw[IA];exact HL.out);clear HR;go_wp2_with(go_at_call 341;refine(sJ B4.out G4.out C4.out.fresh HL4.out (.inl ⟨.inr rfl,HP.out⟩)).mono ?_;rintro e w5 ⟨rfl,c5,iK,dx,ht5⟩;have G5:=zD iK;have B5:=zD dx;have C5:=zD (C4.out.trans ht5.fM (cB i));clear iK dx ht5);go_end0;exact⟨rfl,c5,_,n,cc,ov,G5.out,B5.out,C5.out⟩
section
abbrev LJ:TypeId:=334
section
variable{w:World}{c:bh}{g gw i:Nat}{A:Option Addr}{n cc:Nat}{ov:Value}{at_:Int}{x:Cl}{W:Gw}
def mB.bu(h:mB w c g gw i A n cc ov at_ x)(hu:ah (λj=>∃t,c j=some t/\dL t) w w'):ai w' g vW (qp gw A n cc ov at_ x):=
 h.blk.upd hu (λ⟨t,e,ht⟩=>by have h5:=h.cg;rw[h5]at e;cases e;exact cZ oM ht)
theorem ai4(o:iM)(h:mB w c g gw i A n cc ov at_ x)(hg:bD w c gw W)(hc:∀k,w.heap.size<=k->c k=none)(hl:W.ay.length<=1000)(hn:aw o.lock)(ht:aw x.task)(hq:∀l,W.lock o.lock=some l->l.line.length<=1000) :
 Calls prog 339 #[pt g,.agg o.row] w λe w'=>e=.returned (.tuple #[])/\ClP c g gw i at_ (if(W.ask o.lock x.task (o.kind==3)).1 then x else {x with wants:=o.lock}) (W.ask o.lock x.task (o.kind==3)).2 w w':=by
 have EX:=zW w (.cells o.row LJ);have BX:=ai.new w LJ o.row;have NX:=hc w.heap.size lR;have CX:=ae.aa dL c hc EX;have H0:=h.call EX;have HA:=(λW1 (hb:Below (w.alloc (.cells o.row LJ)).heap.size (w.alloc (.cells o.row LJ)) W1)=>Vk ((hg.call EX).call hb) (λk hk=>CX.fresh k (aB4 hb.size hk)) hl o.lock x.task (o.kind==3) hn ht hq);obtain⟨R,hR⟩:=zE (W.ask o.lock x.task (o.kind==3));rw[<-hR]at HA;rw[<-hR];obtain⟨Z,hZ⟩:=zE (if R.1 then x else {x with wants:=o.lock} : Cl);have HZ:=zD hZ;rw[<-hZ];clear hR h hg hc hq EX hZ;go_enter func339,ntmps339;go_upto_region 1 with fail
 obtain⟨W0,hW0⟩:=zE (w.alloc (.cells o.row LJ));obtain⟨gx,hgx⟩:=zE w.heap.size;rw[<-hW0]at CX BX H0 HA |-;rw[<-hgx]at BX NX |-;clear hW0 hgx;refine zr (λ_=>false) (λwS=>ah (λj=>∃t,c j=some t/\dL t) W0 wS) ?_;have S0:=(ah.refl (λj=>∃t,c j=some t/\dL t) W0).drew;refine zk 14 [0,1,2,3,4] [_,_,_,pt gw,.pointer (some ⟨gx,1,none⟩)] (.q zX<|.q zX<|.q zX<|.q (zS λ_ h=>(H0.bu h).z 0 (pt gw))<|.e) S0 ?_;refine zk 9 [5,6,7,8,9] [I6 o.lock,_,_,_,I6 x.task] (.q (zS λ_ h=>(BX.upd h (λ⟨t,e,_⟩=>by rw[NX]at e;cases e)).z 1 (I6 o.lock))<|.q zX<|.q zX<|.q zX<|.q (zS λ_ h=>(H0.bu h).z 3 (I6 x.task)) .nil) S0 ?_;refine zk 6 [10,11,12] [pt gx,I6 o.kind,.bool (o.kind==3)] (.q zX<|.q (zS λ_ h=>(BX.upd h (λ⟨t,e,_⟩=>by rw[NX]at e;cases e)).z 0 (I6 o.kind))<|.e) S0 ?_;refine zQ 13 ?_;go_wp2_with(go_at_call 347;refine(HA _ bR.drew).mono ?_;rintro e w4 ⟨er,rfl,c4,G4,T4⟩);refine .i (S0.trans T4.upd iL) ?_;refine zq 0 [14,15,16,17,18] [.tuple #[.bool R.1,I6 er],.bool R.1,I6 er,.bool R.1,I6 er] (S0.trans T4.upd iL) ?_;refine zd ?_;have X4:=(ae.aa dL c CX.fresh bR.drew).trans T4 aB;have T5:=CX.trans X4 aB;have H5:=H0.step X4 (cZ oM);have Az:=BX.upd X4.upd (λ⟨t,e,_⟩=>by rw[NX]at e;cases e);have:=H5.blk.z 6 (I6 x.wants);have:=H5.blk.frozen 6;have:=Az.z 1 (I6 o.lock);clear S0 T4;cases hb:R.1
 ·have e:Z = {x with wants:=o.lock}:=HZ.out.trans (if_neg (by rw[hb];decide))
  subst e;go_wp2;go_end0;have U:=(ah.refl (λk=>k=g) w4).setCell (p:=⟨g,6,none⟩) (.inl rfl) (I6 o.lock);exact⟨rfl,c4,A,n,cc,ov,dm G4 U H5.cg T5.fresh,H5.Gu (x':={x with wants:=o.lock}) U (H5.blk.aX 6 (I6 o.lock)) rfl rfl,T5.fM.iW U H5.cg⟩
 ·have e:Z=x:=HZ.out.trans (if_pos hb)
  subst e;go_wp2;go_end0;exact⟨rfl,c4,A,n,cc,ov,G4,H5,T5.fM⟩
end
end
section
abbrev Xu:TypeId:=295
abbrev sK(gw:Nat)(sp:Option Addr)(x:Wk):Array Value:=#[pt gw,I6 x.task,I6 (x.does:Int),I6 x.wants,.bool x.asleep,V6 x.key.hi,V6 x.key.lo,.pointer sp,I6 x.ei.tick,I6 x.ei.load,I6 x.ei.want,I6 x.ei.aQ,I6 x.ei.why,I6 (x.done:Int)]
structure mD(w:World)(c:bh)(g gw i:Nat)(cf:aM)(sp:Option Addr)(x:Wk):Prop where
 blk:ai w g Xu (sK gw sp x)
 cg:c g=some (.at_ (20+i))
 gA:(sp=none/\x.gA=Ff)\/eA w c cf sp x.gA
section
variable{T:Tag->Prop}{S:Nat->Prop}{w w' : World}{c c' : bh}{g gw i:Nat}{cf:aM}{sp:Option Addr}{x:Wk}
def mD.step(h:mD w c g gw i cf sp x)(hs:ae T w w' c c')(h1:¬T (.at_ (20+i)))(h2:¬T .nS):mD w' c' g gw i cf sp x:=
 ⟨hs.blk h.blk h.cg h1,hs.keep h.blk.lt h.cg h1,h.gA.imp id (λe=>e.step hs h2)⟩
def mD.call(h:mD w c g gw i cf sp x)(hb:Bl w w'):mD w' c g gw i cf sp x:=
 ⟨h.blk.call hb,h.cg,h.gA.imp id (λe=>e.call hb)⟩
def mD.off(h:mD w c g gw i cf sp x)(hu:ah S w w')(hS:∀k,S k->c k=none):mD w' c g gw i cf sp x:=
 ⟨h.blk.upd hu (λe=>by have h5:=h.cg;rw[hS g e]at h5;cases h5),h.cg,h.gA.imp id (λe=>e.off hu hS)⟩
def mD.put(h:mD w c g gw i cf sp x){x' : Wk}(hu:ah (λk=>k=g) w w')(hb:ai w' g Xu (sK gw sp x'))(hs:x'.gA=x.gA):mD w' c g gw i cf sp x':=by
 refine⟨hb,h.cg,?_⟩;rw[hs];refine h.gA.imp id ?_;rintro⟨F,h1,h2⟩;exact⟨F,h1.upd hu (λj hj e=>by have h5:=h2 j hj;rw[e,h.cg]at h5;cases h5),h2⟩
end
def mD.bu{w w' : World}{c:bh}{g gw i:Nat}{cf:aM}{sp:Option Addr}{x:Wk}(h:mD w c g gw i cf sp x)(hu:ah (λj=>∃t,c j=some t/\dL t) w w'):ai w' g Xu (sK gw sp x):=
 h.blk.upd hu (λ⟨t,e,ht⟩=>by have h5:=h.cg;rw[h5]at e;cases e;exact cZ oM ht)
theorem NV{w:World}{c:bh}{g gw i:Nat}{cf:aM}{sp:Option Addr}{x:Wk}(h:mD w c g gw i cf sp x):Calls prog 361 #[pt g] w λe w'=>e=.returned (.bool x.over)/\w=w':=by
 have:=h.blk.z 2 (I6 (x.does:Int));have HQ:x.over=((x.does:Int)==13):=by unfold Wk.over;by_cases e:x.does=13<;>simp[e];omega
 rw[HQ];clear h HQ;generalize x.does=N at *;cases hd:((N:Int)==13)
 ·go_enter func361,ntmps361
  go_wp2;go_ret;exact⟨rfl,rfl⟩
 ·go_enter func361,ntmps361
  go_wp2;go_ret;exact⟨rfl,rfl⟩
def pI{w:World}{c:bh}{g:Nat}(h:bD w c g W):Calls prog 337 #[pt g] w (Rt (.agg W.aG.cfg.row) (Bl w)):=by
 obtain⟨cs,gs,gl,ls,lv,v,va,vf,vb,vd,vz,ve,h⟩:=h;exact Qt h
theorem NY{w:World}{c:bh}{g gw i:Nat}{cf:aM}{sp:Option Addr}{x:Wk}(h:mD w c g gw i cf sp x)(hg:bD w c gw W)(h1:W.aG.cfg.str<=64)(h0 : -1<=W.aG.cfg.str):
 Calls prog 364 #[pt g] w (Rt (I6 (ez W)) (Bl w)):=by
 have:=h.blk.z 0 (pt gw);have HC:=pI hg;have HL:=(λW1=>iq W.aG.cfg W1 h1 h0);clear h hg;go_enter func364,ntmps364;go_wp2_with(first
  |go_at_call 337;refine HC.mono ?_;rintro e w1 ⟨rfl,hb1⟩
  |(go_at_call 171;refine zM (HL _) λw2 hb2=>?_))
 go_ret;exact⟨rfl,zT hb1 hb2⟩
theorem jN{w:World}{g gw:Nat}{sp:Option Addr}{x:Wk}(h:ai w g Xu (sK gw sp x)):w.rangeAt g 5 x.key.row.toList:=λj v hv=>by
 rw[h.cell]
 match j,hv with
 |0,hv=>injection hv with hv;subst hv;rfl
 |1,hv=>injection hv with hv;subst hv;rfl
theorem CF{w:World}{g gw:Nat}{sp:Option Addr}{x:Wk}(h:ai w g Xu (sK gw sp x)):w.rangeAt g 8 x.ei.cells:=λj v hv=>by
 rw[h.cell]
 match j,hv with
 |0,hv=>injection hv with hv;subst hv;rfl
 |1,hv=>injection hv with hv;subst hv;rfl
 |2,hv=>injection hv with hv;subst hv;rfl
 |3,hv=>injection hv with hv;subst hv;rfl
 |4,hv=>injection hv with hv;subst hv;rfl
theorem Eh{w:World}{c:bh}{g gw i:Nat}{cf:aM}{sp:Option Addr}{x:Wk}(h:mD w c g gw i cf sp x)(hg:bD w c gw W)(hk:x.key.good)(hr:dD (W.aG.strs.length:Int)=true):
 Calls prog 368 #[pt g] w (Rt (I6 (W.aG.home x.key:Nat)) (Bl w)):=by
 have HB:=h;obtain⟨gs,hs,hst,-⟩:=yD hg;have nI:=hst;obtain⟨A,n,cap,ps,gt,bt,fp,ks,hss⟩:=hs;have HH:=(λW1 (hb:Bl w W1)=>ko (hss.call hb) x.key hk hr);clear h hg hst hss;go_enter func368,ntmps368;go_upto_region 1 with fail
 refine zB λS0=>?_
 refine zk 6 [0,1,2,3,5] [_,_,_,pt gw,_] (.q zX<|.q zX<|.q zX<|.c rfl rfl (zl λ_ h=>by have c:=(HB.call h).blk.z 0 (pt gw);go_simp)<|.e) S0 ?_;refine zk 3 [6,7,8] [_,_,.agg x.key.row] (.c rfl rfl zp<|.c rfl rfl zp<|.c rfl rfl (zl λ_ h=>aF (ty:=aS) (x:=.tmp 10) rfl rfl (run_loadAt_mid _ _ _ _ _ _ (jN (HB.call h).blk) underlying83 rfl kZ)) .nil) S0 ?_;refine zQ 4 ?_;go_wp2_with(go_at_call 160;refine zN (nI _ S0) ?_);refine .i S0 ?_;refine zQ 9 ?_;go_wp2_with(go_at_call 68;refine zM (HH _ S0) λw2 hb2=>?_);refine .i (zT S0 hb2) ?_;have S2:=zT S0 hb2;refine zq 0 [10] [I6 (W.aG.home x.key:Nat)] S2 ?_;refine zd ?_;have U:=S2;clear S0 S2 hb2;go_wp2;go_ret;exact⟨rfl,U⟩
end
section
structure SkJ(ops:List iM)(line:Int)(a j:Nat):Prop where
 on:∀i,i<j->(ops.getD (a+3*i+1) vt).lock=line
 off:(ops.getD (a+3*j+1) vt).lock≠line
 len:a+3*j+1<ops.length
theorem SkJ.skip{ops:List iM}{line:Int}{j:Nat}(h:SkJ ops line a j): ∀f,j<=f->vu ops line f a=a+3*j:=by
 induction j generalizing a with
 |zero=>
  intro f _;cases f with
  |zero=>rfl
  |succ f=>unfold vu;rw[if_neg h.off];rfl
 |succ j ih=>
  intro f hf;cases f with
  |zero=>omega
  |succ f=>
   unfold vu;rw[if_pos (h.on 0 oM),ih ⟨λi hi=>by have:=h.on (i+1) oM;rw[<-this];congr 2;omega,by have:=h.off;intro e;exact this (by rw[<-e];congr 2;omega),oH h.len⟩ f oM];omega
def IB(w:World)(g:Nat):Nat:=match w.cell? ⟨g,5,none⟩with|some (.int _ n)=>n.toNat|_=>0
theorem IC{a:Act}{o:Oper}{x i:Operand}{g off n c k:Nat}{w:World}(ho:o.op=.indexAddr 271 x i)(hx:a.eval x=.slice (some ⟨g,off,none⟩) n c)(hi:a.eval i = I6 (k:Int))(hk:k<n):(execOp a.eval o).run prog w=.ok (.value (.pointer (some ⟨g,off+k*2,none⟩))) w:=by
 unfold execOp;have h1:(0:Int)<=(k:Int):=oM
 have h2:(k:Int)<(n:Int):=oM
 simp only[ho,hx,hi];go_simp
section
variable{w:World}{c:bh}{g gw i:Nat}{A:Option Addr}{n cc:Nat}{x:Cl}{W:Gw}
theorem Zl{b off n2 c2:Nat}(a j:Nat)(h:mB w c g gw i A n cc (.slice (some ⟨b,off,none⟩) n2 c2) (a:Int) x)(hs:ag w 2 iM.cells (some ⟨b,off,none⟩) n2 c2 x.ops)(hb:b<w.heap.size/\b≠g)(hg:bD w c gw W)(hc:∀k,w.heap.size<=k->c k=none)(h1:W.aG.cfg.str<=64)(h0 : -1<=W.aG.cfg.str)(hl:x.ops.length<=1000)(he:(x.rep.err==0)=false)(hj:SkJ x.ops (ez W) a j) :
 Calls prog 343 #[pt g] w λe w'=>e=.returned (.tuple #[])/\ah (λk=>k=g) w w'/\ai w' g vW (qp gw A n cc (.slice (some ⟨b,off,none⟩) n2 c2) ((a+3*j:Nat):Int) x):=by
 have H0:=h.blk;have HS:=hs;have HB:=hb;have HG:=hg;have HJ:=hj;have HCg:c g=some (.at_ (20+i)):=h.cg;have fJ:=zD (show n2=x.ops.length from hs.1.symm);have xi:=hj.len;have Fp:=(λW1 (hu:bD W1 c gw W)=>pI hu);have Ee:=(λW1=>iq W.aG.cfg W1 h1 h0);have HUg:=(λW1 (hu:ah (λk=>k=g) w W1)=>dm hg hu h.cg hc);clear h hs hb hg hj;go_enter func343,ntmps343;go_wp2;go_step3;go_wp2;go_step3;go_wp2;go_loopw[] (λwr=>∃m:Nat,m<=j/\ah (λk=>k=g) w wr/\ai wr g vW (qp gw A n cc (.slice (some ⟨b,off,none⟩) n2 c2) ((a+3*m:Nat):Int) x)) (λwr=>a+3*j+1-IB wr g)
 case atStart=>exact⟨0,aB6 _,ah.refl _ _,H0⟩
 case round=>
  obtain⟨m,hm,hu,hb⟩:=hrel;have HU:=hu;have HBm:=hb;have hlt:a+3*m+1<n2:=by rw[fJ.out];omega
  obtain⟨b',tL,y,e1,hy,fH,hcl⟩:=ag.at_ (aV HS hu (λa ha=>by cases ha;exact HB.2)) hlt;injection e1 with e1
  injection e1 with e1 e2 e3
  subst e1;subst e2;have t1:wr.cell? ⟨b,off+(a+3*m+1)*2+1,none⟩=some (I6 y.lock):=by have:=hcl 1 _ rfl;rw[<-this];congr 2
  have Fa:x.ops.getD (a+3*m+1) vt=y:=by rw[aB7,hy];rfl
  have HOn:=(λh=>(show y.lock=W.aG.cfg.str+1 from by rw[<-Fa];exact HJ.on m h));have ay3:=(λ(h:m=j)=>(show ¬y.lock=W.aG.cfg.str+1 from by rw[<-Fa,h];exact HJ.off));have k7:=hb.z 7 (I6 x.rep.err);have k2:=hb.z 2 (.slice (some ⟨b,off,none⟩) n2 c2);have k5:=hb.z 5 (I6 ((a+3*m:Nat):Int));have d2:(x.rep.err != 0)=true:=by simp[bne,he]
  have hcA:IB wr g=a+3*m:=by unfold IB;rw[k5];simp;omega
  have HcA:=hcA;have HAb:a+3*m+1<1001:=by have:=fJ.out;omega
  have HT1:=t1;have Ag:=hlt;have Qh:b<wr.heap.size:=fH;clear hb hu hcl hy Fa fH hcA t1 hlt;generalize hqq:a+3*m=q at *;have HQ:=hqq;clear hqq;have HBq:ai wr g vW (qp gw A n cc (.slice (some ⟨b,off,none⟩) n2 c2) (q:Int) x):=HBm;clear HBm;go_upto_region 1 with fail
  refine zB λS0=>?_
  refine zk 7 [0,1,2,3,4] [_,_,_,.slice (some ⟨b,off,none⟩) n2 c2,_] (.q zX<|.q zX<|.q zX<|.c rfl rfl (zl λ_ h=>by have c:=(HBq.call h).z 2 (.slice (some ⟨b,off,none⟩) n2 c2);go_simp)<|.e) S0 ?_;refine zk 2 [5,6,7,8,9] [_,_,I6 (q:Int),I6 ((q+1:Nat):Int),.pointer (some ⟨b,off+(q+1)*2,none⟩)] (.c rfl rfl zp<|.c rfl rfl zp<|.c rfl rfl (zl λ_ h=>by have c:=(HBq.call h).z 5 (I6 (q:Int));go_simp)<|.c rfl rfl (zl λ_ _=>by have hq:=HAb;have hw:IntKind.i64.wrap ((q:Int)+1)=(q:Int)+1:=(by rw[IntKind.wrap_i64];omega);rw[show((q+1:Nat):Int)=(q:Int)+1 by omega];go_simp)<|.c rfl rfl (zl λ_ _=>IC rfl rfl rfl Ag) .nil) S0 ?_;refine zk 0 [10,11] [.pointer (some ⟨b,off+(q+1)*2+1,none⟩),I6 y.lock] (.q zX<|.c rfl rfl (zl λ_ h=>by have c:=(h.cell (p:=⟨b,off+(q+1)*2+1,none⟩) Qh).trans HT1;go_simp) .nil) S0 ?_;refine zd ?_;have BX:=HBq.call S0;have UX:=HU.trans (ah.aa (S:=λk=>k=g) S0) iL;have GX:=HUg _ UX;have k0:=BX.z 0 (pt gw);clear S0 k7 k2 k5 HBq HU Qh HT1
  by_cases hmj:m<j
  ·have Fa:=HOn hmj
   have d3:(y.lock==W.aG.cfg.str+1)=true:=by simpa using Fa
   go_upto_region 3 with(first
    |go_at_call 337;refine zM (Fp _ GX) λw1 hb1=>?_;have B1:=hb1
    |(go_at_call 171;refine zM (Ee _) λw2 hb2=>?_;have B2:=zT B1 hb2;have BY:=BX.call B2;have UY:=UX.trans (ah.aa (S:=λk=>k=g) B2) iL))
   have k5:=BY.z 5 (I6 (q:Int));have f5:=BY.frozen 5;have hab:=HAb;go_wp2;have BL:=BY.aX 5 (I6 ((q:Int)+3));have UL:=UY.setCell (p:=⟨g,5,none⟩) (.inl rfl) (I6 ((q:Int)+3));go_roundw
   case rel=>
    refine⟨m+1,by omega,UL,?_⟩;rw[show((a+3*(m+1):Nat):Int)=(q:Int)+3 by have:=HQ;omega];exact BL
   case measure=>
    have c5:=BL.z 5 (I6 ((q:Int)+3));have e5:IB (w2.setCell ⟨g,5,none⟩ (I6 ((q:Int)+3))) g=q+3:=by unfold IB;rw[c5];simp;omega
    rw[e5,HcA];have:=HQ;omega
  ·have ay4:m=j:=oM
   subst ay4;have Fa:=ay3 rfl;have d3:(y.lock==W.aG.cfg.str+1)=false:=by simpa using Fa
   go_wp2_with(first
    |go_at_call 337;refine zM (Fp _ GX) λw1 hb1=>?_;have B1:=hb1
    |(go_at_call 171;refine zM (Ee _) λw2 hb2=>?_;have B2:=zT B1 hb2;have BY:=BX.call B2;have UY:=UX.trans (ah.aa (S:=λk=>k=g) B2) iL))
   rw[Exit.noGoto_normal];go_end0;refine⟨rfl,UY,?_⟩;rw[HQ];exact BY
end
end
theorem sO{x:Wk}(h:mD w c g gw i cf sp x)(hg:bD w c gw W)(hl:W.ay.length<=1000)(h1:W.aG.cfg.str<=64)(h0 : -1<=W.aG.cfg.str)(hw:aw x.wants)(ht:aw x.task):
 Calls prog 362 #[pt g] w (Rt (.bool (x.ready W)) (Bl w)):=by
 have HO:=NV h;have HB:=h.blk;have Ee:=(λW1 (hb:Bl w W1)=>NY (h.call hb) (hg.call hb) h1 h0);have HHl:=(λW1 (hb:Bl w W1)=>Ec (hg.call hb) hl (ez W) x.task (by unfold ez aw;omega) ht);have HH:=(λW1 (hb:Bl w W1)=>Ec (hg.call hb) hl x.wants x.task hw ht);have k4:=h.blk.z 4 (.bool x.asleep);obtain⟨R,hR⟩:=zE (x.ready W);rw[<-hR];unfold Wk.ready at hR;cases ho:x.over
 ·rw[ho]at hR HO
  simp only[aG8,if_false]at hR;cases ha:x.asleep
  ·rw[ha]at hR k4
   simp only[aG8,if_false]at hR
   by_cases hw0:x.wants<0
   ·have HR:=zD (show R=true from by rw[hR,decide_eq_true hw0];rfl)
    rw[HR.out];have:decide (x.wants<0)=true:=decide_eq_true hw0;clear h hg hR ho ha;go_enter func362,ntmps362;go_upto_region 5 with(go_at_call 361;refine HO.mono ?_;rintro e w1 ⟨rfl,rfl⟩)
    refine zB λS0=>?_
    refine zk 17 [0,1,2,3,4] [_,_,_,I6 x.wants,.bool true] (.q zX<|.q zX<|.q zX<|.q (zS λ_ h=>(HB.call h).z 3 (I6 x.wants))<|.e) S0 ?_;refine zk 12 [5,6,7,8,9] [.bool true,undef,undef,undef,undef] (.q zX<|.q zw<|.q zw<|.q zw<|.q zw .nil) S0 ?_;refine zk 7 [10,11,12,13,14] [undef,undef,undef,undef,undef] (.q zw<|.q zw<|.q zw<|.q zw<|.q zw .nil) S0 ?_;refine zk 2 [15,16,17,18,19] [undef,undef,undef,undef,undef] (.q zw<|.q zw<|.q zw<|.q zw<|.q zw .nil) S0 ?_;refine zq 0 [20,21] [.bool true,.bool true] S0 ?_;refine zd ?_;have U:=S0;clear S0;go_wp2;go_ret;exact⟨rfl,U⟩
   ·obtain⟨K,hK⟩:=zE (W.held x.wants x.task)
    have HR:=zD (show R=(K != 0)from by rw[hR,decide_eq_false hw0,<-hK];by_cases e:K=0<;>simp[e])
    rw[HR.out];rw[<-hK]at HH;have:decide (x.wants<0)=false:=decide_eq_false hw0;clear h hg hR ho hK ha;go_enter func362,ntmps362;go_upto_region 5 with(go_at_call 361;refine HO.mono ?_;rintro e w1 ⟨rfl,rfl⟩)
    refine zB λS0=>?_
    refine zk 17 [0,1,2,3,4] [_,_,_,I6 x.wants,.bool false] (.q zX<|.q zX<|.q zX<|.q (zS λ_ h=>(HB.call h).z 3 (I6 x.wants))<|.e) S0 ?_;refine zk 12 [5,6,7,8,9] [.bool false,_,_,_,pt gw] (.q zX<|.q zX<|.q zX<|.q zX<|.q (zS λ_ h=>(HB.call h).z 0 (pt gw)) .nil) S0 ?_;refine zk 7 [10,11,12,13,14] [_,_,_,I6 x.wants,_] (.q zX<|.q zX<|.q zX<|.q (zS λ_ h=>(HB.call h).z 3 (I6 x.wants))<|.e) S0 ?_;refine zk 4 [15,16,17] [_,_,I6 x.task] (.q zX<|.q zX<|.q (zS λ_ h=>(HB.call h).z 1 (I6 x.task)) .nil) S0 ?_;refine zQ 18 ?_;go_wp2_with(go_at_call 204;refine zN (HH _ (S0)) ?_);refine .i S0 ?_;refine zq 0 [19,20,21] [.bool (K != 0),.bool (K != 0),.bool (K != 0)] S0 ?_;refine zd ?_;have U:=S0;clear S0;go_wp2;go_ret;exact⟨rfl,U⟩
  ·rw[ha]at hR k4
   simp only[if_true]at hR;obtain⟨K,hK⟩:=zE (W.held (ez W) x.task);have HR:=zD (show R=(K != 0)from by rw[hR,<-hK];by_cases e:K=0<;>simp[e])
   rw[HR.out];rw[<-hK]at HHl;clear h hg hR ho hK ha;go_enter func362,ntmps362;go_upto_region 4 with(go_at_call 361;refine HO.mono ?_;rintro e w1 ⟨rfl,rfl⟩)
   refine zB λS0=>?_
   refine zk 8 [0,1,2,3,4] [_,_,_,pt gw,_] (.q zX<|.q zX<|.q zX<|.q (zS λ_ h=>(HB.call h).z 0 (pt gw))<|.e) S0 ?_;refine zk 4 [6,7,8,9] [_,_,_,I6 x.task] (.q zX<|.q zX<|.q zX<|.q (zS λ_ h=>(HB.call h).z 1 (I6 x.task)) .nil) S0 ?_;refine zQ 5 ?_;go_wp2_with(go_at_call 364;refine zM (Ee _ (S0)) λw3 hb3=>?_);refine .i (zT S0 hb3) ?_;have S3:=zT S0 hb3;refine zQ 10 ?_;go_wp2_with(go_at_call 204;refine zN (HHl _ (S3)) ?_);refine .i S3 ?_;refine zq 0 [11,12] [.bool (K != 0),.bool (K != 0)] S3 ?_;refine zd ?_;have U:=S3;clear S0 S3 hb3;go_wp2;go_ret;exact⟨rfl,U⟩
 ·rw[ho]at hR HO
  simp only[if_true]at hR;subst hR;clear h hg ho;go_enter func362,ntmps362;go_wp2_with(go_at_call 361;refine HO.mono ?_;rintro e w1 ⟨rfl,rfl⟩);go_ret;exact⟨rfl,Below.refl _ _⟩
abbrev Vs:TypeId:=49
def WkE(c:bh)(g gw i:Nat)(cf:aM)(sp:Option Addr)(x:Wk)(W:Gw)(w w' : World):Prop:=∃c',bD w' c' gw W/\mD w' c' g gw i cf sp x/\ae dL w w' c c'
theorem yG{x:Wk}(K:Int)(h6:(K==6)=false)(h:mD w c g gw i cf sp x)(hg:bD w c gw W)(hc:∀k,w.heap.size<=k->c k=none)(hl:W.evs.length<100000):
 Calls prog 369 #[pt g,I6 K] w λe w'=>e=.returned (.tuple #[])/\WkE c g gw i cf sp x (W.note (x.ev K)) w w':=by
 have H0:=h;have H0_:=h;have G0:=hg;have HC:=hc;have HL:=hl;have E5:=(show x.ev K=(⟨K,x.task,0,iU,eo,x.key,eU⟩:Ev) by unfold Wk.ev;rw[if_neg (by intro e;subst e;simp at h6)]);clear h hg hc hl;go_enter func369,ntmps369;go_upto_region 0 with fail
 refine zB λS0=>?_
 refine zk 7 [0,1,2,3,4] [I6 K,_,_,_,I6 x.task] (.q zX<|.q zX<|.q zX<|.q zX<|.q (zS λ_ h=>(H0.blk.call h).z 1 (I6 x.task)) .nil) S0 ?_;refine zk 2 [5,6,7,8,9] [_,_,_,.agg x.key.row,.agg (#[I6 K,I6 x.task,I6 0,I6 0,.string ⟨#[]⟩,I6 0,I6 0,I6 0,I6 0,I6 0,I6 0,I6 0,I6 0,I6 0,I6 0,I6 0,I6 0,I6 0,I6 0,I6 0,I6 0,I6 0,I6 0,I6 0,I6 0,I6 0,I6 0,V6 x.key.hi,V6 x.key.lo,I6 0,I6 0,I6 0,I6 0,I6 0])] (.q zX<|.q zX<|.q zX<|.c rfl rfl (zl λ_ h=>by exact aF (ty:=aS) (x:=.tmp 12) rfl rfl (run_loadAt_mid _ _ _ _ _ _ (jN (H0.call h).blk) underlying83 rfl kZ))<|.e) S0 ?_;refine zQ 10 ?_;obtain⟨G,hG,bG,lG⟩:=dp (S:=S0) (Qw) 93;go_wp2_with fail;refine .i (S0.alloc S0.size _) ?_
 (try simp only[hG])
 clear hG;have SG:=S0.alloc S0.size (.cells (Qw) 93);refine zQ 11 ?_;go_wp2_with(refine zJ (bG) ?_;intro uG p9 jH);refine .i (SG.trans (Only.below jH lG SG.size)) ?_;have jf:=SG.trans (Only.below jH lG SG.size);refine zd ?_;have B1:Bl w uG:=jf;have C1:=ae.aa dL c HC jf;have H1:=H0.call jf;have W1:=G0.call jf;have U1:nU uG c G eL (#[I6 K,I6 x.task,I6 0,I6 0,.string ⟨#[]⟩,I6 0,I6 0,I6 0,I6 0,I6 0,I6 0,I6 0,I6 0,I6 0,I6 0,I6 0,I6 0,I6 0,I6 0,I6 0,I6 0,I6 0,I6 0,I6 0,I6 0,I6 0,I6 0,V6 x.key.hi,V6 x.key.lo,I6 0,I6 0,I6 0,I6 0,I6 0]):=⟨p9,HC G lG⟩;have:=lG;clear S0 SG jf p9 jH bG lG H0 G0;go_upto_region 3 with fail
 have U2:nU uG c G eL (Ev.row ⟨K,x.task,0,iU,eo,x.key,eU⟩):=U1;have H2:=H1;have W2:=W1;have C2:=C1;obtain⟨u2,iO⟩:∃u,u=uG:=⟨_,rfl⟩
 rw[<-iO]at H2 W2 C2 U2 |-;clear iO H1 W1 C1 U1 B1;have HN:=(λW1 (hb:Bl u2 W1)=>Ed (W2.call hb) (λk hk=>C2.fresh k (aB4 hb.size hk)) ⟨K,x.task,0,iU,eo,x.key,eU⟩ HL);refine zr (λ_=>false) (λwS=>ah (λj=>∃t,c j=some t/\dL t) u2 wS) ?_;have S0:=(ah.refl (λj=>∃t,c j=some t/\dL t) u2).drew;refine zk 1 [0,1,2,3,4] [_,_,_,pt gw,_] (.q zX<|.q zX<|.q zX<|.q (zS λ_ h=>(H2.blk.upd h (λ⟨t,e,ht⟩=>by have h5:=H2.cg;rw[h5]at e;cases e;exact cZ oM ht)).z 0 (pt gw))<|.c rfl rfl (zl λ_ h=>zb (U2.blk.upd h (λ⟨t,e,_⟩=>by rw[U2.no]at e;cases e)) underlying93) .nil) S0 ?_;refine zQ 5 ?_;go_wp2_with(go_at_call 349;refine(HN _ bR.drew).mono ?_;rintro e w4 ⟨rfl,c4,G4,T4⟩);refine .i (S0.trans T4.upd iL) ?_;have:=S0.trans T4.upd iL;refine zd ?_;go_wp2;go_end0;have T5:=(C2.trans (ae.aa dL c C2.fresh bR.drew) aB).trans T4 aB;exact⟨rfl,c4,E5▸G4,H0_.step T5 (cZ oM) aB,T5⟩
theorem LM{x:Wk}(h:mD w c g gw i cf sp x)(hg:bD w c gw W)(hc:∀k,w.heap.size<=k->c k=none)(hl:W.evs.length<100000):
 Calls prog 369 #[pt g,I6 6] w λe w'=>e=.returned (.tuple #[])/\WkE c g gw i cf sp x (W.note (x.ev 6)) w w':=by
 have H0:=h;have H0_:=h;have G0:=hg;have HC:=hc;have HL:=hl;have E5:=(show x.ev 6=(⟨6,x.task,0,iU,eo,x.key,x.ei⟩:Ev) by rfl);clear h hg hc hl;go_enter func369,ntmps369;go_upto_region 0 with fail
 refine zB λS0=>?_
 refine zk 7 [0,1,2,3,4] [I6 6,_,_,_,I6 x.task] (.q zX<|.q zX<|.q zX<|.q zX<|.q (zS λ_ h=>(H0.blk.call h).z 1 (I6 x.task)) .nil) S0 ?_;refine zk 2 [5,6,7,8,9] [_,_,_,.agg x.key.row,.agg (#[I6 6,I6 x.task,I6 0,I6 0,.string ⟨#[]⟩,I6 0,I6 0,I6 0,I6 0,I6 0,I6 0,I6 0,I6 0,I6 0,I6 0,I6 0,I6 0,I6 0,I6 0,I6 0,I6 0,I6 0,I6 0,I6 0,I6 0,I6 0,I6 0,V6 x.key.hi,V6 x.key.lo,I6 0,I6 0,I6 0,I6 0,I6 0])] (.q zX<|.q zX<|.q zX<|.c rfl rfl (zl λ_ h=>by exact aF (ty:=aS) (x:=.tmp 12) rfl rfl (run_loadAt_mid _ _ _ _ _ _ (jN (H0.call h).blk) underlying83 rfl kZ))<|.e) S0 ?_;refine zQ 10 ?_;obtain⟨G,hG,bG,lG⟩:=dp (S:=S0) (Qw) 93;go_wp2_with fail;refine .i (S0.alloc S0.size _) ?_
 (try simp only[hG])
 clear hG;have SG:=S0.alloc S0.size (.cells (Qw) 93);refine zQ 11 ?_;go_wp2_with(refine zJ (bG) ?_;intro uG p9 jH);refine .i (SG.trans (Only.below jH lG SG.size)) ?_;have jf:=SG.trans (Only.below jH lG SG.size);refine zd ?_;have B1:Bl w uG:=jf;have C1:=ae.aa dL c HC jf;have H1:=H0.call jf;have W1:=G0.call jf;have U1:nU uG c G eL (#[I6 6,I6 x.task,I6 0,I6 0,.string ⟨#[]⟩,I6 0,I6 0,I6 0,I6 0,I6 0,I6 0,I6 0,I6 0,I6 0,I6 0,I6 0,I6 0,I6 0,I6 0,I6 0,I6 0,I6 0,I6 0,I6 0,I6 0,I6 0,I6 0,V6 x.key.hi,V6 x.key.lo,I6 0,I6 0,I6 0,I6 0,I6 0]):=⟨p9,HC G lG⟩;have LG:=lG;clear S0 SG jf p9 jH bG lG H0 G0;go_upto_region 3 with(first
  |refine wpList_load_mid rfl Vs (.tmp 19) rfl g 8 rfl x.ei.cells _ (CF H1.blk) underlying49 rfl kZ ?_
  |(refine cu rfl Vs (.tmp 21) (.tmp 20) rfl G 29 eL _ _ rfl rfl (U1.blk) (by simp[aU.cells]) kZ (by simp[aU.cells,Value.oneCell']) ?_;intro u2 iO hw2))
 have tG:ai u2 G eL (Ev.row ⟨6,x.task,0,iU,eo,x.key,x.ei⟩):=iO;have UG:=ah.bE hw2;have hno:∀k,k=G->c k=none:=λk e=>by rw[e];exact U1.no
 have H2:=H1.off UG hno;have W2:=W1.off UG hno;have C2:=C1.own UG (λk e=>e▸LG);have U2:nU u2 c G eL (Ev.row ⟨6,x.task,0,iU,eo,x.key,x.ei⟩):=⟨tG,U1.no⟩;clear iO hw2 UG hno H1 W1 C1 U1 B1 tG;have HN:=(λW1 (hb:Bl u2 W1)=>Ed (W2.call hb) (λk hk=>C2.fresh k (aB4 hb.size hk)) ⟨6,x.task,0,iU,eo,x.key,x.ei⟩ HL);refine zr (λ_=>false) (λwS=>ah (λj=>∃t,c j=some t/\dL t) u2 wS) ?_;have S0:=(ah.refl (λj=>∃t,c j=some t/\dL t) u2).drew;refine zk 1 [0,1,2,3,4] [_,_,_,pt gw,_] (.q zX<|.q zX<|.q zX<|.q (zS λ_ h=>(H2.blk.upd h (λ⟨t,e,ht⟩=>by have h5:=H2.cg;rw[h5]at e;cases e;exact cZ oM ht)).z 0 (pt gw))<|.c rfl rfl (zl λ_ h=>zb (U2.blk.upd h (λ⟨t,e,_⟩=>by rw[U2.no]at e;cases e)) underlying93) .nil) S0 ?_;refine zQ 5 ?_;go_wp2_with(go_at_call 349;refine(HN _ bR.drew).mono ?_;rintro e w4 ⟨rfl,c4,G4,T4⟩);refine .i (S0.trans T4.upd iL) ?_;have:=S0.trans T4.upd iL;refine zd ?_;go_wp2;go_end0;have T5:=(C2.trans (ae.aa dL c C2.fresh bR.drew) aB).trans T4 aB;exact⟨rfl,c4,E5▸G4,H0_.step T5 (cZ oM) aB,T5⟩
section
def NZ(c:bh)(g gw i:Nat)(cf:aM)(x:Wk)(W:Gw)(w w' : World):Prop:=∃c' sp,bD w' c' gw W/\mD w' c' g gw i cf sp x/\ae (sG i) w w' c c'
section
variable{w:World}{c:bh}{g gw i:Nat}{cf:aM}{sp:Option Addr}{x:Wk}{W:Gw}
theorem ai5(lk:Int)(wr:Bool)(nx:Nat)(h:mD w c g gw i cf sp x)(hg:bD w c gw W)(hc:∀k,w.heap.size<=k->c k=none)(hl:W.ay.length<=1000)(hn:aw lk)(ht:aw x.task)(hq:∀l,W.lock lk=some l->l.line.length<=1000) :
 Calls prog 365 #[pt g,I6 lk,.bool wr,I6 nx] w λe w'=>e=.returned (I6 nx)/\NZ c g gw i cf {x with wants:=if(W.ask lk x.task wr).1 then x.wants else lk} (W.ask lk x.task wr).2 w w':=by
 have H0:=h;have HC:=hc;have HA:=(λW1 (hb:Bl w W1)=>Vk (hg.call hb) (λk hk=>hc k (aB4 hb.size hk)) hl lk x.task wr hn ht hq);obtain⟨R,hR⟩:=zE (W.ask lk x.task wr);rw[<-hR]at HA;rw[<-hR];obtain⟨Z,hZ⟩:=zE (if R.1 then x.wants else lk);have HZ:=zD hZ;rw[<-hZ];clear hR h hg hc hq hZ;go_enter func365,ntmps365;go_upto_region 1 with fail
 refine zr (λ_=>false) (λwS=>ah (λj=>∃t,c j=some t/\dL t) w wS) ?_;have S0:=(ah.refl (λj=>∃t,c j=some t/\dL t) w).drew;refine zk 11 [0,1,2,3,4] [_,_,_,pt gw,_] (.q zX<|.q zX<|.q zX<|.q (zS λ_ h=>(H0.bu h).z 0 (pt gw))<|.e) S0 ?_;refine zk 6 [5,6,7,8,9] [_,_,_,I6 x.task,_] (.q zX<|.q zX<|.q zX<|.q (zS λ_ h=>(H0.bu h).z 1 (I6 x.task))<|.e) S0 ?_;refine zQ 10 ?_;go_wp2_with(go_at_call 347;refine(HA _ bR.drew).mono ?_;rintro e w4 ⟨er,rfl,c4,G4,T4⟩);refine .i (S0.trans T4.upd iL) ?_;refine zq 0 [11,12,13,14,15] [.tuple #[.bool R.1,I6 er],.bool R.1,I6 er,.bool R.1,I6 er] (S0.trans T4.upd iL) ?_;refine zd ?_;have T5:=(ae.aa dL c HC bR.drew).trans T4 aB;have H5:=H0.step T5 (cZ oM) aB;have:=H5.blk.z 3 (I6 x.wants);have:=H5.blk.frozen 3;clear S0 T4;cases hb:R.1
 ·have e:lk=Z:=(HZ.out.trans (if_neg (by rw[hb];decide))).symm
  subst e;go_wp2;go_ret;have U:=(ah.refl (λk=>k=g) w4).setCell (p:=⟨g,3,none⟩) (.inl rfl) (I6 lk);exact⟨rfl,c4,sp,dm G4 U H5.cg T5.fresh,H5.put (x':={x with wants:=lk}) U (H5.blk.aX 3 (I6 lk)) rfl,T5.fM.iW U H5.cg⟩
 ·have e:Z=x.wants:=HZ.out.trans (if_pos hb)
  subst e;go_wp2;go_ret;exact⟨rfl,c4,sp,G4,H5,T5.fM⟩
theorem Zm(lk:Int)(nx:Nat)(h:mD w c g gw i cf sp x)(hg:bD w c gw W)(hc:∀k,w.heap.size<=k->c k=none)(hl:W.ay.length<=1000)(hn:aw lk)(ht:aw x.task)(hq:∀l,W.lock lk=some l->l.line.length<=1000/\∀x∈l.line,aw x.task) :
 Calls prog 367 #[pt g,I6 lk,I6 nx] w λe w'=>e=.returned (I6 nx)/\NZ c g gw i cf x (W.drop lk x.task) w w':=by
 have H0:=h;have HC:=hc;have HA:=(λW1 (hb:Bl w W1)=>NS (hg.call hb) (λk hk=>hc k (aB4 hb.size hk)) hl lk x.task hn ht hq);obtain⟨R,hR⟩:=zE (W.drop lk x.task);rw[<-hR]at HA;rw[<-hR];clear hR h hg hc hq;go_enter func367,ntmps367;go_upto_region 1 with fail
 refine zr (λ_=>false) (λwS=>ah (λj=>∃t,c j=some t/\dL t) w wS) ?_;have S0:=(ah.refl (λj=>∃t,c j=some t/\dL t) w).drew;refine zk 5 [0,1,2,3,4] [_,_,_,pt gw,_] (.q zX<|.q zX<|.q zX<|.q (zS λ_ h=>(H0.bu h).z 0 (pt gw))<|.e) S0 ?_;refine zk 1 [5,6,7,8] [_,_,_,I6 x.task] (.q zX<|.q zX<|.q zX<|.q (zS λ_ h=>(H0.bu h).z 1 (I6 x.task)) .nil) S0 ?_;refine zQ 9 ?_;go_wp2_with(go_at_call 342;refine(HA _ bR.drew).mono ?_;rintro e w4 ⟨er,rfl,c4,G4,T4⟩);refine .i (S0.trans T4.upd iL) ?_;have S4:=S0.trans T4.upd iL;refine zd ?_;have T5:=(ae.aa dL c HC bR.drew).trans T4 aB;clear S0 S4 T4;go_wp2;go_ret;exact⟨rfl,c4,sp,G4,(H0.step T5 (cZ oM) aB),T5.fM⟩
end
end
section
section
variable{w:World}{c:bh}{g gw i:Nat}{cf:aM}{sp:Option Addr}{x:Wk}{W:Gw}
def Ei(h:bD w c g W)(hc:∀k,w.heap.size<=k->c k=none)(hl:W.wq.fi.f.length<=100000/\W.wq.fi.b.length<=100000)(Nn:W.wq.busy.length<=100000)(hi:∀k∈W.wq.fi.all,k∈W.wq.ax) :
 Calls prog 373 #[.pointer (some ⟨g,10,none⟩)] w λe w'=>e=.returned (.tuple #[.agg (gG W.wq).1.1.row,.bool (gG W.wq).1.2])/\zF c g {W with wq:=(gG W.wq).2} w w':=by
 obtain⟨cs,gs,gl,ls,lv,v,va,vf,vb,vd,vz,ve,h⟩:=h;refine(ag0 g 10 zz cs vf vb vd vz W.wq w h.wq hl Nn hi).mono ?_;rintro e w' ⟨cs',f',b',d',z',rfl,hs⟩;obtain⟨c',k1,k2⟩:=h.Ea hs hc;exact⟨rfl,c',⟨_,_,_,_,_,_,_,_,_,_,_,_,k1⟩,k2⟩
def IG(h:bD w c g W)(hl:W.wq.fi.f.length<=100000/\W.wq.fi.b.length<=100000) :
 Calls prog 374 #[.pointer (some ⟨g,10,none⟩)] w (Rt (.bool (W.wq.over&&decide (W.wq.fi.all=[]))) (Bl w)):=by
 obtain⟨cs,gs,gl,ls,lv,v,va,vf,vb,vd,vz,ve,h⟩:=h;exact Yu g 10 zz cs vf vb vd vz W.wq w h.wq hl
theorem Ej(h:mD w c g gw i cf sp x)(hg:bD w c gw W)(hc:∀k,w.heap.size<=k->c k=none)(hl:W.wq.fi.f.length<=100000/\W.wq.fi.b.length<=100000)(Nn:W.wq.busy.length<=100000)(hi:∀k∈W.wq.fi.all,k∈W.wq.ax)(hev:W.evs.length<100000)(hq:gG W.wq=((K,true),q2)):
 Calls prog 366 #[pt g] w λe w'=>e=.returned (I6 2)/\NZ c g gw i cf {x with key:=K} (({W with wq:=q2} : Gw).note (({x with key:=K} : Wk).ev 4)) w w':=by
 have HQ:=iV hg;have HG:=Ei hg hc hl Nn hi;rw[hq]at HG;have k0:=h.blk.z 0 (pt gw);have H0:=h;have Zn:=hev;clear h hg hc hl Nn hi hq hev;go_enter func366,ntmps366;go_upto_region 3 with(first
  |go_at_call 116;refine HQ.mono ?_;rintro e w1 ⟨rfl,rfl⟩
  |(go_at_call 373;refine HG.mono ?_;rintro e w4 ⟨rfl,c4,G4,T4⟩;have H4:=H0.step T4 (cZ oM) aB))
 have EX:=zW w4 (.cells K.row aS);have BX:=ai.new w4 aS K.row;have H5:=H4.call EX;have G5:=G4.call EX;have T5:=T4.trans (ae.aa dL c4 T4.fresh EX) aB;obtain⟨W5,Bd⟩:=zE (w4.alloc (.cells K.row aS));obtain⟨gx,hgx⟩:=zE w4.heap.size;rw[<-Bd]at BX H5 G5 T5 |-;rw[<-hgx]at BX |-;clear Bd hgx EX H4 G4 T4 k0;have b0:=BX.z 0 (V6 K.hi);have b1:=BX.z 1 (V6 K.lo);have f5:=H5.blk.frozen 5;have f6:=H5.blk.frozen 6;have h5:=H5.blk.z 5 (V6 x.key.hi);have h6:=H5.blk.z 6 (V6 x.key.lo);go_upto_region 4 with fail
 have U:=((ah.refl (λk=>k=g) W5).setCell (p:=⟨g,5,none⟩) (.inl rfl) (V6 (K.hi:Nat))).setCell (p:=⟨g,6,none⟩) (.inl rfl) (V6 (K.lo:Nat));have BL:=(H5.blk.aX 5 (V6 (K.hi:Nat))).aX 6 (V6 (K.lo:Nat));obtain⟨W6,hW6⟩:=zE ((W5.setCell ⟨g,5,none⟩ (V6 (K.hi:Nat))).setCell ⟨g,6,none⟩ (V6 (K.lo:Nat)));rw[<-hW6]at U BL |-;have H6:=H5.put (x':={x with key:=K}) U BL rfl;have G6:=dm G5 U H5.cg T5.fresh;have C6:=T5.fM.iW U H5.cg;clear hW6 U BL b0 b1 f5 f6 h5 h6 H5 G5 T5;go_wp2_with(go_at_call 369;refine(yG 4 rfl H6 G6 C6.fresh Zn).mono ?_;rintro e w8 ⟨rfl,c8,G8,H8,T8⟩);go_ret;exact⟨rfl,c8,sp,G8,H8,C6.trans T8.fM (cB i)⟩
def II{q:Wq}(h:gG q=((K,false),q2)):K=nO/\q2=q:=by
 unfold gG at h;rcases q.fi.wG with⟨h0,h1⟩|⟨x,L,h1,h2,h3⟩
 ·rw[h1]at h
  simp only[aG8,if_false]at h;injection h with h2 h3
  injection h2 with h4 h5
  exact⟨h4.symm,h3.symm⟩
 ·rw[h3]at h
  simp at h
theorem El(h:mD w c g gw i cf sp x)(hg:bD w c gw W)(hc:∀k,w.heap.size<=k->c k=none)(hl:W.wq.fi.f.length<=100000/\W.wq.fi.b.length<=100000)(Nn:W.wq.busy.length<=100000)(hi:∀k∈W.wq.fi.all,k∈W.wq.ax)(hq:gG W.wq=((K,false),q2))(ho:(q2.over&&decide (q2.fi.all=[]))=true):
 Calls prog 366 #[pt g] w λe w'=>e=.returned (I6 12)/\NZ c g gw i cf x {W with wq:=q2} w w':=by
 obtain⟨-,e2⟩:=II hq;subst e2;have HG:=Ei hg hc hl Nn hi;rw[hq]at HG;have HQ:=iV hg;have k0:=h.blk.z 0 (pt gw);have H0:=h;have HO:=ho;have HL:=hl;clear h hg hc hl Nn hi hq ho;go_enter func366,ntmps366;go_upto_region 6 with(first
  |go_at_call 116;refine HQ.mono ?_;rintro e w1 ⟨rfl,rfl⟩
  |(go_at_call 373;refine HG.mono ?_;rintro e w4 ⟨rfl,c4,G4,T4⟩;have H4:=H0.step T4 (cZ oM) aB))
 have EX:=zW w4 (.cells K.row aS);have BX:=ai.new w4 aS K.row;have H5:=H4.call EX;have G5:=G4.call EX;have T5:=T4.trans (ae.aa dL c4 T4.fresh EX) aB;obtain⟨W5,Bd⟩:=zE (w4.alloc (.cells K.row aS));obtain⟨gx,hgx⟩:=zE w4.heap.size;rw[<-Bd]at BX H5 G5 T5 |-;rw[<-hgx]at BX |-;clear Bd hgx EX H4 G4 T4 k0;have:=H5.blk.z 0 (pt gw);have Fk:=IG G5 HL;rw[HO]at Fk;have HO3:=Fk;clear Fk;go_wp2_with(first
  |go_at_call 116;refine zN (iV G5) ?_
  |(go_at_call 374;refine HO3.mono ?_;rintro e w7 ⟨rfl,lV⟩))
 go_ret;exact⟨rfl,c4,sp,G5.call lV,H5.call lV,(T5.trans (ae.aa dL c4 T5.fresh lV) aB).fM⟩
theorem Bh(h:mD w c g gw i cf sp x)(hg:bD w c gw W)(hc:∀k,w.heap.size<=k->c k=none)(hl:W.wq.fi.f.length<=100000/\W.wq.fi.b.length<=100000)(Nn:W.wq.busy.length<=100000)(hi:∀k∈W.wq.fi.all,k∈W.wq.ax)(hq:gG W.wq=((K,false),q2))(ho:(q2.over&&decide (q2.fi.all=[]))=false)(ht:aw x.task)(RY:W.mo.lk.line.length<=1000/\∀x∈W.mo.lk.line,aw x.task)(hma:W.mo.asleep.length<=1000):
 Calls prog 366 #[pt g] w λe w'=>e=.returned (I6 1)/\NZ c g gw i cf {x with asleep:=true} {W with wq:=q2,mo:=lK W.mo x.task} w w':=by
 obtain⟨-,e2⟩:=II hq;subst e2;have HG:=Ei hg hc hl Nn hi;rw[hq]at HG;have HQ:=iV hg;have k0:=h.blk.z 0 (pt gw);have H0:=h;have HO:=ho;have HL:=hl;have HT:=ht;have HM:=RY;have HMa:=hma;clear h hg hc hl Nn hi hq ho ht RY hma;go_enter func366,ntmps366;go_upto_region 6 with(first
  |go_at_call 116;refine HQ.mono ?_;rintro e w1 ⟨rfl,rfl⟩
  |(go_at_call 373;refine HG.mono ?_;rintro e w4 ⟨rfl,c4,G4,T4⟩;have H4:=H0.step T4 (cZ oM) aB))
 have EX:=zW w4 (.cells K.row aS);have BX:=ai.new w4 aS K.row;have H5:=H4.call EX;have G5:=G4.call EX;have T5:=T4.trans (ae.aa dL c4 T4.fresh EX) aB;obtain⟨W5,Bd⟩:=zE (w4.alloc (.cells K.row aS));obtain⟨gx,hgx⟩:=zE w4.heap.size;rw[<-Bd]at BX H5 G5 T5 |-;rw[<-hgx]at BX |-;clear Bd hgx EX H4 G4 T4 k0;have k0:=H5.blk.z 0 (pt gw);have Fk:=IG G5 HL;rw[HO]at Fk;have HO3:=Fk;clear Fk;go_upto_region 8 with(first
  |go_at_call 116;refine zN (iV G5) ?_
  |(go_at_call 374;refine HO3.mono ?_;rintro e w7 ⟨rfl,lV⟩))
 have H7:=H5.call lV;have T7:=T5.trans (ae.aa dL c4 T5.fresh lV) aB;have Pt:=(λW1 (hb:Bl w7 W1)=>Vl ((G5.call lV).call hb) (λk hk=>T7.fresh k (aB4 hb.size hk)) x.task HT HM HMa);clear lV G5 H5 T5 HO3 k0;refine zr (λ_=>false) (λwS=>ah (λj=>∃t,c4 j=some t/\dL t) w7 wS) ?_;have S0:=(ah.refl (λj=>∃t,c4 j=some t/\dL t) w7).drew;refine zk 4 [0,1,2,3,4] [_,_,_,pt gw,_] (.q zX<|.q zX<|.q zX<|.q (zS λ_ h=>(H7.bu h).z 0 (pt gw))<|.e) S0 ?_;refine zk 1 [5,6,7] [_,_,I6 x.task] (.q zX<|.q zX<|.q (zS λ_ h=>(H7.bu h).z 1 (I6 x.task)) .nil) S0 ?_;refine zQ 8 ?_;go_wp2_with(go_at_call 375;refine(Pt _ bR.drew).mono ?_;rintro e w9 ⟨er,rfl,c9,G9,T9⟩);refine .i (S0.trans T9.upd iL) ?_;have S9:=S0.trans T9.upd iL;refine zd ?_;have X9:=(ae.aa dL c4 T7.fresh bR.drew).trans T9 aB;have H9:=H7.step X9 (cZ oM) aB;have:=H9.blk.z 4 (.bool x.asleep);have:=H9.blk.frozen 4;clear S0 S9;go_wp2;go_ret;have U:=(ah.refl (λk=>k=g) w9).setCell (p:=⟨g,4,none⟩) (.inl rfl) (.bool true);exact⟨rfl,c9,sp,dm G9 U H9.cg X9.fresh,H9.put (x':={x with asleep:=true}) U (H9.blk.aX 4 (.bool true)) rfl,(T7.trans X9 aB).fM.iW U H9.cg⟩
end
end
section
def q7{w: World}{o:Obj}(h:Below (w.alloc o).heap.size (w.alloc o) w'):Bl w w':=
 ((Below.refl w.heap.size w).alloc lR o).trans (h.mono sI)
section
variable{w:World}{c:bh}{g gw i:Nat}{cf:aM}{sp:Option Addr}{x:Wk}{W:Gw}
def LN(h:(sp=none/\y=Ff)\/eA w c cf sp y):Calls prog 376 #[.pointer sp] w (Rt (.tuple #[.agg y.cM.row,.bool y.ruled]) (Bl w)):=by
 rcases h with⟨rfl,rfl⟩|⟨F,h1,-⟩
 ·exact vO w
 ·exact Gn _ _ _ _ _ _ h1
def IJ(h:(sp=none/\y=Ff)\/eA w c cf sp y):Calls prog 84 #[.pointer sp] w (iY w y.cL):=by
 rcases h with⟨rfl,rfl⟩|⟨F,h1,-⟩
 ·refine(tV w).mono ?_
  rintro e w' ⟨rfl,rfl⟩;exact iY.mk (Own.nil _ _ _ _ _) bR
 ·exact rV _ _ _ _ _ _ h1
def Vt(h:(sp=none/\y=Ff)\/eA w c cf sp y):Calls prog 85 #[.pointer sp] w (oz w y.past):=by
 rcases h with⟨rfl,rfl⟩|⟨F,h1,-⟩
 ·refine(Aw w).mono ?_
  rintro e w' ⟨rfl,rfl⟩;exact oz.mk (Own.nil _ _ _ _ _) bR
 ·exact Ce _ _ _ _ _ _ h1
structure IK(y:Ld):Prop where
 fit:y.cM.fit
 cL:∀s∈y.cL,s.good
 len:y.cL.length<=200
 Dk:y.past.length<=1000
theorem LP(h:mD w c g gw i cf sp x)(hg:bD w c gw W)(hc:∀k,w.heap.size<=k->c k=none)(hs:IK x.gA) :
 Calls prog 370 #[pt g] w λe w'=>e=.returned (I6 (x.reckon.does:Nat))/\NZ c g gw i cf {x.reckon with does:=x.does} W w w':=by
 have HP:=LN h.gA;have HS:=(λW1 (hb:Bl w W1)=>IJ (h.call hb).gA);have IL:=(λW1 (hb:Bl w W1)=>Vt (h.call hb).gA);have H0:=h;have G0:=hg;have HC:=hc;obtain⟨ad,had⟩:=zE (Xn x.gA.cM x.gA.cL x.gA.past);obtain⟨er,her⟩:=zE (Uc x.gA.cM x.gA.cL);have HD:∀A len cap B AR yf W1 (h1:cH W1 A len cap x.gA.cL) (h2:dB W1 B AR yf x.gA.past),Calls prog 377 #[(.agg #[I6 x.gA.cM.min,I6 x.gA.cM.max,I6 x.gA.cM.target,I6 x.gA.cM.lz,I6 x.gA.cM.bp,I6 x.gA.cM.hold]),.slice A len cap,.slice B AR yf] W1 (Rt (.tuple #[.agg (cI ad),I6 er]) (Bl W1)):=λA len cap B AR yf W1 h1 h2=>by
  rw[had,her];exact Qa x.gA.cM A len cap x.gA.cL B AR yf x.gA.past W1 hs.fit h1 hs.cL (oI h1.1 hs.len) h2 (oI h2.1 hs.Dk)
 have k6:=h.blk.z 7 (.pointer sp);obtain⟨R,hR⟩:=zE x.reckon;have HR:=zD (show R=(if x.gA.ruled=true/\er=0 then {x with ei:=ad,does:=7} else {x with does:=10})from by rw[hR,had,her];rfl);rw[<-hR];clear h hg hc hs hR had her;generalize x.gA.ruled=ru at *;go_enter func370,ntmps370;go_upto_region 2 with(go_at_call 376;refine HP.mono ?_;rintro e w1 ⟨rfl,hb1⟩;have B1:=hb1)
 have B2:=zT B1 (zW w1 (.cells x.gA.cM.row 43));have BX:=ai.new w1 43 x.gA.cM.row;have H2:=H0.call B2;obtain⟨W2,hW2⟩:=zE (w1.alloc (.cells x.gA.cM.row 43));obtain⟨gx,hgx⟩:=zE w1.heap.size;rw[<-hW2]at BX B2 H2 |-;rw[<-hgx]at BX |-;clear hW2 hgx B1 hb1 k6;refine zB λS0=>?_
 refine zk 13 [0,1,2,3,4] [_,_,_,_,.pointer sp] (.c rfl rfl (zl λ_ h=>zb (BX.call h) underlying43)<|.q zX<|.q zX<|.q zX<|.q (zS λ_ h=>(H2.blk.call h).z 7 (.pointer sp)) .nil) S0 ?_;refine zk 9 [6,7,8,9] [_,_,_,.pointer sp] (.q zX<|.q zX<|.q zX<|.q (zS λ_ h=>(H2.blk.call h).z 7 (.pointer sp)) .nil) S0 ?_;refine zY 5 15 ?r1 ?r2
 case' r1=>
  go_wp2_with(go_at_call 84;refine(HS _ (B2.trans ((S0).mono B2.size))).mono ?_;rintro e w3 ⟨A3,n3,c3,rfl,hs3,hb3⟩;have O3:=hs3.is (λ_=>rfl);(try have bG:=bG.call hb3))
  refine .i (zT S0 hb3) ?_;have S3:=zT S0 hb3;refine zY 10 15 ?r3 ?r4
  case' r3=>
   go_wp2_with(go_at_call 85;refine(IL _ (B2.trans ((S3).mono B2.size))).mono ?_;rintro e w4 ⟨A4,n4,c4,rfl,hs4,hb4⟩;have O4:=hs4.is (λ_=>rfl);have Q3:=af O3 (show Bl w3 w4 by first|exact hb4|exact q7 hb4);(try have bG:=bG.call hb4))
   refine .i (zT S3 hb4) ?_;have S4:=zT S3 hb4;refine zY 11 15 ?r5 ?r6
   case' r5=>
    go_wp2_with(go_at_call 377;refine zM (HD _ _ _ _ _ _ _ (af Q3 gW) (af O4 gW)) λw5 dx=>?_;(try have bG:=bG.call dx))
    refine .i (zT S4 dx) ?_;have S5:=zT S4 dx;refine zq 3 [12,13,14] [.tuple #[.agg (cI ad),I6 er],.agg (cI ad),I6 er] S5 ?_;refine zQ 15 ?_;have nG:=dp (S:=S5) (#[I6 0,I6 0,I6 0,I6 0,I6 0]) 49;obtain⟨G,hG,bG,lG⟩:=nG;go_wp2_with fail;refine .i (S5.alloc S5.size _) ?_
    (try simp only[hG])
    clear hG;have SG:=S5.alloc S5.size (.cells (#[I6 0,I6 0,I6 0,I6 0,I6 0]) 49);refine zQ 16 ?_;go_wp2_with(refine zJ (bG) ?_;intro uG p9 jH);refine .i (SG.trans (Only.below jH lG SG.size)) ?_;have jf:=SG.trans (Only.below jH lG SG.size);refine zq 0 [17] [I6 er] jf ?_;refine zd ?_
   case' r6=>
    have nG:=dp (S:=S4) (#[I6 0,I6 0,I6 0,I6 0,I6 0]) 49;obtain⟨G,hG,bG,lG⟩:=nG;go_wp2_with fail;refine .i (S4.alloc S4.size _) ?_
    (try simp only[hG])
    clear hG;have SG:=S4.alloc S4.size (.cells (#[I6 0,I6 0,I6 0,I6 0,I6 0]) 49);refine zQ 11 ?_;go_wp2_with(go_at_call 377;refine zM (HD _ _ _ _ _ _ _ (af Q3 gW) (af O4 gW)) λw5 dx=>?_;(try have bG:=bG.call dx));refine .i (zT SG dx) ?_;have S5:=zT SG dx;refine zq 2 [12,13,14] [.tuple #[.agg (cI ad),I6 er],.agg (cI ad),I6 er] S5 ?_;refine zQ 16 ?_;go_wp2_with(refine zJ (bG) ?_;intro uG p9 jH);refine .i (S5.trans (Only.below jH lG S5.size)) ?_;have jf:=S5.trans (Only.below jH lG S5.size);refine zq 0 [17] [I6 er] jf ?_;refine zd ?_
  case' r4=>
   have nG:=dp (S:=S3) (#[I6 0,I6 0,I6 0,I6 0,I6 0]) 49;obtain⟨G,hG,bG,lG⟩:=nG;go_wp2_with fail;refine .i (S3.alloc S3.size _) ?_
   (try simp only[hG])
   clear hG;have SG:=S3.alloc S3.size (.cells (#[I6 0,I6 0,I6 0,I6 0,I6 0]) 49);refine zQ 10 ?_;go_wp2_with(go_at_call 85;refine(IL _ (B2.trans ((SG).mono B2.size))).mono ?_;rintro e w4 ⟨A4,n4,c4,rfl,hs4,hb4⟩;have O4:=hs4.is (λ_=>rfl);have Q3:=af O3 (show Bl w3 w4 by first|exact hb4|exact q7 hb4);(try have bG:=bG.call hb4));refine .i (zT SG hb4) ?_;have S4:=zT SG hb4;refine zQ 11 ?_;go_wp2_with(go_at_call 377;refine zM (HD _ _ _ _ _ _ _ (af Q3 gW) (af O4 gW)) λw5 dx=>?_;(try have bG:=bG.call dx));refine .i (zT S4 dx) ?_;have S5:=zT S4 dx;refine zq 2 [12,13,14] [.tuple #[.agg (cI ad),I6 er],.agg (cI ad),I6 er] S5 ?_;refine zQ 16 ?_;go_wp2_with(refine zJ (bG) ?_;intro uG p9 jH);refine .i (S5.trans (Only.below jH lG S5.size)) ?_;have jf:=S5.trans (Only.below jH lG S5.size);refine zq 0 [17] [I6 er] jf ?_;refine zd ?_
 case' r2=>
  obtain⟨G,hG,bG,lG⟩:=dp (S:=S0) (#[I6 0,I6 0,I6 0,I6 0,I6 0]) 49;go_wp2_with fail;refine .i (S0.alloc S0.size _) ?_
  (try simp only[hG])
  clear hG;have SG:=S0.alloc S0.size (.cells (#[I6 0,I6 0,I6 0,I6 0,I6 0]) 49);refine zQ 5 ?_;go_wp2_with(go_at_call 84;refine(HS _ (B2.trans ((SG).mono B2.size))).mono ?_;rintro e w3 ⟨A3,n3,c3,rfl,hs3,hb3⟩;have O3:=hs3.is (λ_=>rfl);(try have bG:=bG.call hb3));refine .i (zT SG hb3) ?_;have S3:=zT SG hb3;refine zQ 10 ?_;go_wp2_with(go_at_call 85;refine(IL _ (B2.trans ((S3).mono B2.size))).mono ?_;rintro e w4 ⟨A4,n4,c4,rfl,hs4,hb4⟩;have O4:=hs4.is (λ_=>rfl);have Q3:=af O3 (show Bl w3 w4 by first|exact hb4|exact q7 hb4);(try have bG:=bG.call hb4));refine .i (zT S3 hb4) ?_;have S4:=zT S3 hb4;refine zQ 11 ?_;go_wp2_with(go_at_call 377;refine zM (HD _ _ _ _ _ _ _ (af Q3 gW) (af O4 gW)) λw5 dx=>?_;(try have bG:=bG.call dx));refine .i (zT S4 dx) ?_;have S5:=zT S4 dx;refine zq 2 [12,13,14] [.tuple #[.agg (cI ad),I6 er],.agg (cI ad),I6 er] S5 ?_;refine zQ 16 ?_;go_wp2_with(refine zJ (bG) ?_;intro uG p9 jH);refine .i (S5.trans (Only.below jH lG S5.size)) ?_;have jf:=S5.trans (Only.below jH lG S5.size);refine zq 0 [17] [I6 er] jf ?_;refine zd ?_
 all_goals
  have BG:ai uG G Vs (cI ad):=p9;have B9:Bl w uG:=zT B2 jf;have H9:=H0.call B9;have G9:=G0.call B9;have C9:=ae.aa (sG i) c HC B9;clear jf SG S0 S3 S4 S5 p9 jH bG lG hs3 hb3 hs4 hb4 dx O3 O4 Q3 HS IL HD HP H0 G0 B2 H2 BX
  by_cases hz:ru=true/\er=0
  ·have e9:=HR.out.trans (if_pos hz)
   subst e9;obtain⟨rfl,rfl⟩:=hz;clear HR;go_wp2_with(first
    |refine zI BG underlying49 ?_
    |(refine cu rfl Vs (.tmp 39) (.tmp 37) rfl g 8 Xu _ _ rfl rfl H9.blk sI kZ (by simp[Value.oneCell']) ?_;intro u4 ki hw4;have Vq:=ki;have Qx:=ah.bE hw4;clear ki hw4))
   go_ret;exact⟨rfl,c,sp,dm G9 Qx H9.cg C9.fresh,H9.put (x':={x with ei:=ad}) Qx Vq rfl,C9.iW Qx H9.cg⟩
  ·have e9:=HR.out.trans (if_neg hz)
   subst e9;cases ru
   ·clear HR
    go_wp2;go_ret;exact⟨rfl,c,sp,G9,H9,C9⟩
   ·have:(er==0)=false:=sH hz
    have: ¬er=0:=sH hz
    clear HR hz;go_wp2;go_ret;exact⟨rfl,c,sp,G9,H9,C9⟩
end
end
section
section
variable{w:World}{c:bh}{g gw i:Nat}{cf:aM}{sp:Option Addr}{x:Wk}{W:Gw}
def Gw.ad3(W:Gw)(k:Key)(a:aU):Gw:={W with aG:=W.aG.et (W.aG.home k) ((W.aG.str (W.aG.home k)).note k a).2}
theorem Qy(h:mD w c g gw i cf sp x)(hg:bD w c gw W)(hc:∀k,w.heap.size<=k->c k=none)(hk:x.key.good)(hr:dD (W.aG.strs.length:Int)=true)(ho:fL (W.aG.str (W.aG.home x.key)) n)(hn:n<=100000)(hev:W.evs.length<100000):
 Calls prog 371 #[pt g] w λe w'=>e=.returned (I6 9)/\NZ c g gw i cf x ((W.ad3 x.key x.ei).note (x.ev 6)) w w':=by
 obtain⟨gs,hs,hst,hsk⟩:=yD hg;obtain⟨A,m,cap,ps,gt,bt,fp,ks,hss⟩:=hs;have hb:=dW W.aG x.key hr;obtain⟨p,hp⟩:∃p,ps[W.aG.home x.key]? = some p:=⟨_,aB3 (by rw[hss.strs.len];exact hb.2)⟩
 have HP:=zD hp;have H0:=h;have HC:=hc;have nI:=hst;have HSk:=hsk;have R7:=hss;have HO:=ho;have HN:=hn;have HK:=hk;have Zn:=hev;have HH:=(λW1 (hb:Bl w W1)=>Eh (h.call hb) (hg.call hb) hk hr);obtain⟨R,hR⟩:=zE (W.ad3 x.key x.ei);have HR:=zD hR;rw[<-hR];clear h hg hc hk hr ho hn hev hR hst hsk hss hb hp;go_enter func371,ntmps371;go_upto_region 1 with fail
 refine zr (λ_=>false) (λwS=>ah (λj=>∃t,c j=some t/\dL t) w wS) ?_;have S0:=(ah.refl (λj=>∃t,c j=some t/\dL t) w).drew;refine zk 12 [0,1,2,3,5] [_,_,_,pt gw,_] (.q zK<|.q zK<|.q zK<|.c rfl rfl (zl λ_ h=>by have c:=(H0.bu h).z 0 (pt gw);go_simp)<|.f) S0 ?_;refine zk 7 [8,9,10,11,12] [_,_,_,.agg x.key.row,_] (.c rfl rfl zPP<|.c rfl rfl zPP<|.c rfl rfl zPP<|.c rfl rfl (zl λ_ h=>aF (ty:=aS) (x:=.tmp 13) rfl rfl (run_loadAt_mid _ _ _ _ _ _ (jN (H0.bu h)) underlying83 rfl kZ))<|.f) S0 ?_;refine zk 4 [13,14,15] [_,_,.agg (cI x.ei)] (.c rfl rfl zPP<|.c rfl rfl zPP<|.c rfl rfl (zl λ_ h=>aF (ty:=Vs) (x:=.tmp 17) rfl rfl (run_loadAt_mid _ _ _ _ _ _ (CF (H0.bu h)) underlying49 rfl kZ)) .nil) S0 ?_;refine zQ 4 ?_;go_wp2_with(go_at_call 160;refine zN (nI _ bR.drew) ?_);refine .i S0 ?_;refine zQ 6 ?_;go_wp2_with(go_at_call 368;refine zM (HH _ bR.drew) λw2 hb2=>?_;have B2:Bl w w2:=(Below.refl w.heap.size w).drew.trans hb2);refine .i (S0.trans (ah.aa hb2) iL) ?_;have S2:=S0.trans (ah.aa hb2) iL;refine zQ 7 ?_;go_wp2_with(go_at_call 67;refine zN (fy (R7.call B2) _ p HP.out) ?_);refine .i S2 ?_;refine zQ 16 ?_;go_wp2_with(go_at_call 378;refine(GD x.key x.ei w2 ((R7.call B2).strs.str _ p HP.out) HK (λj hj=>HC j (aB4 B2.size hj)) HO HN).mono ?_;rintro e w6 ⟨c6,rfl,uZ,ux⟩;have Z6:cG w6 c6 gs _:=⟨A,m,cap,ps,gt,bt,fp,ks,(R7.call B2).str HP.out ux uZ⟩;have T6:=(ae.aa dO c HC B2).trans (ux.mono (T2:=dO) λt e=>.st e) eu;have U6:=ux.upd;clear uZ ux);refine .i (S2.trans U6 (λk ⟨t,e,ht⟩=>.inl ⟨t,e,.st (.st ht)⟩)) ?_;have S6:=S2.trans U6 (λk ⟨t,e,ht⟩=>.inl ⟨t,e,.st (.st ht)⟩);refine zd ?_;obtain⟨g7,t7⟩:=HSk _ _ _ T6 Z6 rfl;have G7:bD w6 c6 gw R:=by rw[HR.out];exact g7
 have T7:=t7;have H7:=H0.step t7 (cZ oM) aB;have HL7:R.evs.length<100000:=by rw[HR.out];exact Zn
 clear S0 S2 S6 g7 t7;go_wp2_with(go_at_call 369;refine(LM H7 G7 T7.fresh HL7).mono ?_;rintro e w8 ⟨rfl,c8,G8,H8,T8⟩);go_ret;exact⟨rfl,c8,sp,G8,H8,(T7.trans T8 aB).fM⟩
theorem Vu(h:mD w c g gw i cf sp x)(hg:bD w c gw W)(hc:∀k,w.heap.size<=k->c k=none)(hk:x.key.good)(hev:W.evs.length<100000)(hl:W.wq.fi.b.length<100000)(ha:∀x∈W.mo.asleep,aw x)(hq:W.mo.lk.line.length<=1000)(hd:x.done<1000000) :
 Calls prog 372 #[pt g] w λe w'=>e=.returned (I6 14)/\NZ c g gw i cf {x with done:=x.done+1} ((W.note (x.ev 7)).give x.key) w w':=by
 have HE:=yG 7 rfl h hg hc hev;have HK:=hk;have HL:=hl;have HA:=ha;have HQ:=hq;have HD:=hd;obtain⟨R,hR⟩:=zE (W.note (x.ev 7));have HR:=zD hR;rw[<-hR];rw[<-hR]at HE;clear h hg hc hk hev hl ha hq hd hR;go_enter func372,ntmps372;go_upto_region 2 with(go_at_call 369;refine HE.mono ?_;rintro e w8 ⟨rfl,c8,G8,H8,T8⟩)
 refine zr (λ_=>false) (λwS=>ah (λj=>∃t,c8 j=some t/\dL t) w8 wS) ?_;have S0:=(ah.refl (λj=>∃t,c8 j=some t/\dL t) w8).drew;refine zk 4 [0,1,2,3,4] [_,_,_,pt gw,_] (.q zK<|.q zK<|.q zK<|.c rfl rfl (zl λ_ h=>by have c:=(H8.bu h).z 0 (pt gw);go_simp)<|.f) S0 ?_;refine zk 1 [5,6,7] [_,_,.agg x.key.row] (.c rfl rfl zPP<|.c rfl rfl zPP<|.c rfl rfl (zl λ_ h=>aF (ty:=aS) (x:=.tmp 11) rfl rfl (run_loadAt_mid _ _ _ _ _ _ (jN (H8.bu h)) underlying83 rfl kZ)) .nil) S0 ?_;refine zQ 8 ?_;go_wp2_with(go_at_call 379;refine(Zd (G8.call bR.drew) T8.fresh x.key HK (by rw[HR.out];exact HL) (by rw[HR.out];exact HA) (by rw[HR.out];exact HQ)).mono ?_;rintro e w4 ⟨b4,rfl,c4,G4,T4⟩);refine .i (S0.trans T4.upd iL) ?_;have S4:=S0.trans T4.upd iL;refine zd ?_;have T5:=(T8.trans (ae.aa dL c8 T8.fresh bR.drew) aB).trans T4 aB;have H5:=H8.step ((ae.aa dL c8 T8.fresh bR.drew).trans T4 aB) (cZ oM) aB;have:=H5.blk.z 13 (I6 (x.done:Int));have:=H5.blk.frozen 13;have:=HD;clear S0 S4 T4;go_wp2;go_ret;have U:=(ah.refl (λk=>k=g) w4).setCell (p:=⟨g,13,none⟩) (.inl rfl) (I6 ((x.done:Int)+1));have BL:=H5.blk.aX 13 (I6 ((x.done:Int)+1));exact⟨rfl,c4,sp,dm G4 U H5.cg T5.fresh,H5.put (x':={x with done:=x.done+1}) U BL rfl,T5.fM.iW U H5.cg⟩
end
end
structure yH(W:Gw):Prop where
 loc:W.ay.length<=1000
 str : -1<=W.aG.cfg.str/\W.aG.cfg.str<=64
 lin:∀n l,W.lock n=some l->l.line.length<=400/\∀x∈l.line,aw x.task
 zG:(∀x∈W.mo.asleep,aw x)/\W.mo.asleep.length<=400
 mol:W.mo.lk.line.length<=400/\∀x∈W.mo.lk.line,aw x.task
 evs:W.evs.length+2<100000
 wqf:W.wq.fi.f.length<=10000
 wqb:W.wq.fi.b.length<10000
 wqd:W.wq.ax.length<=10000
 wqz:W.wq.busy.length<=10000
 wqi:∀k∈W.wq.fi.all,k∈W.wq.ax
 rt:dD (W.aG.strs.length:Int)=true
 wO:∃n k,qj W.aG n k/\n<=30000/\k<=40
def yH.ap5(h:yH W)(k:Key):aw (W.aG.home k:Nat):=by
 obtain⟨n,j,h1,h2,h3⟩:=h.wO;have:=(dW W.aG k h.rt).2;have:=h1.len;have:=h.str.2;unfold aw;omega
def yH.stp(h:yH W)(k:Key): ∃n,fL (W.aG.str (W.aG.home k)) n/\n<=100000:=by
 obtain⟨n,j,h1,h2,h3⟩:=h.wO;exact⟨n,(h1.qm (dW W.aG k h.rt).2).1.ok,oM⟩
structure Vv(W:Gw)(cf:aM)(x:Wk):Prop where
 wants:aw x.wants
 task:aw x.task
 key:x.key.good
 gA:IK x.gA
 done:x.done<1000000
 cfg:cf=W.aG.cfg
 has:x.does=4->∃y,aJ (W.aG.str (W.aG.home x.key)).loads x.key=some y
 does:x.does<=14
def Zo{x:Wk}(h:mD w c g gw i cf sp x)(hg:bD w c gw W)(hc:∀k,w.heap.size<=k->c k=none)(a8:yH W)(ht:aw x.task):
 Calls prog 366 #[pt g] w λe w'=>e=.returned (I6 ((x.next W).2.does:Nat))/\NZ c g gw i cf {(x.next W).2 with does:=x.does} (x.next W).1 w w':=by
 have hl:W.wq.fi.f.length<=100000/\W.wq.fi.b.length<=100000:=⟨oH a8.wqf,oH a8.wqb⟩;have hz:W.wq.busy.length<=100000:=oH a8.wqz
 have he:W.evs.length<100000:=oH a8.evs
 unfold Wk.next;obtain⟨⟨⟨K,b⟩,q2⟩,hq⟩:∃r,r=gG W.wq:=⟨_,rfl⟩
 rw[<-hq];cases b
 ·simp only[aG8,if_false]
  cases ho:q2.over&&decide (q2.fi.all=[])
  ·simp only[aG8,if_false]
   exact Bh h hg hc hl hz a8.wqi hq.symm ho ht ⟨aB4 a8.mol.1 dC,a8.mol.2⟩ (aB4 a8.zG.2 dC)
  ·simp only[if_true]
   exact El h hg hc hl hz a8.wqi hq.symm ho
 ·simp only[if_true]
  exact Ej h hg hc hl hz a8.wqi he hq.symm
section
def Cl.set(W:Gw)(x:Cl):Cl:=if x.ops=[]then {x with ops:=cN W.aG.cfg x.call.k x.call.s x.call.t x.call.v x.call.p,at_:=0} else x
structure ai6(W:Gw)(x:Cl):Prop where
 wants:aw x.wants
 task:aw x.task
 nth:x.nth<100000
 call:bM x.call
 at_:(x.set W).at_<(x.set W).ops.length
 len:(x.set W).ops.length<=1000
 lock:aw (x.set W).op.lock
 kind:1<=(x.set W).op.kind/\(x.set W).op.kind<=7
 skip:(x.set W).op.kind=5->(x.set W).op.lock<W.aG.cfg.str->x.rep.err≠0->∃j,SkJ (x.set W).ops (ez W) (x.set W).at_ j/\j<=(x.set W).ops.length
 fit:W.aG.cfg.fit
 ok:W.aG.cfg.gV
def uz{c:aM}(h:c.gV)(k:Int)(s:ByteArray)(t v:Int)(p:dI):cN c k s t v p≠[]:=by
 unfold cN vR;rw[if_pos (sH h)];simp
def Zp{w:World}{base:Nat}{v:Value}(h:qL w base v l)(hl:l≠[]): ∃b cap,v=.slice (some ⟨b,0,none⟩) l.length cap/\ag w 2 iM.cells (some ⟨b,0,none⟩) l.length cap l/\base<=b/\b<w.heap.size:=by
 obtain⟨A,cap,rfl,hs⟩:=h.slice (λ_=>rfl);rcases h.2 with⟨e,h0⟩|⟨g,yf,cur,e,hb,hg,-⟩
 ·exact absurd (aC0 (by injection e)) hl
 ·injection e with e1 e2 e3
  subst e1;exact⟨g,cap,rfl,hs,hb,(World.ownsRow.lt h g rfl).2⟩
section
variable{w w' : World}{c c' : bh}{g gw i:Nat}{A:Option Addr}{n cc:Nat}{ov:Value}{at_:Int}{x:Cl}{W:Gw}
def mB.ext(h:mB w c g gw i A n cc ov at_ x)(he:nQ c c'):mB w c' g gw i A n cc ov at_ x:=
 ⟨h.blk,h.prog,h.pl,h.ops,he _ _ h.cg,λa ha=>he _ _ (h.cp a ha),λk hk=>he _ _ (h.co k hk),h.np,h.no⟩
def nU.ay5{S:Nat->Prop}{gx:Nat}{t:TypeId}{cs:Array Value}(h:nU w c gx t cs)(hu:ah S w w')(hS:¬S gx):nU w' c gx t cs:=⟨h.blk.upd hu hS,h.no⟩
def ae.ap6{w0:World}{c0:bh}(h:ae (sG i) w0 w c0 c)(hu:ah (λk=>k=g) w w')(hg:c g=some (.at_ (20+i)))(N:Nat->Prop)(hN:∀k,N k->w.heap.size<=k)(Th:∀k,N k->k<w'.heap.size) :
 ae (sG i) w0 w' c0 (ft N (.at_ (20+i)) c)/\ae (λt=>t=.at_ (20+i)) w w' c (ft N (.at_ (20+i)) c)/\nQ c (ft N (.at_ (20+i)) c):=by
 have h1:ae (λt=>t=.at_ (20+i)) w w' c (ft N (.at_ (20+i)) c):=ae.grow (T:=λt=>t=.at_ (20+i)) hu (λk e=>⟨_,e▸hg,rfl⟩) rfl N (λk hk=>.inr (hN k hk)) Th h.fresh;exact⟨h.trans (h1.mono λt e=>.inr e) (cB i),h1,nQ.ft λk hk=>h.fresh k (hN k hk)⟩
def ClR(c:bh)(g gw i:Nat)(x:Cl)(W:Gw)(w w' : World):Prop:=∃c',bD w' c' gw W/\Iy w' c' g gw i x/\ae (sG i) w w' c c'
def lM{w0:World}{c0:bh}{m:Nat}{v:Int}(h:mB w c g gw i A n cc ov at_ x)(hg:bD w c gw W)(hs:ae (sG i) w0 w c0 c)(hv:v=at_+1)(hm:(m:Int)=v):ClR c0 g gw i {x with at_:=m} W w0 (w.setCell ⟨g,5,none⟩ (I6 v)):=by
 have U:=(ah.refl (λk=>k=g) w).setCell (p:=⟨g,5,none⟩) (.inl rfl) (I6 v);refine⟨c,dm hg U h.cg hs.fresh,⟨A,n,cc,ov,?_⟩,hs.iW U h.cg⟩
 show mB _ c g gw i A n cc ov (m:Int) _
 rw[hm];exact h.Gu (x':={x with at_:=m}) (at':=v) U (h.blk.aX 5 (I6 v)) rfl rfl
def ClS(w0:World)(c0:bh)(g gw i gx:Nat)(A:Option Addr)(n cc:Nat)(x:Cl)(W:Gw)(w:World):Prop:=∃c ov,bD w c gw W/\mB w c g gw i A n cc ov (x.at_:Int) x/\ae (sG i) w0 w c0 c/\nU w c gx nV (aj x.call.k x.call.s x.call.t x.call.v x.call.h x.call.p)
end
end
def opAt(s:Nat)(k:Int)(l:List iM)(a:Nat):Bool:=
 let o:=l.getD a vt
 let j:=if k=1\/k=6 then 1 else 0
 decide (1<=o.kind)&&decide (o.kind<=7)&&decide (-1<=o.lock)&&decide (o.lock<=100)&&(decide (o.kind=7)==decide (a+1=l.length))
 && (decide (o.kind≠4) || !(l.take a).any λo=>decide (o.kind=4))
 && (decide (¬(o.kind=5/\o.lock<(s:Int)))||decide ((l.getD (a+3*j+1) vt).lock≠(s:Int)+1)&&decide (a+3*j+1<l.length)&&(decide (j=0)||decide ((l.getD (a+1) vt).lock=(s:Int)+1))&&(decide (j=0)||decide (a=3)))
 && (decide (¬(o.kind=6))||decide (k=1\/k=6)&&decide (a=5))
 && (decide (¬(k=1\/k=6))||decide (l.length=2)||(decide (l.length=8)&&(decide (a≠0)||decide (o.kind=1))&&(decide (a≠2)||decide (o.kind=4))&&(decide (a≠3)||decide (o.kind=5/\o.lock<(s:Int)))&&(decide (o.kind≠4)||decide (a=2))&&(decide (o.kind≠1)||decide (a=0))))
 && (decide (l.length=2)||decide (3<=l.length))
def CG(s:Nat)(k:Int)(l:List iM):Bool:=(List.range l.length).all λa=>opAt s k l a
def Zq:∀s ∈ [1,2,4,8],∀k∈List.range 9,∀h∈List.range s,∀e ∈ [0,1],CG s (k:Int) (vR true (e:Int) (h:Int) s (k:Int))=true:=by decide +kernel
structure Zr(s:Nat)(k:Int)(l:List iM)(a:Nat):Prop where
 k1:1<=(l.getD a vt).kind/\(l.getD a vt).kind<=7
 lk : -1<=(l.getD a vt).lock/\(l.getD a vt).lock<=100
 last:(l.getD a vt).kind=7↔a+1=l.length
 once:(l.getD a vt).kind=4->((l.take a).any λo=>decide (o.kind=4))=false
 skip:(l.getD a vt).kind=5->(l.getD a vt).lock<(s:Int)->SkJ l ((s:Int)+1) a (if k=1\/k=6 then 1 else 0)/\((k=1\/k=6)->a=3)
 six:(l.getD a vt).kind=6->(k=1\/k=6)/\a=5
 one:(k=1\/k=6)->l.length=2\/l.length=8/\(a=2->(l.getD a vt).kind=4)/\(a=3->(l.getD a vt).kind=5/\(l.getD a vt).lock<(s:Int))/\((l.getD a vt).kind=4->a=2)/\((l.getD a vt).kind=1->a=0)
def Zs(h:opAt s k l a=true):Zr s k l a:=by
 unfold opAt at h;simp only[aF5,Bool.or_eq_true,decide_eq_true_eq,beq_iff_eq,decide_eq_decide,aU7]at h;obtain⟨⟨⟨⟨⟨⟨⟨⟨⟨h1,h2⟩,h3⟩,h4⟩,h5⟩,h6⟩,h7⟩,h8⟩,h9⟩,h10⟩:=h;refine⟨⟨h1,h2⟩,⟨h3,h4⟩,h5,λe=>?_,λe1 e2=>?_,λe=>?_,λe=>?_⟩
 ·rcases h6 with h6|h6
  ·exact absurd e h6
  ·exact h6
 ·rcases h7 with h7|⟨⟨⟨h7,h11⟩,h12⟩,Vw⟩
  ·exact absurd ⟨e1,e2⟩ h7
  ·refine⟨⟨λi hi=>?_,h7,h11⟩,λe=>?_⟩
   ·rcases h12 with h12|h12
    ·rw[h12]at hi;omega
    ·split at hi
     ·have:i=0:=oM
      subst this;exact h12
     ·omega
   ·rcases Vw with Vw|Vw
    ·rw[if_pos e]at Vw;omega
    ·exact Vw
 ·rcases h8 with h8|h8
  ·exact absurd e h8
  ·exact h8
 ·rcases h9 with(h9|h9)|⟨⟨⟨⟨⟨h9,h11⟩,h12⟩,Vw⟩,h14⟩,h15⟩
  ·exact absurd e h9
  ·exact .inl h9
  ·refine .inr ⟨h9,λe=>?_,λe=>?_,λe=>?_,λe=>?_⟩
   ·rcases h12 with h12|h12
    ·exact absurd e h12
    ·exact h12
   ·rcases Vw with Vw|Vw
    ·exact absurd e Vw
    ·exact Vw
   ·rcases h14 with h14|h14
    ·exact absurd e h14
    ·exact h14
   ·rcases h15 with h15|h15
    ·exact absurd e h15
    ·exact h15
def Vx(h:CG s k l=true)(ha:a<l.length):Zr s k l a:=
 Zs (aI7.1 h a (aR8.2 ha))
def Zt(s:Nat)(k:Int):CG s k [⟨1,0⟩,⟨7,0⟩]=true:=by
 have h:∀a ∈ [0,1],opAt s k [⟨1,0⟩,⟨7,0⟩] a=true:=by
  intro a ha;simp only[aE6,aU0,or_false]at ha;rcases ha with rfl|rfl<;>by_cases e:k=1\/k=6<;>simp[opAt,e]
 simpa[CG,List.range_succ]using h
theorem CH{s:ByteArray}{t v:Int}{p:dI}(h:bJ k s t v p=0):1<=k/\k<=8/\((k=1\/k=5\/k=6\/k=7)->eO s=true):=by
 unfold bJ at h
 split at h
 ·exact absurd h dC
 ·split at h
  ·exact absurd h dC
  ·rename_i h1 h2
   exact⟨oM,oM,λe=>by
    cases hi:eO s with
    |true=>rfl
    |false=>exact absurd ⟨e,hi⟩ h2⟩
def QA{h1 h2:Int}(hk:k≠1/\k≠6/\k≠7):gI h1 s k=gI h2 s k:=by
 have a:¬(k=1\/k=6):=oM
 have b:¬k=7:=hk.2.2;unfold gI;simp only[if_neg a,if_neg b]
def QB(a8:cf.gV)(h8:cf.str<=8)(k:Int)(s:ByteArray)(t v:Int)(p:dI):CG cf.str.toNat k (cN cf k s t v p)=true:=by
 unfold cN;rw[decide_eq_true a8];have hs:cf.str.toNat ∈ [1,2,4,8]:=by
  have:=a7 a8.1;simp only[aE6,aU0,or_false];omega
 by_cases he:bJ k s t v p=0
 ·obtain⟨k1,k8,hid⟩:=CH he
  rw[he];have zP:0<cf.str.toNat:=by simp only[aE6,aU0,or_false]at hs;omega
  have key:∀h:Nat,h<cf.str.toNat->CG cf.str.toNat k (vR true 0 (h:Int) cf.str.toNat k)=true:=λh hh=>by
   have h9:=Zq cf.str.toNat hs k.toNat (aR8.2 oM) h (aR8.2 hh) 0 sI;rw[aV2 oM]at h9;exact h9
  by_cases hk:k=1\/k=6\/k=7
  ·have h2:=hid oM
   have hb:=xN (aO s) (aP s) cf.str;have hh:dZ cf s=((Fe (aO s) (aP s) cf.str).toNat:Int):=by
    unfold dZ;rw[if_pos h2];have:=(xN (aO s) (aP s) cf.str).2.2 a8.1;omega
   rw[hh];refine key _ ?_;have:=(xN (aO s) (aP s) cf.str).2.2 a8.1;omega
  ·have h3:=key 0 zP
   unfold vR at h3 |-;rw[QA (h2:=((0:Nat):Int)) oM];exact h3
 ·have:vR true (bJ k s t v p) (dZ cf s) cf.str.toNat k=[⟨1,0⟩,⟨7,0⟩]:=by
   unfold vR;rw[if_pos rfl,if_neg he]
   rfl
  rw[this];exact Zt _ _
def IM(a8:cf.gV)(h8:cf.str<=8)(c:ak)(ha:a<(cN cf c.k c.s c.t c.v c.p).length):Zr cf.str.toNat c.k (cN cf c.k c.s c.t c.v c.p) a:=Vx (QB a8 h8 _ _ _ _ _) ha
def QT(h:bD w c g W)(hl:W.ay.length<=1000):Calls prog 172 #[pt g] w λe w'=>e=.returned (I6 ((W.ay.length:Int)+1))/\w=w':=by
 obtain⟨cs,gs,gl,ls,lv,v,va,vf,vb,vd,vz,ve,h⟩:=h;exact yB h hl
def V4:∀x:ak,∀u∈x.cells,u.oneCell' = true:=λx u hu=>by
 unfold ak.cells aj at hu;simp at hu;rcases hu with rfl|rfl|rfl|rfl|rfl|rfl|rfl|rfl|rfl|rfl|rfl<;>rfl
def QU:(prog.info? nV).map (λi=>(i.zero,i.size,i.bytes))=some (some (.agg (aj 0 ⟨#[]⟩ 0 0 0 ⟨0,0,0,0,0,0⟩)),11,96):=kZ
def Ol(w:World)(gw t:Nat)(p:List ak)(e:Ending)(w' : World):Prop:=∃g A n cc,e=.returned (pt g)/\w.heap.size<=g/\Bl w w'/\ai w' g vW (qp gw A n cc (.slice none 0 0) 0 (Cl.new (t:Int) p))/\Own w' w.heap.size nV 11 ak.cells (.slice A n cc) p/\(∀a,A=some a->a.block≠g)
theorem aj8(hg:bD w c gw W)(hl:W.ay.length<=1000)(t:Nat)(ht:t<32)(A:Option Addr)(n cc:Nat)(p:List ak)(hs:ag w 11 ak.cells A n cc p)(hn:n<=1000):
 Calls prog 112 #[pt gw,I6 (t:Int),.slice A n cc] w (Ol w gw t p):=by
 have HCo:=QT hg hl;have:(((W.ay.length:Int)+1)==0)=false:=by simp;omega
 have:decide ((t:Int)<0)=false:=sI
 have:decide ((32:Int)<=(t:Int))=false:=by simp;omega
 have HS:=hs;have HN:=hn;clear hg hl hs hn;generalize(W.ay.length:Int)+1=L at *;go_enter func112,ntmps112;go_wp2_with(first
  |go_at_call 172;refine HCo.mono ?_;rintro e w1 ⟨rfl,rfl⟩
  |(refine fP _ rfl (.const (.slice none 0 0)) (.tmp 19) 58 rfl w.heap.size nV _ 11 96 ak.cells underlying58 QU rF dC (λ_=>rfl) V4 (.slice none 0 0) [] rfl (Own.nil _ _ _ _ _) A n cc p rfl HS (by have:=HN;simp;omega) dC lR ?_;intro v2 w2 O2 B2 hg2;obtain⟨A2,n2,c2,rfl,-,-⟩:=O2.shape (λ_=>rfl);clear hg2))
 go_ret;have O3:Own w2 w.heap.size nV 11 ak.cells (.slice A2 n2 c2) p:=O2;exact⟨w2.heap.size,A2,n2,c2,rfl,B2.size,B2.alloc B2.size _,ai.new w2 vW _,O3.alloc _,λa ha e=>by
  subst ha;have:=(O3.se a.block rfl).2;omega⟩
end Go.Proofs.YtjgmjohiehbgaaaGreat
