/- Part 22. -/
import Derived.Test.YtjgmjohiehbgaaaGreatQ21
namespace Go.Proofs.YtjgmjohiehbgaaaGreat
open Go.RowKit Go.Proofs.Tryz
set_option maxHeartbeats 20000000
set_option maxRecDepth 100000
set_option linter.all false
structure Sp where
 fr:Int
 pt:Int
 to:Int
abbrev Sp.row(s:Sp):Array Value:=#[I6 s.fr,I6 s.pt,I6 s.to]
def aX2(t j:Int)(s:Sp)(i:Nat)(e:Ev):Sp:=
 if e.task≠t\/e.nth≠j then s else if e.kind=1 then {s with fr:=i} else if e.kind=2 then {s with pt:=i} else if e.kind=3 then {s with to:=i} else s
def spq(t j:Int)(es:List Ev):Sp:=es.zipIdx.foldl (λs p=>aX2 t j s p.2 p.1) ⟨-1,-1,-1⟩
def aZ5{t j:Int}{es:List Ev}{k:Nat}{e:Ev}(h:es[k]? = some e):spq t j (es.take (k+1))=aX2 t j (spq t j (es.take k)) k e:=by
 have hk:=(d9.1 h).1;have h1:es.take (k+1)=es.take k++[e]:=by rw[List.take_succ,h];rfl
 unfold spq;rw[h1,List.zipIdx_append,aU5,aC3];have:min k es.length=k:=oM
 rw[this];simp
abbrev aY2:TypeId:=116
abbrev ba2:Array Value:=#[I6 0,I6 0,I6 0]
theorem ba3(A:Option Addr)(n cap:Nat)(es:List Ev)(t j:Int)(w:World)(hs:gS w A n cap es)(hn:n<=100000) :
 Calls prog 46 #[.slice A n cap,I6 t,I6 j] w (Rt (.agg (spq t j es).row) (Bl w)):=by
 have HS:=zD hs;have fJ:es.length=n:=hs.1;have EX:=(zW w (.cells ba2 aY2)).alloc sI (.cells ba2 aY2);clear hs;go_enter func46,ntmps46;go_upto_region 2 with(refine zJ (ai.dR w (.cells ba2 aY2) aY2 ba2) ?_;intro w2 hb2 hg2)
 have X2:=((ai.new w aY2 ba2).alloc (.cells ba2 aY2)).grown hg2 (λe=>by injection e;omega);have Y2:ai w2 (w.heap.size+1) aY2 (Sp.row ⟨-1,-1,-1⟩):=hb2;have E2:=EX.grown hg2 EX.size (λk e=>by injection e;omega);clear hb2 hg2 EX;go_wp2;go_loopw[13] (λis wr=>∃k:Nat,k<=n/\is = I6 (k:Int)/\ai wr w.heap.size aY2 ba2/\ai wr (w.heap.size+1) aY2 (spq t j (es.take k)).row/\Bl w wr) (λis _=>n-(intOf is).toNat)
 case atStart=>exact⟨0,aB6 _,rfl,X2,Y2,E2⟩
 case round=>
  clear X2 Y2 E2;obtain⟨k,hk,rfl,hx,hy,hb⟩:=hrel;have HX:=hx;have HY:=hy;have HB:=hb;clear hx hy hb
  by_cases hlt:k<n
  ·have:(k:Int)<(n:Int):=oM
   obtain⟨b,off,e,rfl,he,fH,hcl⟩:=ag.at_ (af HS.out HB) hlt;have mC:wr.rangeAt b (off+k*34) e.cells:=λj v hv=>by have h9:=hcl j v hv;rw[<-aD9]at h9;exact h9
   have fG:=aZ5 (t:=t) (j:=j) he;clear he hcl;go_upto_region 5 with(first
    |refine wpList_load_mid rfl eL (.tmp 16) rfl b (off+k*34) rfl e.cells _ mC underlying93 rfl kZ ?_
    |(refine wpList_store_row rfl eL (.tmp 9) (.tmp 17) rfl wr.heap.size eL _ _ rfl rfl (ai.new wr eL CM) rF kZ (wQ e) ?_;intro w3 hb3 hg3))
   have E3:=zW wr (.cells CM eL) |>.grown hg3 sI (λk e=>by injection e;omega)
   have Z3:ai w3 wr.heap.size eL e.row:=hb3;have X3:=HX.call E3;have Y3:=HY.call E3;have B3:=zT HB E3;clear hb3 hg3 fH HX HY HB;have:=Z3.z 0 (I6 e.kind);have:=Z3.z 1 (I6 e.task);have:=Z3.z 2 (I6 e.nth);obtain⟨s,hs⟩:=zE (spq t j (es.take k));rw[<-hs]at fG Y3;have:=Y3.frozen 0;have:=Y3.frozen 1;have:=Y3.frozen 2;have:=Y3.z 0 (I6 s.fr);have:=Y3.z 1 (I6 s.pt);have:=Y3.z 2 (I6 s.to);clear hs
   by_cases ht:e.task=t
   ·have:(e.task != t)=false:=by simp[ht]
    by_cases hj:e.nth=j
    ·have:(e.nth != j)=false:=by simp[hj]
     by_cases k1:e.kind=1
     ·have:(e.kind==1)=true:=by simp[k1]
      have HN:spq t j (es.take (k+1)) = {s with fr:=(k:Int)}:=by rw[fG];unfold aX2;rw[if_neg (by simp[ht,hj]),if_pos k1]
      go_wp2;go_roundw
      case rel=>exact⟨k+1,oM,by go_num,X3.far (by show w.heap.size≠w.heap.size+1;omega) _,HN▸Y3.aX 0 _,B3.setCell (by show _<=w.heap.size+1;omega) _⟩
      case measure=>simp[intOf];omega
     ·have:(e.kind==1)=false:=by simp[k1]
      by_cases k2:e.kind=2
      ·have:(e.kind==2)=true:=by simp[k2]
       have HN:spq t j (es.take (k+1)) = {s with pt:=(k:Int)}:=by rw[fG];unfold aX2;rw[if_neg (by simp[ht,hj]),if_neg k1,if_pos k2]
       go_wp2;go_roundw
       case rel=>exact⟨k+1,oM,by go_num,X3.far (by show w.heap.size≠w.heap.size+1;omega) _,HN▸Y3.aX 1 _,B3.setCell (by show _<=w.heap.size+1;omega) _⟩
       case measure=>simp[intOf];omega
      ·have:(e.kind==2)=false:=by simp[k2]
       by_cases k3:e.kind=3
       ·have:(e.kind==3)=true:=by simp[k3]
        have HN:spq t j (es.take (k+1)) = {s with to:=(k:Int)}:=by rw[fG];unfold aX2;rw[if_neg (by simp[ht,hj]),if_neg k1,if_neg k2,if_pos k3]
        go_wp2;go_roundw
        case rel=>exact⟨k+1,oM,by go_num,X3.far (by show w.heap.size≠w.heap.size+1;omega) _,HN▸Y3.aX 2 _,B3.setCell (by show _<=w.heap.size+1;omega) _⟩
        case measure=>simp[intOf];omega
       ·have:(e.kind==3)=false:=by simp[k3]
        have HN:spq t j (es.take (k+1))=s:=by rw[fG];unfold aX2;rw[if_neg (by simp[ht,hj]),if_neg k1,if_neg k2,if_neg k3]
        go_wp2;go_roundw
        case rel=>exact⟨k+1,oM,by go_num,X3,HN▸Y3,B3⟩
        case measure=>simp[intOf];omega
    ·have:(e.nth != j)=true:=by simp[hj]
     have HN:spq t j (es.take (k+1))=s:=by rw[fG];unfold aX2;rw[if_pos (.inr hj)]
     go_wp2;go_roundw
     case rel=>exact⟨k+1,oM,by go_num,X3,HN▸Y3,B3⟩
     case measure=>simp[intOf];omega
   ·have:(e.task != t)=true:=by simp[ht]
    have HN:spq t j (es.take (k+1))=s:=by rw[fG];unfold aX2;rw[if_pos (.inl ht)]
    go_wp2;go_roundw
    case rel=>exact⟨k+1,oM,by go_num,X3,HN▸Y3,B3⟩
    case measure=>simp[intOf];omega
  ·have: ¬(k:Int)<(n:Int):=oM
   have DJ:es.take k=es:=aB5 (oH fJ);rw[DJ]at HY;clear DJ;go_wp2_with(first
    |refine zI HY underlying116 ?_
    |(refine zJ HX ?_;intro w9 b8 dM))
   have B9:=HB.grown dM HB.size (λk e=>by injection e;omega);exact zU b8 underlying116 ⟨rfl,B9⟩
structure SOp where
 call:ak
 rep:kO
 fr:Int
 to:Int
 note:Bool
abbrev aX0:TypeId:=119
abbrev SOp.row(o:SOp):Array Value:=#[I6 o.call.k,.string o.call.s,I6 o.call.t,I6 o.call.v,I6 o.call.h,I6 o.call.p.min,I6 o.call.p.max,I6 o.call.p.target,I6 o.call.p.lz,I6 o.call.p.bp,I6 o.call.p.hold,I6 o.rep.err,I6 o.rep.bV,I6 o.rep.RX,I6 o.rep.stat.count,I6 o.rep.stat.sum,I6 o.rep.stat.least,I6 o.rep.stat.most,I6 o.rep.stat.qV,I6 o.rep.ei.tick,I6 o.rep.ei.load,I6 o.rep.ei.want,I6 o.rep.ei.aQ,I6 o.rep.ei.why,I6 o.fr,I6 o.to,.bool o.note]
def SOp.cells(o:SOp):List Value:=o.row.toList
def aY4:∀o:SOp,o.cells.length=27:=λ_=>rfl
theorem bd0{w:World}{g:Nat}{o:SOp}(h:ai w g aX0 o.row):w.rangeAt g 0 o.call.row.toList:=λj v hv=>by
 rw[h.cell]
 match j,hv with
 |0,hv|1,hv|2,hv|3,hv|4,hv|5,hv|6,hv|7,hv|8,hv|9,hv|10,hv=>injection hv with hv;subst hv;rfl
theorem bd6{w:World}{g:Nat}{o:SOp}(h:ai w g aX0 o.row):w.rangeAt g 11 o.rep.row.toList:=λj v hv=>by
 rw[h.cell]
 match j,hv with
 |0,hv|1,hv|2,hv|3,hv|4,hv|5,hv|6,hv|7,hv|8,hv|9,hv|10,hv|11,hv|12,hv=>injection hv with hv;subst hv;rfl
def opE(o:SOp):Ev:=if o.note then⟨6,0,0,iU,eo,aI8 o.call.s,o.rep.ei⟩else⟨2,0,0,o.call,o.rep,nO,eU⟩
theorem aZ2(a b:SOp)(w:World):Calls prog 122 #[.agg a.row,.agg b.row] w (Rt (.bool (decide (a.to<b.fr))) (Bl w)):=by
 have:=((ai.new w aX0 a.row).alloc (.cells b.row aX0)).z 25 (I6 a.to);have:=(ai.dR w (.cells a.row aX0) aX0 b.row).z 24 (I6 b.fr);go_enter func122,ntmps122;go_wp2;go_ret;exact⟨rfl,((zW w (.cells a.row aX0)).alloc sI (.cells b.row aX0))⟩
theorem aX9(o:SOp)(w:World)(hn:o.note=true->eO o.call.s=true):Calls prog 51 #[.agg o.row] w (Rt (.agg (opE o).row) (Bl w)):=by
 have BX:=(ai.new w aX0 o.row).alloc (.cells CM eL);have BY:=ai.dR w (.cells o.row aX0) eL CM;have EX:=(zW w (.cells o.row aX0)).alloc sI (.cells CM eL);obtain⟨oc,p,fr,to,note⟩:=o;cases note
 ·clear hn
  go_enter func51,ntmps51;go_wp2_with(first
   |refine wpList_load_mid rfl eZ (.tmp 19) rfl w.heap.size 0 rfl oc.row.toList _ (bd0 BX) underlying65 rfl kZ ?_
   |refine wpList_load_mid rfl dv (.tmp 21) rfl w.heap.size 11 rfl p.row.toList _ (bd6 BX) underlying70 rfl kZ ?_
   |(refine wpList_store_row rfl eL (.tmp 2) (.tmp 23) rfl (w.heap.size+1) eL _ _ rfl rfl BY rF kZ (wQ ⟨2,0,0,oc,p,nO,eU⟩) ?_;intro w9 b8 dM))
  have B9:=EX.grown dM EX.size (λk e=>by injection e;omega);exact zU b8 underlying93 ⟨rfl,B9⟩
 ·have hid:=hn rfl
  have he:cT oc.s=0:=by unfold cT;rw[if_pos hid]
  have HPk:=(λW=>fT oc.s W (by have:1<=oc.s.size/\oc.s.size<=20:=(pB hid).1;unfold maxLen;omega));rw[he]at HPk;clear hn hid he;go_enter func51,ntmps51;go_upto_region 3 with(go_at_call 32;refine zM (HPk _) λw1 hb1=>?_;have B1:=zT EX hb1;have X1:=BX.call hb1;have Y1:=BY.call hb1;clear hb1)
  have X2:=X1.alloc (.cells #[V6 (aO oc.s:Nat),V6 (aP oc.s:Nat)] aS);have B2:=B1.alloc B1.size (.cells #[V6 (aO oc.s:Nat),V6 (aP oc.s:Nat)] aS);have:=X2.z 19 (I6 p.ei.tick);have:=X2.z 20 (I6 p.ei.load);have:=X2.z 21 (I6 p.ei.want);have:=X2.z 22 (I6 p.ei.aQ);have:=X2.z 23 (I6 p.ei.why);go_wp2_with(refine wpList_store_row rfl eL (.tmp 2) (.tmp 18) rfl (w.heap.size+1) eL _ _ rfl rfl (Y1.alloc (.cells #[V6 (aO oc.s:Nat),V6 (aP oc.s:Nat)] aS)) rF kZ (wQ ⟨6,0,0,iU,eo,aI8 oc.s,p.ei⟩) ?_;intro w9 b8 dM);have B9:=B2.grown dM B2.size (λk e=>by injection e;omega);exact zU b8 underlying93 ⟨rfl,B9⟩
abbrev aY6(w:World)(A:Option Addr)(n cap:Nat)(l:List SOp):Prop:=ag w 27 SOp.cells A n cap l
def aZ3(l:List SOp)(us:List Int)(o:SOp)(i k:Nat):Bool:=(decide (k≠i) && !us.contains (k:Int))&&(l[k]?.any λx=>decide (x.to<o.fr))
def aZ6(l:List SOp)(us:List Int)(o:SOp)(i:Nat):Bool:=(List.range l.length).all λk=>!aZ3 l us o i k
def aY0(A:Option Addr)(n c:Nat)(l:List Int)(x:Int)(w:World)(hs:dt w A n c l):Calls prog 49 #[.slice A n c,I6 x] w (Rt (.bool (l.contains x)) (Bl w)):=
 (qQ A n c l x w hs).mono λe w' h=>⟨h.1,h.2 ▸ Below.refl _ _⟩
theorem aY1(A:Option Addr)(n cap:Nat)(l:List SOp)(uA:Option Addr)(un uc:Nat)(us:List Int)(i:Nat)(o:SOp)(w:World)(hs:aY6 w A n cap l)(hu:dt w uA un uc us)(ho:l[i]? = some o)(hn:n<=100000) :
 Calls prog 50 #[.slice A n cap,.slice uA un uc,I6 (i:Int)] w (Rt (.bool (aZ6 l us o i)) (Bl w)):=by
 have HS:=hs;have HU:=hu;have HO:=ho;have fJ:l.length=n:=hs.1;have hin:i<n:=by have:=(d9.1 ho).1;rw[hs.1]at this;exact this
 have:(i:Int)<(n:Int):=oM
 obtain⟨F,hF⟩:=zE (aZ6 l us o i);rw[<-hF];have HF:=zD hF;clear hs hu ho hF;go_enter func50,ntmps50;go_wp2;go_loopw[10] (λis wr=>∃k:Nat,k<=n/\is = I6 (k:Int)/\(∀j,j<k->aZ3 l us o i j=false)/\Bl w wr) (λis _=>n-(intOf is).toNat)
 case atStart=>exact⟨0,aB6 _,rfl,λj hj=>absurd hj (Nat.not_lt_zero j),Below.refl _ _⟩
 case round=>
  obtain⟨k,hk,rfl,hp,hb⟩:=hrel;have HP:=hp;have HB:=hb;clear hp hb
  by_cases hlt:k<n
  ·have:(k:Int)<(n:Int):=oM
   obtain⟨b,off,x,rfl,hx,fH,hcl⟩:=ag.at_ (af HS HB) hlt;obtain⟨b',tL,y,e1,hy,aQ9,hcl'⟩:=ag.at_ (af HS HB) hin;obtain⟨rfl,rfl⟩:b' = b/\tL = off:=by injection e1 with e1;injection e1 with e2 e3;exact⟨e2.symm,e3.symm⟩
   rw[HO]at hy;injection hy with hy
   subst hy;have HX:=hx;have R1:wr.rangeAt b' (tL + k*27) x.cells:=λj v hv=>by have h9:=hcl j v hv;rw[<-aD9]at h9;exact h9
   have R2:wr.rangeAt b' (tL + i*27) o.cells:=λj v hv=>by have h9:=hcl' j v hv;rw[<-aD9]at h9;exact h9
   have Ag:=fH;have HC:=(λW (h:Bl wr W)=>aY0 uA un uc us (k:Int) W (af HU (zT HB h)));have HA:=(λW=>aZ2 x o W);clear hcl hcl' hx fH aQ9 e1;go_upto_region 4 with fail
   by_cases be0:k=i
   ·have:((k:Int) != (i:Int))=false:=by rw[be0];simp
    have Ks:aZ3 l us o i k=false:=by unfold aZ3;rw[decide_eq_false (λh=>h be0)];rfl
    refine zB λS0=>?_
    refine zk 15 [0,1,2,3,4] [_,_,.bool false,_,undef] (.q zX<|.q zX<|.q zX<|.q zX<|.q zw .nil) S0 ?_;refine zk 10 [5,6,7,8,9] [undef,undef,undef,.bool false,_] (.q zw<|.q zw<|.q zw<|.q zX<|.e) S0 ?_;refine zk 5 [10,11,12,13,14] [undef,undef,undef,undef,undef] (.q zw<|.q zw<|.q zw<|.q zw<|.q zw .nil) S0 ?_;refine zk 0 [15,16,17,18,19] [undef,undef,undef,undef,.bool false] (.q zw<|.q zw<|.q zw<|.q zw<|.e) S0<|zd ?_;go_wp2;go_roundw
    case rel=>exact⟨k+1,oM,by go_num,λj hj=>(Nat.lt_succ_iff_lt_or_eq.1 hj).elim (HP j) (λe=>e ▸ Ks),zT HB S0⟩
    case measure=>simp[intOf];omega
   ·have:((k:Int) != (i:Int))=true:=by simp;omega
    cases hc:us.contains (k:Int)
    ·rw[hc]at HC
     have HNq:aZ3 l us o i k=decide (x.to<o.fr):=by unfold aZ3;rw[hc,HX,decide_eq_true be0];simp
     clear hc;cases hd:decide (x.to<o.fr)
     ·rw[hd]at HA
      have Ks:=HNq.trans hd;clear hd HNq;refine zB λS0=>?_
      refine zq 15 [0,1,2,3,4] [_,_,.bool true,_,_] S0 ?_;refine zq 14 [5] [_] S0 ?_;refine zQ 6 ?_;go_wp2_with(go_at_call 49;refine zM (HC _ S0) λv5 dx=>?_);refine .i (zT S0 dx) ?_;have S5:=zT S0 dx;refine zq 8 [7,8,9,10,11] [.bool true,.bool true,_,_,_] S5 ?_;refine zk 3 [12,13,14,15,16] [_,.agg x.row,_,_,_] (.q zX<|.c rfl rfl (zl λ_ h=>by exact aF (ty:=aX0) (x:=.tmp 25) rfl rfl (run_loadAt_mid _ _ _ _ _ _ (Jk R1 Ag h) underlying119 rfl kZ))<|.q zX<|.q zX<|.e) S5 ?_;refine zk 2 [17] [.agg o.row] (.c rfl rfl (zl λ_ h=>by exact aF (ty:=aX0) (x:=.tmp 29) rfl rfl (run_loadAt_mid _ _ _ _ _ _ (Jk R2 Ag h) underlying119 rfl kZ)) .nil) S5 ?_;refine zQ 18 ?_;go_wp2_with(go_at_call 122;refine zM (HA _) λv6 dJ=>?_);refine .i (zT S5 dJ) ?_;have S6:=zT S5 dJ;refine zq 0 [19] [.bool false] S6<|zd ?_;go_wp2;go_roundw
      case rel=>exact⟨k+1,oM,by go_num,λj hj=>(Nat.lt_succ_iff_lt_or_eq.1 hj).elim (HP j) (λe=>e ▸ Ks),zT HB S6⟩
      case measure=>simp[intOf];omega
     ·rw[hd]at HA
      have Ks:=HNq.trans hd;clear hd HNq;have hFf:F=false:=by
       rw[HF.out];unfold aZ6;rw[List.all_eq_false];exact⟨k,aR8.2 (oH fJ),by rw[Ks];decide⟩
      subst hFf;refine zB λS0=>?_
      refine zq 15 [0,1,2,3,4] [_,_,.bool true,_,_] S0 ?_;refine zq 14 [5] [_] S0 ?_;refine zQ 6 ?_;go_wp2_with(go_at_call 49;refine zM (HC _ S0) λv5 dx=>?_);refine .i (zT S0 dx) ?_;have S5:=zT S0 dx;refine zq 8 [7,8,9,10,11] [.bool true,.bool true,_,_,_] S5 ?_;refine zk 3 [12,13,14,15,16] [_,.agg x.row,_,_,_] (.q zX<|.c rfl rfl (zl λ_ h=>by exact aF (ty:=aX0) (x:=.tmp 25) rfl rfl (run_loadAt_mid _ _ _ _ _ _ (Jk R1 Ag h) underlying119 rfl kZ))<|.q zX<|.q zX<|.e) S5 ?_;refine zk 2 [17] [.agg o.row] (.c rfl rfl (zl λ_ h=>by exact aF (ty:=aX0) (x:=.tmp 29) rfl rfl (run_loadAt_mid _ _ _ _ _ _ (Jk R2 Ag h) underlying119 rfl kZ)) .nil) S5 ?_;refine zQ 18 ?_;go_wp2_with(go_at_call 122;refine zM (HA _) λv6 dJ=>?_);refine .i (zT S5 dJ) ?_;have S6:=zT S5 dJ;refine zq 0 [19] [.bool true] S6<|zd ?_;go_wp2;go_ret;exact⟨rfl,zT HB S6⟩
    ·rw[hc]at HC
     have Ks:aZ3 l us o i k=false:=by unfold aZ3;rw[hc];simp
     clear hc;refine zB λS0=>?_
     refine zq 15 [0,1,2,3,4] [_,_,.bool true,_,_] S0 ?_;refine zq 14 [5] [_] S0 ?_;refine zQ 6 ?_;go_wp2_with(go_at_call 49;refine zM (HC _ S0) λv5 dx=>?_);refine .i (zT S0 dx) ?_;have S5:=zT S0 dx;refine zk 8 [7,8,9,10,11] [.bool false,.bool false,_,undef,undef] (.q zX<|.q zX<|.q zX<|.q zw<|.q zw .nil) S5 ?_;refine zk 3 [12,13,14,15,16] [undef,undef,undef,undef,undef] (.q zw<|.q zw<|.q zw<|.q zw<|.q zw .nil) S5 ?_;refine zk 0 [17,18,19] [undef,undef,.bool false] (.q zw<|.q zw<|.e) S5<|zd ?_;go_wp2;go_roundw
     case rel=>exact⟨k+1,oM,by go_num,λj hj=>(Nat.lt_succ_iff_lt_or_eq.1 hj).elim (HP j) (λe=>e ▸ Ks),zT HB S5⟩
     case measure=>simp[intOf];omega
  ·have: ¬(k:Int)<(n:Int):=oM
   have hFt:F=true:=by
    rw[HF.out];unfold aZ6;rw[aI7];intro j hj;rw[HP j (oI (aR8.1 hj) fJ)]
    rfl
   subst hFt;go_wp2;go_ret;exact⟨rfl,HB⟩
def aX3(es:List Ev)(i:Nat)(p:Ev×ByteArray):Option SOp:=
 if p.1.kind=2 then some ⟨p.1.call,p.1.rep,(spq p.1.task p.1.nth es).fr,if(spq p.1.task p.1.nth es).to<0 then es.length else(spq p.1.task p.1.nth es).to,false⟩
 else if p.1.kind=6 then some ⟨{iU with s:=p.2},{eo with ei:=p.1.ei},i,i,true⟩else none
def aX4(es:List Ev)(zs:List (Ev×ByteArray)):List SOp:=zs.zipIdx.filterMap λq=>aX3 es q.2 q.1
def bb7{es:List Ev}{zs:List (Ev×ByteArray)}{k:Nat}{p:Ev×ByteArray}(h:zs[k]? = some p):aX4 es (zs.take (k+1))=aX4 es (zs.take k)++(aX3 es k p).toList:=by
 have hk:=(d9.1 h).1;have h1:zs.take (k+1)=zs.take k++[p]:=by rw[aE3,h];rfl
 unfold aX4;rw[h1,List.zipIdx_append,List.filterMap_append,aC3];have:min k zs.length=k:=oM
 rw[this];simp only[List.zipIdx_cons,List.zipIdx_nil,List.filterMap_cons,List.filterMap_nil,aR9];cases aX3 es k p<;>rfl
def bd1(es:List Ev)(zs:List (Ev×ByteArray)):(aX4 es zs).length<=zs.length:=by
 unfold aX4;exact aB4 (List.length_filterMap_le _ _) sI
def aZ4:∀x:SOp,∀u∈x.cells,u.oneCell' = true:=by
 intro x u hu;simp[SOp.cells]at hu;rcases hu with rfl|rfl|rfl|rfl|rfl|rfl|rfl|rfl|rfl|rfl|rfl|rfl|rfl|rfl|rfl|rfl|rfl|rfl|rfl|rfl|rfl|rfl|rfl|rfl|rfl|rfl|rfl<;>rfl
def be2:SOp:=⟨iU,eo,0,0,false⟩
def aY7:(prog.info? aX0).map (λi=>(i.zero,i.size,i.bytes))=some (some (.agg be2.row),27,224):=kZ
theorem aZ1(A:Option Addr)(n cap:Nat)(zs:List (Ev×ByteArray))(w:World)(hs:gS w A n cap (zs.map Prod.fst))(hn:n<=100000)(hg:∀p∈zs,EvG p.1 p.2) :
 Calls prog 15 #[.slice A n cap] w λe w'=>∃A' n' c',e=.returned (.slice A' n' c')/\Own w' w.heap.size aX0 27 SOp.cells (.slice A' n' c') (aX4 (zs.map Prod.fst) zs)/\Bl w w':=by
 have HS:=hs;have fJ:zs.length=n:=by have h1:=hs.1;rwa [aC8]at h1
 have HG:=hg;obtain⟨es,hes⟩:=zE (zs.map Prod.fst);rw[<-hes]at HS |-;have HEs:∀(k:Nat)(e:Ev),es[k]? = some e->∃s,zs[k]? = some (e,s):=λk e he=>by
  rw[hes,List.getElem?_map]at he;obtain⟨p,hp,rfl⟩:=aS3.1 he;exact⟨p.2,hp⟩
 have HEl:es.length=n:=by rw[hes,aC8];exact fJ
 clear hs hg hes;go_enter func15,ntmps15;go_wp2;go_loopw[3,11] (λv is wr=>∃(k:Nat)(A4:Option Addr)(n4 c4:Nat),k<=n/\is = I6 (k:Int)/\v=.slice A4 n4 c4/\Own wr w.heap.size aX0 27 SOp.cells (.slice A4 n4 c4) (aX4 es (zs.take k))/\Bl w wr) (λ_ is _=>n-(intOf is).toNat)
 case atStart=>exact⟨0,none,0,0,aB6 _,rfl,rfl,Own.nil _ _ _ _ _,Below.refl _ _⟩
 case round=>
  obtain⟨k,A4,n4,c4,hk,rfl,rfl,ho,hb⟩:=hrel;have HO:=ho;have HB:=hb;clear ho hb
  by_cases hlt:k<n
  ·have:(k:Int)<(n:Int):=oM
   obtain⟨b,off,e,rfl,he,fH,hcl⟩:=ag.at_ (af HS HB) hlt;have mC:wr.rangeAt b (off+k*34) e.cells:=λj v hv=>by have h9:=hcl j v hv;rw[<-aD9]at h9;exact h9
   obtain⟨s,hz⟩:=HEs k e he;have fG:=bb7 (es:=es) hz;have HGe:=HG _ (aC1 hz);have HL4:(aX4 es (zs.take k)).length<1000000:=Nat.lt_of_le_of_lt (bd1 _ _) (by rw[aC3];omega);clear he hcl hz;obtain⟨L,hL⟩:=zE (aX4 es (zs.take k));rw[<-hL]at fG HL4 HO;clear hL;go_upto_region 5 with(first
    |refine wpList_load_mid rfl eL (.tmp 14) rfl b (off+k*34) rfl e.cells _ mC underlying93 rfl kZ ?_
    |(refine wpList_store_row rfl eL (.tmp 5) (.tmp 15) rfl wr.heap.size eL _ _ rfl rfl (ai.new wr eL CM) rF kZ (wQ e) ?_;intro w3 hb3 hg3))
   have E3:=zW wr (.cells CM eL) |>.grown hg3 sI (λk e=>by injection e;omega)
   have Z3:ai w3 wr.heap.size eL e.row:=hb3;have O3:=HO.call E3;have B3:=zT HB E3;have:wr.heap.size<=w3.heap.size:=E3.size;clear hb3 hg3 fH HO mC;have z0:=Z3.z 0 (I6 e.kind)
   by_cases k2:e.kind=2
   ·have:(e.kind==2)=true:=by simp[k2]
    have z1:=Z3.z 1 (I6 e.task);have z2:=Z3.z 2 (I6 e.nth);have HFi:=(λW (h:Bl w3 W)=>ba3 _ n cap es e.task e.nth W (af (af HS B3) h) hn);obtain⟨sp,hsp⟩:=zE (spq e.task e.nth es);rw[<-hsp]at HFi;have HSp:=zD hsp;clear hsp;go_upto_region 8 with(go_at_call 46;refine(HFi _ bR).mono ?_;rintro e4 w4 ⟨rfl,hb4⟩)
    obtain⟨Bs,hBs⟩:=zE w4.heap.size;obtain⟨W5,Bd⟩:=zE (w4.alloc (.cells sp.row aY2));have X5:ai W5 Bs aY2 sp.row:=by rw[Bd,hBs];exact ai.new _ _ _
    have E5:Bl w3 W5:=by rw[Bd];exact hb4.alloc hb4.size _
    have Z5:=Z3.call E5;have O5:=O3.call E5;have B5:=zT B3 E5;have:wr.heap.size<Bs:=by rw[hBs];have:=Z3.lt;have:=hb4.size;omega
    have hwB:w.heap.size<=Bs:=oH HB.size
    have HOb:∀q,(Value.slice A4 n4 c4).ownBlock=some q->q≠Bs:=λq hq=>by have:=(O3.se q hq).2;have:=hb4.size;omega
    rw[<-Bd,<-hBs];clear Bd hBs hb4 HFi O3 B3 z0 z1 z2 Z3
    by_cases ht:sp.to<0
    ·have:decide (sp.to<0)=true:=decide_eq_true ht
     have HN2:aX3 es k (e,s)=some ⟨e.call,e.rep,sp.fr,(n:Int),false⟩:=by unfold aX3;simp only[if_pos k2];rw[<-HSp.out,if_pos ht];rw[HEl]
     rw[HN2]at fG;clear HN2 HSp ht;have y2:=X5.z 2 (I6 sp.to);have f2:=X5.frozen 2;go_upto_region 10 with fail
     obtain⟨W6,hW6⟩:=zE (W5.setCell ⟨Bs,2,none⟩ (I6 (n:Int)));have X6:ai W6 Bs aY2 (Sp.row ⟨sp.fr,sp.pt,n⟩):=by rw[hW6];exact X5.aX 2 _
     have Z6:ai W6 wr.heap.size eL e.row:=by rw[hW6];exact Z5.far (by show wr.heap.size≠Bs;omega) _
     have U6:ah (λq=>q=Bs) W5 W6:=by rw[hW6];exact(ah.refl (λq=>q=Bs) W5).setCell (p:=⟨Bs,2,none⟩) (.inl rfl) _
     have O6:=O5.upd U6 (λq hq=>HOb q hq);have B6:Bl w W6:=by rw[hW6];exact B5.setCell hwB _
     rw[<-hW6];clear hW6 U6 X5 Z5 O5 B5 y2 f2;have:=X6.z 0 (I6 sp.fr);have:=X6.z 2 (I6 n);go_wp2_with(first
      |refine wpList_load_mid rfl eZ (.tmp 33) rfl wr.heap.size 3 rfl e.call.row.toList _ (aa4 Z6) underlying65 rfl kZ ?_
      |refine wpList_load_mid rfl dv (.tmp 35) rfl wr.heap.size 14 rfl e.rep.row.toList _ (Mz Z6) underlying70 rfl kZ ?_
      |(at_builtin;refine iC _ rfl (.tmp 32) (.tmp 42) 53 rfl w.heap.size aX0 _ 27 224 SOp.cells underlying53 aY7 rF dC aY4 aZ4 (.slice A4 n4 c4) _ rfl (O6.alloc _) ⟨W6.heap.size,0,none⟩ 1 ⟨e.call,e.rep,sp.fr,n,false⟩ rfl (br (α:=SOp) (vs:=SOp.cells ⟨e.call,e.rep,sp.fr,n,false⟩) (ai.new W6 aX0 _) rfl) HL4 dC (aB4 B6.size sI) ?_;intro v7 w7 Ck lV _;obtain⟨A7,n7,c7,rfl,-,-⟩:=Ck.shape (λ_=>rfl);have O7:=Ck;have B7:=Below.trans (B6.alloc B6.size _) lV;clear Ck lV))
     go_roundw
     case rel=>exact⟨k+1,A7,n7,c7,oM,by go_num,rfl,fG▸O7,B7⟩
     case measure=>simp[intOf];omega
    ·have:decide (sp.to<0)=false:=decide_eq_false ht
     have HN2:aX3 es k (e,s)=some ⟨e.call,e.rep,sp.fr,sp.to,false⟩:=by unfold aX3;simp only[if_pos k2];rw[<-HSp.out,if_neg ht]
     rw[HN2]at fG;clear HN2 HSp ht;have:=X5.z 0 (I6 sp.fr);have:=X5.z 2 (I6 sp.to);go_wp2_with(first
      |refine wpList_load_mid rfl eZ (.tmp 33) rfl wr.heap.size 3 rfl e.call.row.toList _ (aa4 Z5) underlying65 rfl kZ ?_
      |refine wpList_load_mid rfl dv (.tmp 35) rfl wr.heap.size 14 rfl e.rep.row.toList _ (Mz Z5) underlying70 rfl kZ ?_
      |(at_builtin;refine iC _ rfl (.tmp 32) (.tmp 42) 53 rfl w.heap.size aX0 _ 27 224 SOp.cells underlying53 aY7 rF dC aY4 aZ4 (.slice A4 n4 c4) _ rfl (O5.alloc _) ⟨W5.heap.size,0,none⟩ 1 ⟨e.call,e.rep,sp.fr,sp.to,false⟩ rfl (br (α:=SOp) (vs:=SOp.cells ⟨e.call,e.rep,sp.fr,sp.to,false⟩) (ai.new W5 aX0 _) rfl) HL4 dC (aB4 B5.size sI) ?_;intro v7 w7 Ck lV _;obtain⟨A7,n7,c7,rfl,-,-⟩:=Ck.shape (λ_=>rfl);have O7:=Ck;have B7:=Below.trans (B5.alloc B5.size _) lV;clear Ck lV))
     go_roundw
     case rel=>exact⟨k+1,A7,n7,c7,oM,by go_num,rfl,fG▸O7,B7⟩
     case measure=>simp[intOf];omega
   ·have:(e.kind==2)=false:=by simp[k2]
    by_cases k6:e.kind=6
    ·have:(e.kind==6)=true:=by simp[k6]
     obtain⟨hid,hkey⟩:=HGe.note k6;have HN2:aX3 es k (e,s)=some ⟨{iU with s:=s},{eo with ei:=e.ei},k,k,true⟩:=by unfold aX3;simp only[if_neg k2,if_pos k6]
     rw[HN2]at fG;have HUn:=(λW=>EK s hid W);have k27:=Z3.ar (i:=27) (v:=V6 (aO s:Nat)) (by show some (V6 (e.key.hi:Int))=_;rw[hkey]);have k28:=Z3.ar (i:=28) (v:=V6 (aP s:Nat)) (by show some (V6 (e.key.lo:Int))=_;rw[hkey]);clear HN2 hid hkey;go_upto_region 13 with(go_at_call 47;refine(HUn _).mono ?_;rintro e4 w4 ⟨rfl,hb4⟩)
     have Z4:=Z3.call hb4;have O4:=O3.call hb4;have B4:=zT B3 hb4;have:=Z4.z 29 (I6 e.ei.tick);have:=Z4.z 30 (I6 e.ei.load);have:=Z4.z 31 (I6 e.ei.want);have:=Z4.z 32 (I6 e.ei.aQ);have:=Z4.z 33 (I6 e.ei.why);clear Z4 Z3 O3 B3 hb4 HUn z0 k27 k28;go_wp2_with(at_builtin;refine iC _ rfl (.tmp 52) (.tmp 61) 53 rfl w.heap.size aX0 _ 27 224 SOp.cells underlying53 aY7 rF dC aY4 aZ4 (.slice A4 n4 c4) _ rfl (O4.alloc _) ⟨w4.heap.size,0,none⟩ 1 ⟨{iU with s:=s},{eo with ei:=e.ei},k,k,true⟩ rfl (br (α:=SOp) (vs:=SOp.cells ⟨{iU with s:=s},{eo with ei:=e.ei},k,k,true⟩) (ai.new w4 aX0 _) rfl) HL4 dC (aB4 B4.size sI) ?_;intro v7 w7 Ck lV _;obtain⟨A7,n7,c7,rfl,-,-⟩:=Ck.shape (λ_=>rfl);have O7:=Ck;have B7:=Below.trans (B4.alloc B4.size _) lV;clear Ck lV);go_roundw
     case rel=>exact⟨k+1,A7,n7,c7,oM,by go_num,rfl,fG▸O7,B7⟩
     case measure=>simp[intOf];omega
    ·have:(e.kind==6)=false:=by simp[k6]
     have HN2:aX3 es k (e,s)=none:=by unfold aX3;simp only[if_neg k2,if_neg k6]
     rw[HN2]at fG;clear HN2;go_wp2;go_roundw
     case rel=>exact⟨k+1,A4,n4,c4,oM,by go_num,rfl,by rw[fG];simpa using O3,B3⟩
     case measure=>simp[intOf];omega
  ·have: ¬(k:Int)<(n:Int):=oM
   have DJ:zs.take k=zs:=aB5 (oH fJ);rw[DJ]at HO;clear DJ;go_wp2;go_ret;exact⟨A4,n4,c4,rfl,HO,HB⟩
end Go.Proofs.YtjgmjohiehbgaaaGreat
