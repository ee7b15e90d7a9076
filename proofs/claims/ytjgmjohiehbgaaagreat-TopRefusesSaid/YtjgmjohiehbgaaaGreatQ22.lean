/- Part 22. -/
import Derived.Test.YtjgmjohiehbgaaaGreatQ20
import Derived.Test.YtjgmjohiehbgaaaGreatQ21
namespace Go.Proofs.YtjgmjohiehbgaaaGreat
open Go.RowKit Go.Proofs.Tryz
set_option maxHeartbeats 20000000
set_option maxRecDepth 100000
set_option linter.all false
variable {base gm gs k:Nat} {cf:aM}
section
section
variable {w:World} {c:bh} {g:Nat} {A:Option Addr} {n cap:Nat} {ps:List Nat} {gt bt:Nat} {fp:Int->Option Nat} {ks:List Int} {s:aL} {m:Fm} {N k:Nat}
theorem aO1 (h:jd w c g A n cap ps gt bt fp ks s) (ho:qj s N k) (hE:Eqv s m) {i p:Nat} (hp:ps[i]? = some p) {key:Key} (hk:key∈(s.str i).keys) :
 ∃(x:Ld) (pn:Option Addr),SmE s.cfg.dE.toNat x.cL/\x.past.length<=s.cfg.iI.toNat/\
  (∀W,Bl w W->Calls prog 83 #[pt p,.agg key.row] W (Rt (.pointer pn) (Bl W)))/\
  (∀W,Bl w W->Calls prog 84 #[.pointer pn] W (iY W x.cL))/\
  (∀W,Bl w W->Calls prog 85 #[.pointer pn] W (oz W x.past))/\
  (∀W,Bl w W->Calls prog 68 #[pt g,.agg key.row] W (Rt (I6 (i:Nat)) (Bl W))):=by
 have hi:i<s.strs.length:=oI (d9.1 hp).1 h.strs.len
 obtain⟨b,f,hS⟩:=h.strs.str i p hp;obtain⟨hh,id,hid,hkq⟩:=hE.sub i hi key hk;have hg:key.good:=by
  rw[hkq];exact⟨by have:=jY id;show aO id<_;omega,by have:=jZ id;show aP id<_;omega⟩
 cases hx:aJ (s.str i).loads key with
 |none=>exact absurd hk (jV.1 hx)
 |some x=>
  obtain⟨pn,F,fr,e1,e2,-⟩:=hS.wH key x (fun e=>e) hx;obtain⟨l1,l2,l3⟩:=hE.load ho hi hx;refine⟨x,pn,l1,l2,fun W hb=>?_,fun W hb=>rV pn F _ x fr W (e2.call hb),fun W hb=>Ce pn F _ x fr W (e2.call hb),fun W hb=>?_⟩
  ·have h9:=mQ key W (hS.call hb) hg
   rw[e1]at h9;exact h9
  ·have h9:=ko (h.call hb) key hg (cy ho)
   rw[l3]at h9;exact h9
def aM3 (h:jd w c g A n cap ps gt bt fp ks s) (ho:qj s N k) (hR:aJ0 s) {i p:Nat} (hp:ps[i]? = some p) :
 ((s.str i).loads.length:Int)<=s.cfg.lW/\(s.str i).keys.length<=256/\
  (∀W,Bl w W->Calls prog 81 #[pt p] W (Rt (I6 ((s.str i).loads.length:Nat)) (Bl W)))/\
  (∀W,Bl w W->Calls prog 82 #[pt p] W (GF W (eW (s.str i).keys)))/\
  (∀W,Bl w W->Calls prog 67 #[pt g,I6 (i:Int)] W fun e w'=>e=.returned (pt p)/\W=w'):=by
 have hi:i<s.strs.length:=oI (d9.1 hp).1 h.strs.len
 obtain⟨b,f,hS⟩:=h.strs.str i p hp;have hl:=hR _ (aC1 (ho.qm hi).2.1);unfold aJ3 at hl;rw[aK6 ho hi]at hl;have hk:(s.str i).keys.length<=256:=by
  have:=ho.py.2.2.2.2.1;unfold bF.keys;rw[aC8];omega
 exact⟨hl,hk,fun W hb=>aM8 W (hS.call hb) oM,fun W hb=>vh W (hS.call hb) oM,fun W hb=>fy (h.call hb) i p hp⟩
end
end
section
section
variable {w:World} {c:bh} {g:Nat} {A:Option Addr} {n cap:Nat} {ps:List Nat} {gt bt:Nat} {fp:Int->Option Nat} {ks:List Int} {s:aL} {m:Fm} {N k:Nat}
theorem aM9 (h:jd w c g A n cap ps gt bt fp ks s) (ho:qj s N k) (hE:Eqv s m) (hR:aJ0 s) :
 Calls prog 26 #[.agg s.cfg.row,pt g] w (Rt (.bool true) (Bl w)):=by
 have CX:=ai.new w 23 s.cfg.row;have EX:=zW w (.cells s.cfg.row 23);have HC:=(fun W (hb:Bl w W)=>vx (h.call hb));have HS:=(fun i p (hp:ps[i]? = some p)=>aM3 h ho hR hp);have HK:=(fun i p (hp:ps[i]? = some p) key hk=>aO1 h ho hE hp (key:=key) hk);have HL:ps.length=s.strs.length/\s.strs.length<=64:=⟨h.strs.len,oH (a7 (cy ho))⟩;have HG:s.cfg.gV:=ho.py;clear h ho hE hR;generalize s.cfg=cf at *;generalize s.strs.length=M at *;go_enter func26,ntmps26;go_wp2_with(go_at_call 80;refine zN (HC _ EX) ?_);obtain⟨W1,hW1⟩:=zE (w.alloc (.cells cf.row 23));rw[<-hW1];rw[<-hW1]at CX EX;clear hW1;go_loopw[13] (fun i wr=>∃a:Nat,a<=M/\i = I6 (a:Int)/\Bl W1 wr) (fun i _=>M-(intOf i).toNat)
 case atStart=>exact⟨0,aB6 _,rfl,Below.refl _ _⟩
 case round=>
  obtain⟨a,ha,rfl,hb⟩:=hrel;have HB:=hb;clear hb;have:=HL.2
  by_cases hlt:a<M
  ·obtain⟨p,hp⟩:∃p,ps[a]? = some p:=⟨_,aB3 (oH HL.1)⟩
   obtain⟨l1,l2,r1,r2,r3⟩:=HS a p hp;have fJ:=r1;have HKs:=r2;have nI:=r3;have zu:=l2;have HKy:=(fun key hk=>HK a p hp key hk);have:(a:Int)<(M:Int):=oM
   have d0:decide (cf.lW<((s.str a).loads.length:Nat))=false:=decide_eq_false oM;have E3:=zT EX HB;clear l1 l2 r1 r2 r3 hp;generalize(s.str a).loads.length=LN at *;go_upto_region 5 with(go_at_call 67;refine zN (nI _ E3) ?_)
   refine zB fun S0=>?_
   refine zk 2 [0,2,3] [_,_,I6 cf.lW] (.q zX<|.q zX<|.q (zS fun _ h=>((CX.call HB).call h).z 2 (I6 cf.lW)) .nil) S0 ?_;refine zQ 1 ?_;go_wp2_with(go_at_call 81;refine zM (fJ _ (E3.trans ((S0).mono E3.size))) fun v5 dx=>?_);refine .i (zT S0 dx) ?_;have S5:=zT S0 dx;refine zq 0 [4] [.bool false] S5<|zd ?_;have HB5:=zT HB S5;have E5:=zT E3 S5;clear S5 S0 dx d0;go_wp2_with(go_at_call 82;refine(HKs _ E5).mono ?_;rintro e w7 ⟨A7,n7,c7,rfl,Ck,lV⟩;obtain⟨A',n',c',e',hn7,hs7⟩:=Ck.shape (fun _=>rfl);injection e' with e1 e2 e3;subst e1;subst e2;subst e3;have S7:=hs7;have N7:=(show n7<=256 by have:=zu;rw[hn7,(fg _).length_eq];omega);have B7:=zT HB5 lV;have E7:=zT E5 lV;clear Ck lV hn7 hs7);clear HKs fJ nI zu E3 E5 HB5 HC HS HK;have:=N7;go_loopw[27] (fun i wr=>∃b:Nat,b<=n7/\i = I6 (b:Int)/\Bl w7 wr) (fun i _=>n7-(intOf i).toNat)
   case atStart=>exact⟨0,aB6 _,rfl,Below.refl _ _⟩
   case round=>
    obtain⟨b,hb,rfl,hbl⟩:=hrel;have D8:=hbl;clear hbl
    by_cases hlt2:b<n7
    ·obtain⟨q,off,key,rfl,hkey,hqb,t0,t1⟩:=gF.at_ (af S7 D8) hlt2
     obtain⟨x,pn,x1,x2,g1,g2,g3,g4⟩:=HKy key (Ct.1 (aC1 hkey));have X1:=x1;have X2:=x2;have G1:=g1;have G2:=g2;have G3:=g3;have G4:=g4;have:(b:Int)<(n7:Int):=oM
     clear x1 x2 g1 g2 g3 g4 hkey hqb;go_upto_region 10 with fail
     clear t0 t1
     rename World=>w8
     obtain⟨B,hB⟩:=zE w8.heap.size;obtain⟨W9,hW9⟩:=zE (w8.alloc (.cells key.row aS));have K9:ai W9 B aS key.row:=by rw[hW9,hB];exact ai.new _ _ _
     have D9:Bl w7 W9:=by rw[hW9];exact D8.alloc D8.size _
     rw[<-hW9,<-hB];clear hW9 hB;go_upto_region 12 with(first
      |refine zI K9 underlying83 ?_
      |go_at_call 83;refine zM (G1 _ (zT E7 D9)) fun w10 lJ=>?_;have D10:=zT D9 lJ;have K10:=K9.call lJ;have C10:=((CX.call B7).call D9).call lJ;clear lJ
      |(go_at_call 84;refine(G2 _ (zT E7 D10)).mono ?_;rintro e w11 ⟨A11,n11,c11,rfl,aR0,ac1⟩;have S11:=aR0.is (fun _=>rfl);have D11:=zT D10 ac1;have K11:=K10.call ac1;have C11:=C10.call ac1;clear aR0 ac1))
     have aR1:n11<=256/\(n11:Int)<=cf.dE:=by have:=S11.1;have:=X1.len;have:=HG.2.1;have:=HG.2.2.1;omega
     have:decide (cf.dE<(n11:Nat))=false:=decide_eq_false oM;have X3:1<=cf.iI:=HG.2.2.2.2.2.1;have HRi:=(fun W (hb:Bl w11 W)=>aL0 A11 n11 c11 cf.dE.toNat x.cL W (af S11 hb) X1 (oH aR1.1));have E11:=zT E7 D11;clear aR1 G1 G2 K9 K10 D9 D10 C10;refine zB fun S0=>?_
     refine zk 20 [0,1,2,3,4] [_,I6 (n11:Nat),_,I6 cf.dE,.bool false] (.q zX<|.q zX<|.q zX<|.q (zS fun _ h=>(C11.call h).z 1 (I6 cf.dE))<|.e) S0 ?_;refine zk 16 [5,6,9,10] [_,_,_,I6 cf.iI] (.q zX<|.q zX<|.q zX<|.q (zS fun _ h=>(C11.call h).z 3 (I6 cf.iI)) .nil) S0 ?_;refine zQ 7 ?_;go_wp2_with(go_at_call 85;refine(G3 _ (E11.trans ((S0).mono E11.size))).mono ?_;rintro e v12 ⟨A12,n12,c12,rfl,aR5,aP4⟩;have:decide (cf.iI<(n12:Nat))=false:=decide_eq_false (by have:=(aR5.is (fun _=>rfl)).1;have:=X2;have:=X3;omega));refine .i (zT S0 aP4) ?_;have S12:=zT S0 aP4;refine zq 10 [8,11,12,13,14] [I6 (n12:Nat),.bool false,_,_,_] S12 ?_;refine zQ 15 ?_;go_wp2_with(go_at_call 86;refine zM (HRi _ S12) fun v13 aP5=>?_);refine .i (zT S12 aP5) ?_;have S13:=zT S12 aP5;refine zk 4 [16,17,18,19,20] [_,_,_,_,_] (.q zX<|.q zX<|.q zX<|.q zX<|.c rfl rfl (zl fun _ h=>by exact aF (ty:=83) (x:=.tmp 8) rfl rfl (og _ _ _ _ _ _ (K11.call h) underlying83 rfl (by first|exact Si _|kernel_rfl))) .nil) S13 ?_;refine zq 3 [22] [_] S13 ?_;refine zQ 21 ?_;go_wp2_with(go_at_call 68;refine zM (G4 _ (E11.trans ((S13).mono E11.size))) fun v14 Li=>?_);refine .i (zT S13 Li) ?_;have S14:=zT S13 Li;refine zq 0 [23,24] [.bool false,_] S14<|zd ?_;have D14:=zT D11 S14;clear S14 S13 S12 S0 Li aP5 aP4;go_wp2;go_roundw
     case rel=>exact⟨b+1,oM,by go_num,D14⟩
     case measure=>simp[intOf];omega
    ·have: ¬(b:Int)<(n7:Int):=oM
     go_wp2;go_roundw
     case rel=>exact⟨a+1,oM,by go_num,zT B7 D8⟩
     case measure=>simp[intOf];omega
  ·have: ¬(a:Int)<(M:Int):=oM
   go_wp2;go_ret;exact⟨rfl,zT EX HB⟩
end
end
section
def aP6 (c:bh) (g mp:Nat):Nat->Prop:=fun k=>k=g\/k=mp\/c k≠none
def aN2 {w:World} {c:bh} {g mp:Nat} (hc:∀j,w.heap.size<=j->c j=none) (hg:g<w.heap.size) (hm:mp<w.heap.size):∀k,aP6 c g mp k->k<w.heap.size:=fun k hk=>by
 rcases hk with e|e|e
 ·omega
 ·omega
 ·rcases aE2 k w.heap.size with h|h
  ·exact h
  ·exact absurd (hc k h) e
section
variable {w w' : World} {S:Nat->Prop} {g mp:Nat} {A:Option Addr} {n cc:Nat} {l:List fF} {m:Fm} {c c' : bh} {T:Tag->Prop}
def dg.aR6 (h1:ai w g Bi (fN cf mp (.slice none 0 0) 0 false)) (h2:bP fI w mp (fun _=>none) []) (hne:g≠mp) (hf:cf.fit) (hS:S g) (hM:S mp):dg w S g mp none 0 0 [] (Fm.new cf):=
 ⟨⟨h1,⟨_,h2,fun s=>⟨fun _=>rfl,fun _=>rfl⟩,fun s x hx=>(by cases hx)⟩,hS,hM,hne,aB6 _,⟨hf.1,hf.2.2.1⟩⟩,⟨OI _ _ _,fun a ha=>(by cases ha),rfl,fun i x k h=>(by simp at h)⟩,aB6 _⟩
def dg.aG (h:dg w S g mp A n cc l m) (hs:ae T w w' c c') (hS:∀k,c k≠none->S k) (hg:c g=none) (hm:c mp=none):dg w' (fun k=>S k\/c' k≠none) g mp A n cc l m:=by
 have h1:=h.ext (T:=fun k=>S k\/c' k≠none) (fun k hk=>by
  rcases hk with hk|hk
  ·exact .inl hk
  ·rcases aE2 k w.heap.size with h2|h2
   ·by_cases h3:∃t,c k=some t/\T t
    ·obtain⟨t,e,-⟩:=h3
     exact .inl (hS k (by rw[e];simp))
    ·have h4:=hs.old k h2 (fun t e ht=>h3 ⟨t,e,ht⟩)
     rw[h4]at hk;exact .inl (hS k hk)
   ·exact .inr h2) (.inl h.b.sg) (.inl h.b.sm)
 refine h1.upd hs.upd (fun k hk=>?_) (fun hk=>?_) (fun hk=>?_)
 ·obtain⟨t,e,-⟩:=hk
  exact .inl (hS k (by rw[e];simp))
 ·obtain⟨t,e,-⟩:=hk
  rw[hg]at e;cases e
 ·obtain⟨t,e,-⟩:=hk
  rw[hm]at e;cases e
def aJ1 (hs:ae T w w' c c') (hk:k<w.heap.size) (h:c k=none):c' k=none:=(hs.old k hk (fun t e=>by rw[h]at e;cases e)).trans h
end
def RfI (cf:aM) (base gs gm mp k:Nat) (w:World):Prop:=
 ∃(c:bh) (s:aL) (m:Fm) (A:Option Addr) (n cc:Nat) (l:List fF) (N:Nat),cG w c gs s/\(∀j,w.heap.size<=j->c j=none)/\qj s N k/\N<=40*k/\Eqv s m/\aJ0 s/\s.cfg=cf/\dg w (aP6 c gm mp) gm mp A n cc l m/\rB cf m k/\c gm=none/\c mp=none/\ai w base qw cf.row/\c base=none/\(∀j,c j≠none->base<=j)
def RfI.call {mp:Nat} {w w' : World} (h:RfI cf base gs gm mp k w) (hb:Bl w w'):RfI cf base gs gm mp k w':=by
 obtain⟨c,s,m,A,n,cc,l,N,h1,h2,h3,h4,h5,h6,h7,h8,h9,h10,h11,h12,Vw,h14⟩:=h;exact⟨c,s,m,A,n,cc,l,N,h1.call hb,fun j hj=>h2 j (aB4 hb.size hj),h3,h4,h5,h6,h7,h8.call hb,h9,h10,h11,h12.call hb,Vw,h14⟩
def aP0 (s:aL) (x:ak):(s.do x).2.cfg=s.cfg:=(Zw s x).1
def aK0 {T:Tag->Prop} {w w' : World} {c c' : bh} (hs:ae T w w' c c') (h:∀j,c j≠none->base<=j) (hb:base<=w.heap.size):(∀j,c' j≠none->base<=j)/\Below base w w':=by
 refine⟨fun j hj=>?_,hs.upd.below (fun j ⟨t,e,_⟩=>h j (by rw[e];simp)) hb⟩;rcases aE2 j w.heap.size with h2|h2
 ·by_cases h3:∃t,c j=some t/\T t
  ·obtain⟨t,e,-⟩:=h3
   exact h j (by rw[e];simp)
  ·rw[hs.old j h2 (fun t e ht=>h3 ⟨t,e,ht⟩)]at hj
   exact h j hj
 ·omega
def RfI.next {mp:Nat} {w w' : World} {c c' : bh} {s:aL} {m:Fm} {A:Option Addr} {n cc:Nat} {l:List fF} {N:Nat} {x:ak} (hx:bM x) (hk:k<=39) (a8:cf.gV) (h1:cG w' c' gs (s.do x).2) (hs:ae dO w w' c c') (h3:qj s N k) (h4:N<=40*k) (h5:Eqv s m) (h6:aJ0 s) (h7:s.cfg=cf) (h8:dg w (aP6 c gm mp) gm mp A n cc l (m.do x).2) (h9:rB cf m k) (h10:c gm=none) (h11:c mp=none) (h12:ai w base qw cf.row) (Vw:c base=none) (h14:∀j,c j≠none->base<=j):RfI cf base gs gm mp (k+1) w':=by
 obtain⟨f,hf⟩:=h8.b.map;refine⟨c',_,_,A,n,cc,l,N+k+1,h1,hs.fresh,h3.do hx,oM,(h5.do_ h3 x).2,h6.do_ h3 x,(aP0 s x).trans h7,?_,h9.do_ a8 hx,aJ1 hs h8.b.blk.lt h10,aJ1 hs hf.map.lt h11,h12.upd hs.upd (fun⟨t,e,_⟩=>by rw[Vw]at e;cases e),aJ1 hs h12.lt Vw,(aK0 hs h14 (aU3 h12.lt)).1⟩;exact(h8.aG hs (fun j hj=>.inr (.inr hj)) h10 h11).ext (fun j hj=>.inl (hj.elim (fun e=>.inl (.inl e)) (fun e=>e.elim (fun e=>.inl (.inr (.inl e))) .inr))) (.inl rfl) (.inr (.inl rfl))
def RfI.new {mp:Nat} {w w' : World} {c:bh} (hf:cf.fit) (a8:cf.gV) (h1:cG w c gs (aL.new cf)) (h2:∀j,w.heap.size<=j->c j=none) (hb:Bl w w') (h3:ai w' gm Bi (fN cf mp (.slice none 0 0) 0 false)) (h4:bP fI w' mp (fun _=>none) []) (h5:w.heap.size<=gm) (h6:w.heap.size<=mp) (hne:gm≠mp) (h12:ai w base qw cf.row) (Vw:c base=none) (h14:∀j,c j≠none->base<=j):RfI cf base gs gm mp 0 w':=
 ⟨c,aL.new cf,Fm.new cf,none,0,0,[],0,h1.call hb,fun j hj=>h2 j (aB4 hb.size hj),qj.new hf a8,aC2 _,Eqv.new cf a8,aJ0.new cf a8,rfl,dg.aR6 h3 h4 hne hf (.inl rfl) (.inr (.inl rfl)),rB.new cf,h2 gm h5,h2 mp h6,h12.call hb,Vw,h14⟩
def RfI.room {mp:Nat} {w:World} (h:RfI cf base gs gm mp k w):Calls prog 26 #[.agg cf.row,pt gs] w (Rt (.bool true) (Bl w)):=by
 obtain⟨c,s,m,A,n,cc,l,N,⟨A1,n1,cap,ps,gt,bt,fp,ks,hB⟩,h2,h3,h4,h5,h6,h7,-⟩:=h;have h9:=aM9 hB h3 h5 h6;rw[h7]at h9;exact h9
def RfI.blk {mp:Nat} {w:World} (h:RfI cf base gs gm mp k w):ai w base qw cf.row:=by
 obtain⟨c,s,m,A,n,cc,l,N,-,-,-,-,-,-,-,-,-,-,-,h12,-⟩:=h;exact h12
end
theorem aN8 (c0 c1 c2 c3:Int) (A:Option Addr) (len cap:Nat) (l:List ak) (w:World) (i0:aw c0) (i1:aw c1) (i2:aw c2) (i3:aw c3) (hs:ag w 11 ak.cells A len cap l) (hg:∀x∈l,bM x) :
 Calls prog 5 #[.agg #[I6 c0,I6 c1,I6 c2,I6 c3],.slice A len cap] w (Rt (.bool true) (Bl w)):=by
 obtain⟨cf,rfl,rfl,rfl,rfl⟩:∃cf:aM,c0=cf.str/\c1=cf.dE/\c2=cf.lW/\c3=cf.iI:=⟨⟨c0,c1,c2,c3⟩,rfl,rfl,rfl,rfl⟩
 have hf:cf.fit:=⟨i0,i1,i2,i3⟩;have RQ:=(fun W=>aM5 cf W hf);have HF:=hf;have HS:=hs;have HG:=hg;have:l.length=len:=hs.1;clear hs hg hf i0 i1 i2 i3;go_enter func5,ntmps5;go_upto_region 3 with(go_at_call 7;refine zM (Ru _) fun w1 hb1=>?_;have B1:=zT (zW w (.cells cf.row qw)) hb1;have X1:=(ai.new w qw cf.row).call hb1;clear hb1)
 by_cases a8:cf.gV
 ·have kh:=a8
  rw[decide_eq_true a8]at RQ;clear a8
  by_cases h30:30<len
  ·have d30:decide ((30:Int)<(len:Int))=true:=decide_eq_true oM
   go_wp2_with(first
    |refine zI X1 underlying23 ?_
    |(go_at_call 18;refine zM (RQ _) fun w2 hb2=>?_;have B2':=(zT B1 hb2);clear hb2))
   go_ret;exact⟨rfl,B2'⟩
  ·have d30:decide ((30:Int)<(len:Int))=false:=decide_eq_false oM
   have HSn:=(fun(W:World) (hb:Bl w W)=>Qp cf (fun _=>none) W HF kh (fun _ _=>rfl));have HFn:=(fun(W:World)=>Jg cf W HF kh);go_upto_region 5 with(first
    |refine zI X1 underlying23 ?_
    |(go_at_call 18;refine zM (RQ _) fun w2 hb2=>?_;have B2':=(zT B1 hb2);have X2:=X1.call hb2;clear hb2))
   go_upto_region 6 with(first
    |refine zI X2 underlying23 ?_
    |(go_at_call 19;refine(HSn _ B2').mono ?_;rintro e w3 ⟨gs,c3,rfl,hst,hcs⟩))
   have Tg:∀j,(fun _:Nat=>(none:Option Tag)) j≠none->w.heap.size<=j:=fun j hj=>absurd rfl hj
   obtain⟨q1,q2⟩:=aK0 hcs Tg B2'.size;have Q1:=q1;have X3:=X2.upd hcs.upd (fun⟨t,e,_⟩=>by cases e);have Q3:=aJ1 hcs X2.lt rfl;have Q4:=hcs.fresh;have B3:=B2'.trans q2;have ST:=hst;clear Tg q1 q2 hst hcs HSn X1 X2 B1 B2' RQ d30;go_upto_region 7 with(first
    |refine zI X3 underlying23 ?_
    |(go_at_call 20;refine(HFn _).mono ?_;rintro e w4 ⟨gm,mp,rfl,hb1,hb2,hb3,hb4,dx,dJ⟩))
   have I0:=RfI.new HF kh ST Q4 dJ hb1 hb2 hb3 hb4 dx X3 Q3 Q1;have HB4:=zT B3 dJ;have HGm:w.heap.size<gm/\w.heap.size<mp/\gm≠mp:=⟨oH X3.lt,oH X3.lt,dx⟩;clear ST Q4 hb1 hb2 hb3 hb4 dx dJ X3 Q3 Q1 HFn B3;go_wp2;go_loopw[32] (fun i wr=>∃k:Nat,k<=len/\i = I6 (k:Int)/\RfI cf w.heap.size gs gm mp k wr/\Bl w wr) (fun i _=>len-(intOf i).toNat)
   case atStart=>exact⟨0,aB6 _,rfl,I0,HB4⟩
   case round=>
    clear I0 HB4;obtain⟨k,hk,rfl,hI,hb⟩:=hrel;have HB:=hb
    by_cases hlt:k<len
    ·obtain⟨b,off,x,rfl,hx,fH,hcl⟩:=ag.at_ (af HS HB) hlt
     have HX:=HG x (aC1 hx);have mC:wr.rangeAt b (off+k*11) [I6 x.k,.string x.s,I6 x.t,I6 x.v,I6 x.h,I6 x.p.min,I6 x.p.max,I6 x.p.target,I6 x.p.lz,I6 x.p.bp,I6 x.p.hold]:=fun i v hv=>by have h9:=hcl i v hv;rw[<-aD9]at h9;exact h9
     have:(k:Int)<(len:Int):=oM
     have:k<=29:=oM
     clear hx fH hcl hb;go_upto_region 10 with(refine wpList_load_mid rfl eZ (.tmp 34) rfl b (off+k*11) rfl [I6 x.k,.string x.s,I6 x.t,I6 x.v,I6 x.h,I6 x.p.min,I6 x.p.max,I6 x.p.target,I6 x.p.lz,I6 x.p.bp,I6 x.p.hold] _ mC underlying65 rfl kZ ?_)
     obtain⟨b9,b8⟩:=zE wr.heap.size;obtain⟨W1,hW1⟩:=zE (wr.alloc (.cells x.row eZ));have K1:ai W1 b9 eZ x.row:=by rw[hW1,b8];exact ai.new _ _ _
     have D1:Bl wr W1:=by rw[hW1];exact bR.alloc lR _
     rw[<-hW1,<-b8];obtain⟨c,s,m,A1,n1,cc1,l1,N,h1,h2,h3,h4,h5,h6,h7,h8,h9,h10,h11,h12,Vw,h14⟩:=hI;have C9:c b9=none:=h2 b9 (b8▸aC2 _);have hgm:gm<b9/\mp<b9:=by rw[b8];obtain⟨f,hf⟩:=h8.b.map;exact⟨h8.b.blk.lt,hf.map.lt⟩
     have hbase:w.heap.size<b9:=by rw[b8];exact h12.lt
     have HN:gm<b9/\mp<b9/\w.heap.size<b9:=⟨hgm.1,hgm.2,hbase⟩;have H1:=h1.call D1;have H2:∀j,W1.heap.size<=j->c j=none:=fun j hj=>h2 j (aB4 D1.size hj)
     have H3:=h3;have H4:=h4;have H5:=h5;have H6:=h6;have H7:=h7;have H8:=h8.call D1;have H9:=h9;have H10:=h10;have H11:=h11;have H12:=h12.call D1;have H13:=Vw;have H14:=h14;have E1:Bl w W1:=zT HB D1;have HTw:=aN6 H8 (aN2 H2 (oH K1.lt) (oH K1.lt));clear hW1 b8 h1 h2 h3 h4 h5 h6 h7 h8 h9 h10 h11 h12 Vw h14 hgm hbase mC HB D1;go_upto_region 11 with(go_at_call 21;refine HTw.mono ?_;rintro e w2 ⟨g',mp',A2,n2,cc2,rfl,htw,hg',hm',hb2⟩;have TW:=htw;have G2:b9<W1.heap.size/\W1.heap.size<=g'/\W1.heap.size<=mp':=⟨K1.lt,hg',hm'⟩;have D2:=hb2;clear htw hg' hm' hb2)
     have HDo:=aa3 x (H8.call D2) (aN2 (fun j hj=>H2 j (aB4 D2.size hj)) (by have:=HN;have:=K1.lt;have:=D2.size;omega) (by have:=HN;have:=K1.lt;have:=D2.size;omega)) (H9.room kh oM) HX;have K2:=K1.call D2;go_upto_region 12 with(first
      |refine zI K2 underlying65 ?_
      |(go_at_call 22;refine HDo.mono ?_;rintro e w3 ⟨rfl,A3,n3,cc3,l3,h83,jP⟩))
     obtain⟨r,hr⟩:=zE ((m.do x).1);obtain⟨b11,ac1⟩:=zE w3.heap.size;obtain⟨W4,JX⟩:=zE (w3.alloc (.cells r.row dv));rw[<-hr];rw[<-JX,<-ac1];have aR2:w2.heap.size<=w3.heap.size:=jP.size;have hN:=HN;have hG2:=G2;have D4:Bl w3 W4:=by rw[JX];exact bR.alloc lR _
     have hnf:∀k,eG gm mp k->c k=none:=fun k e=>e.elim (fun e=>e ▸ H10) (fun e=>e ▸ H11)
     have FL4:=h83.call D4;have TW4:=(TW.upd jP (fun k e=>.inl (e.elim .inl (fun e=>.inr (.inl e)))) (fun e=>by rcases e with e|e<;>omega) (fun e=>by rcases e with e|e<;>omega)).call D4;have K4:=(K2.upd jP (fun e=>by rcases e with e|e<;>omega)).call D4;have K11:ai W4 b11 dv r.row:=by rw[JX,ac1];exact ai.new _ _ _
     have aR3:∀j,W4.heap.size<=j->c j=none:=fun j hj=>H2 j (oI D2.size D4.size)
     have X4:=((H12.call D2).upd jP (fun e=>by have:=HGm;rcases e with e|e<;>omega)).call D4;have C11:c b11=none:=H2 b11 (by rw[ac1];have:=D2.size;omega);have G4:c g' = none/\c mp' = none:=⟨H2 g' G2.2.1,H2 mp' G2.2.2⟩;have E4:Bl w W4:=((zT E1 D2).trans (jP.below (fun k e=>by have:=HGm;rcases e with e|e<;>omega) (aB4 E1.size D2.size))).trans (D4.mono (aB4 (aB4 E1.size D2.size) aR2));have HQ:(s.do x).1=r:=by rw[hr];exact(H5.do_ H3 x).1
     have HSD:=Vg x ((((H1.call D2).off jP hnf).call D4).call ((Below.refl _ W4).drew)) (fun j hj=>aR3 j hj) H3 HX (oH H4) oM;have NC9:¬∃t,c b9=some t/\dO t:=fun⟨t,e,_⟩=>by rw[C9]at e;cases e
     have aN7:¬∃t,c b11=some t/\dO t:=fun⟨t,e,_⟩=>by rw[C11]at e;cases e
     have HMl:∀s,(m.get s).dE.length<=100000/\(m.get s).past.length<=100000:=fun s=>by
      have h9:=H9.get s;have:=h9.len;have:=h9.past;obtain⟨-,-,a1,-,-,-,a2⟩:=kh;exact⟨oM,oM⟩
     have HRe:=zD hr;clear JX ac1 hr hnf D4 jP h83 aR2 hN hG2 HTw HDo TW;have wN:=(fun W=>gu x.k x.s x.t x.v x.h x.p W HX.s);have HCE:bJ x.k x.s x.t x.v x.p≠0->r.err=bJ x.k x.s x.t x.v x.p:=fun hc=>by rw[<-HQ];exact aL.aM7 s x hc
     have aP7:=(FL4.call ((Below.refl _ W4).drew))
     by_cases he:r.err=0
     case' pos=>
      have hne:(r.err != 0)=false:=by rw[he];rfl
      refine zr (fun _=>false) (fun wS=>ah (fun k=>∃t,c k=some t/\dO t) W4 wS) ?_;have S0:=(ah.refl (fun k=>∃t,c k=some t/\dO t) W4).drew;refine zk 13 [0,1,3] [_,_,_] (.q zX<|.c rfl rfl (zl fun _ h=>by exact aF (ty:=65) (x:=.tmp 9) rfl rfl (og _ _ _ _ _ _ (K4.upd h NC9) underlying65 rfl (by first|exact Si _|kernel_rfl)))<|.c rfl rfl (zl fun _ h=>by exact aF (ty:=70) (x:=.tmp 11) rfl rfl (og _ _ _ _ _ _ (K11.upd h aN7) underlying70 rfl (by first|exact Si _|kernel_rfl))) .nil) S0<|zQ 2 ?_;go_wp2_with(go_at_call 23;refine HSD.mono ?_;rintro e5 w5 ⟨c5,he5,aP8,aL1⟩;rw[HQ]at he5;subst he5);refine .i (S0.trans aL1.upd iL) ?_;have S5:=S0.trans aL1.upd iL;refine zk 7 [4,5,6,7,8] [.bool false,_,_,I6 r.err,.bool false] (.c rfl rfl (zl fun W1 _=>WE rfl rfl rfl (by first|rfl|(go_simp;done)|kernel_rfl) (ak9 r W1))<|.q zX<|.q zX<|.q (zS fun _ h=>(K11.upd h aN7).z 0 (I6 r.err))<|.e) S5 ?_;refine zk 2 [9,10,11,12,13] [_,undef,undef,undef,undef] (.q zX<|.q zw<|.q zw<|.q zw<|.q zw .nil) S5 ?_;refine zq 0 [14,15] [_,_] S5<|zd ?_;have dJ:=Below.refl w5.heap.size w5
     case' neg=>
      have hne:(r.err != 0)=true:=sH he
      have HM2:(m.do x).2=m:=Fm.aM7 m x (HRe.out▸he);refine zr (fun _=>false) (fun wS=>ah (fun k=>∃t,c k=some t/\dO t) W4 wS) ?_;have S0:=(ah.refl (fun k=>∃t,c k=some t/\dO t) W4).drew;refine zk 13 [0,1,3] [_,_,_] (.q zX<|.c rfl rfl (zl fun _ h=>by exact aF (ty:=65) (x:=.tmp 9) rfl rfl (og _ _ _ _ _ _ (K4.upd h NC9) underlying65 rfl (by first|exact Si _|kernel_rfl)))<|.c rfl rfl (zl fun _ h=>by exact aF (ty:=70) (x:=.tmp 11) rfl rfl (og _ _ _ _ _ _ (K11.upd h aN7) underlying70 rfl (by first|exact Si _|kernel_rfl))) .nil) S0<|zQ 2 ?_;go_wp2_with(go_at_call 23;refine HSD.mono ?_;rintro e5 w5 ⟨c5,he5,aP8,aL1⟩;rw[HQ]at he5;subst he5;have TW5:=(TW4.call ((Below.refl _ W4).drew)).aG aL1 (fun j hj=>.inl (.inr (.inr hj))) G4.1 G4.2;have FL5:=aP7.aG aL1 (fun j hj=>.inr (.inr hj)) H10 H11);refine .i (S0.trans aL1.upd iL) ?_;have S5:=S0.trans aL1.upd iL;refine zk 7 [4,5,6,7,8] [.bool false,_,_,I6 r.err,.bool true] (.c rfl rfl (zl fun W1 _=>WE rfl rfl rfl (by first|rfl|(go_simp;done)|kernel_rfl) (ak9 r W1))<|.q zX<|.q zX<|.q (zS fun _ h=>(K11.upd h aN7).z 0 (I6 r.err))<|.e) S5 ?_;refine zq 4 [9,10,11] [_,_,_]  S5 ?_;refine zQ 12 ?_;go_wp2_with(go_at_call 24;refine zM ((aM2 TW5 (HM2 ▸ FL5) HMl)) fun v6 dJ=>?_);refine .i (S5.call dJ) ?_;refine zq 0 [13,14,15] [_,_,_] (S5.call dJ)<|zd ?_;clear TW5 FL5 HM2
     all_goals
      have J6:=(RfI.next HX oM kh aP8 aL1 H3 H4 H5 H6 H7 aP7 H9 H10 H11 (X4.call ((Below.refl _ W4).drew)) H13 H14).call dJ;have K6:=(K4.upd S5 NC9).call dJ;have L6:=(K11.upd S5 aN7).call dJ;have E5:=E4.trans (S5.below (fun j ⟨t,e,_⟩=>H14 j (by rw[e];simp)) E4.size);have E6:=zT E5 dJ;clear S5 S0 aP8 aL1 dJ E5 hne HSD HQ FL4 aP7 TW4 K4 K11 aR3 X4 G4 E4 NC9 aN7 HMl HRe H1 H2 H3 H4 H5 H6 H7 H8 H9 H10 H11 H12 H13 H14 K1 K2 D2 G2 C9 C11 E1 HN;generalize bJ x.k x.s x.t x.v x.p=CE at *;go_upto_region 15 with(first
       |refine zI K6 underlying65 ?_
       |(go_at_call 25;refine zM (wN _) fun w7 lV=>?_;have I7:=J6.call lV;have K7:=L6.call lV;have E7:=zT E6 lV;clear lV))
      have X7:=I7.blk;have:=X7.z 0 (I6 cf.str);have:=X7.z 1 (I6 cf.dE);have:=X7.z 2 (I6 cf.lW);have:=X7.z 3 (I6 cf.iI);have:=K7.z 0 (I6 r.err)
      by_cases hce:CE=0
      case' pos=>have:(CE != 0)=false:=by rw[hce];rfl
      case' neg=>
       have:(CE != 0)=true:=sH hce
       have:(r.err != CE)=false:=by rw[HCE hce];simp
      all_goals
       first
       |exact absurd ((HCE hce).symm.trans he) hce
       |skip
      all_goals
       go_wp2_with(go_at_call 26;refine I7.room.mono ?_;rintro e w8 ⟨rfl,sf⟩;have I8:=I7.call sf;have E8:=zT E7 sf;clear sf);go_roundw
       case rel=>exact⟨k+1,oM,by go_num,I8,E8⟩
       case measure=>simp[intOf];omega
    ·have: ¬(k:Int)<(len:Int):=oM
     clear hI hb;go_wp2;go_ret;exact⟨rfl,HB⟩
 ·rw[decide_eq_false a8]at RQ
  go_wp2_with(first
   |refine zI X1 underlying23 ?_
   |(go_at_call 18;refine zM (RQ _) fun w2 hb2=>?_;have B2':=(zT B1 hb2);clear hb2))
  go_ret;exact⟨rfl,B2'⟩
end Go.Proofs.YtjgmjohiehbgaaaGreat
