/- Part 8. -/
import Derived.Test.YtjgmjohiehbgaaaGreatQ5
import Derived.Test.YtjgmjohiehbgaaaGreatQ7
import Derived.Shelf.SlSortCmp.NoneTotal
namespace Go.Proofs.YtjgmjohiehbgaaaGreat
open Go.RowKit Go.Proofs.Tryz
set_option maxHeartbeats 20000000
set_option maxRecDepth 100000
set_option linter.all false
variable{F S:Nat->Prop}{d k n:Nat}{p q:Option Addr}{room:Int}{w w':World}{xs:List aU}
open Nat (div_add_mod)
section
open Go.RowKit Go.Sort Go.Shelf
def pw:ltOf jR=xD:=by
 funext x y
 unfold ltOf jR xD
 by_cases h1:x=y
 ·subst h1;simp
 ·rw[if_neg h1]
  by_cases h2:x.hi<y.hi\/(x.hi=y.hi/\x.lo<y.lo)
  ·rw[if_pos h2];simp[h2]
  ·rw[if_neg h2];simp;omega
def XL:SWO (ltOf jR):=by
 rw[pw];unfold xD;refine⟨λx=>sI,λx y z h1 h2=>?_,λx y z h1 h2=>?_⟩
 ·simp at h1 h2 |-;omega
 ·simp at h1 h2 |-;omega
section
variable{w:World}{base g off n cap:Nat}{l l' : List Key}
def aK.av2(h:aK w base aS 2 Key.cells (.slice (some ⟨g,off,none⟩) n cap) l)(m:Nat)(hl:l'.length=l.length) :
 aK (putRowK Key.cells 2 (Sort.ahead w m) g off l'.toArray) base aS 2 Key.cells (.slice (some ⟨g,off,none⟩) n cap) l'/\ah (λk=>k=g) w (putRowK Key.cells 2 (Sort.ahead w m) g off l'.toArray):=by
 rcases h with⟨h,_⟩|⟨g',tL,cap',cur,hv,hb,hgg,mF,hcm,hcs,EZ⟩
 ·cases h
 injection hv with e1 e3 e4
 injection e1 with e1
 injection e1 with e1 e2
 subst e1;subst e2;subst e4;subst e3;have hsz:(flatK Key.cells 2 l'.toArray).size=l.length*2:=by rw[size_flatK];simp[hl]
 refine⟨.inr ⟨g,off,cap,putCells id off (flatK Key.cells 2 l'.toArray) cur,by rw[hl],hb,p8 (Sort.ahead w m) g _ cur aS (0,0) hgg,hl▸mF,hcm,?_,?_⟩,?_⟩
 ·unfold putCells;simpa using hcs
 ·have h1:=rN off (flatK Key.cells 2 l'.toArray) cur (oH hsz)
  rw[hsz]at h1;rw[hl,h1,qF Key.cells 2 cW]
 ·exact⟨rfl,rfl,rfl,by simp[putRowK,putRow,mapBlock,Sort.ahead],λk hk hn=>kL (Sort.ahead w m) g k _ hn⟩
end
def xE(w:World)(os:Array Obj):Bl w (grow w os):=by
 refine⟨rfl,rfl,rfl,by simp[grow],λk hk=>?_⟩;simp[grow,Array.getElem?_append,hk]
def F8(W:World)(o1 o2:Obj):(W.alloc o1).alloc o2=grow (W.drewN 0) #[o1,o2]:=by
 have e:W.heap++#[o1,o2]=(W.heap.push o1).push o2:=by
  apply Array.toList_inj.1;rw[aV1,Array.toList_push,Array.toList_push,aD0]
  rfl
 unfold grow
 show _ = {W.drewN 0 with heap:=W.heap++#[o1,o2]}
 rw[e]
 rfl
def OW(blk off size:Nat)(w:World):CmpLays prog 152 #[] Key.cells 2 jR blk off size w:=by
 intro m os dk hs x y;refine(tN x y _).mono ?_;rintro e w' ⟨rfl,rfl⟩;exact⟨rfl,0,#[.cells x.row aS,.cells y.row aS],F8 _ _ _⟩
def Aq{base:Nat}(v:Value)(l:List Key)(w:World)(h:aK w base aS 2 Key.cells v l)(hl:l.length<=100000) :
 Calls prog 198 #[v,.func (.func 152) #[] #[]] w λe w'=>e=.returned (.tuple #[])/\aK w' base aS 2 Key.cells v (eW l)/\ah (λk=>v.ownBlock=some k) w w':=by
 have h0:=h;rcases h with⟨rfl,e⟩|⟨g,off,cap,cur,hv,hb,hgg,mF,hcm,hcs,EZ⟩
 ·subst e
  refine(AnyF.slices_SortFunc_none ac8 none 0 _ w).mono ?_;rintro e w' ⟨rfl,rfl⟩;exact⟨rfl,h0,ah.refl _ _⟩
 ·subst hv
  have hc:=AnyQ.slices_SortFunc ac8 2 (λw=>kZ) (λw=>kZ) Key.cells cW wE jR XL 152 #[] g off cap l.toArray w (enters_of func152 kZ rfl) (OW g off _ w) h0.Sw (by obtain⟨hi,-⟩:=aF4.1 hgg;exact hi) sM;rw[show l.toArray.size=l.length from sI]at hc;refine hc.mono ?_;rintro e w' ⟨rfl,d',n,os,hp,hs,rfl⟩;obtain⟨p1,-,p3⟩:=hp;have e1:(d'.extract 0 l.length).toList=d'.toList:=by
   have:d'.size=l.length:=by rw[p1];simp
   rw[<-this];simp
  have e2:((l.toArray).extract 0 l.length).toList=l:=sI
  rw[e1,e2]at p3;have:d'.size=l.length:=by rw[p1];simp
  have hs2:d'.toList.Pairwise Xh:=by
   rw[List.pairwise_iff_getElem];intro i j hi hj hij;have h3:=hs i j (aB6 _) hij (by simp at hj;omega);rw[pw]at h3;unfold Xh;simp at hi hj;rw[getElem!_pos d' j hj,getElem!_pos d' i hi]at h3
   simpa using h3
  have hd:d'.toList=eW l:=ny p3 hs2;have hd2:d' = (eW l).toArray:=by rw[<-hd]
  have hlen:(eW l).length=l.length:=(fg l).length_eq;subst hd2;obtain⟨k1,k2⟩:=h0.av2 (l':=eW l) n hlen;unfold sortWorldK;refine⟨rfl,k1.call (xE _ os),?_⟩;exact(k2.call (xE _ os)).mono λk hk=>by subst hk;rfl
end
theorem xF(g:Nat)(v:Value)(ph:List aU)(fr room:Nat)(x:aU)(w:World)(h:bY w g v ph fr room)(hroom:room<=100000)(hl:ph.length=room) :
 Calls prog 402 #[.pointer (some ⟨g,0,none⟩),.agg (cI x)] w (xr g v (ph.set fr x) ((fr+1) % room) room w):=by
 obtain⟨f1,f2,f3,f4,f5⟩:=oo w x
 have HRI:=zD (BV h.2.2.2 hl x).1
 have ae8:=zD h.2.2.2
 have H0:=zD (h.call f4)
 have Ag:=zD h.lt
 have hfr:=h.2.2.2.2.2
 obtain⟨A,n,c,rfl,kX,gU⟩:=h.2.1.shape gD
 obtain⟨b,off,y,rfl,hy,hb,u0,u1,u2,u3,u4⟩:=dB.at_ gU (show fr<n by omega)
 have h0:off=0:=by
  rcases h.2.1.2 with⟨e,_⟩|⟨b',cap,cur,e,_⟩
  ·cases e
  ·cases e;rfl
 subst h0
 rw[aR9]at u0 u1 u2 u3 u4
 subst kX
 have HC:=zD (λW (hW:Below w.heap.size w W)=>(⟨(hW.cell (p:=⟨b,fr*5,none⟩) hb).trans u0,(hW.cell (p:=⟨b,fr*5+1,none⟩) hb).trans u1,(hW.cell (p:=⟨b,fr*5+2,none⟩) hb).trans u2,(hW.cell (p:=⟨b,fr*5+3,none⟩) hb).trans u3,(hW.cell (p:=⟨b,fr*5+4,none⟩) hb).trans u4⟩ :
  W.cell? ⟨b,fr*5,none⟩=some (.int .i64 y.tick)/\W.cell? ⟨b,fr*5+1,none⟩=some (.int .i64 y.load)/\W.cell? ⟨b,fr*5+2,none⟩=some (.int .i64 y.want)/\W.cell? ⟨b,fr*5+3,none⟩=some (.int .i64 y.aQ)/\W.cell? ⟨b,fr*5+4,none⟩=some (.int .i64 y.why)))
 obtain⟨c0,c1,c2⟩:=H0.out.cells
 have F1:=zD f1
 have F2:=zD f2
 have F3:=zD f3
 have F4:=zD f4
 have F5:=zD f5
 have d1:((room:Int)==0)=false:=by simp;omega
 have d2:decide ((ph.length:Int)<(room:Int))=false:=by simp;omega
 have hlt2:¬ph.length<room:=by omega
 have av3:¬room=0:=by omega
 have xB:fr<ph.length:=by omega
 have XM:=zD xB
 have hfi:(fr:Int)<(ph.length:Int):=by omega
 have HWr:=zD (show IntKind.i64.wrap ((fr:Int)+1)=(fr:Int)+1 by rw[IntKind.wrap_i64];omega)
 have HM:=zD (show((fr:Int)+1).tmod (room:Int)=(((fr+1) % room:Nat):Int) by rw[<-Int.natCast_one,<-Int.natCast_add,<-Int.ofNat_tmod])
 have fJ:=zD hl
 clear h f1 f2 f3 f4 f5 hl gU hy hb u0 u1 u2 u3 u4
 generalize(fr+1) % room=XN at *
 go_enter func402,ntmps402
 go_upto_region 4 with(fail)
 go_quiet(fail)
 go_upto_region 7 with(fail)
 have F1:=zD (F1.out.drewN nq)
 have F2:=zD (F2.out.drewN nq)
 have F4:=zD (below_drewN F4.out nq)
 have F5:=zD (show((rJ w x).drewN nq).heap.size=w.heap.size+3 from F5.out)
 have H0:=zD (H0.out.call (below_drewN (Below.refl _ _) nq))
 clear d1 d2 hlt2 c0 c1 c2 F3
 generalize(rJ w x).drewN nq=w2 at *
 refine zr (λ_=>false) (λwS=>Below w2.heap.size w2 wS) ?_
 have S0:=(Below.refl w2.heap.size w2).drew
 refine zk 7 [0,1,2,3,4] [_,_,_,.slice (some ⟨b,0,none⟩) ph.length c,_] (.q zK<|.q zK<|.q zK<|.c rfl rfl (zl λ_ h=>by have c:=(H0.out.call h).cells.1;go_simp)<|.f) S0 ?_
 refine zk 2 [5,6,7,8,9] [_,_,.int .i64 fr,.pointer (some ⟨b,fr*5,none⟩),.agg (cI y)] (.q zK<|.q zK<|.c rfl rfl (zl λ_ h=>by have c:=(H0.out.call h).cells.2.1;go_simp)<|.c rfl rfl zFF<|.c rfl rfl (zl λ_ h=>by obtain⟨q0,q1,q2,q3,q4⟩:=HC.out _ (F4.out.trans (h.mono F4.out.size));go_simp) .nil) S0 ?_
 refine zo 10 (λQ2 aI=>?_)
 have nG:=dp (S:=S0) (zA) 49
 obtain⟨G,hG,bG,lG⟩:=nG
 go_wp2_with fail
 refine aI _ _ (λ_=>S0.alloc S0.size _) ?_
 clear aI Q2
 (try simp only[hG])
 clear hG
 have SG:=S0.alloc S0.size (.cells (zA) 49)
 refine zo 11 (λQ2 aI=>?_);go_wp2_with(refine wpList_store_row rfl 49 (.tmp 7) _ rfl _ _ _ _ rfl rfl (bG) (by rfl) (by kernel_rfl) (by simp[Value.oneCell']) ?_;intro uG p9 jH);refine aI _ _ (λ_=>SG.trans (Only.below jH lG SG.size)) ?_;clear aI Q2
 have jf:=SG.trans (Only.below jH lG SG.size)
 refine eQ (by kernel_rfl) ?_ _
 have K1:=zD (F1.out.call jf)
 have K2:=zD (F2.out.call jf)
 have K4:=zD (F4.out.trans (jf.mono F4.out.size))
 have K5:=zD jf
 have KG:=zD p9
 have KL:=zD lG
 have K0:=zD (H0.out.call jf)
 clear p9 jH jf bG SG S0 H0 F1 F2 lG
 go_upto_region 8 with(fail)
 refine zr (λj=>[10].contains j) (λwS=>Below uG.heap.size uG wS) ?_
 have S0:=(Below.refl uG.heap.size uG).drew
 refine zk 6 [0,1,2,3,4] [_,_,_,.slice (some ⟨b,0,none⟩) ph.length c,_] (.q zK<|.q zK<|.q zK<|.c rfl rfl (zl λ_ h=>by have c:=(K0.out.call h).cells.1;go_simp)<|.f) S0 ?_
 refine zk 1 [5,6,7,8,9] [_,_,.int .i64 fr,_,.pointer (some ⟨b,fr*5,none⟩)] (.c rfl rfl zPP<|.c rfl rfl zPP<|.c rfl rfl (zl λ_ h=>by have c:=(K0.out.call h).cells.2.1;go_simp)<|.c rfl rfl (zl λ_ h=>zb (K1.out.call h) underlying49)<|.c rfl rfl zFF .nil) S0 ?_
 refine aq _ _ _ _ (by kernel_rfl) ?_
 refine zO 10 (λQ2 aI=>?_);go_wp2_with(refine wpList_store_mid rfl 49 (.tmp 60) (.tmp 59) rfl b (fr*5) #[.int .i64 x.tick,.int .i64 x.load,.int .i64 x.want,.int .i64 x.aQ,.int .i64 x.why] rfl rfl ((K0.out.call S0).2.1.set gD XM.out x).2.2 (by kernel_rfl) (by simp[Value.oneCell']) ?_);(try refine aI _ _ ?_);(try clear aI Q2)
 refine wpAny_done (by kernel_rfl) ?_ _
 have D1:=zD (K0.out.call S0)
 have D2:=(D1.out.2.1.set gD XM.out x)
 have hbg:g≠b:=λe=>D1.out.2.2.1 (by rw[e];rfl)
 have U8:=zD (((ah.aa (S:=foot g (Value.slice (some ⟨b,0,none⟩) ph.length c)) (K5.out.trans (S0.mono K5.out.size)))).grown D2.2.1 (λk e=>by cases e;exact .inl (.inr rfl)))
 have hbw:=Ag.out b (.inr rfl)
 have M0:=zD (show bY (uG.drew.setCells b (fr*5) [.int .i64 x.tick,.int .i64 x.load,.int .i64 x.want,.int .i64 x.aQ,.int .i64 x.why]) g (.slice (some ⟨b,0,none⟩) ph.length c) (ph.set fr x) fr room from
  ⟨D1.out.1.grown D2.2.1 (λe=>hbg (Option.some.inj e)),D2.1,D1.out.2.2.1,⟨by rw[aF3];exact ae8.out.1,λh=>ae8.out.2.1 (by rwa [aF3]at h),ae8.out.2.2⟩⟩)
 have M2:=zD ((K2.out.call S0).grown D2.2.1 (λe=>by cases e;omega))
 have MG:=zD ((KG.out.call S0).grown D2.2.1 (λe=>by cases e;have:=KL.out;have:=F5.out;omega))
 have e8:uG.drew.setCells b (fr*5) [.int .i64 x.tick,.int .i64 x.load,.int .i64 x.want,.int .i64 x.aQ,.int .i64 x.why]=uG.drew.setCells b (fr*5) x.cells:=rfl
 rw[<-e8]at U8 M2 MG
 clear D1 D2 e8 K0 K1 K2 K4 K5 KG
 generalize uG.drew.setCells b (fr*5) [.int .i64 x.tick,.int .i64 x.load,.int .i64 x.want,.int .i64 x.aQ,.int .i64 x.why]=w8 at *
 have q4:=M0.out.cells.2.1
 have q5:=M0.out.1.frozen 1
 go_upto_region 9 with(fail)
 refine zr (λj=>[13].contains j) (λwS=>Below w8.heap.size w8 wS) ?_
 have S0:=(Below.refl w8.heap.size w8).drew
 refine zk 9 [0,1,2,3,4] [_,_,_,_,.int .i64 fr] (.q zK<|.q zK<|.q zK<|.q zK<|.c rfl rfl (zl λ_ h=>by have c:=(M0.out.call h).cells.2.1;go_simp) .nil) S0 ?_
 refine zk 4 [5,6,7,8,9] [.int .i64 ((fr:Int)+1),_,_,_,.int .i64 room] (.c rfl rfl (zl λ_ _=>by have hw:=HWr.out;go_simp)<|.q zK<|.q zK<|.q zK<|.c rfl rfl (zl λ_ h=>by have c:=(M0.out.call h).cells.2.2;go_simp) .nil) S0 ?_
 refine zk 3 [10] [.int .i64 XN] (.c rfl rfl (zl λ_ _=>by have hM:=HM.out;go_simp) .nil) S0 ?_
 refine zo 11 (λQ2 aI=>?_);go_wp2_with fail;refine aI _ _ (λ_=>S0) ?_;clear aI Q2
 refine zk 1 [12] [_] .f S0 ?_
 refine aq _ _ _ _ (by kernel_rfl) ?_
 refine zO 13 (λQ2 aI=>?_);go_wp2_with fail;(try refine aI _ _ ?_);(try clear aI Q2)
 refine wpAny_done (by kernel_rfl) ?_ _
 have N0:=zD (show bY (w8.drew.setCell ⟨g,1,none⟩ (.int .i64 XN)) g (.slice (some ⟨b,0,none⟩) ph.length c) (ph.set fr x) XN room from
  ⟨M0.out.1.drew.aX 1 _,M0.out.2.1.Sj.far (λk hk e=>M0.out.2.2.1 (by rw[hk,e])) _,M0.out.2.2.1,HRI.out⟩)
 have U9:=zD ((U8.out.drew).setCell (p:=⟨g,1,none⟩) (.inl (.inl rfl)) (.int .i64 XN))
 have hgw:=Ag.out g (.inl rfl)
 have N2:=zD (M2.out.drew.far (p:=⟨g,1,none⟩) (by show w.heap.size+1≠g;omega) (.int .i64 XN))
 have NG:=zD (MG.out.drew.far (p:=⟨g,1,none⟩) (by show G≠g;have:=KL.out;have:=F5.out;omega) (.int .i64 XN))
 clear M0 U8 M2 MG q4 q5
 have Sy:w8.drew.setCell ⟨g,1,none⟩ (.int .i64 XN)=(w8.setCell ⟨g,1,none⟩ (.int .i64 XN)).drew:=rfl
 rw[Sy]at N0 U9 N2 NG
 clear Sy
 generalize(w8.setCell ⟨g,1,none⟩ (.int .i64 XN)).drew=w10 at *
 go_wp2_with(first|(refine ai.load rfl 49 (.tmp 7) rfl G _ _ _ rfl NG.out underlying49 rfl (by kernel_rfl) ?_)|(refine wpList_store_row rfl 49 (.tmp 4) (.tmp 74) rfl (w.heap.size+1) _ _ _ rfl rfl N2.out (by rfl) (by kernel_rfl) (by simp[Value.oneCell']) ?_;intro w9 b8 dM;have XI:=zD b8;have JM:=zD dM;clear b8 dM))
 refine bodyPost_ret (az rfl _ _ (w.heap.size+1) _ _ _ rfl XI.out underlying49 rfl (by kernel_rfl)) rfl ⟨_,_,_,rfl,BZ F4.out F5.out Ag.out N0.out U9.out (λk hk=>.inl hk) JM.out⟩
def Dd(l:List aU)(room:Int)(x:aU):List aU:=if 1<=room/\room<=64 then eV l room.toNat x else[]
def lq(w:World)(q p:Option Addr)(F:Nat->Prop)(xs:List aU)(room:Int):Prop:=
 (p=none/\q=none/\xs=[]/\(room<1\/64<room))\/∃(h g:Nat)(v:Value)(ph:List aU)(fr rm:Nat),q=some ⟨g,0,none⟩/\p=some ⟨h,0,none⟩/\room=rm/\1<=rm/\rm<=64/\ai w h 363 #[pt g]/\bY w g v ph fr rm/\F h/\h≠g/\v.ownBlock≠some h/\(∀k,foot g v k->F k)/\xs=eN ph fr
def dX(w:World)(p:Option Addr)(F:Nat->Prop)(xs:List aU)(room:Int):Prop:=
 ((p=none/\xs=[]/\(room<1\/64<room))\/∃(h g:Nat)(v:Value)(ph:List aU)(fr rm:Nat),p=some ⟨h,0,none⟩/\room=rm/\1<=rm/\rm<=64/\ai w h 363 #[pt g]/\bY w g v ph fr rm/\F h/\h≠g/\v.ownBlock≠some h/\(∀k,foot g v k->F k)/\xs=eN ph fr)/\∀k,F k->k<w.heap.size
def dX.upd(h:dX w p F xs room)(hu:ah S w w')(hn:∀k,F k->¬S k):dX w' p F xs room:=by
 refine⟨?_,λk hk=>aB9 (h.2 k hk) hu.size⟩;rcases h.1 with h|⟨h,g,v,ph,fr,rm,e1,e2,e3,e4,e5,e6,e7,e8,e9,Sy,e11⟩
 ·exact .inl h
 ·exact .inr ⟨h,g,v,ph,fr,rm,e1,e2,e3,e4,e5.upd hu (hn _ e7),e6.upd hu (λk hk=>hn k (Sy k hk)),e7,e8,e9,Sy,e11⟩
def dX.call(h:dX w p F xs room)(hb:Bl w w'):dX w' p F xs room:=
 h.upd (S:=λ_=>False) (ah.aa hb) (λ_ _ hk=>hk)
def av4(w:World)(room:Int)(e:Ending)(w' : World):Prop:=∃p F,e=.returned (.pointer p)/\dX w' p F [] room/\(∀k,F k->w.heap.size<=k)/\Bl w w'
theorem Ga(room:Int)(w:World)(h0:aw room) :
 Calls prog 195 #[I6 room] w (av4 w room):=by
 by_cases hr:room<1\/64<room
 ·have hd:(decide (room<1)=true)\/(decide (room<1)=false/\decide (64<room)=true):=by
   rcases hr with h|h
   ·exact .inl sM
   ·by_cases h2:room<1
    ·exact .inl sM
    ·exact .inr ⟨by simp;omega,by simp;omega⟩
  have HR:=zD hr
  clear hr
  rcases hd with d1|⟨d1,d2⟩
  ·go_enter func195,ntmps195
   go_wp2
   go_ret
   exact⟨none,λ_=>False,rfl,⟨.inl ⟨rfl,rfl,HR.out⟩,λ_ hk=>hk.elim⟩,λ_ hk=>hk.elim,gW⟩
  ·go_enter func195,ntmps195
   go_wp2
   go_ret
   exact⟨none,λ_=>False,rfl,⟨.inl ⟨rfl,rfl,HR.out⟩,λ_ hk=>hk.elim⟩,λ_ hk=>hk.elim,gW⟩
 ·obtain⟨rm,rfl⟩:∃rm:Nat,room=rm:=⟨room.toNat,oM⟩
  have:decide ((rm:Int)<1)=false:=by simp;omega
  have:decide ((64:Int)<(rm:Int))=false:=by simp;omega
  have: ¬rm<1:=oM
  have: ¬64<rm:=oM
  have HC:=zD (λw=>Sl rm w oM oM)
  have HN:=zD (λw=>bY.new w rm oM)
  clear hr
  go_enter func195,ntmps195
  go_wp2_with(go_at_call 246;refine(HC.out _).mono ?_;rintro e w1 ⟨rfl,rfl⟩)
  go_ret
  have hB:=ai.new (w.alloc (.cells #[.slice none 0 0,I6 0,I6 rm] 399)) 363 #[pt w.heap.size]
  rw[World.size_alloc]at hB
  refine⟨_,λk=>k=w.heap.size\/k=w.heap.size+1,rfl,⟨.inr ⟨w.heap.size+1,w.heap.size,.slice none 0 0,[],0,rm,rfl,rfl,oM,oM,hB,(HN.out w).call gW,.inr rfl,oM,by simp[Value.ownBlock],?_,rfl⟩,?_⟩,?_,gW⟩
  ·rintro k (rfl|hk)
   ·exact .inl rfl
   ·simp[Value.ownBlock]at hk
  ·rintro k (rfl|rfl)<;>(simp;try omega)
  ·rintro k (rfl|rfl)<;>omega
theorem rP(p:Option Addr)(F:Nat->Prop)(xs:List aU)(room:Int)(w:World)(h:dX w p F xs room) :
 Calls prog 200 #[.pointer p] w λe w'=>∃q,e=.returned (.pointer q)/\w=w'/\lq w q p F xs room:=by
 rcases h.1 with⟨rfl,e2⟩|⟨hh,g,v,ph,fr,rm,rfl,e2,e3,e4,e5,rest⟩
 ·have HE:=e2
  clear e2 h;go_enter func200,ntmps200;go_wp2;go_ret;exact⟨none,rfl,rfl,.inl ⟨rfl,rfl,HE⟩⟩
 ·have:=e5.ar (i:=0) rfl
  have HE:lq w (some ⟨g,0,none⟩) (some ⟨hh,0,none⟩) F xs room:=.inr ⟨hh,g,v,ph,fr,rm,rfl,rfl,e2,e3,e4,e5,rest⟩;clear e2 e3 e4 e5 rest;go_enter func200,ntmps200;go_wp2;go_ret;exact⟨_,rfl,rfl,HE⟩
def lq.am8(h:lq w q p F xs room):rK w q w.heap.size xs:=by
 rcases h with⟨-,rfl,rfl,-⟩|⟨h,g,v,ph,fr,rm,rfl,-,-,e3,e4,e5,e6,e7,e8,e9,Sy,rfl⟩
 ·exact .inl ⟨rfl,rfl⟩
 ·exact .inr ⟨g,v,ph,fr,rm,rfl,e6,oM,e6.lt,rfl⟩
theorem De(p:Option Addr)(F:Nat->Prop)(xs:List aU)(room:Int)(w:World)(h:dX w p F xs room) :
 Calls prog 154 #[.pointer p] w λe w'=>∃v,e=.returned v/\Ac w' w.heap.size v xs/\Bl w w':=by
 have HH:=h;clear h;go_enter func154,ntmps154;go_wp2_with(first|(go_at_call 200;refine(rP p F xs room _ HH).mono ?_;rintro e w1 ⟨q,rfl,rfl,hq⟩;have HQ:=hq.am8;clear hq)|(go_at_call 201;refine(OV q xs _ HQ).mono ?_;rintro e w2 ⟨v,rfl,HV⟩));go_ret;exact⟨v,rfl,HV⟩
def Gb(q p:Option Addr)(F:Nat->Prop)(xs:List aU)(room:Int)(x:aU)(w:World)(e:Ending)(w' : World):Prop:=∃y b F' q2,e=.returned (.tuple #[.agg y,.bool b])/\lq w' q2 p F' (Dd xs room x) room/\q2=q/\(∀k,F' k->k<w'.heap.size)/\ah F w w'/\∀k,F' k->F k\/w.heap.size<=k
def OX(q p:Option Addr)(F:Nat->Prop)(xs:List aU)(room:Int)(x:aU)(w:World)(hq:lq w q p F xs room)(hF:∀k,F k->k<w.heap.size) :
 Calls prog 402 #[.pointer q,.agg (cI x)] w (Gb q p F xs room x w):=by
 rcases hq with⟨rfl,rfl,rfl,hr⟩|⟨h,g,v,ph,fr,rm,rfl,rfl,rfl,e3,e4,e5,e6,e7,e8,e9,Sy,rfl⟩
 ·refine(Ad x w).mono ?_
  rintro e w' ⟨rfl,hb⟩;refine⟨_,_,F,none,rfl,.inl ⟨rfl,rfl,?_,hr⟩,rfl,λk hk=>aB9 (hF k hk) hb.size,ah.aa hb,λk hk=>.inl hk⟩;unfold Dd;rw[if_neg oM]
 ·have key:∀Sm Ae e w',xr g v Sm Ae rm w e w'->eN Sm Ae = eV (eN ph fr) rm x->Gb (some ⟨g,0,none⟩) (some ⟨h,0,none⟩) F (eN ph fr) rm x w e w':=by
   rintro Sm Ae e w' ⟨v',y,b,rfl,p1,p2,p3⟩ hpq;have hnf:¬foot g v h:=by
    rintro(rfl|hk)
    ·exact e8 rfl
    ·exact e9 hk
   have fo:¬foot g v' h:=λhf=>by
    rcases p3 h hf with h1|h1
    ·exact hnf h1
    ·have:=e5.lt;omega
   refine⟨y,b,λk=>F k\/foot g v' k,_,rfl,.inr ⟨h,g,v',Sm,Ae,rm,rfl,rfl,rfl,e3,e4,e5.upd p2 hnf,p1,.inl e7,e8,λhk=>fo (.inr hk),λk hk=>.inr hk,?_⟩,rfl,?_,p2.mono Sy,?_⟩
   ·unfold Dd;rw[if_pos oM,hpq];simp
   ·rintro k (hk|hk)
    ·exact aB9 (hF k hk) p2.size
    ·exact p1.lt k hk
   ·rintro k (hk|hk)
    ·exact .inl hk
    ·exact(p3 k hk).imp (Sy k) id
  by_cases hl:ph.length<rm
  ·exact(xu g v ph fr rm x w e6 oM hl).mono λe w' hp=>key _ _ e w' hp (BU e6.2.2.2 hl x).2
  ·have hl2:ph.length=rm:=oH e6.2.2.2.1
   exact(xF g v ph fr rm x w e6 oM hl2).mono λe w' hp=>key _ _ e w' hp (BV e6.2.2.2 hl2 x).2
def XO(p:Option Addr)(F:Nat->Prop)(xs:List aU)(room:Int)(x:aU)(w:World)(e:Ending)(w' : World):Prop:=∃F',e=.returned (.bool (decide (1<=room/\room<=64)))/\dX w' p F' (Dd xs room x) room/\ah F w w'/\∀k,F' k->F k\/w.heap.size<=k
def lq.av5(h:lq w q p F xs room)(hF:∀k,F k->k<w.heap.size):dX w p F xs room:=by
 refine⟨?_,hF⟩;rcases h with⟨h1,-,h2⟩|⟨h,g,v,ph,fr,rm,-,rest⟩
 ·exact .inl ⟨h1,h2⟩
 ·exact .inr ⟨h,g,v,ph,fr,rm,rest⟩
def Gc(q p:Option Addr)(F:Nat->Prop)(xs:List aU)(room:Int)(w:World)(hq:lq w q p F xs room) :
 Calls prog 295 #[.pointer q] w λe w'=>e=.returned (I6 xs.length)/\w=w':=by
 rcases hq with⟨rfl,rfl,rfl,hr⟩|⟨h,g,v,ph,fr,rm,rfl,rfl,rfl,e3,e4,e5,e6,e7,e8,e9,Sy,rfl⟩
 ·exact rI w
 ·rw[ij ph fr rm e6.2.2.2];exact xq g v ph fr rm w e6
def OY(h:lq w q p F xs room)(x:aU):decide (0<(Dd xs room x).length)=decide (1<=room/\room<=64):=by
 unfold Dd
 split
 ·rename_i hr
  obtain⟨rm,rfl⟩:∃rm:Nat,room=rm:=⟨room.toNat,oM⟩
  have hl:xs.length<=rm:=by
   rcases h with⟨-,-,rfl,h⟩|⟨h,g,v,ph,fr,rm',-,-,e2,e3,e4,e5,e6,e7,e8,e9,Sy,rfl⟩
   ·simp
   ·rw[ij ph fr rm' e6.2.2.2];have:=e6.2.2.2.1;omega
  have:=(FP (x:=x) hl oM).2;rw[aU4,decide_eq_true (show 0<(eV xs rm x).length by omega),decide_eq_true hr]
 ·rename_i hr
  rw[decide_eq_false hr]
  rfl
theorem Gd(p:Option Addr)(F:Nat->Prop)(xs:List aU)(room:Int)(x:aU)(w:World)(h:dX w p F xs room) :
 Calls prog 399 #[.pointer p,.agg (cI x)] w (XO p F xs room x w):=by
 have HH:=h.call (show Bl w (w.alloc (.cells (cI x) 49)) by go_grown);clear h;go_enter func399,ntmps399;go_wp2_with(first|(go_at_call 200;refine(rP p F xs room _ HH).mono ?_;rintro e w1 ⟨q,rfl,rfl,HQ⟩)|(go_at_call 402;refine(OX q p F xs room x _ HQ HH.2).mono ?_;rintro e w2 ⟨y,b,F',q2,rfl,hp1,rfl,hp2⟩;have P1:=hp1;have P2:=hp2;clear hp1 hp2)|(go_at_call 295;refine zN (Gc _ p F' _ room _ P1) ?_));go_ret;refine⟨F',?_,P1.av5 P2.1,?_,?_⟩
 ·rw[OY HQ x]
  rfl
 ·exact(ah.aa gW).trans P2.2.1 iL
 ·exact λk hk=>(P2.2.2 k hk).imp id (λh=>by simp at h;omega)
def ai.an2(w:World)(o:Obj)(t:TypeId)(cs:Array Value):ai ((w.alloc o).alloc (.cells cs t)) (w.heap.size+1) t cs:=by
 have:=ai.new (w.alloc o) t cs
 simpa using this
def ai.an3(w:World)(o o2:Obj)(t:TypeId)(cs:Array Value):ai (((w.alloc o).alloc o2).alloc (.cells cs t)) (w.heap.size+1+1) t cs:=by
 have:=ai.new ((w.alloc o).alloc o2) t cs
 simpa using this
def gZ(l:List Int):Nat:=(l.map Int.toNat).sum
def Pr(l:List Int)(x:Int):gZ (l++[x])=gZ l+x.toNat:=by simp[gZ]
theorem Di(l:List Int)(hg:∀x∈l,aw x):gZ l<=l.length*9223372036854775807:=by
 induction l with
 |nil=>simp[gZ]
 |cons x l ih=>
  have:=ih (λy hy=>hg y (by simp[hy]));have h2:=hg x sI;unfold aw at h2;simp only[gZ,aH1,aS2,aC4]at *;omega
def Tc{l:List Int}(hg:∀x∈l,aw x)(k:Nat):∀x∈l.take k,aw x:=λx hx=>hg x (aI0 hx)
abbrev dI.row(p:dI):Array Value:=#[I6 p.min,I6 p.max,I6 p.target,I6 p.lz,I6 p.bp,I6 p.hold]
structure Ld where
 cL:List aD
 past:List aU
 cM:dI
 ruled:Bool
 fK:Int
def Ff:Ld:=⟨[],[],⟨0,0,0,0,0,0⟩,false,0⟩
structure an4 where
 kind:Int
 tick:Int
 value:Int
 cM:dI
 ei:aU
def bump(x:Ld):Ld:=⟨x.cL,x.past,x.cM,x.ruled,x.fK+1⟩
def Dj(c:aM)(x:Ld)(t v:Int):Ld:=if bU t v=0 then⟨nY x.cL c.dE.toNat ⟨t,v⟩,x.past,x.cM,x.ruled,x.fK+1⟩else x
def nB(x:Ld)(t:Int):Ld:=if(bT x.cL t).length=x.cL.length then x else⟨bT x.cL t,x.past,x.cM,x.ruled,x.fK+1⟩
def Av(x:Ld)(p:dI):Ld:=if p.xJ then⟨x.cL,x.past,p,true,x.fK+1⟩else x
def xS(c:aM)(x:Ld)(a:aU):Ld:=⟨x.cL,eV x.past c.iI.toNat a,x.cM,x.ruled,x.fK+1⟩
def ndo(c:aM)(x:Ld)(a:an4):Ld:=
 if a.kind=0 then Dj c x a.tick a.value else if a.kind=1 then nB x a.tick else if a.kind=2 then Av x a.cM else if a.kind=3 then xS c x a.ei else x
structure lD(c:aM)(x:Ld)(k:Nat):Prop where
 RP:pP x.cL
 Td:x.cL.length<=c.dE.toNat
 Dk:x.past.length<=c.iI.toNat
 v0:0<=x.fK
 v1:x.fK<=k
def an5(c:aM):lD c Ff 0:=⟨List.Pairwise.nil,aB6 _,aB6 _,aW5 _,aW5 _⟩
def lD.mono{c:aM}{x:Ld}{m:Nat}(h:lD c x k)(hm:k<=m):lD c x m:=⟨h.RP,h.Td,h.Dk,h.v0,oH h.v1⟩
def Kk(l:List aU)(room:Nat)(x:aU)(h:l.length<=room)(h1:1<=room):(eV l room x).length<=room:=by
 unfold eV;split
 ·rw[aD2,aB8];simp;omega
 ·rename_i h2;omega
def lD.next{c:aM}(hc:c.gV){x:Ld}(h:lD c x k)(a:an4):lD c (ndo c x a) (k+1):=by
 have m1:=h.mono (show k<=k+1 by omega);have hs:1<=c.dE.toNat:=oH hc.2.1
 have hh:1<=c.iI.toNat:=oH hc.2.2.2.2.2.1
 have v0:=h.v0;have v1:=h.v1;unfold ndo
 split
 ·unfold Dj;split
  ·exact⟨FE h.RP _ _,FJ h.Td hs _,h.Dk,by show 0<=x.fK+1;omega,by show x.fK+1<=((k+1:Nat):Int);omega⟩
  ·exact m1
 ·split
  ·unfold nB;split
   ·exact m1
   ·exact⟨BP h.RP _,aB4 (aE7 _ _) h.Td,h.Dk,by show 0<=x.fK+1;omega,by show x.fK+1<=((k+1:Nat):Int);omega⟩
  ·split
   ·unfold Av;split
    ·exact⟨h.RP,h.Td,h.Dk,by show 0<=x.fK+1;omega,by show x.fK+1<=((k+1:Nat):Int);omega⟩
    ·exact m1
   ·split
    ·exact⟨h.RP,h.Td,Kk _ _ _ h.Dk hh,by show 0<=x.fK+1;omega,by show x.fK+1<=((k+1:Nat):Int);omega⟩
    ·exact m1
def af2(w:World)(xs:List aD)(room:Int)(e:Ending)(w' : World):Prop:=∃p F,e=.returned (.pointer p)/\jS w' p F xs room/\(∀k,F k->w.heap.size<=k)/\Bl w w'
def Kl(p:Option Addr)(F:Nat->Prop)(xs:List aD)(room:Int)(w:World)(h:jS w p F xs room) :
 Calls prog 240 #[.pointer p] w (af2 w xs room):=by
 rcases h.1 with⟨rfl,rfl,hr⟩|⟨g,v,rm,rfl,rfl,e3,e4,e5,e6,e7,e8⟩
 ·refine(tF w).mono ?_
  rintro e w' ⟨rfl,rfl⟩;exact⟨none,λ_=>False,rfl,⟨.inl ⟨rfl,rfl,hr⟩,λ_ hk=>hk.elim⟩,λ_ hk=>hk.elim,Below.refl _ _⟩
 ·refine(CY g v xs rm w e5 oM).mono ?_
  rintro e w' ⟨g',v',rfl,k1,k2,k3⟩;exact⟨some ⟨g',0,none⟩,foot g' v',rfl,⟨.inr ⟨g',v',rm,rfl,rfl,e3,e4,k1,λ_ hk=>hk,e7,e8⟩,k1.lt⟩,k2,k3⟩
def an6(p:Option Addr)(F:Nat->Prop)(xs:List aD)(room cut:Int)(w:World)(e:Ending)(w' : World):Prop:=∃F',e=.returned (I6 (aH xs cut))/\jS w' p F' (bT xs cut) room/\ah F w w'/\∀k,F' k->F k\/w.heap.size<=k
def Ps(p:Option Addr)(F:Nat->Prop)(xs:List aD)(room cut:Int)(w:World)(h:jS w p F xs room) :
 Calls prog 188 #[.pointer p,I6 cut] w (an6 p F xs room cut w):=by
 rcases h.1 with⟨rfl,rfl,hr⟩|⟨g,v,rm,rfl,rfl,e3,e4,e5,e6,e7,e8⟩
 ·refine(vK cut w).mono ?_
  rintro e w' ⟨rfl,rfl⟩;exact⟨F,rfl,⟨.inl ⟨rfl,rfl,hr⟩,h.2⟩,ah.refl _ _,λk hk=>.inl hk⟩
 ·refine(FO g v xs rm cut w e5 e7 oM).mono ?_
  rintro e w' ⟨v',rfl,k1,k2,k3⟩;refine⟨λk=>F k\/foot g v' k,rfl,⟨.inr ⟨g,v',rm,rfl,rfl,e3,e4,k1,λk hk=>.inr hk,BP e7 _,aB4 (aE7 _ _) e8⟩,?_⟩,k2.mono e6,?_⟩
  ·rintro k (hk|hk)
   ·exact aB9 (h.2 k hk) k2.size
   ·exact k1.lt k hk
  ·rintro k (hk|hk)
   ·exact .inl hk
   ·exact(k3 k hk).imp (e6 k) id
def oz(w:World)(l:List aU)(e:Ending)(w' : World):Prop:=∃A n c,e=.returned (.slice A n c)/\Ac w' w.heap.size (.slice A n c) l/\Bl w w'
def oz.mk{l:List aU}{v:Value}(h:Ac w' w.heap.size v l)(hb:Bl w w'):oz w l (.returned v) w':=by
 obtain⟨A,n,c,rfl,_,_⟩:=h.shape (λ_=>rfl);exact⟨A,n,c,rfl,h,hb⟩
theorem qI(w:World)(n c:Nat) :
 Calls prog 107 #[.slice none n c] w λe w'=>e=.returned (.slice none 0 0)/\w=w':=by
 have:=λ(W:World)=>Lib.run_eql_slice_nil (P:=prog) W 37 49 none n c 0 0 underlying37
 go_enter func107,ntmps107;go_wp2;go_ret;exact⟨rfl,rfl⟩
theorem qb(A:Option Addr)(n c:Nat)(l:List aU)(w:World)(hs:dB w A n c l)(hn:n<=100000) :
 Calls prog 107 #[.slice A n c] w (oz w l):=by
 cases A with
 |none=>
  obtain⟨rfl,rfl⟩:=hs.2.2.2.1 rfl;have hl:l=[]:=aC0 hs.1;subst hl;refine(qI w 0 0).mono ?_;rintro e w' ⟨rfl,rfl⟩;exact oz.mk (Own.nil _ _ _ _ _) bR
 |some a=>
  have:=λ(W:World)=>Lib.run_eql_slice_nil (P:=prog) W 37 49 (some a) n c 0 0 underlying37
  have HS:=af hs (show Bl w (w.alloc (.cells #[] 49)) by go_grown);have HO:Ac (w.alloc (.cells #[] 49)) w.heap.size (.slice (some ⟨w.heap.size,0,none⟩) 0 0) []:=World.ownsRow_made w #[] 0 lR (aB6 _) rfl;clear hs;go_enter func107,ntmps107;go_wp2_with(at_builtin;refine fP _ rfl (.tmp 5) (.tmp 6) 37 rfl w.heap.size 49 _ 5 40 aU.cells underlying37 lU rF dC (λ_=>rfl) mJ (.slice (some ⟨w.heap.size,0,none⟩) 0 0) [] rfl HO (some a) n c l rfl HS sM dC sI ?_;intro v' w1 ho aT hgr;have HV:=ho;have HB:=Below.trans (show Bl w (w.alloc (.cells #[] 49)) by go_grown) aT;clear ho aT hgr);go_ret;exact oz.mk HV HB
def XX(w:World)(ph:List aU)(fr room:Nat)(e:Ending)(w' : World):Prop:=∃g v,e=.returned (pt g)/\bY w' g v ph fr room/\(∀k,foot g v k->w.heap.size<=k)/\Bl w w'
theorem Km(g:Nat)(v:Value)(ph:List aU)(fr room:Nat)(w:World)(h:bY w g v ph fr room)(hn:ph.length<=100000) :
 Calls prog 282 #[pt g] w (XX w ph fr room):=by
 have HS:=h;have HRI:=h.2.2.2;have:=h.1.lt;obtain⟨A,n,c,rfl,kX,gU⟩:=h.2.1.shape gD;have Pt:=gU;have fo:n<=100000:=oM
 clear h hn kX gU;go_enter func282,ntmps282;go_upto_region 3 with(fail)
 obtain⟨w0,hw0⟩:∃w0,w0=w:=⟨w,rfl⟩
 rw[<-hw0]at HS Pt |-;have HW:=zD hw0;clear hw0;refine zB λS0=>?_
 refine zk 11 [0,1,2,3,5] [_,_,_,.slice A n c,_] (.q zX<|.q zX<|.q zX<|.q (zS λ_ h=>(HS.1.call h).z 0 (.slice A n c))<|.e) S0 ?_;refine zk 6 [6,7,8,9,10] [_,_,I6 fr,_,_] (.q zX<|.q zX<|.q (zS λ_ h=>(HS.1.call h).z 1 (I6 fr))<|.q zX<|.e) S0 ?_;refine zk 4 [11,12] [_,I6 room] (.q zX<|.q (zS λ_ h=>(HS.1.call h).z 2 (I6 room)) .nil) S0 ?_;refine zQ 4 ?_;go_wp2_with(go_at_call 107;refine(qb A n c ph _ (af Pt S0) fo).mono ?_;rintro e v3 ⟨A3,n3,c3,rfl,kJ,hb3⟩);refine .i (zT S0 hb3) ?_;have S3:=zT S0 hb3;refine zq 2 [13] [_] S3 ?_;refine zQ 14 ?_;obtain⟨G,hG,bG,lG⟩:=dp (S:=S3) (#[.slice A3 n3 c3,I6 fr,I6 room]) 399;go_wp2_with fail;refine .i (S3.alloc S3.size _) ?_
 (try simp only[hG])
 clear hG;have SG:=S3.alloc S3.size (.cells (#[.slice A3 n3 c3,I6 fr,I6 room]) 399);refine zq 0 [15] [_] SG ?_;refine zd ?_;have HO:=kJ.alloc (.cells #[.slice A3 n3 c3,I6 fr,I6 room] 399);have HG:=bG;clear kJ hb3;go_wp2;go_ret;have e0:w0=w:=HW.out;subst e0;exact⟨G,_,rfl,⟨HG,HO.mono (aB6 _),HO.gC HG dC,HRI⟩,λk hk=>by
  rcases hk with rfl|hk
  ·exact lG
  ·exact HO.from_ k hk,SG⟩
theorem rU(w:World):Calls prog 241 #[.pointer none] w λe w'=>e=.returned (.pointer none)/\w=w':=by
 go_enter func241,ntmps241;go_wp2;go_ret;exact⟨rfl,rfl⟩
def af3(w:World)(xs:List aU)(room:Int)(e:Ending)(w' : World):Prop:=∃p F,e=.returned (.pointer p)/\dX w' p F xs room/\(∀k,F k->w.heap.size<=k)/\Bl w w'
theorem Kn(p:Option Addr)(F:Nat->Prop)(xs:List aU)(room:Int)(w:World)(h:dX w p F xs room) :
 Calls prog 241 #[.pointer p] w (af3 w xs room):=by
 rcases h.1 with⟨rfl,rfl,hr⟩|⟨hh,g,v,ph,fr,rm,rfl,rfl,e2,e3,e4,e5,e6,e7,e8,e9,rfl⟩
 ·refine(rU w).mono ?_
  rintro e w' ⟨rfl,rfl⟩;exact⟨none,λ_=>False,rfl,⟨.inl ⟨rfl,rfl,hr⟩,λ_ hk=>hk.elim⟩,λ_ hk=>hk.elim,Below.refl _ _⟩
 ·have:=e4.ar (i:=0) rfl
  have HC:=Km g v ph fr rm w e5 (oH e5.2.2.2.1);have HE:=And.intro e2 e3;clear h e2 e3 e4 e5 e6 e7 e8 e9;go_enter func241,ntmps241;go_wp2_with(go_at_call 282;refine HC.mono ?_;rintro e w1 ⟨g1,v1,rfl,K1,K2,K3⟩);go_ret;have hl:=K1.lt;refine⟨_,λk=>k=w1.heap.size\/foot g1 v1 k,rfl,⟨.inr ⟨w1.heap.size,g1,v1,ph,fr,rm,rfl,rfl,HE.1,HE.2,(ai.new w1 363 #[pt g1]),K1.call gW,.inl rfl,?_,?_,λk hk=>.inr hk,rfl⟩,?_⟩,?_,K3.trans ((Below.refl _ w1).alloc lR _ |>.mono K3.size)⟩
  ·intro hx;have:=hl g1 (.inl rfl);omega
  ·intro hx;have:=hl _ (.inr hx);omega
  ·rintro k (rfl|hk)
   ·simp
   ·have:=hl k hk;simp;omega
  ·rintro k (rfl|hk)
   ·exact K3.size
   ·exact K2 k hk
section
abbrev XY:TypeId:=251
abbrev tU(x:Ld)(ps ph:Value)(fr:Bool):Array Value:=#[I6 x.cM.min,I6 x.cM.max,I6 x.cM.target,I6 x.cM.lz,I6 x.cM.bp,I6 x.cM.hold,.bool x.ruled,I6 x.fK,ps,ph,.bool fr]
def aR(w:World)(p:Option Addr)(F:Nat->Prop)(c:aM)(x:Ld)(fr:Bool):Prop:=
 ∃(g gs:Nat)(ph:Option Addr)(FSs FH:Nat->Prop),p=some ⟨g,0,none⟩/\ai w g XY (tU x (pt gs) (.pointer ph) fr)/\jS w (some ⟨gs,0,none⟩) FSs x.cL c.dE/\dX w ph FH x.past c.iI/\(∀k,FSs k->F k/\¬FH k/\k≠g)/\(∀k,FH k->F k/\k≠g)/\F g/\∀k,F k->k<w.heap.size
section
variable{S F:Nat->Prop}{w w' : World}{p:Option Addr}{c:aM}{x:Ld}{fr:Bool}
def aR.upd(h:aR w p F c x fr)(hu:ah S w w')(hn:∀k,F k->¬S k):aR w' p F c x fr:=by
 obtain⟨g,gs,ph,FSs,FH,e1,e2,e3,e4,e5,e6,e7,e8⟩:=h;exact⟨g,gs,ph,FSs,FH,e1,e2.upd hu (hn g e7),e3.upd hu (λk hk=>hn k (e5 k hk).1),e4.upd hu (λk hk=>hn k (e6 k hk).1),e5,e6,e7,λk hk=>aB9 (e8 k hk) hu.size⟩
def aR.call(h:aR w p F c x fr)(hb:Bl w w'):aR w' p F c x fr:=
 h.upd (S:=λ_=>False) (ah.aa hb) (λ_ _ hk=>hk)
def aR.lt(h:aR w p F c x fr):∀k,F k->k<w.heap.size:=by
 obtain⟨g,gs,ph,FSs,FH,e1,e2,e3,e4,e5,e6,e7,e8⟩:=h;exact e8
def aR.blk(h:aR w p F c x fr):∃g gs ph,p=some ⟨g,0,none⟩/\ai w g XY (tU x (pt gs) (.pointer ph) fr)/\(∃FSs,jS w (some ⟨gs,0,none⟩) FSs x.cL c.dE)/\(∃FH,dX w ph FH x.past c.iI):=by
 obtain⟨g,gs,ph,FSs,FH,e1,e2,e3,e4,e5,e6,e7,e8⟩:=h;exact⟨g,gs,ph,e1,e2,⟨FSs,e3⟩,⟨FH,e4⟩⟩
end
theorem lF(w:World):Calls prog 153 #[.pointer none] w λe w'=>e=.returned (.bool false)/\w=w':=by
 go_enter func153,ntmps153;go_wp2;go_ret;exact⟨rfl,rfl⟩
theorem fq(p:Option Addr)(F:Nat->Prop)(c:aM)(x:Ld)(fr:Bool)(w:World)(h:aR w p F c x fr):Calls prog 153 #[.pointer p] w λe w'=>e=.returned (.bool true)/\w=w':=by
 obtain⟨g,gs,ph,rfl,hb,-,-⟩:=h.blk;have:=hb.z 8 (pt gs);clear h hb;go_enter func153,ntmps153;go_wp2;go_ret;exact⟨rfl,rfl⟩
theorem Gm(p:Option Addr)(F:Nat->Prop)(c:aM)(x:Ld)(fr:Bool)(w:World)(h:aR w p F c x fr):Calls prog 242 #[.pointer p] w λe w'=>e=.returned (.bool fr)/\w=w':=by
 have HM:=fq p F c x fr w h;obtain⟨g,gs,ph,rfl,hb,-,-⟩:=h.blk;have:=hb.z 10 (.bool fr);clear h hb;go_enter func242,ntmps242;go_wp2_with(go_at_call 153;refine HM.mono ?_;rintro e w1 ⟨rfl,rfl⟩);go_ret;exact⟨rfl,rfl⟩
theorem tV(w:World):Calls prog 84 #[.pointer none] w λe w'=>e=.returned (.slice none 0 0)/\w=w':=by
 go_enter func84,ntmps84;go_wp2_with(go_at_call 153;refine zN (lF _) ?_);go_ret;exact⟨rfl,rfl⟩
theorem rV(p:Option Addr)(F:Nat->Prop)(c:aM)(x:Ld)(fr:Bool)(w:World)(h:aR w p F c x fr):Calls prog 84 #[.pointer p] w (iY w x.cL):=by
 have HM:=fq p F c x fr w h;obtain⟨g,gs,ph,rfl,hb,⟨FSs,hs⟩,-⟩:=h.blk;have:=hb.z 8 (pt gs);have HL:=Cb _ FSs x.cL c.dE w hs;clear h hb hs;go_enter func84,ntmps84;go_wp2_with(first|(go_at_call 153;refine HM.mono ?_;rintro e w1 ⟨rfl,rfl⟩)|(go_at_call 127;refine HL.mono ?_;rintro e w2 ⟨A2,n2,c2,rfl,O2,B2⟩));go_ret;exact⟨_,_,_,rfl,O2,B2⟩
theorem Aw(w:World):Calls prog 85 #[.pointer none] w λe w'=>e=.returned (.slice none 0 0)/\w=w':=by
 go_enter func85,ntmps85;go_wp2_with(go_at_call 153;refine zN (lF _) ?_);go_ret;exact⟨rfl,rfl⟩
theorem Ce(p:Option Addr)(F:Nat->Prop)(c:aM)(x:Ld)(fr:Bool)(w:World)(h:aR w p F c x fr):Calls prog 85 #[.pointer p] w (oz w x.past):=by
 have HM:=fq p F c x fr w h;obtain⟨g,gs,ph,rfl,hb,-,⟨FH,hs⟩⟩:=h.blk;have:=hb.z 9 (.pointer ph);have HL:=De _ FH x.past c.iI w hs;clear h hb hs;go_enter func85,ntmps85;go_wp2_with(first|(go_at_call 153;refine HM.mono ?_;rintro e w1 ⟨rfl,rfl⟩)|(go_at_call 154;refine HL.mono ?_;rintro e w2 ⟨v2,rfl,O2,B2⟩;obtain⟨A2,n2,c2,rfl,-,-⟩:=O2.shape gD));go_ret;exact⟨_,_,_,rfl,O2,B2⟩
theorem vO(w:World):Calls prog 376 #[.pointer none] w (Rt (.tuple #[.agg #[I6 0,I6 0,I6 0,I6 0,I6 0,I6 0],.bool false]) (Bl w)):=by
 go_enter func376,ntmps376;go_wp2_with(go_at_call 153;refine zN (lF _) ?_);go_returns;exact⟨rfl,gW⟩
theorem Gn(p:Option Addr)(F:Nat->Prop)(c:aM)(x:Ld)(fr:Bool)(w:World)(h:aR w p F c x fr) :
 Calls prog 376 #[.pointer p] w (Rt (.tuple #[.agg x.cM.row,.bool x.ruled]) (Bl w)):=by
 have B0:=(show Bl w (w.alloc (.cells #[I6 0,I6 0,I6 0,I6 0,I6 0,I6 0] 43)) by go_grown);have HM:=fq p F c x fr _ (h.call B0);obtain⟨g,gs,ph,rfl,hb,-,-⟩:=h.blk;have HB:=hb.call B0;have XZ:¬(λk=>k=w.heap.size) g:=by have:=hb.lt;show ¬g=w.heap.size;omega
 have HR:=ai.new w 43 #[I6 0,I6 0,I6 0,I6 0,I6 0,I6 0];clear h hb;go_enter func376,ntmps376;go_upto_region 3 with(go_at_call 153;refine HM.mono ?_;rintro e w1 ⟨rfl,rfl⟩)
 clear HM;obtain⟨w0,hw0⟩:=zE (w.alloc (.cells #[I6 0,I6 0,I6 0,I6 0,I6 0,I6 0] 43));rw[<-hw0]at HB HR B0 |-;clear hw0;refine zr (λ_=>false) (λwS=>ah (λk=>k=w.heap.size) w0 wS) ?_;have S0:=(ah.refl (λk=>k=w.heap.size) w0).drew;refine zk 7 [0,1,2,3,4] [_,_,_,_,.agg x.cM.row] (.q zX<|.q zX<|.q zX<|.q zX<|.c rfl rfl (zl λ_ h=>by have:=(HB.upd h XZ).z 0 (I6 x.cM.min);have:=(HB.upd h XZ).z 1 (I6 x.cM.max);have:=(HB.upd h XZ).z 2 (I6 x.cM.target);have:=(HB.upd h XZ).z 3 (I6 x.cM.lz);have:=(HB.upd h XZ).z 4 (I6 x.cM.bp);have:=(HB.upd h XZ).z 5 (I6 x.cM.hold);go_simp) .nil) S0 ?_;refine zk 2 [5,6,7,8,9] [_,_,_,_,.bool x.ruled] (.q zX<|.q zX<|.q zX<|.q zX<|.q (zS λ_ h=>(HB.upd h XZ).z 6 (.bool x.ruled)) .nil) S0 ?_;refine zQ 10 ?_;go_wp2_with(refine zJ HR ?_;intro w9 b8 dM);refine .i ((S0).grown dM (λk e=>by injection e with e;exact .inl e.symm)) ?_;have S9:=(S0).grown dM (λk e=>by injection e with e;exact .inl e.symm);refine zq 0 [11] [.bool x.ruled] S9 ?_;refine zd ?_;go_wp2;refine bodyPost_ret (az rfl _ _ w.heap.size _ _ _ rfl b8 underlying43 rfl kZ) rfl ?_;exact⟨rfl,B0.trans (ah.below (S9) (λk hk=>oM) B0.size)⟩
end
section
def oC(F:Nat->Prop)(fr:Bool)(w w' : World)(F' : Nat->Prop):Prop:=ah F w w'/\(∀k,F' k->F k\/w.heap.size<=k)/\(fr=true->Bl w w'/\∀k,F' k->w.heap.size<=k)
def oC.then{F F1 F2:Nat->Prop}{fr:Bool}{w w1 w2:World}(h:oC F fr w w1 F1)(hu:ah F1 w1 w2)(hF:∀k,F2 k->F1 k\/w1.heap.size<=k):oC F fr w w2 F2:=by
 refine⟨h.1.trans hu h.2.1,λk hk=>(hF k hk).elim (h.2.1 k) (λhk=>.inr (aB4 h.1.size hk)),λe=>?_⟩;obtain⟨h1,h2⟩:=h.2.2 e;exact⟨h1.trans (hu.below h2 h1.size),λk hk=>(hF k hk).elim (h2 k) (λhk=>aB4 h.1.size hk)⟩
def oC.pre{F F1:Nat->Prop}{fr:Bool}{w0 w w1:World}(h:oC F fr w w1 F1)(hb:Bl w0 w):oC F fr w0 w1 F1:=
 ⟨(ah.aa hb).trans h.1 iL,λk hk=>(h.2.1 k hk).imp id (λh=>aB4 hb.size h),λe=>⟨hb.trans ((h.2.2 e).1.mono hb.size),λk hk=>aB4 hb.size ((h.2.2 e).2 k hk)⟩⟩
section
variable{F:Nat->Prop}{w:World}{p:Option Addr}{c:aM}{x:Ld}{fr:Bool}
def aR.ser(h:aR w p F c x fr):∃g gs ph FSs,p=some ⟨g,0,none⟩/\ai w g XY (tU x (pt gs) (.pointer ph) fr)/\jS w (some ⟨gs,0,none⟩) FSs x.cL c.dE/\
 ∀ys w' F',jS w' (some ⟨gs,0,none⟩) F' ys c.dE->ah FSs w w'->(∀k,F' k->FSs k\/w.heap.size<=k)->∃F2,aR w' (some ⟨g,0,none⟩) F2 c ⟨ys,x.past,x.cM,x.ruled,x.fK⟩ fr/\ah F w w'/\∀k,F2 k->F k\/w.heap.size<=k:=by
 obtain⟨g,gs,ph,FSs,FH,e1,e2,e3,e4,e5,e6,e7,e8⟩:=h;refine⟨g,gs,ph,FSs,e1,e2,e3,λys w' F' k1 k2 k3=>⟨λk=>F k\/F' k,⟨g,gs,ph,F',FH,rfl,e2.upd k2 (λhk=>(e5 g hk).2.2 rfl),k1,e4.upd k2 (λk hk hs=>(e5 k hs).2.1 hk),λk hk=>⟨.inr hk,?_,?_⟩,λk hk=>⟨.inl (e6 k hk).1,(e6 k hk).2⟩,.inl e7,?_⟩,k2.mono (λk hk=>(e5 k hk).1),?_⟩⟩
 ·intro hh
  rcases k3 k hk with hk|hk
  ·exact(e5 k hk).2.1 hh
  ·have:=e4.2 k hh;omega
 ·rcases k3 k hk with hk|hk
  ·exact(e5 k hk).2.2
  ·have:=e2.lt;omega
 ·rintro k (hk|hk)
  ·exact aB9 (e8 k hk) k2.size
  ·exact k1.2 k hk
 ·rintro k (hk|hk)
  ·exact .inl hk
  ·exact(k3 k hk).imp (λh=>(e5 k h).1) id
def aR.iI(h:aR w p F c x fr):∃g gs ph FH,p=some ⟨g,0,none⟩/\ai w g XY (tU x (pt gs) (.pointer ph) fr)/\dX w ph FH x.past c.iI/\FH≠(λk=>k=g)/\(∀k,FH k->k≠g)/\
 ∀ys w' F',dX w' ph F' ys c.iI->ah FH w w'->(∀k,F' k->FH k\/w.heap.size<=k)->∃F2,aR w' (some ⟨g,0,none⟩) F2 c ⟨x.cL,ys,x.cM,x.ruled,x.fK⟩ fr/\ah F w w'/\∀k,F2 k->F k\/w.heap.size<=k:=by
 obtain⟨g,gs,ph,FSs,FH,e1,e2,e3,e4,e5,e6,e7,e8⟩:=h;refine⟨g,gs,ph,FH,e1,e2,e4,λe=>(e6 g (by rw[e])).2 rfl,λk hk=>(e6 k hk).2,λys w' F' k1 k2 k3=>⟨λk=>F k\/F' k,⟨g,gs,ph,FSs,F',rfl,e2.upd k2 (λhk=>(e6 g hk).2 rfl),e3.upd k2 (λk hk hs=>(e5 k hk).2.1 hs),k1,λk hk=>⟨.inl (e5 k hk).1,?_,(e5 k hk).2.2⟩,λk hk=>⟨.inr hk,?_⟩,.inl e7,?_⟩,k2.mono (λk hk=>(e6 k hk).1),?_⟩⟩
 ·intro hh
  rcases k3 k hh with hh|hh
  ·exact(e5 k hk).2.1 hh
  ·have:=e3.2 k hk;omega
 ·rcases k3 k hk with hk|hk
  ·exact(e6 k hk).2
  ·have:=e2.lt;omega
 ·rintro k (hk|hk)
  ·exact aB9 (e8 k hk) k2.size
  ·exact k1.2 k hk
 ·rintro k (hk|hk)
  ·exact .inl hk
  ·exact(k3 k hk).imp (λh=>(e6 k h).1) id
def aR.row(h:aR w p F c x fr):∃g gs ph,p=some ⟨g,0,none⟩/\ai w g XY (tU x (pt gs) (.pointer ph) fr)/\F g/\∀y Ae w',ai w' g XY (tU y (pt gs) (.pointer ph) Ae)->ah (λk=>k=g) w w'->y.cL=x.cL->y.past=x.past->aR w' (some ⟨g,0,none⟩) F c y Ae/\ah F w w':=by
 obtain⟨g,gs,ph,FSs,FH,e1,e2,e3,e4,e5,e6,e7,e8⟩:=h;refine⟨g,gs,ph,e1,e2,e7,λy Ae w' hb hu hs hp=>⟨⟨g,gs,ph,FSs,FH,rfl,hb,?_,?_,e5,e6,e7,λk hk=>aB9 (e8 k hk) hu.size⟩,hu.mono (λk hk=>hk▸e7)⟩⟩
 ·rw[hs];exact e3.upd hu (λk hk=>(e5 k hk).2.2)
 ·rw[hp];exact e4.upd hu (λk hk=>(e6 k hk).2)
end
def aR.mk0{W:World}{g:Nat}{ps ph:Option Addr}{FSs FH:Nat->Prop}{c:aM}{x:Ld}{fr:Bool}(hb:ai W g XY (tU x (.pointer ps) (.pointer ph) fr))(hs:jS W ps FSs x.cL c.dE)(a8:iH c.dE)(hh:dX W ph FH x.past c.iI)(d:∀k,FSs k->¬FH k)(h1:∀k,FSs k->k≠g)(h2:∀k,FH k->k≠g):aR W (some ⟨g,0,none⟩) (λk=>FSs k\/FH k\/k=g) c x fr:=by
 have e:∃gs,ps=some ⟨gs,0,none⟩:=by
  rcases hs.1 with⟨-,-,hr⟩|⟨g,v,rm,rfl,rest⟩
  ·exact absurd a8 hr
  ·exact⟨g,rfl⟩
 obtain⟨gs,rfl⟩:=e;refine⟨g,gs,ph,FSs,FH,rfl,hb,hs,hh,λk hk=>⟨.inl hk,d k hk,h1 k hk⟩,λk hk=>⟨.inr (.inl hk),h2 k hk⟩,.inr (.inr rfl),?_⟩;rintro k (hk|hk|rfl)
 ·exact hs.2 k hk
 ·exact hh.2 k hk
 ·exact hb.lt
def af4(p:Option Addr)(F:Nat->Prop)(c:aM)(x:Ld)(fr:Bool)(w:World)(e:Ending)(w' : World):Prop:=∃p1 F1,e=.returned (.pointer p1)/\aR w' p1 F1 c (bump x) false/\oC F fr w w' F1
theorem Gp(p:Option Addr)(F:Nat->Prop)(c:aM)(x:Ld)(w:World)(h:aR w p F c x false)(hv:0<=x.fK/\x.fK<=100000) :
 Calls prog 187 #[.pointer p] w (af4 p F c x false w):=by
 obtain⟨g,gs,ph,rfl,hb,hF,hr⟩:=h.row;have:=hb.z 10 (.bool false);have:=hb.z 7 (I6 x.fK);have:=hb.frozen 7;have HR:=hr;have HB:=hb;have:=hv.1;have:=hv.2;clear h hb hr hv hF;go_enter func187,ntmps187;go_wp2;go_ret;obtain⟨k1,k2⟩:=HR (bump x) false _ (show ai (w.setCell ⟨g,7,none⟩ (I6 (x.fK+1))) g XY (tU (bump x) (pt gs) (.pointer ph) false)from HB.aX 7 _) ((ah.refl (λk=>k=g) w).setCell (p:=⟨g,7,none⟩) (.inl rfl) _) rfl rfl;exact⟨_,F,rfl,k1,k2,λk hk=>.inl hk,λe=>by cases e⟩
theorem Dl(p:Option Addr)(F:Nat->Prop)(c:aM)(x:Ld)(w:World)(h:aR w p F c x true)(hv:0<=x.fK/\x.fK<=100000) :
 Calls prog 187 #[.pointer p] w (af4 p F c x true w):=by
 obtain⟨g,gs,ph,FSs,FH,rfl,e2,e3,e4,e5,e6,e7,e8⟩:=h;have HB:=zD e2;have HS:=zD e3;have HH:=zD e4;have c10:=e2.z 10 (.bool true);have:=hv.1;have:=hv.2;have Ko:=zD (show iH c.dE from by
  rcases e3.1 with⟨h,-,-⟩|⟨g,v,rm,-,hrm,h1,h2,-⟩
  ·cases h
  ·unfold iH;omega)
 clear e2 e3 e4 e5 e6 e7 e8 hv;go_enter func187,ntmps187;go_upto_region 3 with(fail)
 clear c10;obtain⟨w0,hw0⟩:∃w0,w0=w:=⟨w,rfl⟩
 rw[<-hw0]at HS HB HH |-;have HW:=zD hw0;clear hw0;refine zB λS0=>?_
 refine zk 12 [0,1,2,3,5] [_,_,_,pt gs,_] (.q zX<|.q zX<|.q zX<|.q (zS λ_ h=>(HB.out.call h).z 8 (pt gs))<|.e) S0 ?_;refine zk 7 [6,7,8,10,11] [_,_,.pointer ph,_,_] (.q zX<|.q zX<|.q (zS λ_ h=>(HB.out.call h).z 9 (.pointer ph))<|.q zX<|.e) S0 ?_;refine zk 5 [12,13] [_,.agg #[I6 x.cM.min,I6 x.cM.max,I6 x.cM.target,I6 x.cM.lz,I6 x.cM.bp,I6 x.cM.hold,.bool x.ruled,I6 x.fK]] (.q zX<|.c rfl rfl (zl λ_ h=>by have:=(HB.out.call h).z 0 (I6 x.cM.min);have:=(HB.out.call h).z 1 (I6 x.cM.max);have:=(HB.out.call h).z 2 (I6 x.cM.target);have:=(HB.out.call h).z 3 (I6 x.cM.lz);have:=(HB.out.call h).z 4 (I6 x.cM.bp);have:=(HB.out.call h).z 5 (I6 x.cM.hold);have:=(HB.out.call h).z 6 (.bool x.ruled);have:=(HB.out.call h).z 7 (I6 x.fK);go_simp) .nil) S0 ?_;refine zQ 4 ?_;go_wp2_with(go_at_call 240;refine(Kl _ FSs x.cL c.dE _ (HS.out.call S0)).mono ?_;rintro e v4 ⟨ps2,Ya,rfl,k1,k2,k3⟩;have K2:∀k,Ya k->w0.heap.size<=k:=(λk hk=>aB4 (Below.size (S0)) (k2 k hk));(try have D:∀k,Ya k->¬Yb k:=λk h1 h2=>(oI (j1.2 k h2) (k2 k h1)));(try have j1:=dX.call j1 k3));refine .i (zT S0 k3) ?_;have S4:=zT S0 k3;refine zQ 9 ?_;go_wp2_with(go_at_call 241;refine(Kn _ FH x.past c.iI _ (HH.out.call S4)).mono ?_;rintro e v9 ⟨ph2,Yb,rfl,j1,j2,j3⟩;have J2:∀k,Yb k->w0.heap.size<=k:=(λk hk=>aB4 (Below.size (S4)) (j2 k hk));(try have D:∀k,Ya k->¬Yb k:=λk h1 h2=>(oI (k1.2 k h1) (j2 k h2)));(try have k1:=jS.call k1 j3));refine .i (zT S4 j3) ?_;have S9:=zT S4 j3;refine zq 2 [14] [_] S9 ?_;refine zQ 15 ?_;obtain⟨G,hG,bG,lG⟩:=dp (S:=S9) (tU x (.pointer ps2) (.pointer ph2) false) 251;go_wp2_with fail;refine .i (S9.alloc S9.size _) ?_
 (try simp only[hG])
 have KG:=zD hG;clear hG;have SG:=S9.alloc S9.size (.cells (tU x (.pointer ps2) (.pointer ph2) false) 251);refine zq 0 [16] [pt G] SG ?_;refine zd ?_;have NA:=aR.mk0 (bG) (k1.call (bR.alloc lR _)) Ko.out (j1.call (bR.alloc lR _)) D (λk hk=>by have:=k1.2 k hk;have h2:=KG.out;(try simp at h2);omega) (λk hk=>by have:=j1.2 k hk;have h2:=KG.out;(try simp at h2);omega)
 obtain⟨g2,gs2,ph3,he,hb2,hF2,hr2⟩:=NA.row;cases he;have h0:oC F true w0 _ (λk=>Ya k\/Yb k\/k=G):=⟨ah.aa (SG),λk hk=>.inr (by rcases hk with hk|hk|rfl;exact K2 k hk;exact J2 k hk;exact lG),λ_=>⟨(SG),λk hk=>by rcases hk with hk|hk|rfl;exact K2 k hk;exact J2 k hk;exact lG⟩⟩;have H0:=zD h0;have HR:=zD hr2;have tG:=zD hb2;have:=hb2.z 7 (I6 x.fK);have:=hb2.frozen 7;clear k1 k2 k3 j1 j2 j3 D K2 J2 hb2 hr2 h0 NA bG SG lG;go_wp2;go_ret;have e0:w0=w:=HW.out;subst e0;obtain⟨m1,m2⟩:=HR.out (bump x) false _ (tG.out.aX 7 (I6 (x.fK+1))) ((ah.refl (λk=>k=G) _).setCell (p:=⟨G,7,none⟩) (.inl rfl) _) rfl rfl;exact⟨_,_,rfl,m1,H0.out.then m2 iL⟩
def rW(p:Option Addr)(F:Nat->Prop)(c:aM)(x:Ld)(fr:Bool)(w:World)(h:aR w p F c x fr)(hv:0<=x.fK/\x.fK<=100000) :
 Calls prog 187 #[.pointer p] w (af4 p F c x fr w):=by
 cases fr
 ·exact Gp p F c x w h hv
 ·exact Dl p F c x w h hv
def an7(c:aM)(w:World)(e:Ending)(w' : World):Prop:=∃p F,e=.returned (.pointer p)/\aR w' p F c Ff false/\(∀k,F k->w.heap.size<=k)/\Bl w w'
theorem Gq(c:aM)(w:World)(hc:c.fit)(a8:c.gV):Calls prog 146 #[.agg c.row] w (an7 c w):=by
 have HR:=(λW=>fQ c W hc);rw[show im c=0 from if_pos a8]at HR;have B0:=(show Bl w (w.alloc (.cells c.row 23)) by go_grown);have BX:=ai.new w 23 c.row;have Ko:iH c.dE:=⟨a8.2.1,a8.2.2.1⟩;clear a8;go_enter func146,ntmps146;go_upto_region 3 with(first
  |refine zI BX underlying23 ?_
  |(go_at_call 53;refine zM (HR _) λw1 hb1=>?_;have E1:=zT B0 hb1;have X1:=BX.call hb1;clear hb1))
 refine zB λS0=>?_
 refine zk 5 [0,1,3,4] [_,I6 c.dE,_,I6 c.iI] (.q zX<|.q (zS λ_ h=>(X1.call h).z 1 (I6 c.dE))<|.q zX<|.q (zS λ_ h=>(X1.call h).z 3 (I6 c.iI)) .nil) S0<|zQ 2 ?_;go_wp2_with(go_at_call 178;refine(SC c.dE _).mono ?_;rintro e v4 ⟨ps2,Ya,rfl,k1,k2,k3⟩;have K2:∀k,Ya k->w1.heap.size<=k:=(λk hk=>aB4 (Below.size (S0)) (k2 k hk));(try have D:∀k,Ya k->¬Yb k:=λk h1 h2=>(oI (j1.2 k h2) (k2 k h1)));(try have j1:=dX.call j1 k3));refine .i (zT S0 k3) ?_;have S4:=zT S0 k3;refine zQ 5 ?_;go_wp2_with(go_at_call 195;refine(Ga c.iI _ hc.2.2.2).mono ?_;rintro e v9 ⟨ph2,Yb,rfl,j1,j2,j3⟩;have J2:∀k,Yb k->w1.heap.size<=k:=(λk hk=>aB4 (Below.size (S4)) (j2 k hk));(try have D:∀k,Ya k->¬Yb k:=λk h1 h2=>(oI (k1.2 k h1) (j2 k h2)));(try have k1:=jS.call k1 j3));refine .i (zT S4 j3) ?_;have S9:=zT S4 j3;refine zq 2 [6] [_] S9<|zQ 7 ?_;obtain⟨G,hG,bG,lG⟩:=dp (S:=S9) (tU Ff (.pointer ps2) (.pointer ph2) false) 251;go_wp2_with fail;refine .i (S9.alloc S9.size _) ?_
 (try simp only[hG])
 have KG:=hG;clear hG;have SG:=S9.alloc S9.size (.cells (tU Ff (.pointer ps2) (.pointer ph2) false) 251);refine zq 0 [8] [pt G] SG<|zd ?_;have NA:=aR.mk0 (c:=c) (x:=Ff) (bG) (k1.call (bR.alloc lR _)) Ko (j1.call (bR.alloc lR _)) D (λk hk=>by have:=k1.2 k hk;have h2:=KG;(try simp at h2);omega) (λk hk=>by have:=j1.2 k hk;have h2:=KG;(try simp at h2);omega)
 have NB:=NA;have ey:∀k,(Ya k\/Yb k\/k=G)->w.heap.size<=k:=λk hk=>aB4 E1.size (by rcases hk with hk|hk|rfl;exact K2 k hk;exact J2 k hk;exact lG)
 have HN:=ey;have HE:=E1.trans (Below.mono (SG) E1.size);clear k1 k2 k3 j1 j2 j3 D K2 J2 NA bG SG lG ey;go_wp2;go_ret;exact⟨_,_,rfl,NB,HN,HE⟩
end
def Kp{a b:Int}(h:a=b):Ending.returned (.tuple #[.pointer p,I6 a])=.returned (.tuple #[.pointer p,I6 b]):=by rw[h]
def Pu(p:Option Addr)(F:Nat->Prop)(c:aM)(x:Ld)(fr:Bool)(y:Ld)(w:World)(p' : Option Addr)(w' : World):Prop:=(∃F',aR w' p' F' c y false/\oC F fr w w' F'/\y.fK=x.fK+1)\/(p' = p/\y=x/\aR w' p F c x fr/\Bl w w')
def af5(p:Option Addr)(F:Nat->Prop)(c:aM)(x:Ld)(fr:Bool)(y:Ld)(n:Int)(w:World)(e:Ending)(w' : World):Prop:=∃p',e=.returned (.tuple #[.pointer p',I6 n])/\Pu p F c x fr y w p' w'
theorem Te(p:Option Addr)(F:Nat->Prop)(c:aM)(x:Ld)(fr:Bool)(t v:Int)(w:World)(h:aR w p F c x fr)(a8:c.gV)(hv:0<=x.fK/\x.fK<=100000) :
 Calls prog 137 #[.pointer p,I6 t,I6 v] w (af5 p F c x fr (Dj c x t v) (bU t v) w):=by
 have HN:=h;have RQ:=(λW=>dA t v W);have HM:=fq p F c x fr w h;have HO:=rW p F c x fr w h hv;have Ko:iH c.dE:=⟨a8.2.1,a8.2.2.1⟩;clear h
 by_cases he:bU t v=0
 ·have HY:Dj c x t v=⟨nY x.cL c.dE.toNat ⟨t,v⟩,x.past,x.cM,x.ruled,x.fK+1⟩:=if_pos he
  have HP:Pd x.cL c.dE ⟨t,v⟩=nY x.cL c.dE.toNat ⟨t,v⟩:=by unfold Pd;rw[if_pos Ko];unfold nZ;rw[if_pos he]
  rw[he]at RQ |-;clear he;go_enter func137,ntmps137;go_wp2_with(first
   |go_at_call 78;refine zN (RQ _) ?_
   |go_at_call 153;refine HM.mono ?_;rintro e w1 ⟨rfl,rfl⟩
   |go_at_call 187;refine HO.mono ?_;rintro e w2 ⟨p1,F1,rfl,h1,S1⟩;obtain⟨g,gs,ph,FSs,rfl,hb,HS,HB⟩:=h1.ser;have c8:=hb.z 8 (pt gs);clear h1 hb
   |(go_at_call 179;refine(SE _ FSs _ c.dE ⟨t,v⟩ _ HS).mono ?_;rintro e w3 ⟨F3,rfl,k1,k2,k3⟩;obtain⟨F4,M1,M2,M3⟩:=HB _ w3 F3 k1 k2 k3;clear k1 k2 k3 c8))
  go_ret2;refine⟨_,rfl,.inl ⟨F4,?_,S1.then M2 M3,by rw[HY]⟩⟩;rw[HY,<-HP];exact M1
 ·have HY:Dj c x t v=x:=if_neg he
  have:(bU t v != 0)=true:=sH he
  generalize bU t v=ER at *;clear he;go_enter func137,ntmps137;go_wp2_with(go_at_call 78;refine zN (RQ _) ?_);go_ret2;exact⟨_,rfl,.inr ⟨rfl,HY,HN,Below.refl _ _⟩⟩
def iJ(x:Ld)(t:Int):Int:=(x.cL.length:Int)-((bT x.cL t).length:Int)
def Cf{y:aD}{T:List aD}{t:Int}(hs:pP (y::T))(h:t<=y.tick):bT (y::T) t=y::T:=by
 unfold bT;rw[aS5];intro a ha;rcases aE6.1 ha with rfl|ha
 ·simpa using h
 ·have:=(aI5.1 hs).1 a ha
  simp;omega
def Kq{y:aD}{T:List aD}{t:Int}(h:¬t<=y.tick):(bT (y::T) t).length<=T.length:=by
 unfold bT;rw[aT9,if_neg (sH h)];exact aE7 _ _
theorem Pv(p:Option Addr)(F:Nat->Prop)(c:aM)(x:Ld)(fr:Bool)(t:Int)(w:World)(h:aR w p F c x fr)(hsrt:pP x.cL)(hv:0<=x.fK/\x.fK<=100000) :
 Calls prog 139 #[.pointer p,I6 t] w (af5 p F c x fr (nB x t) (iJ x t) w):=by
 have HN:=h;have HM:=fq p F c x fr w h;have HO:=(λW hW=>rW p F c x fr W hW hv);obtain⟨g,gs,ph,rfl,hb,⟨FSs,hs⟩,-⟩:=h.blk;have HL:=Cb _ FSs x.cL c.dE w hs;have:=hb.z 8 (pt gs);have fJ:=hs.len;clear h hb hs;rcases Tf:x.cL with _|⟨y,T⟩
 ·have HY:nB x t=x:=if_pos (by rw[Tf];rfl)
  have HG:iJ x t=0:=by unfold iJ;rw[Tf];rfl
  rw[Tf]at HL;clear Tf fJ;go_enter func139,ntmps139;go_wp2_with(first
   |go_at_call 153;refine HM.mono ?_;rintro e w1 ⟨rfl,rfl⟩
   |(go_at_call 127;refine HL.mono ?_;rintro e w2 ⟨A2,n2,c2,rfl,mv,hb2⟩;obtain rfl:n2=0:=(mv.is aA).1.symm;have B2:=hb2;clear mv hb2))
  go_ret2;exact⟨_,Kp HG.symm,.inr ⟨rfl,HY,HN.call B2,B2⟩⟩
 ·rw[Tf]at HL fJ hsrt
  have:T.length<=255:=sH fJ
  by_cases ht:t<=y.tick
  ·have HY:nB x t=x:=if_pos (by rw[Tf,Cf hsrt ht])
   have HG:iJ x t=0:=by unfold iJ;rw[Tf,Cf hsrt ht];omega
   have:decide (t<=y.tick)=true:=sH ht
   clear Tf fJ ht hsrt;go_enter func139,ntmps139;go_wp2_with(first
    |go_at_call 153;refine HM.mono ?_;rintro e w1 ⟨rfl,rfl⟩
    |(go_at_call 127;refine HL.mono ?_;rintro e w2 ⟨A2,n2,c2,rfl,mv,hb2⟩;have fo:n2=T.length+1:=(mv.is aA).1.symm;have Tg:0<n2:=oM;obtain⟨b,off,s,rfl,hx0,fH,t0,t1⟩:=cH.at_ (mv.is aA) Tg;obtain rfl:y=s:=Option.some.inj hx0;have:((n2:Int)==0)=false:=sM;simp only[Nat.zero_mul,aH9]at t0;have B2:=hb2;clear mv hb2 t1 hx0 fo))
   go_ret2;exact⟨_,Kp HG.symm,.inr ⟨rfl,HY,HN.call B2,B2⟩⟩
  ·have HY:nB x t=⟨bT x.cL t,x.past,x.cM,x.ruled,x.fK+1⟩:=if_neg (by rw[Tf];have:=Kq (T:=T) ht;simp;omega)
   have HG:iJ x t=(aH x.cL t:Int):=by unfold iJ;have:=OQ (Tf▸hsrt) t (l:=x.cL);omega
   have:decide (t<=y.tick)=false:=sH ht
   clear Tf fJ ht hsrt;generalize iJ x t=GN at *;go_enter func139,ntmps139;go_wp2_with(first
    |go_at_call 153;refine HM.mono ?_;rintro e w1 ⟨rfl,rfl⟩
    |go_at_call 127;refine HL.mono ?_;rintro e w2 ⟨A2,n2,c2,rfl,mv,hb2⟩;have fo:n2=T.length+1:=(mv.is aA).1.symm;have Tg:0<n2:=oM;obtain⟨b,off,s,rfl,hx0,fH,t0,t1⟩:=cH.at_ (mv.is aA) Tg;obtain rfl:y=s:=Option.some.inj hx0;have:((n2:Int)==0)=false:=sM;simp only[Nat.zero_mul,aH9]at t0;have B2:=hb2;have N2:=HN.call hb2;clear mv hb2 t1 hx0 fo
    |go_at_call 187;refine(HO _ N2).mono ?_;rintro e w3 ⟨p1,F1,rfl,h1,S1⟩;obtain⟨g1,gs1,ph1,FS1,rfl,hb1,HS,HB⟩:=h1.ser;have c18:=hb1.z 8 (pt gs1);clear h1 hb1 t0
    |(go_at_call 188;refine(Ps _ FS1 _ c.dE t _ HS).mono ?_;rintro e w4 ⟨F3,rfl,k1,k2,k3⟩;obtain⟨F4,M1,M2,M3⟩:=HB _ w4 F3 k1 k2 k3;clear k1 k2 k3 c18))
   go_ret2;refine⟨_,Kp HG.symm,.inl ⟨F4,?_,(S1.then M2 M3).pre B2,by rw[HY]⟩⟩;rw[HY];exact M1
theorem Pw(p:Option Addr)(F:Nat->Prop)(c:aM)(x:Ld)(fr:Bool)(a:aU)(w:World)(h:aR w p F c x fr)(a8:c.gV)(hv:0<=x.fK/\x.fK<=100000) :
 Calls prog 391 #[.pointer p,.agg (cI a)] w (λe w'=>∃p',e=.returned (.pointer p')/\Pu p F c x fr (xS c x a) w p' w'):=by
 have B0:=(show Bl w (w.alloc (.cells (cI a) 49)) by go_grown);have HM:=fq p F c x fr _ (h.call B0);have HO:=rW p F c x fr _ (h.call B0) hv;have XM:=h.lt;have HH:Dd x.past c.iI a=eV x.past c.iI.toNat a:=by unfold Dd;rw[if_pos ⟨a8.2.2.2.2.2.1,a8.2.2.2.2.2.2⟩]
 clear h;go_enter func391,ntmps391;go_upto_region 4 with(first
  |go_at_call 153;refine HM.mono ?_;rintro e w1 ⟨rfl,rfl⟩
  |(go_at_call 187;refine HO.mono ?_;rintro e w2 ⟨p1,F1,rfl,h1,S1⟩;have X2:ai w2 w.heap.size 49 (cI a):=(ai.new w 49 (cI a)).upd S1.1 (λhf=>oH (XM _ hf));obtain⟨g,gs,ph,FH,rfl,HB,HS,-,-,HA⟩:=h1.iI;clear h1))
 refine zr (λj=>[5].contains j) (λwS=>Bl w2 wS) ?_;have S0:=(Below.refl w2.heap.size w2).drew;refine zk 5 [4] [_] (.c rfl rfl (zl λ_ h=>zb (X2.call h) underlying49) .nil) S0<|zQ 0 ?_;go_wp2_with fail;refine .i S0<|zQ 1 ?_;go_wp2_with fail;refine .i S0<|zQ 2 ?_;go_wp2_with fail;refine .i S0<|zk 1 [3] [.pointer ph] (.q (zS λ_ h=>(HB.call h).z 9 (.pointer ph)) .nil) S0<|aq _ _ _ _ kZ<|zO 5 (λQ2 aI=>?_);go_wp2_with(go_at_call 399;refine(Gd ph FH _ c.iI a _ (HS.call S0)).mono ?_;rintro e w3 ⟨F3,rfl,k1,k2,k3⟩;obtain⟨F4,M1,M2,M3⟩:=HA _ w3 F3 k1 ((ah.aa (S0)).trans k2 iL) (λk hk=>(k3 k hk).imp id (λh=>aB4 (Below.size (S0)) h));clear k1 k2 k3);(try refine aI _ _ ?_);(try clear aI Q2)
 refine wpAny_done kZ ?_ _;have HH2:Dd (bump x).past c.iI a=eV x.past c.iI.toNat a:=HH;rw[HH2]at M1;clear HH2;go_wp2;go_ret;exact⟨_,rfl,.inl ⟨F4,M1,(S1.then M2 M3).pre B0,rfl⟩⟩
def cu{P:Program}{ops:Array Oper}{rest:List Oper}{op:Oper}{a:Act}{Q:Exit->Act->World->Prop}(hgd:op.guard=none)(ty:TypeId)(x y:Operand)(ho:op.op=.store ty x y)(g o:Nat)(t:TypeId)(cs new:Array Value)(hx:a.eval x=.pointer (some ⟨g,o,none⟩))(hy:a.eval y=.agg new)(hb:ai w g t cs)(hs:o+new.size<=cs.size)(hi:(P.info? ty).map (·.size)=some new.size)(h1:new.all (·.oneCell')=true)(h:∀w',ai w' g t (vI cs o new.toList)->w.grownBy w' (some g)->wpList P ops Q rest (a.put op.dst undef) w'):wpList P ops Q (op::rest) a w:=
 have hs2:o+new.toList.length<=cs.size:=sH hs
 wpList_store_mid hgd ty x y ho g o new hx hy (λj hj=>⟨by rw[hb.cell,aC6 oM];rfl,hb.frozen _⟩) hi h1 (h _ (hb.setCells hs2).1 (hb.setCells hs2).2)
theorem Gr(p:Option Addr)(F:Nat->Prop)(c:aM)(x:Ld)(fr:Bool)(q:dI)(w:World)(h:aR w p F c x fr)(hv:0<=x.fK/\x.fK<=100000) :
 Calls prog 147 #[.pointer p,(.agg #[I6 q.min,I6 q.max,I6 q.target,I6 q.lz,I6 q.bp,I6 q.hold])] w (af5 p F c x fr (Av x q) (dy q) w):=by
 have B0:=zD (show Bl w (w.alloc (.cells q.row 43)) by go_grown);have HC:=zD (λW=>aY q W);have BX:=zD (ai.new w 43 q.row);have XM:=zD h.lt;have HN:=zD h;have HM:=zD (λW hW=>fq p F c x fr W hW);have HO:=zD (λW hW=>rW p F c x fr W hW hv);clear h
 by_cases hk:q.xJ
 ·have HY:=zD (show Av x q=⟨x.cL,x.past,q,true,x.fK+1⟩from if_pos hk)
  rw[gj hk]at HC |-;clear hk;go_enter func147,ntmps147;go_wp2_with(first
   |refine zI BX.out underlying43 ?_
   |go_at_call 79;refine zM (HC.out _) λw1 hb1=>?_;have E1:=zD (zT B0.out hb1);have X1:=zD (BX.out.call hb1);have N1:=zD (HN.out.call (zT B0.out hb1));clear hb1
   |go_at_call 153;refine zN (HM.out _ N1.out) ?_
   |go_at_call 187;refine(HO.out _ N1.out).mono ?_;rintro e w2 ⟨p1,F1,rfl,h1,s1⟩;have X2:=zD (show ai w2 w.heap.size 43 q.row from X1.out.upd s1.1 (λhf=>oH (XM.out _ hf)));obtain⟨g,gs,ph,rfl,hb,hF,hrow⟩:=h1.row;have HA:=zD hrow;have S1:=zD s1;have HB:=zD hb;clear h1 hb hrow s1 hF
   |refine zI X2.out underlying43 ?_
   |(refine cu rfl 43 (.tmp 25) (.tmp 22) rfl g 0 _ _ q.row rfl rfl HB.out sI kZ (by simp[Value.oneCell']) ?_;intro w9 b8 dM;have:=b8.z 6 (.bool x.ruled);have:=b8.frozen 6;have XI:=zD b8;have JM:=zD dM;clear b8 dM))
  go_ret2;obtain⟨k1,k2⟩:=HA.out ⟨x.cL,x.past,q,true,x.fK+1⟩ false _ (XI.out.aX 6 (.bool true)) (((ah.refl (λk=>k=g) _).grown JM.out (λk e=>.inl (by injection e with e;exact e.symm))).setCell (p:=⟨g,6,none⟩) (.inl rfl) _) rfl rfl;refine⟨_,rfl,.inl ⟨F1,?_,(S1.out.then k2 iL).pre E1.out,by rw[HY.out]⟩⟩;rw[HY.out];exact k1
 ·have HY:=zD (show Av x q=x from if_neg hk)
  rw[jI hk]at HC |-;clear hk;go_enter func147,ntmps147;go_wp2_with(first
   |refine zI BX.out underlying43 ?_
   |(go_at_call 79;refine zM (HC.out _) λw1 hb1=>?_;have E1:=zD (zT B0.out hb1);clear hb1))
  go_ret2;exact⟨_,rfl,.inr ⟨rfl,HY.out,HN.out.call E1.out,E1.out⟩⟩
section
inductive Tag where
 |nS
 |nd (i:Nat) (k:Key)
 |st (i:Nat)
 |at_ (n:Nat)
 |ln (n:Nat)
deriving DecidableEq
abbrev bh:=Nat->Option Tag
structure ae(T:Tag->Prop)(w w' : World)(c c' : bh):Prop where
 upd:ah (λk=>∃t,c k=some t/\T t) w w'
 old:∀k,k<w.heap.size->(∀t,c k=some t->¬T t)->c' k=c k
 new:∀k t,(w.heap.size<=k\/∃t,c k=some t/\T t)->c' k=some t->T t\/t=.nS
 fresh:∀k,w'.heap.size<=k->c' k=none
section
variable{T T2:Tag->Prop}{w w1 w2 w' : World}{c c1 c2 c' : bh}
def ae.refl(T:Tag->Prop)(w:World)(c:bh)(hc:∀k,w.heap.size<=k->c k=none):ae T w w c c:=
 ⟨ah.refl _ _,λ_ _ _=>rfl,λk t h e=>by
  rcases h with h|⟨t',h1,h2⟩
  ·rw[hc k h]at e;cases e
  ·rw[h1]at e;injection e with e;subst e;exact .inl h2,hc⟩
def ae.aa(T:Tag->Prop)(c:bh)(hc:∀k,w.heap.size<=k->c k=none)(hb:Bl w w'):ae T w w' c c:=
 ⟨ah.aa hb,λ_ _ _=>rfl,(ae.refl T w c hc).new,λk hk=>hc k (aB4 hb.size hk)⟩
def ae.trans(h1:ae T w w1 c c1)(h2:ae T w1 w2 c1 c2)(hf:¬T .nS):ae T w w2 c c2:=by
 have key:∀k,k<w.heap.size->(∀t,c k=some t->¬T t)->∀t,c1 k=some t->¬T t:=λk hk hn t e=>by
  rw[h1.old k hk hn]at e;exact hn t e
 refine⟨h1.upd.trans h2.upd ?_,λk hk hn=>?_,λk t hk e=>?_,h2.fresh⟩
 ·rintro k ⟨t,e,ht⟩
  by_cases hk:k<w.heap.size
  ·by_cases hn:∃t,c k=some t/\T t
   ·exact .inl hn
   ·exact absurd ht (key k hk (λt e ht=>hn ⟨t,e,ht⟩) t e)
  ·exact .inr oM
 ·exact(h2.old k (aB9 hk h1.upd.size) (key k hk hn)).trans (h1.old k hk hn)
 ·by_cases hs:w1.heap.size<=k
  ·exact h2.new k t (.inl hs) e
  ·by_cases hn:∃t,c1 k=some t/\T t
   ·exact h2.new k t (.inr hn) e
   ·rw[h2.old k oM (λt e ht=>hn ⟨t,e,ht⟩)]at e
    exact h1.new k t hk e
def ae.mono(h:ae T w w' c c')(hT:∀t,T t->T2 t):ae T2 w w' c c':=by
 refine⟨h.upd.mono λk ⟨t,e,ht⟩=>⟨t,e,hT t ht⟩,λk hk hn=>h.old k hk λt e ht=>hn t e (hT t ht),λk t hk e=>?_,h.fresh⟩
 by_cases hn:w.heap.size<=k\/∃t,c k=some t/\T t
 ·exact(h.new k t hn e).imp (hT t) id
 ·have hk2:k<w.heap.size:=by
   rcases aE2 k w.heap.size with h2|h2
   ·exact h2
   ·exact absurd (.inl h2) hn
  rw[h.old k hk2 (λt e ht=>hn (.inr ⟨t,e,ht⟩))]at e;rcases hk with hk|⟨t',e',Fx⟩
  ·omega
  ·rw[e']at e;injection e with e;subst e;exact .inl Fx
def ae.keep(h:ae T w w' c c'){t:Tag}(hk:k<w.heap.size)(e:c k=some t)(ht:¬T t):c' k=some t:=
 (h.old k hk (λt' e' Fx=>ht (by rw[e]at e';injection e' with e';rw[e'];exact Fx))).trans e
def ae.lX{S:Nat->Prop}{t:Tag}(e:c k=some t)(ht:¬T t): ¬∃t',c k=some t'/\T t':=by
 rintro⟨t',e',Fx⟩;rw[e]at e';injection e' with e';subst e';exact ht Fx
def ae.blk(h:ae T w w' c c'){g:Nat}{ty:TypeId}{cs:Array Value}{t:Tag}(hb:ai w g ty cs)(e:c g=some t)(ht:¬T t):ai w' g ty cs:=hb.upd h.upd (ae.lX (S:=λ_=>True) e ht)
def ae.node(h:ae T w w' c c'){cf:aM}{x:Ld}{fr:Bool}{t:Tag}(hn:aR w p F cf x fr)(e:∀k,F k->c k=some t)(ht:¬T t):aR w' p F cf x fr/\∀k,F k->c' k=some t:=
 ⟨hn.upd h.upd λk hk=>ae.lX (S:=λ_=>True) (e k hk) ht,λk hk=>h.keep (hn.lt k hk) (e k hk) ht⟩
def ae.aw0{α:Type}{P:Program}{kt:TypeId}{E:mK P kt α}(h:ae T w w' c c'){b:Nat}{f:α->Option Value}{ks:List α}{t:Tag}(hm:bP E w b f ks)(e:c b=some t)(ht:¬T t):bP E w' b f ks:=
 hm.block (h.upd.block b hm.lt (ae.lX (S:=λ_=>True) e ht))
noncomputable def ft (N:Nat->Prop) (t:Tag) (c:bh):bh:=λk=>open Classical in if N k then some t else c k
def bw{N:Nat->Prop}{t:Tag}(h:N k):ft N t c k=some t:=by unfold ft;rw[if_pos h]
def aC{N:Nat->Prop}{t:Tag}(h:¬N k):ft N t c k=c k:=by unfold ft;rw[if_neg h]
def ae.one{t:Tag}(hu:ah S w w')(hS:∀k,S k->c k=some t)(hT:T t)(N:Nat->Prop)(hN:∀k,N k->c k=some t\/w.heap.size<=k)(Th:∀k,N k->k<w'.heap.size)(hc:∀k,w.heap.size<=k->c k=none):ae T w w' c (ft N t c):=by
 refine⟨hu.mono λk hk=>⟨t,hS k hk,hT⟩,λk hk hn=>?_,λk t' hk e=>?_,λk hk=>?_⟩
 ·by_cases h:N k
  ·rw[bw h]
   rcases hN k h with e|e
   ·exact e.symm
   ·omega
  ·exact aC h
 ·by_cases h:N k
  ·rw[bw h]at e;injection e with e;subst e;exact .inl hT
  ·rw[aC h]at e
   rcases hk with hk|⟨t2,e2,oD⟩
   ·rw[hc k hk]at e;cases e
   ·rw[e2]at e;injection e with e;subst e;exact .inl oD
 ·by_cases h:N k
  ·exact absurd (Th k h) oM
  ·rw[aC h];exact hc k (aB4 hu.size hk)
end
end
def TR(r x y:Nat)(hx:x<18446744073709551616)(hy:y=(2*r+x / 9223372036854775808) % 18446744073709551616):bits .or .u64 (IntKind.u64.wrap ((r:Int)*2)) ((x:Int) / 9223372036854775808)=(y:Int):=by
 have e:IntKind.u64.wrap ((r:Int)*2)=((2*r % 18446744073709551616:Nat):Int):=by rw[IntKind.wrap_u64];omega
 have e2:(x:Int) / 9223372036854775808=((x / 9223372036854775808:Nat):Int):=oM
 rw[e,e2,u64_or_nat _ _ oM oM,nat_join1 _ _ oM oM];omega
def TS(q m:Nat)(hq:q<18446744073709551616)(hm:m<64):bits .or .u64 (q:Int) (IntKind.u64.wrap (2 ^ m))=((q ||| 2 ^ m:Nat):Int):=by
 have hl:2 ^ m<18446744073709551616:=aB9 (aU6 (n:=64) dC hm) dC;have e:IntKind.u64.wrap (2 ^ m)=((2 ^ m:Nat):Int):=by
  rw[show(2:Int) ^ m=((2 ^ m:Nat):Int) by simp,IntKind.wrap_u64];generalize 2 ^ m=p at *;omega
 rw[e,u64_or_nat _ _ hq hl]
theorem TU(h l d:Nat)(w:World)(hh:h<2 ^ 64)(hl:l<2 ^ 64)(hd:d<2 ^ 64)(Yw:1<=d) :
 Calls prog 277 #[.agg #[V6 h,V6 l],V6 d] w λe w'=>
  e=.returned (.tuple #[.agg #[V6 ((jg (two h l / d):Nat):Int),V6 ((kF (two h l / d):Nat):Int)],V6 ((two h l % d:Nat):Int),.bool true])/\Bl w w':=by
 have dd:((d:Int)==0)=false:=by simp;omega
 have HH:=hh;have HL:=hl;have HD:=hd;clear hh hl hd;go_enter func277,ntmps277;go_wp2;go_loopw[8,14] (λr i wr=>∃k Q R xh xl qh ql:Nat,k<=128/\i = I6 k/\r = V6 R/\jh (two h l) d k Q R (two xh xl)/\two qh ql=Q*2 ^ (128-k)/\xh<18446744073709551616/\xl<18446744073709551616/\qh<18446744073709551616/\ql<18446744073709551616/\
  ai wr w.heap.size 388 #[V6 xh,V6 xl]/\ai wr (w.heap.size+1) 388 #[V6 0,V6 0]/\ai wr (w.heap.size+1+1) 388 #[V6 qh,V6 ql]/\Bl w wr) (λ_ i _=>128-(intOf i).toNat)
 case atStart=>
  refine⟨0,0,0,h,l,0,0,by omega,rfl,rfl,jh.start (by unfold two;have:=HH;have:=HL;omega) oM,by simp[two],HH,HL,by omega,by omega,?_,?_,?_,by go_grown⟩
  ·exact((ai.new w _ _).alloc _).alloc _
  ·exact(ai.an2 w _ _ _).alloc _
  ·exact ai.an3 w _ _ _ _
 case round=>
  obtain⟨k,Q,R,xh,xl,qh,ql,hk,rfl,rfl,hdiv,hq,bxh,bxl,bqh,bql,h0,h1,h2,aT⟩:=hrel;have HV:=hdiv;have HQ:=hq;have H0:=h0;have H1:=h1;have H2:=h2;have sj:=aT;clear hdiv hq h0 h1 h2 aT
  by_cases hlt:k<128
  ·obtain⟨R2,sk⟩:∃R2:Nat,R2=(2*R+xh / 9223372036854775808) % 18446744073709551616:=⟨_,rfl⟩
   obtain⟨Hn,KP⟩:∃Hn:Nat,Hn=(2*xh+xl / 9223372036854775808) % 18446744073709551616:=⟨_,rfl⟩
   obtain⟨JR,PR⟩:∃JR:Nat,JR=2*xl % 18446744073709551616:=⟨_,rfl⟩
   have hRd:R<d:=HV.rest;have hdd:=HD;have e1:bits .or .u64 (IntKind.u64.wrap ((R:Int)*2)) ((xh:Int) / 9223372036854775808)=(R2:Int):=TR R xh R2 oM sk;have e2:bits .or .u64 (IntKind.u64.wrap ((xh:Int)*2)) ((xl:Int) / 9223372036854775808)=(Hn:Int):=TR xh xl Hn oM KP;have e3:IntKind.u64.wrap ((xl:Int)*2)=(JR:Int):=by rw[IntKind.wrap_u64];omega
   have e4:∀(h:R<9223372036854775808),bits .or .u64 ((R:Int)*2) ((xh:Int) / 9223372036854775808)=(R2:Int):=λh=>by
    rw[<-e1,IntKind.wrap_u64];congr 1;omega
   have hx2:two Hn JR=2*two xh xl % 2 ^ 128:=by rw[KP,PR];unfold two;omega
   have Dz:xh / 9223372036854775808=two xh xl / 2 ^ 127:=by unfold two;omega
   have Hf:Hn<18446744073709551616:=oM
   have TV:JR<18446744073709551616:=oM
   have r0:=H0.z 0 (V6 xh);have r1:=H0.z 1 (V6 xl);have f0:=H0.frozen 0;have f1:=H0.frozen 1;have r2:=H2.z 0 (V6 qh);have r3:=H2.z 1 (V6 ql);have f2:=H2.frozen 0;have f3:=H2.frozen 1
   by_cases hc:2*R+xh / 9223372036854775808<d
   ·have HS:=(show jh (two h l) d (k+1) (2*Q) R2 (two Hn JR) by
     have:=HV.step0 (by rw[<-Dz];exact hc);rw[<-Dz,<-hx2]at this;rw[show R2=2*R+xh / 9223372036854775808 by omega];exact this)
    have Xe:R<9223372036854775808:=oM
    have d1:((R:Int) / 9223372036854775808==0)=true:=by simp;omega
    have d2:(R:Int) / 9223372036854775808=0:=oM
    have d3:R2<d:=oM
    have e5:=e4 Xe;clear e4 Dz sk KP PR hx2 hc;go_wp2;go_roundw
    case rel=>
     refine⟨k+1,2*Q,R2,Hn,JR,qh,ql,by omega,by go_num,rfl,HS,by rw[Ta hlt];exact HQ,Hf,TV,bqh,bql,?_,(H1.far sN _).far sN _,(H2.far sN _).far sN _,(sj.setCell sN _).setCell sN _⟩;exact(H0.aX 0 _).aX 1 _
    case measure=>simp[intOf];omega
   ·obtain⟨R3,hR3⟩:∃R3:Nat,R3=2*R+xh / 9223372036854775808-d:=⟨_,rfl⟩
    have HS:=(show jh (two h l) d (k+1) (2*Q+1) R3 (two Hn JR) by
     have:=HV.an1 (by rw[<-Dz];omega);rw[<-Dz,<-hx2,<-hR3]at this;exact this)
    have e6:IntKind.u64.wrap ((R2:Int)-(d:Int))=(R3:Int):=by rw[IntKind.wrap_u64];omega
    have hsm:=HV.small (by unfold two;have:=HH;have:=HL;omega) hk;have aA4:R2<18446744073709551616:=oM
    by_cases aw6:k<64
    ·obtain⟨q1,q2,q3,q4⟩:=Tb aw6 hsm (by have:=bql;omega) HQ
     have aw7:bits .or .u64 (qh:Int) (IntKind.u64.wrap (2 ^ (63-k)))=((qh ||| 2 ^ (63-k):Nat):Int):=TS qh (63-k) bqh oM;generalize(qh ||| 2 ^ (63-k))=qn at *;have Q1:=q1;clear q1 q2
     by_cases Xe:R<9223372036854775808
     ·have d1:((R:Int) / 9223372036854775808==0)=true:=by simp;omega
      have d2:(R:Int) / 9223372036854775808=0:=oM
      have d3:decide (R2<d)=false:=by simp;omega
      have e5:=e4 Xe;clear e4 Dz sk KP PR hx2 hc hR3;go_wp2;go_region;go_wp2;go_roundw
      case rel=>
       refine⟨k+1,2*Q+1,R3,Hn,JR,qn,ql,by omega,by go_num,rfl,HS,Q1,Hf,TV,q4,bql,?_,?_,?_,?_⟩
       ·exact((((H0.aX 0 _).aX 1 _).far sN _).drew)
       ·exact((((H1.far sN _).far sN _).far sN _).drew)
       ·have:=(((H2.far (p:=⟨w.heap.size,0,none⟩) sN (V6 Hn)).far (p:=⟨w.heap.size,1,none⟩) sN (V6 JR)).aX 0 (V6 qn)).drew
        exact this
       ·exact((((sj.setCell sN _).setCell sN _).setCell sN _).drew)
      case measure=>simp[intOf];omega
     ·have d1:((R:Int) / 9223372036854775808==0)=false:=by simp;omega
      have d2:¬(R:Int) / 9223372036854775808=0:=oM
      clear e4 Dz sk KP PR hx2 hc hR3;go_wp2;go_region;go_wp2;go_roundw
      case rel=>
       refine⟨k+1,2*Q+1,R3,Hn,JR,qn,ql,by omega,by go_num,rfl,HS,Q1,Hf,TV,q4,bql,?_,?_,?_,?_⟩
       ·exact((((H0.aX 0 _).aX 1 _).far sN _).drew)
       ·exact((((H1.far sN _).far sN _).far sN _).drew)
       ·have:=(((H2.far (p:=⟨w.heap.size,0,none⟩) sN (V6 Hn)).far (p:=⟨w.heap.size,1,none⟩) sN (V6 JR)).aX 0 (V6 qn)).drew
        exact this
       ·exact((((sj.setCell sN _).setCell sN _).setCell sN _).drew)
      case measure=>simp[intOf];omega
    ·obtain⟨q1,q3,q4⟩:=XW hlt oM hsm (by have:=bql;omega) HQ
     have aw7:bits .or .u64 (ql:Int) (IntKind.u64.wrap (2 ^ (127-k)))=((ql ||| 2 ^ (127-k):Nat):Int):=TS ql (127-k) bql oM;generalize(ql ||| 2 ^ (127-k))=qn at *;have Q1:=q1;clear q1
     by_cases Xe:R<9223372036854775808
     ·have d1:((R:Int) / 9223372036854775808==0)=true:=by simp;omega
      have d2:(R:Int) / 9223372036854775808=0:=oM
      have d3:decide (R2<d)=false:=by simp;omega
      have e5:=e4 Xe;clear e4 Dz sk KP PR hx2 hc hR3;go_wp2;go_region;go_wp2;go_roundw
      case rel=>
       refine⟨k+1,2*Q+1,R3,Hn,JR,qh,qn,by omega,by go_num,rfl,HS,Q1,Hf,TV,bqh,q4,?_,?_,?_,?_⟩
       ·exact((((H0.aX 0 _).aX 1 _).far sN _).drew)
       ·exact((((H1.far sN _).far sN _).far sN _).drew)
       ·have:=(((H2.far (p:=⟨w.heap.size,0,none⟩) sN (V6 Hn)).far (p:=⟨w.heap.size,1,none⟩) sN (V6 JR)).aX 1 (V6 qn)).drew
        exact this
       ·exact((((sj.setCell sN _).setCell sN _).setCell sN _).drew)
      case measure=>simp[intOf];omega
     ·have d1:((R:Int) / 9223372036854775808==0)=false:=by simp;omega
      have d2:¬(R:Int) / 9223372036854775808=0:=oM
      clear e4 Dz sk KP PR hx2 hc hR3;go_wp2;go_region;go_wp2;go_roundw
      case rel=>
       refine⟨k+1,2*Q+1,R3,Hn,JR,qh,qn,by omega,by go_num,rfl,HS,Q1,Hf,TV,bqh,q4,?_,?_,?_,?_⟩
       ·exact((((H0.aX 0 _).aX 1 _).far sN _).drew)
       ·exact((((H1.far sN _).far sN _).far sN _).drew)
       ·have:=(((H2.far (p:=⟨w.heap.size,0,none⟩) sN (V6 Hn)).far (p:=⟨w.heap.size,1,none⟩) sN (V6 JR)).aX 1 (V6 qn)).drew
        exact this
       ·exact((((sj.setCell sN _).setCell sN _).setCell sN _).drew)
      case measure=>simp[intOf];omega
  ·obtain rfl:k=128:=oM
   obtain⟨e1,e2⟩:=HV.done;have hq:=HQ;rw[aW9,Nat.pow_zero,aW6,e1]at hq;obtain⟨g1,g2⟩:=xP (N:=two h l / d) (h:=qh) (l:=ql) hq.symm oM;have G1:=g1;have G2:=g2;have E2:=e2;clear e1 e2 g1 g2 hq;have:=H2.z 0 (V6 qh);have:=H2.z 1 (V6 ql);have:=H1.z 0 (V6 0);have:=H1.z 1 (V6 0);have:=H1.frozen 0;have:=H1.frozen 1;go_wp2;refine bodyPost_ret (tD rfl _ _ (w.heap.size+1) _ _ _ rfl ((H1.aX 0 _).aX 1 _) underlying388 rfl kZ) rfl ⟨?_,(sj.setCell sN _).setCell sN _⟩;rw[G1,G2,<-E2]
   rfl
theorem KQ(A:Option Addr)(len cap:Nat)(l:List Int)(w:World)(hs:gB w A len cap l)(hg:∀x∈l,aw x)(hn:len<=1000000) :
 Calls prog 278 #[.slice A len cap] w (Rt (.agg #[V6 ((jg (gZ l):Nat):Int),V6 ((kF (gZ l):Nat):Int)]) (Bl w)):=by
 have HS:=hs;have HG:=hg;have HL:=hs.1;clear hs hg;go_enter func278,ntmps278;go_wp2;go_loopw[8] (λi wr=>∃k O:Nat,k<=len/\i = I6 k/\O=gZ (l.take k)/\ai wr w.heap.size 388 #[V6 0,V6 0]/\ai wr (w.heap.size+1) 388 #[V6 ((jg O:Nat):Int),V6 ((kF O:Nat):Int)]/\Bl w wr) (λi _=>len-(intOf i).toNat)
 case atStart=>
  refine⟨0,0,by omega,rfl,rfl,?_,?_,by go_grown⟩
  ·exact(ai.new w _ _).alloc _
  ·exact ai.an2 w _ _ _
 case round=>
  obtain⟨k,O,hk,rfl,hO,h0,h1,aT⟩:=hrel;have H0:=h0;have H1:=h1;have sj:=aT
  by_cases hlt:k<len
  ·obtain⟨b,off,x,rfl,hx,hb,hc⟩:=HS.at_ hlt
   have kc:=(aT.cell (p:=⟨b,off+k,none⟩) hb).trans hc;have hxI:=HG x (aC1 hx);unfold aw at hxI;have hsn:=Pr (l.take k) x;rw[<-dP hx,<-hO]at hsn;have hle:=Di (l.take k) (Tc HG k);have hlk:(l.take k).length<=1000000:=by rw[aC3];omega
   have hle2:gZ (l.take k)<=1000000*9223372036854775807:=aB4 hle (aE9 _ hlk);rw[<-hO]at hle2;clear hle hlk;have Fb:(k:Int)<(len:Int):=oM
   by_cases zP:0<x
   ·obtain⟨X,rfl⟩:∃X:Nat,x=(X:Int):=⟨x.toNat,by omega⟩
    rw[aU4]at hsn;have HN:=zD (show jU (O+X)=gZ (l.take (k+1)) by rw[hsn];unfold jU;rw[if_pos oM]);have HM:=(show O<2 ^ 128/\X<2 ^ 128/\X<2 ^ 64 by omega);have hX0:(0:Int)=((jg X:Nat):Int):=by
     have:jg X=0:=by unfold jg;omega
     rw[this];rfl
    have hX1:(X:Int)=((kF X:Nat):Int):=by
     have:kF X=X:=by unfold kF;omega
     rw[this]
    have HC:=(λW=>(px O X W HM.1 HM.2.1));rw[<-hX0,<-hX1]at HC;have:=H1.z 0 (V6 ((jg O:Nat):Int));have:=H1.z 1 (V6 ((kF O:Nat):Int));have:=H1.frozen 0;have:=H1.frozen 1;clear hsn hle2 hO hx hc hb h0 h1 hX0 hX1;go_wp2_with(first|(go_at_call 279;refine zM (HC _) λv2 hb2=>?_;have:=(H1.call hb2).z 0 (V6 ((jg O:Nat):Int));have:=(H1.call hb2).z 1 (V6 ((kF O:Nat):Int));have:=(H1.call hb2).frozen 0;have:=(H1.call hb2).frozen 1));go_roundw
    case rel=>
     refine⟨k+1,jU (O+X),by omega,by go_num,HN.out,((H0.call hb2).far sI _).far sI _,((H1.call hb2).aX 0 _).aX 1 _,((zT sj hb2).setCell sI _).setCell sI _⟩
    case measure=>simp[intOf];omega
   ·have:decide (0<x)=false:=by simpa using zP
    have HN:=zD (show O=gZ (l.take (k+1)) by rw[hsn,show x.toNat=0 by omega,aH9]);clear hsn hle2 hO hx hc hb h0 h1;go_wp2;go_roundw
    case rel=>exact⟨k+1,O,by omega,by go_num,HN.out,H0,H1,sj⟩
    case measure=>simp[intOf];omega
  ·obtain rfl:k=len:=oM
   obtain rfl:O=gZ l:=by rw[hO,aB5 (by have:=HL;omega)]
   clear hO h0 h1;have:=H1.z 0 (V6 ((jg (gZ l):Nat):Int));have:=H1.z 1 (V6 ((kF (gZ l):Nat):Int));have:=H0.z 0 (V6 0);have:=H0.z 1 (V6 0);have:=H0.frozen 0;have:=H0.frozen 1;go_wp2;refine zU ((H0.aX 0 _).aX 1 _) underlying388 ⟨rfl,(sj.setCell sN _).setCell sN _⟩
def Cp(N d:Nat)(w:World)(hN:N<2 ^ 128)(hd:d<2 ^ 64)(Yw:1<=d) :
 Calls prog 277 #[.agg #[V6 ((jg N:Nat):Int),V6 ((kF N:Nat):Int)],V6 d] w λe w'=>
  e=.returned (.tuple #[.agg #[V6 ((jg (N / d):Nat):Int),V6 ((kF (N / d):Nat):Int)],V6 ((N % d:Nat):Int),.bool true])/\Bl w w':=by
 have:=TU (jg N) (kF N) d w (Df hN) (tO N) hd Yw;rw[tQ]at this;exact this
def vp(N:Nat)(w:World)(hN:N<2 ^ 128) :
 Calls prog 280 #[.agg #[V6 ((jg N:Nat):Int),V6 ((kF N:Nat):Int)]] w (Rt (I6 ((ow N:Nat):Int)) (Bl w)):=by
 have:=Kh (jg N) (kF N) w (Df hN) (tO N);rw[tQ]at this;exact this
def Cq(N:Nat)(w:World)(hN:N<2 ^ 127) :
 Calls prog 279 #[.agg #[V6 ((jg N:Nat):Int),V6 ((kF N:Nat):Int)],.agg #[V6 0,V6 1]] w λe w'=>
  e=.returned (.tuple #[.agg #[V6 ((jg (N+1):Nat):Int),V6 ((kF (N+1):Nat):Int)],.bool true])/\Bl w w':=by
 have:=px N 1 w oM oM;rw[show jU (N+1)=N+1 from if_pos oM,show mM (N+1)=true from decide_eq_true oM]at this;exact this
def TW(hd:0<d)(h:n % d=0):Ng n d=n / d:=by
 refine((rT hd).1 ⟨?_,?_⟩).symm
 ·have:=div_add_mod n d;rw[aF9];omega
 ·rcases aV9 (n / d)with h0|h0
  ·exact .inl h0
  ·right
   have:=div_add_mod n d;obtain⟨m,hm⟩:∃m,n / d=m+1:=⟨n / d-1,oM⟩
   rw[hm]at this |-;rw[aT0,aF9];rw[Nat.mul_add]at this;omega
def Yx(hd:0<d)(h:0<n % d):Ng n d=n / d+1:=by
 refine((rT hd).1 ⟨?_,.inr ?_⟩).symm
 ·have:=div_add_mod n d;have:=aS9 n hd;rw[aF9,Nat.mul_add];omega
 ·have:=div_add_mod n d;rw[aT0,aF9];omega
def ji(l:List Int):Int:=if l.length=0 then 0 else(ow (Ng (gZ l) l.length):Nat)
theorem PS(A:Option Addr)(len cap:Nat)(l:List Int)(w:World)(hs:gB w A len cap l)(hg:∀x∈l,aw x)(hn:len<=1000000) :
 Calls prog 236 #[.slice A len cap] w (Rt (I6 (ji l)) (Bl w)):=by
 have hl:=hs.1
 by_cases h1:len=0
 ·have HQ:ji l=0:=if_pos oM
  have h0:((len:Int)==0)=true:=by simp;omega
  clear hs hl h1;go_enter func236,ntmps236;go_wp2;go_ret;exact⟨au HQ.symm,by go_grown⟩
 have HQ:=(show ji l=(ow (Ng (gZ l) len):Nat) by unfold ji;rw[if_neg oM,hl]);have h0:((len:Int)==0)=false:=by simp;omega
 have hle:=Di l hg;have hle2:gZ l<=1000000*9223372036854775807:=aB4 hle (aE9 _ oM);have HXY:=(show gZ l<2 ^ 128 by omega);have HQL:=(show gZ l / len<2 ^ 126 by exact Nat.lt_of_le_of_lt (Nat.div_le_self _ _) oM);have TX:=(λW h=>KQ A len cap l W h hg hn);have HS:=hs;have d0:1<=len:=oM
 have HD:=(show len<2 ^ 64 by omega);clear hs hl hle hle2 hg h1;generalize gZ l=N at *;obtain⟨d,rfl⟩:=zE len
 by_cases hr:0<N % d
 ·have HU:=Yx (n:=N) d0 hr
  go_enter func236,ntmps236;go_wp2_with(first|(go_at_call 278;refine zM (TX _ HS) λv1 hb1=>?_)|(go_at_call 277;refine zM (Cp N d _ HXY HD d0) λv2 hb2=>?_)|(go_at_call 279;refine zM (Cq _ _ (by have:=HQL;omega)) λv3 hb3=>?_;obtain⟨hc3,hf3⟩:=nu hb3;have hs3:=hb3.size;simp only[World.size_alloc]at hs3)|(go_at_call 280;refine zM (vp _ _ (by have:=HQL;omega)) λv4 hb4=>?_));go_ret;refine⟨au (by rw[HQ,HU]),?_⟩;have e2:=zT hb1 hb2;have e3:=(e2.alloc e2.size (.cells #[V6 ((jg (N / d):Nat):Int),V6 ((kF (N / d):Nat):Int)] 388)).trans (hb3.mono (by have:=e2.size;simp;omega));have e4:=(e3.setCell (p:=⟨v2.heap.size,0,none⟩) e2.size (V6 ((jg (N / d+1):Nat):Int))).setCell (p:=⟨v2.heap.size,1,none⟩) e2.size (V6 ((kF (N / d+1):Nat):Int));exact zT e4 hb4
 ·have h0:N % d=0:=oM
  have HU:=TW (n:=N) d0 h0;have: decide (0<N % d)=false:=by simpa using hr
  clear hr;go_enter func236,ntmps236;go_wp2_with(first|(go_at_call 278;refine zM (TX _ HS) λv1 hb1=>?_)|(go_at_call 277;refine zM (Cp N d _ HXY HD d0) λv2 hb2=>?_)|(go_at_call 279;refine zM (Cq _ _ (by have:=HQL;omega)) λv3 hb3=>?_;obtain⟨hc3,hf3⟩:=nu hb3;have hs3:=hb3.size;simp only[World.size_alloc]at hs3)|(go_at_call 280;refine zM (vp _ _ (by have:=HQL;omega)) λv4 hb4=>?_));go_ret;refine⟨au (by rw[HQ,HU]),?_⟩;have e2:=zT hb1 hb2;have e4:=e2.alloc e2.size (.cells #[V6 ((jg (N / d):Nat):Int),V6 ((kF (N / d):Nat):Int)] 388);exact zT e4 hb4
def Ub{q:Nat}(hd:0<d)(h:n<=q*d):Ng n d<=q:=by
 have h2:=(rT (n:=n) (d:=d) (q:=Ng n d) hd).2 rfl;rcases aE2 q (Ng n d)with hlt|hge
 ·rcases h2.2 with h3|h3
  ·omega
  ·have:=aE9 d (show q<=Ng n d-1 by omega)
   omega
 ·exact hge
def KW{l:List Int}(hg:∀x∈l,aw x)(hl:0<l.length):ji l=(Ng (gZ l) l.length:Nat)/\Ng (gZ l) l.length<=9223372036854775807:=by
 have h1:=Ub (q:=9223372036854775807) (d:=l.length) hl (by have:=Di l hg;rw[aF9];exact this);refine⟨?_,h1⟩;unfold ji ow;rw[if_neg oM,if_pos oM]
def j6(p:dI)(load now:Int):Int:=if oy p load now then now else xQ p load
section
open Go.ChangeShapes Go.WideShapes Go.ChangeAt Go.RowKit
structure bq(α:Type) where
 A:Option Addr
 n:Nat
 c:Nat
 l:List α
def bq.hdr{α:Type}(r:bq α):List Value:=[.slice r.A r.n r.c]
def dK{α:Type}(w:World)(size:Nat)(cells:α->List Value)(A:Option Addr)(len cap:Nat)(rows:List (bq α)):Prop:=
 ag w 1 bq.hdr A len cap rows/\∀r∈rows,ag w size cells r.A r.n r.c r.l
def dK.keep{α:Type}{w: World}{size:Nat}{cells:α->List Value}{A:Option Addr}{len cap:Nat}{rows:List (bq α)}(h:dK w size cells A len cap rows)(hb:Bl w w'):dK w' size cells A len cap rows:=
 ⟨af h.1 hb,λr hr=>af (h.2 r hr) hb⟩
section
variable{H:Type}{enc:TypeId×Value->H}{P:Program}{w:World}{base:Nat}{spare:Nat->Bool}{held:Bool}
end
structure ak where
 k:Int
 s:ByteArray
 t:Int
 v:Int
 h:Int
 p:dI
def ak.cells(x:ak):List Value:=(aj x.k x.s x.t x.v x.h x.p).toList
def ak.good(x:ak):Prop:=x.s.size<=maxLen
def Qc:∀x:ak,x.cells.length=11:=λ_=>rfl
end
end Go.Proofs.YtjgmjohiehbgaaaGreat
