/- Part 14. -/
import Derived.Test.YtjgmjohiehbgaaaGreatQ12
namespace Go.Proofs.YtjgmjohiehbgaaaGreat
open Go.RowKit Go.Proofs.Tryz
set_option maxHeartbeats 20000000
set_option maxRecDepth 100000
set_option linter.all false
variable {P Q R S S1 S2 T:List bo} {a g j k:Nat} {w wr:World} {x:bo}
structure DF (w wr:World) (g a j:Nat) (P T R:List bo) (x:bo) (S1 S2:List bo):Prop where
 la:a=P.length
 lj:j=a+S1.length
 hT:S1++S2=T
 gt:∀y∈S2,cY y x=false
 arr:bI wr g (P++S1++x::S2++R)
 upd:ah (fun k=>k=g) w wr
theorem DF.call {W:World} (h:DF w wr g a j P T R x S1 S2) (hb:Bl wr W):DF w W g a j P T R x S1 S2:=
 ⟨h.la,h.lj,h.hT,h.gt,h.arr.call hb,h.upd.call hb⟩
theorem DF.here (h:DF w wr g a j P T R x S1 S2):(P++S1++x::S2++R)[j]? = some x:=by
 rw[h.lj,h.la,aC7 (P++S1),<-aB9,aE1];simp
theorem DF.prev (h:DF w wr g a (j+1) P T R x S1 S2) (hj:a<j+1): ∃S y,S1=S++[y]/\j=a+S.length/\(P++S1++x::S2++R)[j]? = some y/\((P++S1++x::S2++R).set (j+1) y).set j x=P++S++x::(y::S2)++R:=by
 rcases List.eq_nil_or_concat S1 with e|⟨S,y,e⟩
 ·have:=h.lj;rw[e]at this;simp at this;omega
 ·rw[List.concat_eq_append]at e
  have l1:j=a+S.length:=by have:=h.lj;rw[e]at this;simp at this;omega
  have l2:j=(P++S).length:=by rw[aB9,<-h.la];exact l1
  refine⟨S,y,e,l1,?_,?_⟩
  ·rw[e,l2]
   simp
  ·have e0:P++S1++x::S2++R=(P++S)++y::([]++x::(S2++R)):=by rw[e];simp
   have:=Nz (P++S) [] (S2++R) y x;rw[e0,l2];rw[List.set_comm _ _ oM];rw[show(P++S).length+1=(P++S).length+1+([]:List bo).length from rfl,this];simp
theorem DF.next {w': World} {y:bo} (h:DF w wr g a (j+1) P T R x (S++[y]) S2) (hj:j=a+S.length) (hy:cY y x=false) (ha:bI w' g (P++S++x::(y::S2)++R)) (hu:ah (fun k=>k=g) w w'):DF w w' g a j P T R x S (y::S2):=
 ⟨h.la,hj,by rw[<-h.hT];simp,fun z hz=>by rcases aE7.1 hz with rfl|hz;exact hy;exact h.gt z hz,ha,hu⟩
def vU (P S Q:List bo) (k:Nat):List bo:=P++bL cY (S.take k)++S.drop k++Q
theorem DF.start (la:a=P.length) (hx:S[k]? = some x) (h:bI wr g (vU P S Q k)) (hu:ah (fun k=>k=g) w wr):DF w wr g a (a+k) P (bL cY (S.take k)) (S.drop (k+1)++Q) x (bL cY (S.take k)) []:=by
 have hk:=(d9.1 hx).1;refine⟨la,by rw[fx,aC3];omega,sI,(fun y hy=>by simp at hy),?_,hu⟩;have hd:S.drop k=x::S.drop (k+1):=by rw[aH1 hk,(d9.1 hx).2]
 unfold vU at h;rw[hd]at h
 simpa using h
theorem DF.stop (h:DF w wr g a j P (bL cY (S.take k)) (S.drop (k+1)++Q) x S1 S2) (hx:S[k]? = some x) (hs:j=a\/∃T y,S1=T++[y]/\cY y x=true):bI wr g (vU P S Q (k+1)):=by
 have h1:∀y∈S1,cY y x=true:=by
  rcases hs with hs|⟨T,y,rfl,hy⟩
  ·intro y hy
   have:=h.lj;have:S1=[]:=aC0 oM;rw[this]at hy;simp at hy
  ·intro z hz
   rcases aC9.1 hz with hz|hz
   ·have hsrt:=jM wL iw (S.take k)
    rw[<-h.hT]at hsrt;unfold ja at hsrt;exact iw _ _ _ ((aH7.1 (aH7.1 hsrt).1).2.2 z hz y sI) hy
   ·simp at hz;rw[hz];exact hy
 have e:vU P S Q (k+1)=P++S1++x::S2++(S.drop (k+1)++Q):=by
  unfold vU;rw[ie hx,iu,<-h.hT,Ny h1 h.gt];simp
 rw[e];exact h.arr
theorem Qg (P S Q:List bo):vU P S Q 1=P++S++Q:=by
 unfold vU;cases S with
 |nil=>simp[bL]
 |cons x S=>simp[bL,nP]
theorem Uu (P S Q:List bo) (h:S.length<=k):vU P S Q k=P++bL cY S++Q:=by
 unfold vU;rw[aB5 h,aG1 h];simp
theorem DF.len (h:DF w wr g a j P (bL cY (S.take k)) (S.drop (k+1)++Q) x S1 S2) (hk:k<S.length):(P++S1++x::S2++(S.drop (k+1)++Q)).length=(P++S++Q).length:=by
 have:=congrArg List.length h.hT;rw[fx,aB9,aC3]at this;simp;omega
theorem Uv (x y:bo):∃C:Int,decide (C<0) = !cY y x/\∀W,Calls prog 285 #[.agg x.row,.agg y.row] W (Rt (I6 C) (Bl W)):=
 ⟨Uo x y,NC x y,fun W=>NF x y W⟩
theorem uo (g n c a b:Nat) (P S Q:List bo) (w:World) (ha:a=P.length) (hb:b=a+S.length) (hn:b+Q.length=n) (hm:n<=100000) (h:bI w g (P++S++Q)) :
 Calls prog 311 #[.slice (some ⟨g,0,none⟩) n c,.int .i64 a,.int .i64 b,ia] w (kj w g (P++bL cY S++Q)):=by
 have H0:=zD (show bI w g (vU P S Q 1) by rw[Qg];exact h)
 have HA:=zD ha
 have HS:=zD hb
 have HX:=zD (fun k (hk:a+k<b)=>(show ∃x,S[k]? = some x from⟨_,aB3 (by omega)⟩))
 have fJ:=zD (show(P++S++Q).length=n from by simp;omega)
 have hbn:b<=n:=by omega
 have ha5:a<=100000:=by omega
 clear ha hb hn h
 go_enter func311,ntmps311
 go_wp2
 go_loopw[8] (fun v wr=>∃(i k:Nat),v=.int .i64 (i:Int)/\i=a+k/\1<=k/\(i<=b\/k=1)/\bI wr g (vU P S Q k)/\ah (fun k=>k=g) w wr) (fun i _=>b-(intOf i).toNat)
 case atStart=>exact⟨a+1,1,by go_num,rfl,aC1 _,.inr rfl,H0.out,ah.refl _ _⟩
 case round=>
  obtain⟨i0,k,rfl,hik,hk1,hkb,mZ,zy⟩:=hrel
  have HK:=zD hik
  by_cases hlt:i0<b
  ·obtain⟨x,hx⟩:=HX.out k (by omega)
   have I0:=zD (show DF w wr g a i0 P (bL cY (List.take k S)) (List.drop (k+1) S++Q) x (bL cY (List.take k S)) []from by rw[hik];exact DF.start HA.out hx mZ zy)
   have HXx:=zD hx
   have hltz:(i0:Int)<(b:Int):=by omega
   have hai:a<=i0:=by omega
   have dx:i0<=100000:=by omega
   clear mZ zy hx hkb hik
   go_wp2
   go_loopw[9] (fun jv wr=>∃(j:Nat) (S1 S2:List bo),jv=.int .i64 j/\a<=j/\j<=i0/\DF w wr g a j P (bL cY (List.take k S)) (List.drop (k+1) S++Q) x S1 S2) (fun jv _=>(intOf jv).toNat)
   case atStart=>exact⟨i0,_,_,rfl,hai,aC1 _,I0.out⟩
   case round=>
    obtain⟨j,S1,S2,rfl,hja,hjk,hin⟩:=hrel
    have HI:=zD hin
    by_cases hj:a<j
    ·obtain⟨i,rfl⟩:∃i,j=i+1:=⟨j-1,by omega⟩
     obtain⟨T,y,rfl,hiT,hy,hsw⟩:=hin.prev hj
     have HH:=zD hin.here
     have HY:=zD hy
     have HSW:=zD hsw
     have HT:=zD hiT
     have NH:=zD (show(P++(T++[y])++x::S2++(List.drop (k+1) S++Q)).length=n from by rw[hin.len (by have:=HS.out;have:=HK.out;omega)];exact fJ.out)
     have dj:(a:Int)<(i:Int)+1:=by omega
     have zi:IntKind.i64.wrap (i:Int)=(i:Int):=by rw[IntKind.wrap_i64];omega
     have eg:∀args W,(callFunc 285 args).run prog W=.ok (.enter 285 args) W:=fun _ _=>by rfl
     obtain⟨C,hC,hcm⟩:=Uv x y
     have HC:=zD hcm
     clear hin hy hsw hiT hcm
     focus(go_upto_region 4 with fail)
     cases hge:cY y x
     ·rw[hge]at hC
      refine zr (fun _=>false) (fun wS=>Below wr.heap.size wr wS) ?_
      have S0:=(Below.refl wr.heap.size wr).drew
      refine zk 12 [0,1,2,3,4] [_,_,.bool true,.bool true,ia] (.c rfl rfl zPP<|.c rfl rfl zPP<|.c rfl rfl zPP<|.c rfl rfl zPP<|.c rfl rfl zPP .nil) S0 ?_
      refine zk 7 [5,6,7,8,9] [_,_,.pointer (some ⟨g,(i+1)*3,none⟩),.agg x.row,_] (.c rfl rfl zPP<|.c rfl rfl zPP<|.c rfl rfl (zl fun _ _=>aN rfl rfl rfl (by omega))<|.c rfl rfl (zl fun _ h=>aF (ty:=kP) (x:=.tmp 25) rfl rfl (bI.load (HI.out.arr.call h) HH.out))<|.c rfl rfl zPP .nil) S0 ?_
      refine zk 3 [10,11,12,13] [_,.int .i64 (i:Int),.pointer (some ⟨g,i*3,none⟩),.agg y.row] (.c rfl rfl zPP<|.c rfl rfl zPP<|.c rfl rfl (zl fun _ _=>aN rfl rfl rfl (by omega))<|.c rfl rfl (zl fun _ h=>aF (ty:=kP) (x:=.tmp 30) rfl rfl (bI.load (HI.out.arr.call h) HY.out)) .nil) S0 ?_
      refine zo 14 (fun Q2 aI=>?_);go_wp2_with(go_at_fn 285;refine(HC.out _).mono ?_;rintro e v14 ⟨rfl,Li⟩);refine aI _ _ (fun _=>S0.trans (Li.mono S0.size)) ?_;clear aI Q2
      have S14:=S0.trans (Li.mono S0.size)
      refine zk 0 [15,16] [.bool true,.bool true] (.c rfl rfl zPP<|.c rfl rfl zPP .nil) S14 ?_
      refine eQ (by kernel_rfl) ?_ _
      have J:=zD (HI.out.call S14)
      clear Li S14 S0 HC eg dj hC
      go_wp2
      focus(go_upto_region 6 with fail)
      refine zr (fun _=>false) (fun wS=>ah (fun k=>k=g) v14 wS) ?_
      have S0:=(ah.refl (fun k=>k=g) v14).drew
      refine zk 13 [0,1,2,3,4] [_,_,_,_,.int .i64 (i:Int)] (.c rfl rfl zPP<|.c rfl rfl zPP<|.c rfl rfl zPP<|.c rfl rfl zPP<|.c rfl rfl zPP .nil) S0 ?_
      refine zk 8 [5,6,7,8,10] [_,_,.int .i64 (i:Int),.pointer (some ⟨g,i*3,none⟩),_] (.c rfl rfl zPP<|.c rfl rfl zPP<|.c rfl rfl zPP<|.c rfl rfl (zl fun _ _=>aN rfl rfl rfl (by omega))<|.c rfl rfl zPP .nil) S0 ?_
      refine zk 6 [11,12] [_,.pointer (some ⟨g,(i+1)*3,none⟩)] (.c rfl rfl zPP<|.c rfl rfl (zl fun _ _=>aN rfl rfl rfl (by omega)) .nil) S0 ?_
      refine FN (i:=9) (j:=13) (by kernel_rfl) rfl (by rfl) rfl (by rfl) (fun Q2 aI=>?_) (fun Q2 aI=>?_)
      ·
       go_wp2_with(refine bI.ld (w:=v14.drew) J.out.arr HY.out rfl (.tmp 45) rfl rfl rfl ?_)
       refine aI _ _ (fun _=>S0) ?_
       clear aI Q2
       refine zo 13 (fun Q2 aI=>?_);go_wp2_with(refine bI.ld (w:=v14.drew) J.out.arr HH.out rfl (.tmp 49) rfl rfl rfl ?_);refine aI _ _ (fun _=>S0) ?_;clear aI Q2
       refine zk 3 [14] [.pointer (some ⟨g,(i+1)*3,none⟩)] (.c rfl rfl (zl fun _ _=>aN rfl rfl rfl (by omega)) .nil) S0 ?_
       refine zo 15 (fun Q2 aI=>?_);go_wp2_with(refine bI.store (w:=v14.drew) J.out.arr (i:=i+1) (by rw[NH.out];omega) y rfl (.tmp 51) (.tmp 46) rfl rfl rfl rfl ?_;intro w5 h5 u5);refine aI _ _ (fun _=>S0.trans u5 (fun k hk=>.inl hk)) ?_;clear aI Q2
       have S5:=S0.trans u5 (fun k hk=>.inl hk)
       refine zk 1 [16] [.pointer (some ⟨g,i*3,none⟩)] (.c rfl rfl (zl fun _ _=>aN rfl rfl rfl (by omega)) .nil) S5 ?_
       refine zo 17 (fun Q2 aI=>?_);go_wp2_with(refine bI.store h5 (i:=i) (by rw[aF2,NH.out];omega) x rfl (.tmp 52) (.tmp 50) rfl rfl rfl rfl ?_;intro w6 h6 u6);refine aI _ _ (fun _=>S5.trans u6 (fun k hk=>.inl hk)) ?_;clear aI Q2
       have S6:=S5.trans u6 (fun k hk=>.inl hk)
       refine eQ (by kernel_rfl) ?_ _
       have X6:=zD (J.out.next HT.out hge (by rw[<-HSW.out];exact h6) (J.out.upd.trans S6 (fun k hk=>.inl hk)))
       clear h5 h6 u5 u6 S0 S5 S6
       go_wp2
       go_roundw
       case rel=>exact⟨i,_,_,by first|rfl|go_num,by omega,by omega,X6.out⟩
       case measure=>first|(simp[intOf];done)|(simp[intOf];omega)
      ·
       go_wp2_with(refine bI.ld (w:=v14.drew) J.out.arr HH.out rfl (.tmp 49) rfl rfl rfl ?_)
       refine aI _ _ (fun _=>S0) ?_
       clear aI Q2
       refine zo 9 (fun Q2 aI=>?_);go_wp2_with(refine bI.ld (w:=v14.drew) J.out.arr HY.out rfl (.tmp 45) rfl rfl rfl ?_);refine aI _ _ (fun _=>S0) ?_;clear aI Q2
       refine zk 3 [14] [.pointer (some ⟨g,(i+1)*3,none⟩)] (.c rfl rfl (zl fun _ _=>aN rfl rfl rfl (by omega)) .nil) S0 ?_
       refine zo 15 (fun Q2 aI=>?_);go_wp2_with(refine bI.store (w:=v14.drew) J.out.arr (i:=i+1) (by rw[NH.out];omega) y rfl (.tmp 51) (.tmp 46) rfl rfl rfl rfl ?_;intro w5 h5 u5);refine aI _ _ (fun _=>S0.trans u5 (fun k hk=>.inl hk)) ?_;clear aI Q2
       have S5:=S0.trans u5 (fun k hk=>.inl hk)
       refine zk 1 [16] [.pointer (some ⟨g,i*3,none⟩)] (.c rfl rfl (zl fun _ _=>aN rfl rfl rfl (by omega)) .nil) S5 ?_
       refine zo 17 (fun Q2 aI=>?_);go_wp2_with(refine bI.store h5 (i:=i) (by rw[aF2,NH.out];omega) x rfl (.tmp 52) (.tmp 50) rfl rfl rfl rfl ?_;intro w6 h6 u6);refine aI _ _ (fun _=>S5.trans u6 (fun k hk=>.inl hk)) ?_;clear aI Q2
       have S6:=S5.trans u6 (fun k hk=>.inl hk)
       refine eQ (by kernel_rfl) ?_ _
       have X6:=zD (J.out.next HT.out hge (by rw[<-HSW.out];exact h6) (J.out.upd.trans S6 (fun k hk=>.inl hk)))
       clear h5 h6 u5 u6 S0 S5 S6
       go_wp2
       go_roundw
       case rel=>exact⟨i,_,_,by first|rfl|go_num,by omega,by omega,X6.out⟩
       case measure=>first|(simp[intOf];done)|(simp[intOf];omega)
     ·rw[hge]at hC
      refine zr (fun _=>false) (fun wS=>Below wr.heap.size wr wS) ?_
      have S0:=(Below.refl wr.heap.size wr).drew
      refine zk 12 [0,1,2,3,4] [_,_,.bool true,.bool true,ia] (.c rfl rfl zPP<|.c rfl rfl zPP<|.c rfl rfl zPP<|.c rfl rfl zPP<|.c rfl rfl zPP .nil) S0 ?_
      refine zk 7 [5,6,7,8,9] [_,_,.pointer (some ⟨g,(i+1)*3,none⟩),.agg x.row,_] (.c rfl rfl zPP<|.c rfl rfl zPP<|.c rfl rfl (zl fun _ _=>aN rfl rfl rfl (by omega))<|.c rfl rfl (zl fun _ h=>aF (ty:=kP) (x:=.tmp 25) rfl rfl (bI.load (HI.out.arr.call h) HH.out))<|.c rfl rfl zPP .nil) S0 ?_
      refine zk 3 [10,11,12,13] [_,.int .i64 (i:Int),.pointer (some ⟨g,i*3,none⟩),.agg y.row] (.c rfl rfl zPP<|.c rfl rfl zPP<|.c rfl rfl (zl fun _ _=>aN rfl rfl rfl (by omega))<|.c rfl rfl (zl fun _ h=>aF (ty:=kP) (x:=.tmp 30) rfl rfl (bI.load (HI.out.arr.call h) HY.out)) .nil) S0 ?_
      refine zo 14 (fun Q2 aI=>?_);go_wp2_with(go_at_fn 285;refine(HC.out _).mono ?_;rintro e v14 ⟨rfl,Li⟩);refine aI _ _ (fun _=>S0.trans (Li.mono S0.size)) ?_;clear aI Q2
      have S14:=S0.trans (Li.mono S0.size)
      refine zk 0 [15,16] [.bool false,.bool false] (.c rfl rfl zPP<|.c rfl rfl zPP .nil) S14 ?_
      refine eQ (by kernel_rfl) ?_ _
      have J:=zD (HI.out.call S14)
      have X6:=zD (J.out.stop HXx.out (.inr ⟨T,y,rfl,hge⟩))
      clear Li S14 S0 HC eg dj hC
      go_wp2
      go_roundw
      case rel=>exact⟨i0+1,k+1,by go_num,by have:=HK.out;omega,by omega,.inl (by omega),X6.out,J.out.upd⟩
      case measure=>first|(simp[intOf];done)|(simp[intOf];omega)
    ·obtain rfl:j=a:=by omega
     have dj:decide ((j:Int)<(j:Int))=false:=by simp
     have J0:=zD (hin.stop HXx.out (.inl rfl))
     clear hin
     focus(go_upto_region 4 with fail)
     refine zr (fun _=>false) (fun wS=>Below wr.heap.size wr wS) ?_
     have S0:=(Below.refl wr.heap.size wr).drew
     refine zk 12 [0,1,2,3,4] [_,_,.bool false,.bool false,undef] (.c rfl rfl zPP<|.c rfl rfl zPP<|.c rfl rfl zPP<|.c rfl rfl zPP<|.c rfl rfl zn .nil) S0 ?_
     refine zk 7 [5,6,7,8,9] [undef,undef,undef,undef,undef] (.c rfl rfl zn<|.c rfl rfl zn<|.c rfl rfl zn<|.c rfl rfl zn<|.c rfl rfl zn .nil) S0 ?_
     refine zk 2 [10,11,12,13,14] [undef,undef,undef,undef,undef] (.c rfl rfl zn<|.c rfl rfl zn<|.c rfl rfl zn<|.c rfl rfl zn<|.c rfl rfl zn .nil) S0 ?_
     refine zk 0 [15,16] [undef,.bool false] (.c rfl rfl zn<|.c rfl rfl zPP .nil) S0 ?_
     refine eQ (by kernel_rfl) ?_ _
     have J:=zD (show bI wr.drew g (vU P S Q (k+1))from J0.out)
     have U:=zD (show ah (fun k=>k=g) w wr.drew from HI.out.upd.drew)
     clear S0
     go_wp2
     go_roundw
     case rel=>exact⟨i0+1,k+1,by go_num,by have:=HK.out;omega,by omega,.inl (by omega),J.out,U.out⟩
     case measure=>first|(simp[intOf];done)|(simp[intOf];omega)
  ·have HE:=zD (Uu P S Q (k:=k) (by have:=HS.out;omega))
   have J:=zD mZ
   have U:=zD zy
   have hltz:(b:Int)<=(i0:Int):=by omega
   clear mZ zy hkb hik
   go_wp2
   go_returns
   exact⟨rfl,HE.out ▸ J.out,U.out⟩
end Go.Proofs.YtjgmjohiehbgaaaGreat
