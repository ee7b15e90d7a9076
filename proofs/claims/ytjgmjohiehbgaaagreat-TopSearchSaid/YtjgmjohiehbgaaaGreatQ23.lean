/- Part 23. -/
import Derived.Test.YtjgmjohiehbgaaaGreatQ22
namespace Go.Proofs.YtjgmjohiehbgaaaGreat
open Go.RowKit Go.Proofs.Tryz
set_option maxHeartbeats 20000000
set_option maxRecDepth 100000
set_option linter.all false
variable{es:List Ev}{i:Nat}{o:SOp}{p:Ev×ByteArray}
def Way(l:List SOp):Fm->List Int->List Int->Prop
 |m,us,[]=>us.length=l.length
 |m,us,i::r=>∃(k:Nat)(o:SOp),i=(k:Int)/\l[k]? = some o/\us.contains i=false/\aZ6 l us o k=true/\(iz m (opE o) o.call.s).1=true/\Way l (iz m (opE o) o.call.s).2 (us++[i]) r
structure OpG(o:SOp):Prop where
 ev:EvG (opE o) o.call.s
 id:o.note=true->eO o.call.s=true
def SrR(l:List SOp)(m:Fm)(us:List Int)(w:World)(e:Ending)(w' : World):Prop:=
 ∃A n c b,e=.returned (.tuple #[.slice A n c,.bool b])/\Bl w w'/\(b=true->∃r,dt w' A n c (us++r)/\Way l m us r)/\(b=false->∀r,¬Way l m us r)
def aY8{l:List SOp}{m:Fm}{us:List Int}{k:Nat}(ho:l[k]? = some o)(h:us.contains (k:Int)=true\/aZ6 l us o k=false\/(iz m (opE o) o.call.s).1=false): ∀r,¬Way l m us ((k:Int)::r):=by
 rintro r ⟨k',o',e,h1,h2,h3,h4,-⟩;have ek:k' = k:=oM
 subst ek;rw[ho]at h1;injection h1 with h1
 subst h1;rcases h with h|h|h
 ·rw[h]at h2;cases h2
 ·rw[h]at h3;cases h3
 ·rw[h]at h4;cases h4
theorem bd2{l:List SOp}{m:Fm}{us:List Int}(hne:us.length≠l.length)(h:∀k:Nat,k<l.length->∀r,¬Way l m us ((k:Int)::r)):∀r,¬Way l m us r
 |[],hw=>hne hw
 |i::r,hw=>by
  obtain⟨k,o,e,h1,-⟩:=id hw;subst e;exact h k (d9.1 h1).1 r hw
theorem aY9(c:aM)(hc:c.gV)(l:List SOp)(hl:∀o∈l,OpG o):∀(d:Nat)(A:Option Addr)(n cap:Nat)(uA:Option Addr)(un uc:Nat)(us:List Int)(m:Fm)(g mp:Nat)(B:Option Addr)(fn fc:Nat)(fl:List fF)(w:World),l.length-us.length=d->us.length<=l.length->n<=1000->aY6 w A n cap l->dt w uA un uc us->dg w (eG g mp) g mp B fn fc fl m->rB c m us.length->
 Calls prog 48 #[.slice A n cap,pt g,.slice uA un uc] w (SrR l m us w):=by
 intro d
 induction d with
 |zero=>
  intro A n cap uA un uc us m g mp B fn fc fl w hd hle hn hs hu hf hm;have e1:un=n:=by rw[<-hs.1,<-hu.1];omega
  subst e1;have HU:=hu;have HEq:=(show us.length=l.length by omega);clear hs hu hf hm hd hle;go_enter func48,ntmps48;go_wp2;go_ret2;exact⟨uA,un,uc,true,rfl,Below.refl _ _,λ_=>⟨[],by rw[aW3];exact HU,HEq⟩,λe=>absurd e dC⟩
 |succ d ih=>
  intro A n cap uA un uc us m g mp B fn fc fl w hd hle hn hs hu hf hm;have hne:¬(un:Int)=(n:Int):=oI hs.1 hu.1
  have be5:((un:Int)==(n:Int))=false:=sH hne
  have hle2:un<n:=oI hs.1 hu.1
  have hu1:un<=uc:=hu.2.1;have iO:uc<=9223372036854775807:=by have:=hu.2.2.1;unfold maxLen at this;omega
  have HS:=hs;have HU:=hu;have HF:=hf;have HM:=hm;have HL:=hl;have fJ:l.length=n:=hs.1;have HUn:us.length=un:=hu.1;have HD:=hd;have HIh:=ih;clear hs hu hf hm hd hle ih hl;go_enter func48,ntmps48;go_wp2;go_loopw[20] (λis wr=>∃k:Nat,k<=n/\is = I6 (k:Int)/\(∀j:Nat,j<k->∀r,¬Way l m us ((j:Int)::r))/\Bl w wr) (λis _=>n-(intOf is).toNat)
  case atStart=>exact⟨0,aB6 _,rfl,λj hj=>absurd hj (Nat.not_lt_zero j),Below.refl _ _⟩
  case round=>
   obtain⟨k,hk,rfl,hp,hb⟩:=hrel;have HP:=hp;have HB:=hb;clear hp hb
   by_cases hlt:k<n
   ·have:(k:Int)<(n:Int):=oM
    obtain⟨b,off,o,rfl,ho,fH,hcl⟩:=ag.at_ (af HS HB) hlt;have HR:wr.rangeAt b (off+k*27) o.cells:=λj v hv=>by have h9:=hcl j v hv;rw[<-aD9]at h9;exact h9
    have HOo:=ho;have HG:=HL o (aC1 ho);have Qh:=fH;have HC:=(λW (h:Bl wr W)=>aY0 _ _ _ us (k:Int) W (af HU (zT HB h)));have HFr:=(λW (h:Bl wr W)=>aY1 _ n cap l _ _ _ us k o W (af HS (zT HB h)) (af HU (zT HB h)) ho oM);have fG:(∀r,¬Way l m us ((k:Int)::r))->∀j:Nat,j<k+1->∀r,¬Way l m us ((j:Int)::r):=λh j hj=>(Nat.lt_succ_iff_lt_or_eq.1 hj).elim (HP j) (λe=>e ▸ h)
    clear hcl ho fH;cases hcs:us.contains (k:Int)
    ·rw[hcs]at HC
     cases hfr:aZ6 l us o k
     ·rw[hfr]at HFr
      have Ks:=fG (aY8 HOo (.inr (.inl hfr)));clear hcs hfr;go_wp2_with(first
       |go_at_call 49;refine zM (HC _ bR) λw2 hb2=>?_;have B2:=hb2;clear hb2
       |(go_at_call 50;refine zM (HFr _ B2) λw3 hb3=>?_;have B3:=HB.trans ((zT B2 hb3).mono HB.size);clear hb3))
      go_roundw
      case rel=>exact⟨k+1,oM,by go_num,Ks,B3⟩
      case measure=>simp[intOf];omega
     ·rw[hfr]at HFr
      have HCs:=hcs;have HFq:=hfr;clear hcs hfr;go_upto_region 7 with(first
       |go_at_call 49;refine zM (HC _ bR) λw2 hb2=>?_;have B2:=hb2;clear hb2
       |(go_at_call 50;refine zM (HFr _ B2) λw3 hb3=>?_;have R3:=zT B2 hb3;clear hb3))
      have B3:=zT HB R3;have F3:=HF.call B3;have HTw:=aN6 F3 (λq hq=>by have:=F3.b.blk.lt;obtain⟨f,hx2⟩:=F3.b.map;have:=hx2.map.lt;rcases hq with e|e<;>omega);have RG3:=Jk HR Qh R3;clear F3 HC HFr B2 HR;go_upto_region 8 with(go_at_call 21;refine HTw.mono ?_;rintro e w4 ⟨g',mp',A4,n4,c4,rfl,hf4,hg4,hm4,hb4⟩)
      have F4:=hf4.ext (T:=eG g' mp') (λq hq=>.inl (hq.elim (λe=>.inr (.inl e)) (λe=>.inr (.inr e)))) (.inl rfl) (.inr rfl);have RG4:=Jk RG3 (aB9 Qh R3.size) hb4;have B4:=zT B3 hb4;have G4:=And.intro (aB4 B3.size hg4) (aB4 B3.size hm4);clear hf4 hg4 hm4 hb4 HTw RG3 B3 R3;have Zn:=(λW=>aX9 o W HG.id);have kh:aa5 m (opE o) o.call.s:=⟨HM.room hc (oH HUn),HG.ev.call,HG.ev.note⟩;have RV:=(λW (h:Bl w4 W)=>vE (opE o) o.call.s (F4.call h) kh);have HMx:rB c (iz m (opE o) o.call.s).2 (us++[(k:Int)]).length:=by rw[aB8];exact HM.apply hc HG.ev
      have HWs:(iz m (opE o) o.call.s).1=false->∀r,¬Way l m us ((k:Int)::r):=λh=>aY8 HOo (.inr (.inr h))
      have HWc:∀r,Way l m us ((k:Int)::r)->Way l (iz m (opE o) o.call.s).2 (us++[(k:Int)]) r:=λr ⟨k',o',e,p1,p2,p3,p4,p5⟩=>by
       have ek:k' = k:=oM
       subst ek;rw[HOo]at p1;injection p1 with p1
       subst p1;exact p5
      have HWi:(iz m (opE o) o.call.s).1=true->∀r,Way l (iz m (opE o) o.call.s).2 (us++[(k:Int)]) r->Way l m us ((k:Int)::r):=λh r hr=>⟨k,o,rfl,HOo,HCs,HFq,h,hr⟩
      clear kh;generalize iz m (opE o) o.call.s=R at *;obtain⟨ok,m2⟩:=R;cases ok
      ·go_wp2_with(first
        |refine wpList_load_mid rfl aX0 (.tmp 38) rfl b (off+k*27) rfl o.cells _ RG4 underlying119 rfl kZ ?_
        |go_at_call 51;refine zM (Zn _) λw5 dx=>?_;have B5:=dx;clear dx
        |(go_at_call 37;refine(RV _ B5).mono ?_;rintro e w6 ⟨rfl,A6,n6,c6,l6,hf6,Fc⟩))
       have B6:Bl w w6:=(zT B4 B5).trans (Fc.below (B:=w.heap.size) (λq e=>e.elim (λe=>e ▸ G4.1) (λe=>e ▸ G4.2)) (aB4 B4.size B5.size));go_roundw
       case rel=>exact⟨k+1,oM,by go_num,fG (HWs (by first|trivial|rfl)),B6⟩
       case measure=>simp[intOf];omega
      ·go_upto_region 9 with(first
        |refine wpList_load_mid rfl aX0 (.tmp 38) rfl b (off+k*27) rfl o.cells _ RG4 underlying119 rfl kZ ?_
        |go_at_call 51;refine zM (Zn _) λw5 dx=>?_;have B5:=dx;clear dx
        |(go_at_call 37;refine(RV _ B5).mono ?_;rintro e w6 ⟨rfl,A6,n6,c6,l6,hf6,Fc⟩))
       have B6:Bl w w6:=(zT B4 B5).trans (Fc.below (B:=w.heap.size) (λq e=>e.elim (λe=>e ▸ G4.1) (λe=>e ▸ G4.2)) (aB4 B4.size B5.size));have HB6:=B6;have F6:=hf6;clear B6 Fc hf6 B5 B4 G4 F4 RG4 Zn RV HWs;have be4:=(λA7 n7 c7 W (h:Bl w6 W) hs7=>HIh _ n cap A7 n7 c7 (us++[(k:Int)]) m2 g' mp' A6 n6 c6 l6 W (by have:=HD;rw[aB8,aS8];omega) (by have:=HUn;have:=fJ;rw[aB8,aS8];omega) hn (af HS (zT HB6 h)) hs7 (F6.call h) HMx);have:=(show us.length<1000000 by have:=HUn;omega);clear HF HM HIh;go_upto_region 10 with(first
        |at_builtin;refine uO _ rfl (.tmp 51) (.tmp 53) 25 rfl 3 _ 1 8 gv underlying25 jL rF dC (λ_=>rfl) ma _ _ _ us rfl (af (af HU HB6) ((Below.refl _ w6).alloc lR _)) ⟨w6.heap.size,0,none⟩ 1 (k:Int) rfl (br (α:=Int) (vs:=[I6 k]) (ai.new w6 3 _) rfl) oM dC ?_;intro v7 w7 Ck Yn;obtain⟨A7,n7,c7,rfl,-,hs7⟩:=Ck.shape (λ_=>rfl);have S7:=hs7;have R7:=((Below.refl w6.heap.size w6).alloc lR _).grown Yn sI (λq e=>by cases e);clear Ck Yn hs7
        |(go_at_call 48;refine(be4 _ _ _ _ R7 S7).mono ?_;rintro e w8 ⟨A8,n8,c8,b8,rfl,sf,hy8,hn8⟩))
       have B8:=HB6.trans ((zT R7 sf).mono HB6.size);cases b8
       ·have Ks:=fG (λr hr=>hn8 rfl r (HWc r hr))
        clear hy8 hn8 sf;go_wp2;go_roundw
        case rel=>exact⟨k+1,oM,by go_num,Ks,B8⟩
        case measure=>simp[intOf];omega
       ·obtain⟨r,hr1,hr2⟩:=hy8 rfl
        have HR1:=hr1;have Yr:=HWi (by first|trivial|rfl) r hr2;clear hy8 hn8 sf hr1 hr2;go_wp2;go_ret2;exact⟨A8,n8,c8,true,rfl,B8,λ_=>⟨(k:Int)::r,by have h9:=HR1;rwa [aD0]at h9,Yr⟩,λe=>absurd e dC⟩
    ·rw[hcs]at HC
     have Ks:=fG (aY8 HOo (.inl hcs));clear hcs;go_wp2_with(go_at_call 49;refine zM (HC _ bR) λw2 hb2=>?_;have B2:=zT HB hb2;clear hb2);go_roundw
     case rel=>exact⟨k+1,oM,by go_num,Ks,B2⟩
     case measure=>simp[intOf];omega
   ·have: ¬(k:Int)<(n:Int):=oM
    go_wp2;go_ret2;exact⟨none,0,0,false,rfl,HB,λe=>absurd e dC,λ_=>bd2 (oI fJ HUn) (λj hj=>HP j (oH fJ))⟩
theorem aZ7(c:aM)(hf:c.fit)(hc:c.gV)(l:List SOp)(hl:∀o∈l,OpG o)(A:Option Addr)(n cap:Nat)(w:World)(hs:aY6 w A n cap l)(hn:n<=5)(hw:∃r,Way l (Fm.new c) [] r) :
 Calls prog 16 #[.agg c.row,.slice A n cap] w λe w'=>∃A' n' c' r,e=.returned (.tuple #[.slice A' n' c',.bool true])/\Bl w w'/\dt w' A' n' c' r/\Way l (Fm.new c) [] r:=by
 have BX:=ai.new w qw c.row;have EX:=zW w (.cells c.row qw);have mW:=(λW=>Jg c W hf hc);have: ¬(8:Int)<(n:Int):=oM
 have HSr:=(λg mp W (h:Bl w W) hF=>aY9 c hc l hl l.length A n cap none 0 0 [] (Fm.new c) g mp none 0 0 [] W sI (aB6 _) oM (af hs h) (OI _ _ _) hF (rB.new c));have HW:=hw;have HFt:=hf;clear hf hc hl hs hn hw;go_enter func16,ntmps16;go_upto_region 4 with(first
  |refine zI BX underlying23 ?_
  |(go_at_call 20;refine(mW _).mono ?_;rintro e w1 ⟨g,mp,rfl,hb1,Cv,hg1,hp1,hne1,WG⟩;have B1:=zT EX WG;have F1:=dg.new hb1 Cv hne1 HFt;clear hb1 Cv hg1 hp1 hne1 WG))
 go_wp2_with(go_at_call 48;refine(HSr g mp _ B1 F1).mono ?_;rintro e w2 ⟨A2,n2,c2,b2,rfl,hb2,hy2,fo⟩);cases b2
 ·obtain⟨r,hr⟩:=HW
  exact absurd hr (fo rfl r)
 ·obtain⟨r,hr1,hr2⟩:=hy2 rfl
  go_ret2;exact⟨A2,n2,c2,r,rfl,zT B1 hb2,hr1,hr2⟩
theorem ba4{l:List SOp} : ∀{r us:List Int} {m:Fm},Way l m us r->us.length+r.length=l.length
 |[],us,m,h=>h
 |i::r,us,m,⟨k,o,e,h1,h2,h3,h4,h5⟩=>by
  have:=ba4 h5;simp at this |-;omega
theorem bb8(c:aM)(hf:c.fit)(hc:c.gV)(l:List SOp)(hl:∀o∈l,OpG o)(A:Option Addr)(n cap:Nat)(rA:Option Addr)(rn rc:Nat)(r:List Int)(w:World)(hs:aY6 w A n cap l)(hr:dt w rA rn rc r)(hn:n<=5)(hw:Way l (Fm.new c) [] r) :
 Calls prog 17 #[.agg c.row,.slice A n cap,.slice rA rn rc] w (Rt (.bool true) (Bl w)):=by
 have hrn:rn=n:=by have h1:=ba4 hw;rw[hs.1,hr.1]at h1;simpa using h1
 subst hrn;have EX:=zW w (.cells c.row qw);have mW:=(λW=>Jg c W hf hc);have HS:=hs;have HR:=hr;have HL:=hl;have HW:=hw;have HFt:=hf;have fJ:l.length=rn:=hs.1;have NI:r.length=rn:=hr.1;have hu1:rn<=rc:=hr.2.1;have iO:rc<=9223372036854775807:=by have:=hr.2.2.1;unfold maxLen at this;omega
 clear hf hl hs hr hw;go_enter func17,ntmps17;go_upto_region 4 with(first
  |refine zI (ai.new w qw c.row) underlying23 ?_
  |(go_at_call 20;refine(mW _).mono ?_;rintro e w1 ⟨g,mp,rfl,hb1,Cv,hg1,hp1,hne1,WG⟩;have B1:=zT EX WG;have F1:=dg.new hb1 Cv hne1 HFt;have K1:=And.intro (aB4 EX.size hg1) (aB4 EX.size hp1);clear hb1 Cv hg1 hp1 hne1 WG))
 go_wp2;go_loopw[23] (λis wr=>∃(k:Nat)(m:Fm)(A4:Option Addr)(n4 c4:Nat)(l4:List fF),k<=rn/\is = I6 (k:Int)/\dg wr (eG g mp) g mp A4 n4 c4 l4 m/\rB c m k/\Way l m (r.take k) (r.drop k)/\Bl w wr) (λis _=>rn-(intOf is).toNat)
 case atStart=>exact⟨0,Fm.new c,none,0,0,[],aB6 _,rfl,F1,rB.new c,by rw[List.take_zero,List.drop_zero];exact HW,B1⟩
 case round=>
  obtain⟨k,m,A4,n4,c4,l4,hk,rfl,hF,hM,hw,hb⟩:=hrel;have HF:=hF;have HM:=hM;have HWk:=hw;have HB:=hb;clear hF hM hw hb F1 B1 EX mW
  by_cases hlt:k<rn
  ·have:(k:Int)<(rn:Int):=oM
   obtain⟨rb,ro,i,rfl,hi,hrb,be1⟩:=ag.at_ (af HR HB) hlt;have hdr:r.drop k=i::r.drop (k+1):=by
    rw[aH2 (oH NI)];rw[(d9.1 hi).2]
   have EZ:r.take (k+1)=r.take k++[i]:=by rw[aE3,hi];rfl
   have hwk:=HWk;rw[hdr]at hwk;obtain⟨j,o,rfl,ho,h2,h3,h4,h5⟩:=hwk;rw[<-EZ]at h5;have H5:=h5;have hjn:j<rn:=by have h9:=(d9.1 ho).1;have:=fJ;omega
   have: ¬(j:Int)<0:=oM
   have: ¬(rn:Int)<=(j:Int):=oM
   have:k<=rc:=oM
   have:wr.cell? ⟨rb,ro+k,none⟩=some (I6 (j:Int)):=by
    have h9:=be1 0 _ rfl
    simpa using h9
   have HT:=La HR (aU3 hlt);obtain⟨b,off,o',rfl,ho',fH,hcl⟩:=ag.at_ (af HS HB) hjn;rw[ho]at ho';injection ho' with ho'
   subst ho';have mC:wr.rangeAt b (off+j*27) o.cells:=λq v hv=>by have h9:=hcl q v hv;rw[<-aD9]at h9;exact h9
   have Qh:=fH;have HG:=HL o (aC1 ho);have HC:=zh (λW (h:Bl wr W)=>by
    have h9:=aY0 _ _ _ (r.take k) (j:Int) W (af HT (zT HB h));rw[h2]at h9;exact h9)
   have HFr:=zh (λW (h:Bl wr W)=>by
    have h9:=aY1 _ rn cap l _ _ _ (r.take k) j o W (af HS (zT HB h)) (af HT (zT HB h)) ho oM;rw[h3]at h9;exact h9)
   have Zn:=(λW=>aX9 o W HG.id);have kh:aa5 m (opE o) o.call.s:=⟨HM.room hc oM,HG.ev.call,HG.ev.note⟩;have RV:=zh (λW (h:Bl wr W)=>by
    have h9:=vE (opE o) o.call.s (HF.call h) kh;unfold ApR at h9;rw[h4]at h9;exact h9)
   have HMx:=HM.apply hc HG.ev;have HK:=K1;clear kh hi be1 ho h2 h3 h4 h5 hdr EZ fH hcl HWk HF HM;go_wp2_with(first
    |refine wpList_load_mid rfl aX0 (.tmp 55) rfl b (off+j*27) rfl o.cells _ (Jk mC Qh B3) underlying119 rfl kZ ?_
    |go_at_call 49;refine zM (HC _ bR) λw2 B2=>?_
    |go_at_call 50;refine zM (HFr _ B2) λw3 hb3=>?_;have B3:=zT B2 hb3;clear hb3
    |go_at_call 51;refine zM (Zn _) λw5 dx=>?_;have B5:=zT B3 dx;clear dx
    |(go_at_call 37;refine(RV _ B5).mono ?_;rintro e w6 ⟨rfl,A6,n6,c6,l6,hf6,Fc⟩))
   have B6:Bl w w6:=(zT HB B5).trans (Fc.below (B:=w.heap.size) (λq e=>e.elim (λe=>e ▸ HK.1) (λe=>e ▸ HK.2)) (aB4 HB.size B5.size));go_roundw
   case rel=>exact⟨k+1,_,A6,n6,c6,l6,oM,by go_num,hf6,HMx,H5,B6⟩
   case measure=>simp[intOf];omega
  ·have: ¬(k:Int)<(rn:Int):=oM
   go_wp2;go_ret;exact⟨rfl,HB⟩
section
theorem aZ8(t j:Int)(es:List Ev):∀k,k<=es.length->
 ((spq t j (es.take k)).fr = -1\/∃(i:Nat)(e:Ev),es[i]? = some e/\e.task=t/\e.nth=j/\e.kind=1/\(spq t j (es.take k)).fr=i)
 /\((spq t j (es.take k)).to = -1\/∃(i:Nat)(e:Ev),es[i]? = some e/\e.task=t/\e.nth=j/\e.kind=3/\(spq t j (es.take k)).to=i)
 |0,_=>⟨.inl rfl,.inl rfl⟩
 |k+1,hk=>by
  obtain⟨h1,h2⟩:=aZ8 t j es k oM;have he:es[k]? = some (es[k]'oM):=aB3 oM;rw[aZ5 he];generalize spq t j (es.take k)=s at *;unfold aX2
  split
  ·exact⟨h1,h2⟩
  rename_i hn
  split
  ·rename_i hk1;exact⟨.inr ⟨k,_,he,by omega,by omega,hk1,rfl⟩,h2⟩
  split
  ·exact⟨h1,h2⟩
  split
  ·rename_i hk3;exact⟨h1,.inr ⟨k,_,he,by omega,by omega,hk3,rfl⟩⟩
  ·exact⟨h1,h2⟩
def ba5(hK:es.Pairwise KOk)(hp:es[i]? = some p.1)(ho:aX3 es i p=some o):o.fr<=i/\(i:Int)<=o.to:=by
 have hi:=(d9.1 hp).1;unfold aX3 at ho
 split at ho
 ·rename_i k2
  injection ho with ho
  subst ho;obtain⟨h1,h2⟩:=aZ8 p.1.task p.1.nth es es.length lR;rw[aW7]at h1 h2;have pw:=List.pairwise_iff_getElem.1 hK;refine⟨?_,?_⟩
  ·rcases h1 with h1|⟨j,e,h3,h4,h5,h6,h7⟩
   ·show(spq p.1.task p.1.nth es).fr<=_
    omega
   ·show(spq p.1.task p.1.nth es).fr<=_
    rw[h7];refine Int.ofNat_le.2 (Nat.le_of_not_lt λhlt=>?_);have hj:=(d9.1 h3).1;have h9:=pw i j hi hj hlt;rw[(d9.1 hp).2,(d9.1 h3).2]at h9;have:=h9 h4.symm h5.symm oM oM;omega
  ·show(i:Int)<=if(spq p.1.task p.1.nth es).to<0 then(es.length:Int)else(spq p.1.task p.1.nth es).to
   rcases h2 with h2|⟨j,e,h3,h4,h5,h6,h7⟩
   ·rw[if_pos oM];omega
   ·rw[if_neg oM,h7]
    refine Int.ofNat_le.2 (Nat.le_of_not_lt λhlt=>?_);have h9:=pw j i (d9.1 h3).1 hi hlt;rw[(d9.1 hp).2,(d9.1 h3).2]at h9;have:=h9 h4 h5 oM oM;omega
 split at ho
 ·injection ho with ho
  subst ho;exact⟨aW5 _,aW5 _⟩
 ·cases ho
def bd7(hK:es.Pairwise KOk){zs:List (Ev×ByteArray)}(hz:es=zs.map Prod.fst):(aX4 es zs).Pairwise λo o'=>¬o'.to<o.fr:=by
 unfold aX4;rw[List.pairwise_filterMap];have hb:zs.zipIdx.Pairwise λq q'=>q.2<q'.2:=by
  rw[List.pairwise_iff_getElem];intro i j hi hj hij
  simpa using hij
 refine hb.imp_of_mem λ{q q'} hq hq' hlt o ho o' ho'=>?_
 have g:∀x∈zs.zipIdx,es[x.2]? = some x.1.1:=λx hx=>by
  rw[hz,List.getElem?_map,List.mem_zipIdx_iff_getElem?.1 hx];rfl
 have:=(ba5 hK (g q hq) ho).1;have:=(ba5 hK (g q' hq') ho').2;omega
def bb9(h:aX3 es i p=some o)(m:Fm):iz m (opE o) o.call.s=iz m p.1 p.2:=by
 unfold aX3 at h
 split at h
 ·rename_i k
  injection h with h
  subst h;unfold iz opE;simp[k]
 split at h
 ·rename_i k2 k6
  injection h with h
  subst h;unfold iz opE;simp[k2,k6]
 ·cases h
def bd3(h:aX3 es i p=some o)(hg:EvG p.1 p.2):OpG o:=by
 unfold aX3 at h
 split at h
 ·rename_i k
  injection h with h
  subst h;exact⟨⟨λ_=>hg.call k,λe=>absurd (show(2:Int)=6 from e) dC,λe=>absurd (show(2:Int)=6 from e) dC⟩,λe=>absurd (show false=true from e) dC⟩
 split at h
 ·rename_i k2 k6
  injection h with h
  subst h;exact⟨⟨λe=>absurd (show(6:Int)=2 from e) dC,λ_=>⟨(hg.note k6).1,rfl⟩,λ_=>hg.ei k6⟩,λ_=>(hg.note k6).1⟩
 ·cases h
def ba6:Fm->List SOp->Prop
 |_,[]=>True
 |m,o::l=>(iz m (opE o) o.call.s).1=true/\ba6 (iz m (opE o) o.call.s).2 l
theorem ba7(es:List Ev){s:aL} : ∀(zs:List (Ev×ByteArray))(i:Nat)(m:Fm),aX5 m zs s->ba6 m ((zs.zipIdx i).filterMap λq=>aX3 es q.2 q.1)
 |[],i,m,_=>trivial
 |p::zs,i,m,h=>by
  have ih:=ba7 es zs (i+1) _ h.2.2;rw[List.zipIdx_cons,List.filterMap_cons]
  split
  ·rename_i hn
   have hA:iz m p.1 p.2=(true,m):=by
    unfold aX3 at hn
    split at hn
    ·cases hn
    split at hn
    ·cases hn
    rename_i k2 k6;unfold iz;rw[if_neg k2,if_neg k6]
   rw[hA]at ih;exact ih
  ·rename_i o ho
   have e:=bb9 ho m;exact⟨e ▸ h.2.1,by show ba6 (iz m (opE o) o.call.s).2 _;rw[e];exact ih⟩
def ints(k:Nat):List Int:=(List.range k).map λ(i:Nat)=>(i:Int)
def bc4(k:Nat):ints (k+1)=ints k++[(k:Int)]:=by unfold ints;rw[List.range_succ,aG4];rfl
def aZ9(k j:Nat):(ints k).contains (j:Int)=decide (j<k):=by
 rw[Bool.eq_iff_iff];unfold ints;simp only[List.contains_iff_mem,aF2,aR8,decide_eq_true_eq];exact⟨λ⟨a,h1,h2⟩=>oM,λh=>⟨j,h,rfl⟩⟩
theorem ba8{l:List SOp}(hR:l.Pairwise λo o'=>¬o'.to<o.fr):∀(r pre:List SOp)(m:Fm),l=pre++r->ba6 m r->∃q,Way l m (ints pre.length) q
 |[],pre,m,e,_=>⟨[],by show(ints _).length=_;unfold ints;rw[e];simp⟩
 |o::r,pre,m,e,h=>by
  obtain⟨q,hq⟩:=ba8 hR r (pre++[o]) _ (by rw[e];simp) h.2;have ho:l[pre.length]? = some o:=by rw[e];simp
  refine⟨(pre.length:Int)::q,pre.length,o,rfl,ho,by rw[aZ9];simp,?_,h.1,?_⟩
  ·unfold aZ6
   rw[aI7];intro j hj;have xi:=aR8.1 hj;unfold aZ3;rw[aZ9,aB3 xi];rcases Nat.lt_trichotomy j pre.length with h1|h1|h1
   ·simp[h1]
   ·simp[h1]
   ·have h9:=List.pairwise_iff_getElem.1 hR pre.length j oM xi h1
    rw[(d9.1 ho).2]at h9;simp only[Option.any_some,decide_eq_false h9,Bool.and_false,Bool.not_false]
  ·have h9:ints (pre++[o]).length=ints pre.length++[(pre.length:Int)]:=by rw[aB8,aS8];exact bc4 _
   rw[<-h9];exact hq
section
variable{cf:aM}{ps:List (List ak)}{n:Nat}
def aX7.new(hc:cf.gV):aX7 cf (En.new cf ps n):=⟨⟨[],rfl,by
 have hs:∀i,((aL.new cf).str i).loads=[]:=λi=>by
  unfold aL.str aL.new;rw[aB7,List.getElem?_replicate]
  split<;>rfl
 have hk:∀i,((aL.new cf).str i).keys=[]:=λi=>by unfold bF.keys;rw[hs];rfl
 refine⟨rfl,λid hid=>?_,λid x hx=>(by cases hx),λid=>(by simp[Fm.new]),λid h=>(by cases h),List.Pairwise.nil,λi hi k h=>?_,λi hi=>?_,rfl,λi=>trivial,rfl,rfl⟩
 ·show aJ6 (aJ ((aL.new cf).str _).loads _) _
  rw[hs];exact trivial
 ·change k∈((aL.new cf).str i).keys at h
  rw[hk]at h;cases h
 ·show((aL.new cf).str i).keys.Nodup
  rw[hk];exact List.Pairwise.nil⟩,λx hx=>by
 unfold En.new at hx;simp only[aF2]at hx;obtain⟨i,-,rfl⟩:=hx;exact λhh=>absurd hh (by show ¬((0:Nat)=7\/(0:Nat)=8);decide)⟩
def bd8(hs:fZ cf ps n)(l:List Int):∃zs:List (Ev×ByteArray),((En.new cf ps n).run l).w.evs=zs.map Prod.fst/\(∀p∈zs,EvG p.1 p.2)/\(∃r,Way (aX4 (zs.map Prod.fst) zs) (Fm.new cf) [] r)/\∀o∈aX4 (zs.map Prod.fst) zs,OpG o:=by
 have hE:=pU.new (cf:=cf) (ps:=ps) (n:=n) hs;obtain⟨zs,e,hL⟩:=(aX7.run hs l _ hE (aX7.new hs.py)).lin;have hK:=(aY5.run hs l _ hE aY5.new).ord;rw[e]at hK;have hg:∀p∈zs,EvG p.1 p.2:=λp hp=>by
  obtain⟨k,hk⟩:=aD7 hp;exact(hL.at_ hk).1
 refine⟨zs,e,hg,ba8 (bd7 hK rfl) _ [] _ rfl (ba7 _ zs 0 _ hL),λo ho=>?_⟩;obtain⟨q,hq,hqo⟩:=List.mem_filterMap.1 ho;exact bd3 hqo (hg q.1 (aC1 (List.mem_zipIdx_iff_getElem?.1 hq)))
end
end
section
theorem bc5(cf:aM)(A:Option Addr)(len cap:Nat)(rows:List (bq ak))(wk:Int)(w:World)(hr:dK w 11 ak.cells A len cap rows)(hf:cf.fit)(rz:ix cf rows wk≠0)(hn:len<=32) :
 Calls prog 43 #[.agg cf.row,.slice A len cap,I6 wk] w (Rt (.tuple #[.pointer none,I6 (ix cf rows wk)]) (Bl w)):=by
 have EX:=zW w (.cells cf.row qw);have wN:=o7 cf A len cap rows wk (w.alloc (.cells cf.row qw)) (hr.keep EX).1 hf oM;have:(ix cf rows wk != 0)=true:=sH rz
 clear hr hf rz;generalize ix cf rows wk=E at *;go_enter func43,ntmps43;go_wp2_with(first
  |refine zI (ai.new w qw cf.row) underlying23 ?_
  |(go_at_call 99;refine wN.mono ?_;rintro e w1 ⟨rfl,hb1⟩;have B1:=zT EX hb1;clear hb1))
 go_ret2;exact⟨rfl,B1⟩
theorem bc6(cf:aM)(A:Option Addr)(len cap:Nat)(rows:List (bq ak))(wk:Int)(pv:Value)(w:World)(hr:dK w 11 ak.cells A len cap rows)(hf:cf.fit)(rz:ix cf rows wk≠0)(hn:len<=32) :
 Calls prog 14 #[.agg cf.row,.slice A len cap,I6 wk,pv] w (Rt (.tuple #[.agg iX,I6 (ix cf rows wk)]) (Bl w)):=by
 obtain⟨W0,hW0⟩:=zE ((w.alloc (.cells cf.row qw)).alloc (.cells iX outT));have EX:=(zW w (.cells cf.row qw)).alloc sI (.cells iX outT);have BX:=(ai.new w qw cf.row).alloc (.cells iX outT);have BY:=ai.dR w (.cells cf.row qw) outT iX;rw[<-hW0]at EX BX BY;have HW0:=zD hW0;have HBX:=BX;have HBY:=BY;have HEX:=EX;have nR:=bc5 cf A len cap rows wk W0 (hr.keep EX) hf rz hn;have:(ix cf rows wk != 0)=true:=sH rz
 clear hr hf rz hW0 BX BY EX;generalize ix cf rows wk=E at *;go_enter func14,ntmps14;go_upto_region 1 with fail
 rw[<-HW0.out];go_wp2_with(first
  |refine zI HBX underlying23 ?_
  |go_at_call 43;refine nR.mono ?_;rintro e w1 ⟨rfl,hb1⟩;have B1:=zT HEX hb1;have Y1:=HBY.call hb1;clear hb1
  |(refine zJ Y1 ?_;intro w9 X9 G9))
 exact bodyPost_ret (az rfl _ _ (w.heap.size+1) _ _ _ rfl X9 underlying31 rfl kZ) rfl ⟨rfl,B1.grown G9 B1.size (λk e=>by injection e;omega)⟩
section
variable{cf:aM}{A:Option Addr}{len cap:Nat}{rows:List (bq ak)}{wk:Nat}{rA:Option Addr}{rn rc:Nat}{raw:List Int}{w:World}
def bc7(hr:dK w 11 ak.cells A len cap rows)(hg:∀r∈rows,∀x∈r.l,bM x)(hf:cf.fit)(h8:cf.str<=8)(wD:kE rows (wk:Int) rn=true)(rz:ix cf rows (wk:Int)=0)(hs:dt w rA rn rc raw)(hp:∀x∈raw,aw x) :
 ∃zs:List (Ev×ByteArray),zs.length<=18000/\(∀p∈zs,EvG p.1 p.2)/\(∃r,Way (aX4 (zs.map Prod.fst) zs) (Fm.new cf) [] r)/\(∀o∈aX4 (zs.map Prod.fst) zs,OpG o)/\
  ∀W,Bl w W->Calls prog 14 #[.agg cf.row,.slice A len cap,I6 (wk:Int),.slice rA rn rc] W λe w'=>∃A n c u o A2 n2 c2 rs,e=.returned (.tuple #[.agg #[.slice A n c,I6 u,I6 o,.slice A2 n2 c2,.bool rs],I6 0])/\gS w' A n c (zs.map Prod.fst)/\Bl W w':=by
 obtain⟨l1,l2,l3,l4⟩:=JK wD;obtain⟨k1,k2,k3,k4,k5⟩:=MK rz;have:=hr.1.1;have Nl:∀r∈rows,r.l.length<=8:=λr h=>by have h1:=l1 r h;have:=(hr.2 r h).1;omega
 have hsm:fZ cf (rows.map bq.l) wk:=⟨hf,k1,h8,by rw[aC8];exact l2,oM,λp hp=>by
  obtain⟨r,h1,rfl⟩:=aF2.1 hp;exact⟨Nl r h1,hg r h1⟩⟩
 have hrl2:raw.length<=9000:=by have h1:=hs.1;omega
 obtain⟨zs,e1,e2,e3,e4⟩:=bd8 hsm raw;have Wa:=VR hsm raw hrl2;have hI:=pU.run hsm raw _ (pU.new hsm);have hzl:zs.length<=18000:=by
  have h1:=hI.1.gw.evs;have:=hI.2;have:(En.new cf (rows.map bq.l) wk).used=0:=rfl;rw[e1,aC8]at h1;omega
 have hF:=λW (hb:Bl w W)=>QW cf A len cap rows wk rA rn rc raw W (hr.keep hb) hf k1 rz oM oM (λr h=>aB4 (l1 r h) dC) (af hs hb) hp oM Wa.1 Wa.2
 refine⟨zs,hzl,e2,e3,e4,λW hb=>?_⟩;refine(hF W hb).mono ?_;rintro e w' ⟨A,n,c,A2,n2,c2,rfl,ho,hb2⟩;rw[e1]at ho;exact⟨A,n,c,_,_,A2,n2,c2,_,rfl,ho.is (λ_=>rfl),hb2⟩
end
theorem bd4(c0 c1 c2 c3:Int)(A:Option Addr)(len cap:Nat)(rows:List (bq ak))(wk:Int)(rA:Option Addr)(rn rc:Nat)(raw:List Int)(w:World)(i0:aw c0)(i1:aw c1)(i2:aw c2)(i3:aw c3)(hr:dK w 11 ak.cells A len cap rows)(hg:∀r∈rows,∀x∈r.l,bM x)(hwk:aw wk)(hs:dt w rA rn rc raw)(hg2:∀x∈raw,aw x) :
 Calls prog 4 #[.agg #[I6 c0,I6 c1,I6 c2,I6 c3],.slice A len cap,I6 wk,.slice rA rn rc] w (Rt (.bool true) (Bl w)):=by
 obtain⟨cf,rfl,rfl,rfl,rfl⟩:∃cf:aM,c0=cf.str/\c1=cf.dE/\c2=cf.lW/\c3=cf.iI:=⟨⟨c0,c1,c2,c3⟩,rfl,rfl,rfl,rfl⟩
 have hf:cf.fit:=⟨i0,i1,i2,i3⟩;have EX:=zW w (.cells cf.row qw);have BX:=ai.new w qw cf.row;have Ee:=(λW (hb:Bl w W)=>Rv cf A len cap rows wk rA rn rc W (af hr.1 hb));have HR:=hr;have HG:=hg;have HS:=And.intro hs hg2;have HF:=hf;have qB:=hr.1.1;clear hr hg hs hg2 hf hwk i0 i1 i2 i3;go_enter func4,ntmps4;go_upto_region 3 with(go_at_call 7;refine zM (Ru _) λw1 hb1=>?_;have B1:=zT EX hb1;have X1:=BX.call hb1;clear hb1)
 cases hQ:(decide (cf.str<=8)&&kE rows wk rn)with
 |false=>
  have zu:=(λW (hb:Bl w W)=>by have h9:=Ee W hb;rw[hQ]at h9;exact h9);clear hQ Ee;go_wp2_with(first
   |refine zI X1 underlying23 ?_
   |(go_at_call 8;refine zM (zu _ B1) λw2 hb2=>?_;have B2:=zT B1 hb2;clear hb2))
  go_ret;exact⟨rfl,B2⟩
 |true=>
 have zu:=(λW (hb:Bl w W)=>by have h9:=Ee W hb;rw[hQ]at h9;exact h9);have h8:cf.str<=8/\kE rows wk rn=true:=sH hQ
 have H8:=h8;clear hQ Ee h8;go_upto_region 5 with(first
  |refine zI X1 underlying23 ?_
  |(go_at_call 8;refine zM (zu _ B1) λw2 hb2=>?_;have B2:=zT B1 hb2;have X2:=X1.call hb2;clear hb2))
 clear zu;have:len<=5:=by have:=(JK H8.2).2.1;have h2:=qB;omega
 by_cases rz:ix cf rows wk=0
 ·obtain⟨k,rfl⟩:∃k:Nat,wk=(k:Int):=⟨wk.toNat,oH (MK rz).2.1⟩
  obtain⟨zs,e1,e2,e3,e4,hRu⟩:=bc7 HR HG HF H8.1 H8.2 rz HS.1 HS.2;have HRu:=hRu;have HE:=And.intro e1 (And.intro e2 (And.intro e3 e4));have HC:=(MK rz).1;clear hRu e1 e2 e3 e4 rz;obtain⟨l,hl⟩:=zE (aX4 (zs.map Prod.fst) zs);have HOf:=(λA3 n3 c3 W (h:gS W A3 n3 c3 (zs.map Prod.fst))=>aZ1 A3 n3 c3 zs W h (by have:=HE.1;have h2:=h.1;rw[aC8]at h2;omega) HE.2.1);rw[<-hl]at HOf HE;clear hl;go_upto_region 6 with(first
   |refine zI X2 underlying23 ?_
   |(go_at_call 14;refine(HRu _ B2).mono ?_;rintro e w3 ⟨A3,n3,c3,u3,o3,A4,n4,c4,rs,rfl,E3,hb3⟩;have B3:=zT B2 hb3;have X3:=X2.call hb3;clear hb3))
  obtain⟨W4,JX⟩:=zE (w3.alloc (.cells #[.slice A3 n3 c3,I6 u3,I6 o3,.slice A4 n4 c4,.bool rs] outT));have R4:=zW w3 (.cells #[.slice A3 n3 c3,I6 u3,I6 o3,.slice A4 n4 c4,.bool rs] outT);rw[<-JX]at R4;have:W4.cell? ⟨w3.heap.size,0,none⟩=some (.slice A3 n3 c3):=by rw[JX];exact(ai.new w3 outT _).z 0 (.slice A3 n3 c3)
  have E4:=af E3 R4;have B4:=zT B3 R4;have X4:=X3.call R4;rw[<-JX];clear JX R4 E3 X3 B3 X1 X2 B1 B2;go_upto_region 7 with(go_at_call 15;refine(HOf _ _ _ _ E4).mono ?_;rintro e w5 ⟨A5,n5,c5,rfl,kG,dx⟩;have O5:aY6 w5 A5 n5 c5 l:=kG.is aY4;have B5:=zT B4 dx;have X5:=X4.call dx;clear kG dx)
  by_cases h5:5<n5
  ·have:decide ((5:Int)<(n5:Int))=true:=decide_eq_true oM
   go_wp2;go_ret;exact⟨rfl,B5⟩
  ·have:decide ((5:Int)<(n5:Int))=false:=decide_eq_false oM
   have HFi:=aZ7 cf HF HC l HE.2.2.2 A5 n5 c5 w5 O5 oM HE.2.2.1;have HIs:=(λrA6 rn6 rc6 r W (h:Bl w5 W) hr hw=>bb8 cf HF HC l HE.2.2.2 A5 n5 c5 rA6 rn6 rc6 r W (af O5 h) hr oM hw);clear h5 HOf HE HRu;go_upto_region 10 with(first
    |refine zI X5 underlying23 ?_
    |(go_at_call 16;refine HFi.mono ?_;rintro e w6 ⟨A6,n6,c6,r6,rfl,S6,R6,W6⟩;have X6:=X5.call S6;have B6:=zT B5 S6))
   have:=X6.z 0 (I6 cf.str);have:=X6.z 1 (I6 cf.dE);have:=X6.z 2 (I6 cf.lW);have:=X6.z 3 (I6 cf.iI);go_wp2_with(go_at_call 17;refine zM (HIs _ _ _ _ _ S6 R6 W6) λw7 lV=>?_;have B7:=zT B6 lV;clear lV);go_ret;exact⟨rfl,B7⟩
 ·have NI:=(λW (hb:Bl w W)=>bc6 cf A len cap rows wk (.slice rA rn rc) W (HR.keep hb) HF rz oM)
  have:(ix cf rows wk != 0)=true:=sH rz
  have HOf:=(λW=>aZ1 none 0 0 [] W (OI _ _ _) oM (λp hp=>by cases hp));clear rz;generalize ix cf rows wk=E at *;go_wp2_with(first
   |refine zI X2 underlying23 ?_
   |go_at_call 14;refine zM (NI _ B2) λw3 hb3=>?_;have B3:=zT B2 hb3;clear hb3
   |(go_at_call 15;refine(HOf _).mono ?_;rintro e w5 ⟨A5,n5,c5,rfl,kG,dx⟩;have B5:=Below.trans (B3.alloc B3.size _) (dx.mono (by first|exact aB4 B3.size sI|omega));clear kG dx))
  go_ret;exact⟨rfl,B5⟩
end
end Go.Proofs.YtjgmjohiehbgaaaGreat
