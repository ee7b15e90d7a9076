/- Part 14. -/
import Derived.Test.YtjgmjohiehbgaaaGreatQ12
namespace Go.Proofs.YtjgmjohiehbgaaaGreat
open Go.RowKit Go.Proofs.Tryz
set_option maxHeartbeats 20000000
set_option maxRecDepth 100000
set_option linter.all false
variable{A p:Option Addr}{S:Nat->Prop}{T:Tag->Prop}{b bt cap cc g gt i j k n:Nat}{c:bh}{cf:aM}{cs:Array Value}{es:List bo}{fp:Int->Option Nat}{ks:List Int}{l:List (Key×Ld)}{m:ug}{ps:List Nat}{rows:List (bq bo)}{s:aL}{t:TypeId}{v:Value}{w w':World}{x:Ld}{α:Type}
theorem yo:∀N,ah1 N
 |0=>λg n c a m b P X Y Q w hN ha hm hb hX hY hn fo sX sY h=>by omega
 |N+1=>λg n c a m b P X Y Q w hN ha hm hb hX hY hn fo sX sY h=>by
  have IH:=yo N
  by_cases h1:X.length=1
  ·obtain⟨x,rfl⟩:=List.length_eq_one_iff.1 h1
   exact yn g n c a m b P Q x Y w ha (by simpa using hm) hb hY hn fo sY h
  ·by_cases h2:Y.length=1
   ·obtain⟨y,rfl⟩:=List.length_eq_one_iff.1 h2
    exact vT g n c a m b P Q y X w ha hm (by simpa using hb) oM hn fo sX h
   ·by_cases h3:(a+b) / 2<m
    ·exact oT N IH g n c a m b _ _ P X Y Q w hN ha hm hb oM oM hn fo (.inl ⟨h3,rfl,rfl⟩) sX sY h
    ·exact oT N IH g n c a m b _ _ P X Y Q w hN ha hm hb oM oM hn fo (.inr ⟨h3,rfl,rfl⟩) sX sY h
theorem Ig(fv:Value)(w:World):Calls prog 311 #[.slice none 0 0,I6 0,I6 0,fv] w λe w'=>e=.returned (.tuple #[])/\w=w':=by
 go_enter func311,ntmps311;go_wp2;refine wp_loop_rounds 1 ?_;rw[rounds_succ];go_wp2;go_returns;exact⟨rfl,rfl⟩
theorem Ih(fv:Value)(w:World):Calls prog 304 #[.slice none 0 0,I6 0,fv] w λe w'=>e=.returned (.tuple #[])/\w=w':=by
 go_enter func304,ntmps304;go_wp2;refine wp_loop_rounds 1 ?_;rw[rounds_succ];go_wp2_with(go_at_call 311;refine zN (Ig _ _) ?_);refine wp_loop_rounds 1 ?_;rw[rounds_succ];go_wp2;go_returns;exact⟨rfl,rfl⟩
def yq(g n c a b:Nat)(P S Q L:List bo)(w:World)(ha:a=P.length)(hb:b=a+S.length)(hn:b+Q.length=n)(hm:n<=100000)(hL:P++bL cY S++Q=L)(h:bI w g (P++S++Q)) :
 Calls prog 311 #[.slice (some ⟨g,0,none⟩) n c,I6 a,I6 b,ia] w (kj w g L):=by
 subst hL;exact uo g n c a b P S Q w ha hb hn hm h
def Lj(g n c a m b:Nat)(P X Y Q L:List bo)(w:World)(ha:a=P.length)(hm:m=a+X.length)(hb:b=m+Y.length)(hX:0<X.length)(hY:0<Y.length)(hn:b+Q.length=n)(fo:n<=100000)(hL:P++bL cY (X++Y)++Q=L)(h:bI w g (P++bL cY X++bL cY Y++Q)) :
 Calls prog 312 #[.slice (some ⟨g,0,none⟩) n c,I6 a,I6 m,I6 b,ia] w (kj w g L):=by
 rw[DB wL iw]at hL;subst hL;exact yo (b-a) g n c a m b P (bL cY X) (bL cY Y) Q w lR ha (by rw[fx];exact hm) (by rw[fx];exact hb) (by rw[fx];exact hX) (by rw[fx];exact hY) hn fo (jM wL iw X) (jM wL iw Y) h
theorem Uw(g n c:Nat)(l:List bo)(w:World)(hn:l.length=n)(h1:n<20)(h:bI w g l):Calls prog 304 #[.slice (some ⟨g,0,none⟩) n c,I6 n,ia] w (kj w g (bL cY l)):=by
 have HC:=yq g n c 0 n [] l [] (bL cY l) w rfl oM sI oM sI (sH h);have:(n:Int)<20:=oM
 clear h h1 hn;go_enter func304,ntmps304;go_wp2;refine wp_loop_rounds 1 ?_;rw[rounds_succ];go_wp2_with fail
 with_reducible (refine Calls.mono HC ?_)
 rintro e w1 ⟨rfl,ha1,hu1⟩;have A1:=ha1;have U1:=hu1;clear ha1 hu1;go_wp2;refine wp_loop_rounds 1 ?_;rw[rounds_succ];go_wp2;go_returns;exact⟨rfl,A1,U1⟩
section
section
variable{g n c:Nat}{a b m:Int}{w:World}{L:List bo}
def qY(P S Q:List bo)(h:bI w g L)(hL:L=P++S++Q:=by simp[bL])(hl:(a=(P.length:Nat)/\b=((P.length+S.length:Nat):Int)/\P.length+S.length+Q.length=n/\n<=100000):=by simp only[aB8,aG6,fx];omega) :
 Calls prog 311 #[.slice (some ⟨g,0,none⟩) n c,I6 a,I6 b,ia] w (kj w g (P++bL cY S++Q)):=by
 obtain⟨rfl,rfl,h3,h4⟩:=hl;exact yq g n c _ _ P S Q _ w rfl rfl h3 h4 rfl (hL ▸ h)
def Ux(X Y:List bo)(h:bI w g L)(hL:L=bL cY X++bL cY Y:=by simp[bL])(hl:(a=0/\m=(X.length:Nat)/\b=n/\X.length+Y.length=n/\0<X.length/\0<Y.length/\n<=100000):=by omega) :
 Calls prog 312 #[.slice (some ⟨g,0,none⟩) n c,.int .i64 a,.int .i64 m,.int .i64 b,ia] w (kj w g (bL cY (X++Y))):=by
 obtain⟨rfl,rfl,rfl,h3,h4,h5,h6⟩:=hl;exact Lj g n c 0 _ n [] X Y [] _ w rfl (by simp) (by omega) h4 h5 (by simp) h6 (by simp) (by subst hL;simpa using h)
theorem Uy(g c:Nat)(A:List bo)(w:World)(lA:A.length=20)(h:bI w g A):Calls prog 304 #[.slice (some ⟨g,0,none⟩) 20 c,I6 20,ia] w (kj w g (bL cY (A))):=by
 have U0:=ah.refl (λk=>k=g) w;go_enter func304,ntmps304;go_wp2;refine wp_loop_rounds 2 ?_;rw[rounds_succ];go_wp2_with fail
 with_reducible (refine Calls.mono (qY [] A [] h) ?_)
 rintro e w1 ⟨rfl,A1,hu⟩;have U1:=U0.trans hu iL;go_wp2;rw[rounds_succ];go_wp2_with fail
 with_reducible (refine Calls.mono (qY (bL cY A) [] [] A1) ?_)
 rintro e w2 ⟨rfl,A2,hu⟩;go_wp2;refine wp_loop_rounds 1 ?_;rw[rounds_succ];go_wp2;go_returns;exact⟨rfl,by simpa[bL]using A2,(U1.trans hu iL)⟩
theorem Uz(g c:Nat)(n:Nat)(A B:List bo)(w:World)(lA:A.length=20)(hn:20+B.length=n)(h1:20<n)(h2:n<40)(h:bI w g (A++B)):Calls prog 304 #[.slice (some ⟨g,0,none⟩) n c,I6 n,ia] w (kj w g (bL cY (A++B))):=by
 have:(20:Int)<=(n:Int):=oM
 have:(20:Int)<(n:Int):=oM
 have:(n:Int)<(40:Int):=oM
 have U0:=ah.refl (λk=>k=g) w;go_enter func304,ntmps304;go_wp2;refine wp_loop_rounds 2 ?_;rw[rounds_succ];go_wp2_with fail
 with_reducible (refine Calls.mono (qY [] A B h) ?_)
 rintro e w1 ⟨rfl,A1,hu⟩;have U1:=U0.trans hu iL;go_wp2;rw[rounds_succ];go_wp2_with fail
 with_reducible (refine Calls.mono (qY (bL cY A) B [] A1) ?_)
 rintro e w2 ⟨rfl,A2,hu⟩;have U2:=U1.trans hu iL;go_wp2;refine wp_loop_rounds 2 ?_;rw[rounds_succ];go_wp2;refine wp_loop_rounds 1 ?_;rw[rounds_succ];go_wp2_with fail
 with_reducible (refine Calls.mono (Ux A B A2) ?_)
 rintro e w3 ⟨rfl,A3,hu⟩;go_wp2;rw[rounds_succ];go_wp2;go_returns;exact⟨rfl,sH A3,(U2.trans hu iL)⟩
theorem UA(g c:Nat)(A B:List bo)(w:World)(lA:A.length=20)(lB:B.length=20)(h:bI w g (A++B)):Calls prog 304 #[.slice (some ⟨g,0,none⟩) 40 c,I6 40,ia] w (kj w g (bL cY (A++B))):=by
 have U0:=ah.refl (λk=>k=g) w;go_enter func304,ntmps304;go_wp2;refine wp_loop_rounds 3 ?_;rw[rounds_succ];go_wp2_with fail
 with_reducible (refine Calls.mono (qY [] A B h) ?_)
 rintro e w1 ⟨rfl,A1,hu⟩;have U1:=U0.trans hu iL;go_wp2;rw[rounds_succ];go_wp2_with fail
 with_reducible (refine Calls.mono (qY (bL cY A) B [] A1) ?_)
 rintro e w2 ⟨rfl,A2,hu⟩;have U2:=U1.trans hu iL;go_wp2;rw[rounds_succ];go_wp2_with fail
 with_reducible (refine Calls.mono (qY (bL cY A++bL cY B) [] [] A2) ?_)
 rintro e w3 ⟨rfl,A3,hu⟩;have U3:=U2.trans hu iL;go_wp2;refine wp_loop_rounds 2 ?_;rw[rounds_succ];go_wp2;refine wp_loop_rounds 2 ?_;rw[rounds_succ];go_wp2_with fail
 with_reducible (refine Calls.mono (Ux A B A3) ?_)
 rintro e w4 ⟨rfl,A4,hu⟩;go_wp2;rw[rounds_succ];go_wp2;rw[rounds_succ];go_wp2;go_returns;exact⟨rfl,sH A4,(U3.trans hu iL)⟩
end
end
def AZ(g n c:Nat)(l:List bo)(w:World)(hn:l.length=n)(h40:n<=40)(h:bI w g l):Calls prog 304 #[.slice (some ⟨g,0,none⟩) n c,I6 n,ia] w (kj w g (bL cY l)):=by
 have e2:l.take 20++l.drop 20=l:=aF0 _ _
 by_cases h1:n<20
 ·exact Uw g n c l w hn h1 h
 ·by_cases h2:n=20
  ·subst h2;exact Uy g c l w hn h
  ·by_cases h3:n<40
   ·rw[<-e2]at h |-
    exact Uz g c n _ _ w (by rw[aC3];omega) (by rw[aD2];omega) oM h3 h
   ·obtain rfl:n=40:=oM
    rw[<-e2]at h |-;exact UA g c _ _ w (by rw[aC3];omega) (by rw[aD2];omega) h
theorem sD(g n c:Nat)(l:List bo)(w:World)(hn:l.length=n)(h40:n<=40)(h:bI w g l):Calls prog 284 #[.slice (some ⟨g,0,none⟩) n c,ia] w (kj w g (bL cY l)):=by
 have HC:=AZ g n c l w hn h40 h;clear h;go_enter func284,ntmps284;go_wp2_with fail
 with_reducible (refine Calls.mono HC ?_)
 rintro e1 w1 ⟨rfl,ha1,hu1⟩;have A1:=ha1;have U1:=hu1;clear ha1 hu1;go_wp2;go_returns;exact⟨rfl,A1,U1⟩
theorem qZ(w:World):Calls prog 284 #[.slice none 0 0,ia] w λe w'=>e=.returned (.tuple #[])/\w=w':=by
 go_enter func284,ntmps284;go_wp2_with(go_at_call 304;refine zN (Ih _ _) ?_);go_returns;exact⟨rfl,rfl⟩
def bI.own{base c:Nat}{l:List bo}(h:Own w base kP 3 bo.cells (.slice (some ⟨g,0,none⟩) n c) l):bI w g l/\n=l.length/\n<=c/\c<=maxLen/\base<=g:=by
 rcases h.2 with⟨hv,-⟩|⟨g',cap,cur,hv,hb,hg,mF,hcm,hcs,EZ⟩
 ·cases hv
 ·cases hv
  exact⟨⟨cur,hg,hcs▸aE9 3 mF,EZ⟩,rfl,mF,hcm,hb⟩
abbrev Ll:TypeId:=228
def ah2(w:World)(l:List bo)(e:Ending)(w' : World):Prop:=∃A n c,e=.returned (.slice A n c)/\Own w' w.heap.size kP 3 bo.cells (.slice A n c) l/\Bl w w'
theorem Ba(A:Option Addr)(n c:Nat)(l:List bo)(w:World)(hs:Lg w A n c l)(hn:n<=100000) :
 Calls prog 283 #[.slice A n c] w (ah2 w l):=by
 cases A with
 |none=>
  obtain⟨rfl,rfl⟩:=hs.2.2.2.1 rfl;have hl:l=[]:=aC0 hs.1;subst hl;have:=λ(W:World)=>Lib.run_eql_slice_nil (P:=prog) W Ll kP none 0 0 0 0 underlying228
  go_enter func283,ntmps283;go_wp2;go_ret;exact⟨none,0,0,rfl,Own.nil _ _ _ _ _,Below.refl _ _⟩
 |some a=>
  have:=λ(W:World)=>Lib.run_eql_slice_nil (P:=prog) W Ll kP (some a) n c 0 0 underlying228
  have HS:=af hs (show Bl w (w.alloc (.cells #[] kP)) by go_grown);have HO:Own (w.alloc (.cells #[] kP)) w.heap.size kP 3 bo.cells (.slice (some ⟨w.heap.size,0,none⟩) 0 0) []:=World.ownsRow_made w #[] 0 lR (aB6 _) rfl;clear hs;go_enter func283,ntmps283;go_wp2_with(at_builtin;refine fP _ rfl (.tmp 5) (.tmp 6) Ll rfl w.heap.size kP _ 3 24 bo.cells underlying228 yj rF dC (λ_=>rfl) DC (.slice (some ⟨w.heap.size,0,none⟩) 0 0) [] rfl HO (some a) n c l rfl HS sM dC sI ?_;intro v' w1 ho aT hgr;have HV:=ho;have HB:=Below.trans (show Bl w (w.alloc (.cells #[] kP)) by go_grown) aT;clear ho aT hgr);go_ret;obtain⟨A',n',c',rfl,-,-⟩:=HV.shape gN;exact⟨A',n',c',rfl,HV,HB⟩
def jl(w:World)(A:Option Addr)(n c:Nat)(es:List bo):Prop:=(A=none/\n=0/\c=0/\es=[])\/∃g,A=some ⟨g,0,none⟩/\bI w g es/\n=es.length/\n<=c/\c<=maxLen
def jl.upd{c:Nat}(h:jl w A n c es)(hu:ah S w w')(hn:∀a,A=some a->¬S a.block):jl w' A n c es:=by
 rcases h with h|⟨g,rfl,h1,h2⟩
 ·exact .inl h
 ·exact .inr ⟨g,rfl,h1.upd hu (hn _ rfl),h2⟩
def jl.call{c:Nat}(h:jl w A n c es)(hb:Bl w w'):jl w' A n c es:=h.upd (S:=λ_=>False) (ah.aa hb) (λ_ _ h=>h)
def jl.len{c:Nat}(h:jl w A n c es):n=es.length:=by
 rcases h with⟨-,h,-,rfl⟩|⟨g,-,-,h,-⟩
 ·exact h
 ·exact h
def jl.lt{c:Nat}(h:jl w A n c es): ∀a,A=some a->a.block<w.heap.size:=by
 rcases h with⟨h,-⟩|⟨g,h,h1,-⟩
 ·intro a ha;rw[h]at ha;cases ha
 ·intro a ha;rw[h]at ha;cases ha;exact h1.lt
def ax4(w:World)(es:List bo)(e:Ending)(w' : World):Prop:=∃A n c,e=.returned (.slice A n c)/\jl w' A n c es/\(∀a,A=some a->w.heap.size<=a.block)/\Bl w w'
theorem DG(A:Option Addr)(n c:Nat)(l:List bo)(w:World)(hs:Lg w A n c l)(hn:n<=40) :
 Calls prog 243 #[.slice A n c] w (ax4 w (bL cY l)):=by
 have HC:=Ba A n c l w hs oM;have HL:=hs.1;clear hs;go_enter func243,ntmps243;go_wp2_with(go_at_call 283;refine HC.mono ?_;rintro e w1 ⟨A1,n1,c1,rfl,O1,B1⟩);rcases O1.2 with⟨hv,h0⟩|⟨g,cap,cur,hv,-⟩
 ·injection hv with e1 e2 e3
  subst e1;subst e2;subst e3;have hl:l=[]:=aC0 h0;subst hl;clear h0;go_wp2_with(go_at_call 284;refine zN (qZ _) ?_);go_ret;exact⟨none,0,0,rfl,.inl ⟨rfl,rfl,rfl,rfl⟩,(λa h=>by cases h),B1⟩
 ·injection hv with e1 e2 e3
  subst e1;clear e2 e3;obtain⟨ha,M4,hc1,Cv,hg1⟩:=bI.own O1;have HS:=sD g n1 c1 l w1 M4.symm (by rw[M4];have:=HL;omega) ha;have HI:=(λW (h:bI W g (bL cY l))=>(show jl W (some ⟨g,0,none⟩) n1 c1 (bL cY l)from .inr ⟨g,rfl,h,by rw[fx];exact M4,hc1,Cv⟩));have HG:=hg1;clear ha M4 hc1 Cv hg1;go_wp2_with(go_at_call 284;refine HS.mono ?_;rintro e w2 ⟨rfl,A2,U2⟩);go_ret;exact⟨_,_,_,rfl,HI _ A2,(λa h=>by cases h;exact HG),B1.trans (U2.below (λk hk=>hk▸HG) B1.size)⟩
def nK(h:eA w c cf p x): ∃g,p=some ⟨g,0,none⟩/\Calls prog 242 #[.pointer p] w λe w'=>e=.returned (.bool true)/\w=w':=by
 obtain⟨F,h1,-⟩:=h;obtain⟨g,_,_,e,_⟩:=h1.blk;exact⟨g,e,Gm p F cf x true w h1⟩
def uq(h:eA w c cf p x):Calls prog 242 #[.pointer p] w λe w'=>e=.returned (.bool true)/\w=w':=by
 obtain⟨g,-,h⟩:=nK h;exact h
abbrev ctT:TypeId:=315
abbrev Ii(ep:Int)(A:Option Addr)(n c:Nat):Array Value:=#[I6 ep,.slice A n c]
structure CnI(w wr:World)(ep:Int)(g:Nat)(A:Option Addr)(n c:Nat)(es:List bo):Prop where
 blk:ai wr g ctT (Ii ep A n c)
 own:Own wr w.heap.size kP 3 bo.cells (.slice A n c) es
 ne:(Value.slice A n c).ownBlock≠some g
 CR:Bl w wr
 gb:w.heap.size<=g
def CnI.call{wr: World}{ep:Int}{c:Nat}(h:CnI w wr ep g A n c es)(hb:Bl wr w'):CnI w w' ep g A n c es:=
 ⟨h.blk.call hb,h.own.below hb (λk hk=>(World.ownsRow.lt h.own k hk).2),h.ne,zT h.CR hb,h.gb⟩
def jb(rows:List (bq bo)):List bo:=rows.flatMap bq.l
def Cw{r:bq bo}(h:rows[k]? = some r):jb (rows.take (k+1))=jb (rows.take k)++r.l:=by
 unfold jb;rw[aE3,h,aH0];simp
def YJ{r:bq bo}(h:rows[k]? = some r):(jb (rows.take k)).length+r.l.length<=(jb rows).length:=by
 have h1:jb rows=jb (rows.take (k+1))++jb (rows.drop (k+1)):=by unfold jb;rw[<-aH0,aF0]
 rw[h1,Cw h];simp only[aB8];omega
def YK{len:Nat}{rows:List (bq α)}(h:ag w 1 bq.hdr A len cap rows)(hk:k<len):
 ∃(b off:Nat)(r:bq α),A=some ⟨b,off,none⟩/\rows[k]? = some r/\b<w.heap.size/\w.cell? ⟨b,off+k,none⟩=some (.slice r.A r.n r.c):=by
 obtain⟨b,off,r,h1,h2,h3,h4⟩:=ag.at_ h hk;exact⟨b,off,r,h1,h2,h3,sH (h4 0 _ rfl)⟩
def ah3{len:Nat}{l:List bo}(h:Lg w A len cap l)(hk:k<len):
 ∃(b off:Nat)(x:bo),A=some ⟨b,off,none⟩/\l[k]? = some x/\b<w.heap.size/\w.cell? ⟨b,off+k*3,none⟩=some (V6 x.key.hi)/\w.cell? ⟨b,off+k*3+1,none⟩=some (V6 x.key.lo)/\w.cell? ⟨b,off+k*3+2,none⟩=some (.pointer x.ptr):=by
 obtain⟨b,off,r,h1,h2,h3,h4⟩:=ag.at_ h hk;exact⟨b,off,r,h1,h2,h3,sH (h4 0 _ rfl),by have:=h4 1 _ rfl;simpa[aD9]using this,by have:=h4 2 _ rfl;simpa[aD9]using this⟩
def ax5(w:World)(ep:Int)(es:List bo)(e:Ending)(w' : World):Prop:=∃g A n c,e=.returned (pt g)/\ai w' g ctT (Ii ep A n c)/\jl w' A n c es/\w.heap.size<=g/\(∀a,A=some a->w.heap.size<=a.block)/\Bl w w'
theorem UB(ep:Int)(A:Option Addr)(n cap:Nat)(rows:List (bq bo))(w:World)(hr:dK w 3 bo.cells A n cap rows)(hn:n<=1000)(ht:(jb rows).length<=40)(hf:∀r∈rows,∀e∈r.l,∃c cf x,eA w c cf e.ptr x) :
 Calls prog 191 #[I6 ep,.slice A n cap] w (ax5 w ep (bL cY (jb rows))):=by
 have HR:=zD hr;have HLr:=zD hr.1.1;have HF:=zD hf;have HT:=zD ht;have H0:=zD (show CnI w (w.alloc (.cells (Ii ep none 0 0) ctT)) ep w.heap.size none 0 0 (jb (rows.take 0))from⟨ai.new _ _ _,Own.nil _ _ _ _ _,(λe=>by simp[Value.ownBlock]at e),gW,aC2 _⟩);clear hr hf ht;go_enter func191,ntmps191;go_wp2;go_loopw[15] (λi wr=>∃(k:Nat)(A2:Option Addr)(n2 c2:Nat),k<=n/\i = I6 k/\CnI w wr ep w.heap.size A2 n2 c2 (jb (rows.take k))) (λi _=>n-(intOf i).toNat)
 case atStart=>exact⟨0,none,0,0,aB6 _,rfl,H0.out⟩
 case round=>
  obtain⟨k,A2,n2,c2,hk,rfl,hin⟩:=hrel;have HI:=zD hin;clear hin
  by_cases hlt:k<n
  ·obtain⟨b,off,r,rfl,hx,hb,t0⟩:=YK (af HR.out.1 (HI.out.CR)) hlt
   have:(k:Int)<(n:Int):=oM
   have HX:=zD hx;have HRl:=zD (HR.out.2 r (aC1 hx));have NI:=zD HRl.out.1;have HFr:=zD (HF.out r (aC1 hx));have Xg:=zD (YJ hx);obtain⟨Ar,rn,rc,l⟩:=r;dsimp only at HRl NI HFr Xg t0;have:rn<=40:=by have:=NI.out;have:=Xg.out;have:=HT.out;omega
   clear hx hb;obtain⟨w5,rfl⟩:=zE wr;go_wp2;go_loopw[21] (λi wr=>∃(j:Nat)(A3:Option Addr)(n3 c3:Nat),j<=rn/\i = I6 j/\CnI w wr ep w.heap.size A3 n3 c3 (jb (rows.take k)++l.take j)) (λi _=>rn-(intOf i).toNat)
   case atStart=>exact⟨0,A2,n2,c2,aB6 _,rfl,sH HI.out⟩
   case round=>
    obtain⟨j,A3,n3,c3,hj,rfl,hin⟩:=hrel;have HJ:=zD hin;clear hin
    by_cases hlt2:j<rn
    ·obtain⟨b2,gY,x,rfl,hx,hb,t1,t2,t3⟩:=ah3 (af HRl.out HJ.out.CR) hlt2
     have:(j:Int)<(rn:Int):=oM
     have:=zD hx;obtain⟨cx,cfx,y,hfz⟩:=HFr.out x (aC1 hx);have EX:=zD (zW wr (.cells x.row kP));obtain⟨gp,hgp,-⟩:=nK hfz;have HFz:=zD (uq (hgp ▸ ((hfz.call HJ.out.CR).call EX.out)));have HJ1:=zD (HJ.out.call EX.out);have BX:=zD (ai.new wr kP x.row);have mW:=zD (show(Value.slice A3 n3 c3).ownBlock≠some wr.heap.size/\w.heap.size≠wr.heap.size from⟨λe=>oH (World.ownsRow.lt HJ.out.own _ e).2,oH HJ.out.blk.lt⟩);have Xp:=zD (show(jb (rows.take k)++l.take j).length<1000000 from by
      have:=Xg.out;have:=HT.out;have:(l.take j).length<=l.length:=by rw[aC3];omega
      rw[aB8];omega)
     have fG:=zD (show l.take (j+1)=l.take j++[x]from by rw[aE3,hx];rfl);have x2:=BX.out.z 2 (.pointer x.ptr);rw[hgp]at x2;have:=zD hgp;clear hx hb hfz hgp HJ;go_upto_region 9 with(go_at_call 242;refine HFz.out.mono ?_;rintro e w9 ⟨rfl,rfl⟩)
     clear t1 t2 t3 x2;obtain⟨gx,hgx⟩:=zE wr.heap.size;obtain⟨W0,hW0⟩:=zE (wr.alloc (.cells x.row kP));obtain⟨gc,hgc⟩:=zE w.heap.size;rw[<-hW0]at HJ1 BX EX |-;rw[<-hgx]at BX mW |-;rw[<-hgc]at mW |-;have:=zD hgx;have HGc:=zD hgc;have PD:=zD (show ai W0 gc ctT (Ii ep A3 n3 c3)from by rw[HGc.out];exact HJ1.out.blk);have HN0:=zD (show(Value.slice A3 n3 c3).ownBlock≠some gc from by rw[HGc.out];exact HJ1.out.ne);clear hW0 hgx hgc;refine zr (λj=>[10].contains j) (λwS=>ah (λk=>(Value.slice A3 n3 c3).ownBlock=some k) W0 wS) ?_;have S0:=(ah.refl (λk=>(Value.slice A3 n3 c3).ownBlock=some k) W0).drew;refine zk 6 [0,1,2,3,4] [_,_,pt gc,.pointer (some ⟨gc,1,none⟩),.slice A3 n3 c3] (.q zX<|.q zX<|.q zX<|.q zX<|.q (zS λ_ h=>(PD.out.upd h HN0.out).z 1 (.slice A3 n3 c3)) .nil) S0 ?_;refine zk 5 [5] [_] (.c rfl rfl (zl λ_ h=>zb (BX.out.upd h mW.out.1) underlying310) .nil) S0 ?_;refine zQ 6 ?_;obtain⟨G,hG,bG,lG⟩:=iA (S:=S0) (x.row) 310;go_wp2_with fail;refine .i (S0.alloc _) ?_
     (try simp only[hG])
     clear hG;have SG:=S0.alloc (.cells (x.row) 310);refine zQ 7 ?_;go_wp2_with(refine cU _ rfl (.tmp 37) (.tmp 39) Ll rfl w.heap.size kP _ 3 24 bo.cells underlying228 yj rF dC gN DC (.slice A3 n3 c3) _ rfl ((HJ1.out.own.cD 1).alloc _) ⟨G,0,none⟩ 1 x rfl (br (α:=bo) (vs:=x.cells) bG rfl) Xp.out dC (by have:=HJ1.out.CR.size;simp;omega) ?_;intro v' w6 tA Fc Nx;have hU:=(SG).trans Fc iL;have HU6:=zD hU;have HB6:=zD (PD.out.upd hU HN0.out);have:=HB6.out.z 1 (.slice A3 n3 c3);have:=HB6.out.frozen 1;obtain⟨A4,n4,c4,rfl,-,-⟩:=tA.shape gN;have O6:=zD tA;have W6:=zD Nx;clear hU tA Nx);refine .i (SG.trans Fc iL) ?_;have S6:=SG.trans Fc iL;refine zQ 8 ?_;go_wp2_with fail;refine .i S6 ?_;refine zq 1 [9] [.pointer (some ⟨gc,1,none⟩)] S6 ?_;refine aq _ _ _ _ kZ ?_;refine zO 10 (λQ2 aI=>?_);go_wp2_with fail;(try refine aI _ _ ?_);(try clear aI Q2)
     refine wpAny_done kZ ?_ _;have ax6:=PD.out.lt;have ah4:(Value.slice A4 n4 c4).ownBlock≠some gc:=by
      rcases W6.out with e|e
      ·rw[e];exact HN0.out
      ·rw[e];intro h;injection h with h;simp at h;omega
     have X6:CnI w (w6.setCell ⟨gc,1,none⟩ (.slice A4 n4 c4)) ep gc A4 n4 c4 (jb (rows.take k)++l.take (j+1)):=by
      refine⟨HB6.out.aX 1 _,?_,ah4,?_,HGc.out▸aC2 _⟩
      ·rw[fG.out,<-aD0];exact Own.far O6.out (p:=⟨gc,1,none⟩) (λk hk e=>ah4 (by rw[hk,e])) _
      ·exact(HJ1.out.CR.trans ((HU6.out.below (λk hk=>(World.ownsRow.lt HJ1.out.own k hk).1) HJ1.out.CR.size))).setCell (HGc.out▸aC2 _) _
     have X7:=zD X6;clear X6 ah4 ax6 S0 SG S6 bG lG PD HN0 HB6 HU6 Fc;obtain rfl:gc=w.heap.size:=HGc.out;go_wp2;go_roundw
     case rel=>exact⟨j+1,A4,n4,c4,oM,by go_num,X7.out⟩
     case measure=>simp[intOf];omega
    ·have hE:l.take j=l:=aB5 (oH NI.out)
     rw[hE,<-Cw HX.out]at HJ;clear hE;go_wp2;go_roundw
     case rel=>exact⟨k+1,A3,n3,c3,oM,by go_num,HJ.out⟩
     case measure=>simp[intOf];omega
  ·have hE:rows.take k=rows:=aB5 (oH HLr.out)
   rw[hE]at HI;clear hE;obtain⟨A',n',c',hv,fo,gU⟩:=HI.out.own.shape gN;injection hv with e1 e2 e3
   subst e1;subst e2;subst e3;have HS:=zD (DG A2 n2 c2 (jb rows) wr gU (fo▸HT.out));have:=HI.out.blk.z 1 (.slice A2 n2 c2);clear fo gU;go_wp2_with(go_at_call 243;refine HS.out.mono ?_;rintro e w3 ⟨A3,n3,c3,rfl,hi3,hg3,hb3⟩;have RZ:=zD (HI.out.blk.call hb3);have:=RZ.out.frozen 1;have:=RZ.out.z 1 (.slice A2 n2 c2);have I3:=zD hi3;have G3:=zD hg3;have B3:=zD (zT HI.out.CR hb3);clear hi3 hg3 hb3);go_ret;have hw:w.heap.size<wr.heap.size:=HI.out.blk.lt;refine⟨w.heap.size,A3,n3,c3,rfl,RZ.out.aX 1 _,?_,aC2 _,(λa ha=>aB4 (aU3 hw) (G3.out a ha)),B3.out.setCell lR _⟩;exact jl.upd (S:=λk=>k=w.heap.size) I3.out ((ah.refl (λk=>k=w.heap.size) w3).setCell (p:=⟨w.heap.size,1,none⟩) (.inl rfl) _) (λa ha e=>oH (G3.out a ha))
theorem NJ(x:bo)(k:Key)(w:World):Calls prog 245 #[.agg x.row,.agg k.row] w (Rt (I6 (jR x.key k)) (Bl w)):=by
 have HC:=zD (λW=>tN x.key k W)
 go_enter func245,ntmps245
 go_wp2_with(go_at_call 152;refine(HC.out _).mono ?_;rintro e w1 ⟨rfl,rfl⟩)
 go_ret
 exact⟨rfl,gW⟩
def NK(x y:Key):decide (jR x y<0)=xD x y:=by
 have h:decide (jR x y<0)=ltOf jR x y:=rfl;rw[h,pw]
def YL(x y:Key):(jR x y==0)=decide (x=y):=by
 unfold jR
 by_cases h:x=y
 ·simp[h]
 ·rw[if_neg h];split<;>simp[h]
abbrev YM:Value:=.func (.func 245) #[] #[]
theorem Ij(A:Option Addr)(n c:Nat)(es:List bo)(k:Key)(K:Nat)(b:Bool)(w:World)(hs:jl w A n c es)(hn:n<=100000)(hK:K<=n)(hlt:∀i e,es[i]? = some e->xD e.key k=decide (i<K))(hb:b=true↔∃e,es[K]? = some e/\e.key=k) :
 Calls prog 244 #[.slice A n c,.agg k.row,YM] w (Rt (.tuple #[I6 K,.bool b]) (Bl w)):=by
 have HS:=zD hs;have fJ:=zD hs.len;have Ag:=zD hlt;have Qh:=zD hb;have EX:=zD (zW w (.cells k.row aS));have BX:=zD (ai.new w aS k.row);have eg:∀args W,(callFunc 245 args).run prog W=.ok (.enter 245 args) W:=enters_of func245 kZ rfl
 clear hs hlt hb;go_enter func244,ntmps244;go_wp2;obtain⟨W0,hW0⟩:=zE (w.alloc (.cells k.row aS));rw[<-hW0]at EX BX |-;obtain⟨gx,hgx⟩:=zE w.heap.size;rw[<-hgx]at BX |-;clear hW0 hgx;go_loopw[9,10] (λs5 s6 wr=>∃(lo hi:Nat),s5 = I6 lo/\s6 = I6 hi/\lo<=K/\K<=hi/\hi<=n/\Bl W0 wr) (λs5 s6 _=>(intOf s6-intOf s5).toNat)
 case atStart=>exact⟨0,n,rfl,rfl,aB6 _,hK,aC2 _,Below.refl _ _⟩
 case round=>
  obtain⟨lo,hi,rfl,rfl,h1,h2,h3,aT⟩:=hrel;have HB:=zD aT;clear aT
  by_cases hlh:lo<hi
  ·obtain⟨h,hh⟩:∃h:Nat,h=(lo+hi) / 2:=⟨_,rfl⟩
   have hz:((lo:Int)+(hi:Int)) / 2=(h:Int):=oM
   have hhn:h<n:=oM
   have hi5:lo<=100000:=oM
   have hj5:hi<=100000:=oM
   obtain⟨x,hx⟩:∃x,es[h]? = some x:=⟨_,aB3 (oH fJ.out)⟩
   have HX:=zD hx;have HP:=zD (Ag.out h x hx);rcases HS.out with⟨-,h0,-,-⟩|⟨g,rfl,ha,-,-⟩
   ·exact absurd h0 oM
   have HA:=zD ((ha.call ((EX.out).trans (HB.out.mono EX.out.size))));have HC:=zD (λW=>NJ x k W);have BXr:=zD (BX.out.call HB.out);clear hx ha
   by_cases hp:h<K
   ·have hC:=((NK x.key k).trans (HP.out.trans (decide_eq_true hp)))
    generalize jR x.key k=CV at *;have Xq:=zD hh;clear hh;go_upto_region 5 with fail
    refine zB λS0=>?_
    refine zk 3 [0,1,2,3,4] [YM,_,_,.pointer (some ⟨g,h*3,none⟩),.agg x.row] (.c rfl rfl zp<|.c rfl rfl zp<|.c rfl rfl zp<|.c rfl rfl (zl λ_ _=>aN rfl rfl rfl oM)<|.c rfl rfl (zl λ_ h=>aF (ty:=kP) (x:=.tmp 27) rfl rfl (bI.load (HA.out.call h) HX.out)) .nil) S0 ?_;refine zk 2 [5] [_] (.c rfl rfl (zl λ_ h=>zb (BXr.out.call h) underlying83) .nil) S0 ?_;refine zQ 6 ?_;go_wp2_with(go_at_fn 245;refine zM (HC.out _) λv9 b8=>?_);refine .i (zT S0 b8) ?_;have S9:=zT S0 b8;refine zq 0 [7] [.bool true] S9 ?_;refine zd ?_;have U:=zD (zT HB.out S9);clear b8 S9 S0 HC;go_wp2;go_roundw
    case rel=>exact⟨h+1,hi,by go_num,rfl,oM,h2,h3,U.out⟩
    case measure=>have:=Xq.out;simp[intOf];omega
   ·have hC:=((NK x.key k).trans (HP.out.trans (decide_eq_false hp)))
    generalize jR x.key k=CV at *;have Xq:=zD hh;clear hh;go_upto_region 5 with fail
    refine zB λS0=>?_
    refine zk 3 [0,1,2,3,4] [YM,_,_,.pointer (some ⟨g,h*3,none⟩),.agg x.row] (.c rfl rfl zp<|.c rfl rfl zp<|.c rfl rfl zp<|.c rfl rfl (zl λ_ _=>aN rfl rfl rfl oM)<|.c rfl rfl (zl λ_ h=>aF (ty:=kP) (x:=.tmp 27) rfl rfl (bI.load (HA.out.call h) HX.out)) .nil) S0 ?_;refine zk 2 [5] [_] (.c rfl rfl (zl λ_ h=>zb (BXr.out.call h) underlying83) .nil) S0 ?_;refine zQ 6 ?_;go_wp2_with(go_at_fn 245;refine zM (HC.out _) λv9 b8=>?_);refine .i (zT S0 b8) ?_;have S9:=zT S0 b8;refine zq 0 [7] [.bool false] S9 ?_;refine zd ?_;have U:=zD (zT HB.out S9);clear b8 S9 S0 HC;go_wp2;go_roundw
    case rel=>exact⟨lo,h,rfl,rfl,h1,oM,oM,U.out⟩
    case measure=>have:=Xq.out;simp[intOf];omega
  ·obtain rfl:K=lo:=oM
   have hKh:K=hi:=oM
   subst hKh;clear h2 h3
   by_cases DJ:K<n
   ·have dk:decide ((K:Int)<(n:Int))=true:=sH DJ
    obtain⟨x,hx⟩:∃x,es[K]? = some x:=⟨_,aB3 (oH fJ.out)⟩
    have HX:=zD hx;have hC:(jR x.key k==0)=b:=by
     rw[YL];cases hb:b
     ·have h1:=Qh.out
      rw[hb]at h1;exact decide_eq_false λe=>by have:=h1.2 ⟨x,hx,e⟩;cases this
     ·obtain⟨y,hy,e⟩:=Qh.out.1 hb
      rw[hx]at hy;injection hy with hy;subst hy
      exact decide_eq_true e
    rcases HS.out with⟨-,h0,-,-⟩|⟨g,rfl,ha,-,-⟩
    ·exact absurd h0 oM
    have HA:=zD ((ha.call ((EX.out).trans (HB.out.mono EX.out.size))));have HC:=zD (λW=>NJ x k W);clear hx ha;generalize jR x.key k=CV at *;go_upto_region 8 with fail
    refine zB λS0=>?_
    refine zq 11 [0,1,2,3,4] [I6 (K:Int),I6 (K:Int),I6 (n:Int),.bool true,.bool true] S0 ?_;refine zk 6 [5,6,7,8,9] [YM,_,_,.pointer (some ⟨g,K*3,none⟩),.agg x.row] (.c rfl rfl zp<|.c rfl rfl zp<|.c rfl rfl zp<|.c rfl rfl (zl λ_ _=>aN rfl rfl rfl oM)<|.c rfl rfl (zl λ_ h=>aF (ty:=kP) (x:=.tmp 43) rfl rfl (bI.load (HA.out.call h) HX.out)) .nil) S0 ?_;refine zk 5 [10] [_] (.c rfl rfl (zl λ_ h=>zb ((BX.out.call HB.out).call h) underlying83) .nil) S0 ?_;refine zQ 11 ?_;go_wp2_with(go_at_fn 245;refine zM (HC.out _) λv9 b8=>?_);refine .i (zT S0 b8) ?_;have S9:=zT S0 b8;refine zq 0 [12,13,14,15] [.bool b,.bool b,I6 (K:Int),.bool b] S9 ?_;refine zd ?_;have U:=zD (EX.out.trans ((zT HB.out S9).mono EX.out.size));clear b8 S9 S0 HC;go_wp2;go_ret2;exact⟨rfl,U.out⟩
   ·have:decide ((K:Int)<(n:Int))=false:=sH DJ
    have HQ:=zD (show b=false from by
     cases hb:b
     ·rfl
     ·obtain⟨y,hy,-⟩:=Qh.out.1 hb
      have:=(d9.1 hy).1;have:=fJ.out;omega)
    go_upto_region 8 with fail
    refine zB λS0=>?_
    refine zq 11 [0,1,2,3,4] [I6 (K:Int),I6 (K:Int),I6 (n:Int),.bool false,.bool false] S0 ?_;refine zk 6 [5,6,7,8,9] [undef,undef,undef,undef,undef] (.q zw<|.q zw<|.q zw<|.q zw<|.q zw .nil) S0 ?_;refine zk 1 [10,11,12,13,14] [undef,undef,undef,.bool false,I6 (K:Int)] (.q zw<|.q zw<|.q zw<|.q zX<|.e) S0 ?_;refine zq 0 [15] [.bool false] S0 ?_;refine zd ?_;have U:=zD (EX.out.trans ((zT HB.out S0).mono EX.out.size));clear S0;go_wp2;go_ret2;exact⟨(show Ending.returned (.tuple #[I6 (K:Int),.bool false])=_ from by rw[HQ.out]),U.out⟩
section
section
variable{w w' : World}{c c' : bh}{cf:aM}
theorem aW.ins{e:bo}(he:eA w c cf e.ptr x): ∀{es:List bo} {l:List (Key×Ld)},aW w c cf es l->aW w c cf (nP cY e es) (nP pS (e.key,x) l):=by
 intro es l h
 induction h with
 |nil=>exact .cons he .nil
 | @cons e1 x1 Xr l1 h1 h2 ih=>
  unfold nP at ih |-;rw[List.takeWhile_cons,List.dropWhile_cons,List.takeWhile_cons,List.dropWhile_cons];have e2:cY e1 e=pS (e1.key,x1) (e.key,x):=rfl;rw[<-e2];cases hb:cY e1 e
  ·exact .cons he (.cons h1 h2)
  ·exact .cons h1 ih
theorem aW.ax7(h:aW w c cf es l):aW w c cf (bL cY es) (vr l):=by
 unfold vr bL
 suffices hh:∀(es0:List bo)(l0:List (Key×Ld)),aW w c cf es0 l0->aW w c cf (es.foldl (λs x=>nP cY x s) es0) (l.foldl (λs x=>nP pS x s) l0)from hh [] [] .nil
 induction h with
 |nil=>exact λ_ _ h=>h
 | @cons e1 x1 Xr l1 h1 h2 ih=>exact λes0 l0 h0=>ih _ _ (aW.ins h1 h0)
theorem aW.at_(h:aW w c cf es l): ∀{i:Nat} {y:Key×Ld},l[i]? = some y->∃e,es[i]? = some e/\e.key=y.1/\eA w c cf e.ptr y.2:=by
 induction h with
 |nil=>intro i y h;simp at h
 | @cons e1 x1 Xr l1 h1 h2 ih=>
  intro i y h;cases i with
  |zero=>simp at h;subst h;exact⟨e1,rfl,rfl,h1⟩
  |succ i=>exact ih (sH h)
def aW.at2(h:aW w c cf es l){e:bo}(he:es[i]? = some e): ∃x,l[i]? = some (e.key,x):=by
 obtain⟨y,hy⟩:∃y,l[i]? = some y:=⟨_,aB3 (h.len▸(d9.1 he).1)⟩
 obtain⟨e',h1,h2,-⟩:=h.at_ hy;rw[he]at h1;injection h1 with h1;subst h1
 exact⟨y.2,by rw[hy,h2]⟩
end
def UD(x y:Key×Ld):pS x y=true\/pS y x=true:=by unfold pS xD;simp;omega
def YN(x y z:Key×Ld)(h1:pS x y=true)(h2:pS y z=true):pS x z=true:=by unfold pS xD at *;simp at *;omega
theorem Ik(k:Key):∀(l:List (Key×Ld)),ja pS l->∃K,K<=l.length/\(∀i e,l[i]? = some e->xD e.1 k=decide (i<K))/\(∀x,aJ l k=some x->l[K]? = some (k,x))/\(aJ l k=none->∀e,l[K]? = some e->e.1≠k)
 |[],_=>⟨0,aC2 _,(λi e h=>by simp at h),(λx h=>by simp[aJ]at h),λ_ e h=>by simp at h⟩
 |y::l,h=>by
  obtain⟨h1,h2⟩:=aI5.1 h
  by_cases hy:xD y.1 k=true
  ·obtain⟨K,k1,k2,k3,k4⟩:=Ik k l h2
   have hne:¬y.1=k:=λe=>by rw[e]at hy;unfold xD at hy;simp at hy
   have hlk:aJ (y::l) k=aJ l k:=by unfold aJ;simp[aT5,hne]
   refine⟨K+1,by simp;omega,λi e hi=>?_,λx hx=>?_,λhx e he=>?_⟩
   ·cases i with
    |zero=>simp at hi;subst hi;rw[hy];simp
    |succ i=>rw[k2 i e (by simpa using hi)];simp
   ·rw[hlk]at hx;simpa using k3 x hx
   ·rw[hlk]at hx;exact k4 hx e (by simpa using he)
  ·have hall:∀e∈l,¬xD e.1 k=true:=λe he hlt=>by
    have:=h1 e he;unfold pS xD at *;simp at *;omega
   refine⟨0,aB6 _,λi e hi=>?_,λx hx=>?_,λhx e he=>?_⟩
   ·cases i with
    |zero=>simp at hi;subst hi;simpa using hy
    |succ i=>simpa using hall e (aC1 (by simpa using hi:l[i]? = some e))
   ·by_cases e:y.1=k
    ·have:aJ (y::l) k=some y.2:=by unfold aJ;simp[aT5,e]
     rw[this]at hx;injection hx with hx
     simp[<-hx,<-e]
    ·exfalso
     have hlk:aJ (y::l) k=aJ l k:=by unfold aJ;simp[aT5,e]
     rw[hlk]at hx;have hm:=tW hx;have h3:=h1 _ hm;have h4:=Nc (x:=y.1) (y:=k);unfold pS xD at *;simp at *
     by_cases e1:y.1.hi=k.hi
     ·exact e (h4 e1 oM)
     ·omega
   ·simp at he;subst he
    intro e;have:aJ (y::l) k=some y.2:=by unfold aJ;simp[aT5,e]
    rw[this]at hx;cases hx
structure gP(w:World)(c:bh)(cf:aM)(g:Nat)(m:ug)(A:Option Addr)(n cc:Nat)(es:List bo):Prop where
 blk:ai w g ctT (Ii m.bV A n cc)
 row:jl w A n cc es
 dG:aW w c cf es m.dG
 cg:c g=some .nS
 ca:∀a,A=some a->c a.block=some .nS
 RP:ja pS m.dG
 len:m.dG.length<=100000
def gP.step{w w' : World}{c c' : bh}{cf:aM}(h:gP w c cf g m A n cc es)(hs:ae T w w' c c')(hT:¬T .nS):gP w' c' cf g m A n cc es:=
 ⟨hs.blk h.blk h.cg hT,h.row.upd hs.upd (λa ha=>ae.lX (S:=λ_=>True) (h.ca a ha) hT),h.dG.step hs hT,hs.keep h.blk.lt h.cg hT,λa ha=>hs.keep (h.row.lt a ha) (h.ca a ha) hT,h.RP,h.len⟩
def gP.call{w w' : World}{c:bh}{cf:aM}(h:gP w c cf g m A n cc es)(hb:Bl w w'):gP w' c cf g m A n cc es:=
 ⟨h.blk.call hb,h.row.call hb,h.dG.call hb,h.cg,h.ca,h.RP,h.len⟩
theorem Lm{w:World}{c:bh}{cf:aM}(h:gP w c cf g m A n cc es):Calls prog 145 #[pt g] w λe w'=>e=.returned (I6 m.bV)/\w=w':=by
 have:=h.blk.z 0 (I6 m.bV);clear h;go_enter func145,ntmps145;go_wp2;go_ret;exact⟨rfl,rfl⟩
def ah5(c:bh)(cf:aM)(m:ug)(k:Key)(w:World)(e:Ending)(w' : World):Prop:=Bl w w'/\match aJ m.dG k with
 |none=>e=.returned (.tuple #[.pointer none,.bool false])
 |some x=>∃p,e=.returned (.tuple #[.pointer p,.bool true])/\eA w' c cf p x
theorem YO{w:World}{c:bh}{cf:aM}(k:Key)(h:gP w c cf g m A n cc es):
 Calls prog 194 #[pt g,.agg k.row] w (ah5 c cf m k w):=by
 obtain⟨K,k1,k2,k3,k4⟩:=Ik k m.dG h.RP;have hel:=h.dG.len;have hn:=h.row.len;have RY:=h.len;have EX:=zW w (.cells k.row aS);have BX:=ai.new w aS k.row;have H0:=h.call EX;have HB:=(λb hb (W:World) (hW:Below (w.alloc (.cells k.row aS)).heap.size (w.alloc (.cells k.row aS)) W)=>Ij A n cc es k K b W (H0.row.call hW) oM oM (λi e he=>by obtain⟨x,hx⟩:=h.dG.at2 he;exact k2 i _ hx) hb);unfold ah5;cases hl:aJ m.dG k with
 |none=>
  have HS:=HB false ⟨(λe=>by cases e),(λ⟨e,he,hk⟩=>by obtain⟨x,hx⟩:=h.dG.at2 he;exact absurd hk (k4 hl _ hx))⟩;clear h k1 k2 k3 k4 hl HB hn hel RY;go_enter func194,ntmps194;go_upto_region 3 with fail
  obtain⟨W0,hW0⟩:=zE (w.alloc (.cells k.row aS));rw[<-hW0]at EX BX H0 HS |-;clear hW0;refine zB λS0=>?_
  refine zk 6 [0,1,2,3,4] [_,_,_,.slice A n cc,_] (.q zX<|.q zX<|.q zX<|.q (zS λ_ h=>(H0.blk.call h).z 1 (.slice A n cc))<|.c rfl rfl (zl λ_ h=>zb (BX.call h) underlying83) .nil) S0<|zQ 5 ?_;go_wp2_with(go_at_call 244;refine zM (HS _ (S0)) λv9 b8=>?_);refine .i (zT S0 b8) ?_;have S9:=zT S0 b8;refine zq 0 [6,7,8,9,10] [.tuple #[I6 (K:Int),.bool false],I6 (K:Int),.bool false,I6 (K:Int),.bool false] S9<|zd ?_;have U:=zT EX S9;clear b8 S9 S0;go_wp2;go_ret2;exact⟨U,rfl⟩
 |some x=>
  obtain⟨e0,UE,hek,hfz⟩:=h.dG.at_ (k3 x hl);have HS:=HB true ⟨λ_=>⟨e0,UE,hek⟩,λ_=>rfl⟩;have HE:=UE;have HF:=hfz;have hKn:K<n:=oH (d9.1 UE).1
  have hKi:(K:Int)<(n:Int):=oM
  have HR:=h.row;clear h k1 k2 k3 k4 hl HB UE hfz hek hn hel RY;go_enter func194,ntmps194;go_upto_region 3 with fail
  obtain⟨W0,hW0⟩:=zE (w.alloc (.cells k.row aS));rw[<-hW0]at EX BX H0 HS |-;clear hW0;refine zB λS0=>?_
  refine zk 6 [0,1,2,3,4] [_,_,_,.slice A n cc,_] (.q zX<|.q zX<|.q zX<|.q (zS λ_ h=>(H0.blk.call h).z 1 (.slice A n cc))<|.c rfl rfl (zl λ_ h=>zb (BX.call h) underlying83) .nil) S0<|zQ 5 ?_;go_wp2_with(go_at_call 244;refine zM (HS _ (S0)) λv9 b8=>?_);refine .i (zT S0 b8) ?_;have S9:=zT S0 b8;refine zq 0 [6,7,8,9,10] [.tuple #[I6 (K:Int),.bool true],I6 (K:Int),.bool true,I6 (K:Int),.bool true] S9<|zd ?_;have U:=zT EX S9;have H9:=H0.call S9;have c1:=H9.blk.z 1 (.slice A n cc);clear b8 S9 S0;rcases H9.row with⟨rfl,h0,-,-⟩|⟨ga,rfl,ha,-,-⟩
  ·exact absurd h0 oM
  have p2:v9.cell? ⟨ga,K*3+2,none⟩=some (.pointer e0.ptr):=by have:=ha.range HE 2 _ rfl;exact this
  clear ha;go_wp2;go_ret2;exact⟨U,_,rfl,HF.call U⟩
end
abbrev YP:TypeId:=68
def sF(m:ug)(k:Key)(to width:Int):Stat×Bool:=match aJ m.dG k with
 |none=>(mh,false)
 |some x=>(iR (iQ x.cL (iT to width) to),true)
def YQ{base c:Nat}{l:List aD}(h:kH w base (.slice A n c) l):n=l.length/\cH w A n c l:=by
 obtain⟨A',n',c',e,h1,h2⟩:=h.shape (λ_=>rfl);injection e with e1 e2 e3
 subst e1;subst e2;subst e3;exact⟨h1,h2⟩
theorem Il(k:Key)(to width:Int)(h:gP w c cf g m A n cc es)(h1:aw to)(h2:aw width)(hg:∀x,aJ m.dG k=some x->x.cL.length<=200/\∀y∈x.cL,y.good):
 Calls prog 144 #[pt g,.agg k.row,I6 to,I6 width] w (Rt (.tuple #[.agg (sF m k to width).1.row,.bool (sF m k to width).2]) (Bl w)):=by
 have EX:=zD ((zW w (.cells k.row aS)).alloc sI (.cells mh.row YP));have BY:=zD (ai.dR w (.cells k.row aS) YP mh.row);have HC:=zD (YO k (h.call EX.out));have H1:=zD h1;have H2:=zD h2;unfold ah5 at HC;unfold sF;cases hl:aJ m.dG k with
 |none=>
  rw[hl]at HC;dsimp only at HC |-;clear h h1 h2 hg hl;go_enter func144,ntmps144;go_wp2_with(first
   |go_at_call 194;refine HC.out.mono ?_;rintro e w3 ⟨hb,rfl⟩;have B3:=zD hb;have BY3:=zD (BY.out.call hb);clear hb
   |(refine zJ BY3.out ?_;intro w9 b8 dM;have X9:=zD b8;have G9:=zD dM;clear b8 dM))
  have U9:=zD ((zT EX.out B3.out).grown G9.out (zT EX.out B3.out).size (λk e=>by injection e with e;omega));refine bodyPost_ret (az rfl _ _ _ _ _ _ rfl X9.out underlying68 rfl kZ) rfl ?_;exact⟨rfl,U9.out⟩
 |some x=>
  rw[hl]at HC;dsimp only at HC |-;obtain⟨hl2,hgd⟩:=hg x hl;have zu:=zD hl2;have Ko:=zD hgd;have HS:=zD (λW p (hp:eA W c cf p x)=>(show Calls prog 84 #[.pointer p] W (iY W x.cL)from by obtain⟨F,hn,-⟩:=hp;exact rV p F cf x true W hn));obtain⟨R,hR⟩:=zE (iR (iQ x.cL (iT to width) to));have HR:=zD hR;rw[<-hR];clear h h1 h2 hg hl hl2 hgd hR;go_enter func144,ntmps144;go_wp2_with(first
   |go_at_call 194;refine HC.out.mono ?_;rintro e w3 ⟨hb,p,rfl,hp⟩;have B3:=zD hb;have BY3:=zD (BY.out.call hb);have P3:=zD hp;clear hb hp
   |go_at_call 84;refine(HS.out _ p P3.out).mono ?_;rintro e w4 ⟨A4,n4,c4,rfl,ho,hb⟩;have B4:=zD (zT B3.out hb);have BY4:=zD (BY3.out.call hb);have O4:=zD (YQ ho);clear ho hb
   |go_at_call 133;refine zM (ub A4 n4 c4 x.cL to width _ O4.out.2 Ko.out (by rw[O4.out.1];exact aB4 zu.out dC) H1.out H2.out) λw5 hb=>?_;rw[<-HR.out];have B5:=zD (zT B4.out hb);have BY5:=zD (BY4.out.call hb);clear hb
   |(refine zJ BY5.out ?_;intro w9 b8 dM;have X9:=zD b8;have G9:=zD dM;clear b8 dM))
  have U9:=zD ((zT EX.out B5.out).grown G9.out (zT EX.out B5.out).size (λk e=>by injection e with e;omega));refine bodyPost_ret (az rfl _ _ _ _ _ _ rfl X9.out underlying68 rfl kZ) rfl ?_;exact⟨rfl,U9.out⟩
section
def jm{α:Type} : Nat->List (Option α)->List Int
 |_,[]=>[]
 |k,o::l=>(if o.isSome then[(k:Int)+1]else[])++jm (k+1) l
theorem uu{α:Type} : ∀(l:List (Option α))(k:Nat)(x:Int),x∈jm k l↔∃(i:Nat)(m:α),l[i]? = some (some m)/\x=(k:Int)+i+1
 |[],k,x=>by simp[jm]
 |o::l,k,x=>by
  have ih:=uu l (k+1) x;rw[jm,aD1,ih]
  constructor
  ·rintro(h|⟨i,m,h1,h2⟩)
   ·cases o with
    |none=>simp at h
    |some m=>simp at h;exact⟨0,m,rfl,by omega⟩
   ·exact⟨i+1,m,by simpa using h1,by omega⟩
  ·rintro⟨i,m,h1,h2⟩
   cases i with
   |zero=>simp at h1;subst h1;left;simp;omega
   |succ i=>exact .inr ⟨i,m,by simpa using h1,by omega⟩
theorem vw{α:Type} : ∀(l:List (Option α))(k:Nat),(jm k l).Nodup
 |[],k=>aV7
 |o::l,k=>by
  rw[jm];refine aH5.2 ⟨by split<;>simp,vw l (k+1),λa ha b hb e=>?_⟩
  obtain⟨i,m,-,h2⟩:=(uu l (k+1) b).1 hb
  split at ha
  ·simp at ha;omega
  ·simp at ha
theorem Cz{α:Type} : ∀(l:List (Option α))(k:Nat),(jm k l).length=(l.filter Option.isSome).length
 |[],k=>rfl
 |o::l,k=>by
  rw[jm,aB8,Cz l (k+1),aT9];cases o<;>simp<;>omega
def yx(p:Nat):List Value:=[pt p]
abbrev YR:TypeId:=132
structure fX(w:World)(c:bh)(A:Option Addr)(n cap:Nat)(ps:List Nat)(s:aL):Prop where
 sl:ag w 1 yx A n cap ps
 ca:∀a,A=some a->c a.block=some (.at_ 1)
 la:∀a,A=some a->a.block<w.heap.size
 len:ps.length=s.strs.length
 str:∀i p,ps[i]? = some p->dN w c i p (s.str i)
structure gR(w:World)(c:bh)(gt bt:Nat)(fp:Int->Option Nat)(ks:List Int)(s:aL):Prop where
 tab:gQ w gt bt fp ks ((s.cuts.length:Int)+1)
 cg:c gt=some (.at_ 2)
 cb:c bt=some (.at_ 2)
 cuts:∀(i:Nat)(m:ug),s.cuts[i]? = some (some m)->∃g A n cc es,fp ((i:Int)+1)=some g/\gP w c s.cfg g m A n cc es
 YS:∀x,fp x≠none↔x∈jm 0 s.cuts
structure jd(w:World)(c:bh)(g:Nat)(A:Option Addr)(n cap:Nat)(ps:List Nat)(gt bt:Nat)(fp:Int->Option Nat)(ks:List Int)(s:aL):Prop where
 blk:ai w g YR #[.slice A n cap,pt gt,I6 s.bV,.bool s.over]
 cg:c g=some (.at_ 0)
 strs:fX w c A n cap ps s
 tabs:gR w c gt bt fp ks s
 pos:0<n
def cG(w:World)(c:bh)(g:Nat)(s:aL):Prop:=∃A n cap ps gt bt fp ks,jd w c g A n cap ps gt bt fp ks s
def dO(t:Tag):Prop:=t=.at_ 0\/t=.at_ 1\/t=.at_ 2\/∃i,jx i t
def eu:¬dO .nS:=by
 rintro(h|h|h|⟨i,h⟩)
 ·cases h
 ·cases h
 ·cases h
 ·exact bS i h
def km(i n:Nat):¬jx i (.at_ n):=by rintro(h|⟨k,h⟩)<;>cases h
def UI(h:i≠j): ∀t,jx i t->¬jx j t:=by
 rintro t (rfl|⟨k,rfl⟩) (e|⟨k',e⟩)
 ·injection e with e;exact h e
 ·cases e
 ·cases e
 ·injection e with e;exact h e
def dO.st{t:Tag}(h:jx i t):dO t:=.inr (.inr (.inr ⟨i,h⟩))
section
variable{T:Tag->Prop}{w w' : World}{c c' : bh}{A:Option Addr}{n cap g gt bt:Nat}{ps:List Nat}{fp:Int->Option Nat}{ks:List Int}{s:aL}
def fX.n_(h:fX w c A n cap ps s):n=s.strs.length:=by have:=h.sl.1;have:=h.len;omega
def gQ.block(h:gQ w gt bt fp ks n)(h1:w'.heap[gt]? = w.heap[gt]?)(h2:w'.heap[bt]? = w.heap[bt]?):gQ w' gt bt fp ks n:=⟨h1.trans h.1,h.2.1.block h2,h.2.2⟩
def gR.step(h:gR w c gt bt fp ks s)(hs:ae T w w' c c')(h1:¬T (.at_ 2))(h2:¬T .nS):gR w' c' gt bt fp ks s:=
 ⟨h.tab.block (hs.upd.block gt h.tab.1.lt (ae.lX (S:=λ_=>True) h.cg h1)) (hs.upd.block bt h.tab.2.1.lt (ae.lX (S:=λ_=>True) h.cb h1)),hs.keep h.tab.1.lt h.cg h1,hs.keep h.tab.2.1.lt h.cb h1,
  λi m hm=>by obtain⟨g,A,n,cc,es,e1,e2⟩:=h.cuts i m hm;exact⟨g,A,n,cc,es,e1,e2.step hs h2⟩,h.YS⟩
def gR.call(h:gR w c gt bt fp ks s)(hb:Bl w w'):gR w' c gt bt fp ks s:=
 ⟨h.tab.call hb,h.cg,h.cb,λi m hm=>by obtain⟨g,A,n,cc,es,e1,e2⟩:=h.cuts i m hm;exact⟨g,A,n,cc,es,e1,e2.call hb⟩,h.YS⟩
def gR.same{s' : aL}(h:gR w c gt bt fp ks s)(h1:s'.cuts=s.cuts)(h2:s'.cfg=s.cfg):gR w c gt bt fp ks s':=
 ⟨h1▸h.tab,h.cg,h.cb,by rw[h1,h2];exact h.cuts,h1▸h.YS⟩
def gR.keys(h:gR w c gt bt fp ks s):ks.length=s.live:=by
 obtain⟨-,hm,-⟩:=h.tab;have hn:ks.Nodup/\∀x,x∈ks↔fp x≠none:=by
  obtain⟨D,-,-,h2,h3,-⟩:=hm;refine⟨h2,λx=>?_⟩;rw[h3 x];unfold vV;cases fp x<;>simp
 have hp:ks.Perm (jm 0 s.cuts):=(aU2 hn.1 (vw _ _)).2 λx=>by rw[hn.2 x,h.YS x]
 rw[hp.length_eq,Cz];rfl
def fX.step(h:fX w c A n cap ps s)(hs:ae T w w' c c')(h1:¬T (.at_ 1))(h2:¬T .nS)(h3:∀i t,T t->¬jx i t):fX w' c' A n cap ps s:=
 ⟨aV h.sl hs.upd (λa ha=>ae.lX (S:=λ_=>True) (h.ca a ha) h1),λa ha=>hs.keep (h.la a ha) (h.ca a ha) h1,λa ha=>aB9 (h.la a ha) hs.upd.size,h.len,λi p hp=>(h.str i p hp).step hs (h3 i) h2⟩
def fX.call(h:fX w c A n cap ps s)(hb:Bl w w'):fX w' c A n cap ps s:=
 ⟨af h.sl hb,h.ca,λa ha=>aB9 (h.la a ha) hb.size,h.len,λi p hp=>(h.str i p hp).call hb⟩
def jd.call(h:jd w c g A n cap ps gt bt fp ks s)(hb:Bl w w'):jd w' c g A n cap ps gt bt fp ks s:=⟨h.blk.call hb,h.cg,h.strs.call hb,h.tabs.call hb,h.pos⟩
def jd.step(h:jd w c g A n cap ps gt bt fp ks s)(hs:ae T w w' c c')(h1:∀t,dO t->¬T t)(h2:¬T .nS):jd w' c' g A n cap ps gt bt fp ks s:=
 ⟨hs.blk h.blk h.cg (h1 _ (.inl rfl)),hs.keep h.blk.lt h.cg (h1 _ (.inl rfl)),h.strs.step hs (h1 _ (.inr (.inl rfl))) h2 (λi t ht hst=>h1 t (.st hst) ht),h.tabs.step hs (h1 _ (.inr (.inr (.inl rfl)))) h2,h.pos⟩
def cG.call(h:cG w c g s)(hb:Bl w w'):cG w' c g s:=by
 obtain⟨A,n,cap,ps,gt,bt,fp,ks,h⟩:=h;exact⟨A,n,cap,ps,gt,bt,fp,ks,h.call hb⟩
def cG.step(h:cG w c g s)(hs:ae T w w' c c')(h1:∀t,dO t->¬T t)(h2:¬T .nS):cG w' c' g s:=by
 obtain⟨A,n,cap,ps,gt,bt,fp,ks,h⟩:=h;exact⟨A,n,cap,ps,gt,bt,fp,ks,h.step hs h1 h2⟩
def wM{s:aL}{x:bF}: (s.et i x).str j=if i=j/\i<s.strs.length then x else s.str j:=by
 unfold aL.et aL.str;simp only[aB7,aG1]
 by_cases e:i=j
 ·subst e
  by_cases h:i<s.strs.length
  ·simp[h]
  ·simp[h,aE1 (by omega:s.strs.length<=i)]
 ·simp[e]
def jd.str(h:jd w c g A n cap ps gt bt fp ks s){p:Nat}{x:bF}(hp:ps[i]? = some p)(hs:ae (jx i) w w' c c')(hx:dN w' c' i p x):jd w' c' g A n cap ps gt bt fp ks (s.et i x):=by
 have hil:i<s.strs.length:=oI (d9.1 hp).1 h.strs.len
 refine⟨hs.blk h.blk h.cg (km i 0),hs.keep h.blk.lt h.cg (km i 0),?_,(h.tabs.step hs (km i 2) (bS i)).same rfl rfl,h.pos⟩;refine⟨aV h.strs.sl hs.upd (λa ha=>ae.lX (S:=λ_=>True) (h.strs.ca a ha) (km i 1)),λa ha=>hs.keep (h.strs.la a ha) (h.strs.ca a ha) (km i 1),λa ha=>aB9 (h.strs.la a ha) hs.upd.size,by rw[h.strs.len];simp[aL.et],λj q hq=>?_⟩;rw[wM]
 by_cases e:i=j
 ·subst e
  rw[if_pos ⟨rfl,hil⟩];rw[hp]at hq;injection hq with hq;subst hq
  exact hx
 ·rw[if_neg (λh=>e h.1)]
  exact(h.strs.str j q hq).step hs (UI e) (bS i)
end
theorem fY{w:World}{c:bh}{g:Nat}{A:Option Addr}{n cap:Nat}{ps:List Nat}{gt bt:Nat}{fp:Int->Option Nat}{ks:List Int}{s:aL}(h:jd w c g A n cap ps gt bt fp ks s) :
 Calls prog 66 #[pt g] w λe w'=>e=.returned (.bool true)/\w=w':=by
 have:=h.blk.z 0 (.slice A n cap);have:decide (0<n)=true:=decide_eq_true h.pos;clear h;go_enter func66,ntmps66;go_wp2;go_ret;exact⟨rfl,rfl⟩
theorem vx{w:World}{c:bh}{g:Nat}{A:Option Addr}{n cap:Nat}{ps:List Nat}{gt bt:Nat}{fp:Int->Option Nat}{ks:List Int}{s:aL}(h:jd w c g A n cap ps gt bt fp ks s) :
 Calls prog 80 #[pt g] w λe w'=>e=.returned (I6 (s.strs.length:Int))/\w=w':=by
 have:=h.blk.z 0 (.slice A n cap);have HM:=zD (fY h);have HN:=zD h.strs.n_;clear h;go_enter func80,ntmps80;go_wp2_with(go_at_call 66;refine HM.out.mono ?_;rintro e w1 ⟨rfl,rfl⟩);go_ret;exact⟨(show Ending.returned (I6 (n:Int))=_ from by rw[HN.out]),rfl⟩
theorem fy{w:World}{c:bh}{g:Nat}{A:Option Addr}{n cap:Nat}{ps:List Nat}{gt bt:Nat}{fp:Int->Option Nat}{ks:List Int}{s:aL}(h:jd w c g A n cap ps gt bt fp ks s)(i p:Nat)(hp:ps[i]? = some p) :
 Calls prog 67 #[pt g,I6 (i:Int)] w λe w'=>e=.returned (pt p)/\w=w':=by
 have:=h.blk.z 0 (.slice A n cap);have HM:=vx h;have hin:i<n:=oI (d9.1 hp).1 h.strs.sl.1
 have:(i:Int)<(s.strs.length:Int):=oH h.strs.n_
 have:(i:Int)<(n:Int):=oM
 obtain⟨b,off,r,rfl,h2,h3,h4⟩:=ag.at_ h.strs.sl hin;rw[hp]at h2;injection h2 with h2;subst h2
 have t0:=h4 0 _ rfl;simp at t0;clear h h4 hp;go_enter func67,ntmps67;go_wp2_with(go_at_call 80;refine HM.mono ?_;rintro e w1 ⟨rfl,rfl⟩);go_ret;exact⟨rfl,rfl⟩
end
def dW(s:aL)(k:Key)(hr:dD (s.strs.length:Int)=true):Fe k.hi k.lo (s.strs.length:Int)=(s.home k:Nat)/\s.home k<s.strs.length:=by
 have:=(xN k.hi k.lo (s.strs.length:Int)).2.2 hr;unfold aL.home;omega
theorem ko(h:jd w c g A n cap ps gt bt fp ks s)(k:Key)(hk:k.good)(hr:dD (s.strs.length:Int)=true):
 Calls prog 68 #[pt g,.agg k.row] w (Rt (I6 (s.home k:Nat)) (Bl w)):=by
 have EX:=zW w (.cells k.row aS);have BX:=ai.new w aS k.row;have H0:=h.call EX;have HO:=(λW=>xO k.hi k.lo (s.strs.length:Int) W (by have:=a7 hr;unfold aw;omega) hk.1 hk.2);rw[(dW s k hr).1]at HO;clear h hk hr;go_enter func68,ntmps68;go_upto_region 1 with fail
 obtain⟨W0,hW0⟩:=zE (w.alloc (.cells k.row aS));rw[<-hW0]at EX BX H0 |-;clear hW0;refine zB λS0=>?_
 refine zk 3 [0,1] [_,_] (.c rfl rfl (zl λ_ h=>zb (BX.call h) underlying83)<|.e) S0<|zQ 2 ?_;go_wp2_with(go_at_call 80;refine zN (vx (H0.call (S0))) ?_);refine .i S0<|zQ 3 ?_;go_wp2_with(go_at_call 134;refine zM (HO _) λv9 b8=>?_);refine .i (zT S0 b8) ?_;have S9:=zT S0 b8;refine zq 0 [4] [I6 (s.home k:Nat)] S9<|zd ?_;have U:=zT EX S9;clear b8 S9 S0;go_wp2;go_ret;exact⟨rfl,U⟩
def YT(c:bh)(g:Nat)(v:Value)(s:aL)(w:World)(e:Ending)(w' : World):Prop:=∃c',e=.returned v/\cG w' c' g s/\ae dO w w' c c'
theorem yy(h:cG w c g s)(hc:∀k,w.heap.size<=k->c k=none):
 Calls prog 76 #[pt g] w (YT c g (I6 s.shut.1) s.shut.2 w):=by
 obtain⟨A,n,cap,ps,gt,bt,fp,ks,h⟩:=h;have HM:=fY h;have c3:=h.blk.z 3 (.bool s.over);have:=h.blk.frozen 3;have H:=h;have HC:=hc;clear h hc;unfold aL.shut;cases ho:s.over
 ·rw[ho]at c3
  clear ho;go_enter func76,ntmps76;go_wp2_with(go_at_call 66;refine HM.mono ?_;rintro e w1 ⟨rfl,rfl⟩);go_ret;have hu:ah (λk=>k=g) w (w.setCell ⟨g,3,none⟩ (.bool true)):=(ah.refl (λk=>k=g) w).setCell (p:=⟨g,3,none⟩) (.inl rfl) _;have hs:ae (λt=>t=.at_ 0) w (w.setCell ⟨g,3,none⟩ (.bool true)) c c:=ae.same hu (λk hk=>⟨_,hk▸H.cg,rfl⟩) HC;refine⟨c,rfl,⟨A,n,cap,ps,gt,bt,fp,ks,H.blk.aX 3 _,H.cg,?_,?_,H.pos⟩,hs.mono λt e=>.inl e⟩
  ·obtain⟨k1,k2,k3,k4,k5⟩:=H.strs.step hs dC dC (λi t e=>e▸km i 0)
   exact⟨k1,k2,k3,k4,k5⟩
  ·exact(H.tabs.step hs dC dC).same rfl rfl
 ·rw[ho]at c3
  clear ho;go_enter func76,ntmps76;go_wp2_with(go_at_call 66;refine HM.mono ?_;rintro e w1 ⟨rfl,rfl⟩);go_ret;exact⟨c,rfl,⟨A,n,cap,ps,gt,bt,fp,ks,H⟩,ae.refl _ _ _ HC⟩
def kq{l:List (Option α)}{x:Int}: x∈jm 0 l↔∃(i:Nat)(m:α),l[i]? = some (some m)/\x=(i:Int)+1:=by
 rw[uu];simp
theorem NM(h:gR w c gt bt fp ks s)(n:Int):oX fp ((s.cuts.length:Int)+1) n=s.dH n:=by
 unfold oX aL.dH
 by_cases h1:n<1\/(s.cuts.length:Int)<n
 ·rw[if_pos oM,if_pos h1]
 ·rw[if_neg oM,if_neg h1]
  have YI:(((n-1).toNat:Nat):Int)+1=n:=oM
  have hi:(n-1).toNat<s.cuts.length:=oM
  obtain⟨j,hj⟩:=zE ((n-1).toNat);rw[<-hj]at hi YI |-;have hg:s.cuts.getD j none=s.cuts[j]:=by rw[aB7,aB3 hi];rfl
  rw[hg];have hf:=h.YS n;rw[kq]at hf;cases ho:s.cuts[j]with
  |none=>
   simp only;rw[if_pos];refine Classical.byContradiction λhn=>?_
   obtain⟨i,m,h2,h3⟩:=hf.1 hn;have:j=i:=by clear hf hg ho h2;omega
   subst this;rw[aB3 hi,ho]at h2;cases h2
  |some m=>
   simp only;rw[if_neg];exact hf.2 ⟨j,m,by rw[aB3 hi,ho],YI.symm⟩
theorem NP(h:gR w c gt bt fp ks s){n:Int}(he:s.dH n=0): ∃g A m cc es,fp n=some g/\gP w c s.cfg g (s.cut n) A m cc es/\s.cuts[(n-1).toNat]? = some (some (s.cut n))/\1<=n/\n<=s.cuts.length:=by
 unfold aL.dH at he
 by_cases h1:n<1\/(s.cuts.length:Int)<n
 ·rw[if_pos h1]at he;cases he
 ·rw[if_neg h1]at he
  have hi:(n-1).toNat<s.cuts.length:=oM
  have hg:s.cuts.getD (n-1).toNat none=s.cuts[(n-1).toNat]:=by rw[aB7,aB3 hi];rfl
  unfold aL.cut;rw[hg]at he |-;cases ho:s.cuts[(n-1).toNat]with
  |none=>rw[ho]at he;cases he
  |some m=>
   obtain⟨g,A,k,cc,es,e1,e2⟩:=h.cuts (n-1).toNat m (by rw[aB3 hi,ho]);rw[show(((n-1).toNat:Nat):Int)+1=n by omega]at e1;exact⟨g,A,k,cc,es,e1,e2,by rw[aB3 hi,ho];rfl,oM,oM⟩
def UJ(c:bh)(s:aL)(n:Int)(w:World)(e:Ending)(w' : World):Prop:=w=w'/\((s.dH n≠0/\e=.returned (.tuple #[.pointer none,I6 (s.dH n)]))\/∃g A m cc es,s.dH n=0/\e=.returned (.tuple #[pt g,I6 0])/\gP w c s.cfg g (s.cut n) A m cc es/\s.cuts[(n-1).toNat]? = some (some (s.cut n)))
theorem Qj{m:Nat}(h:jd w c g A m cap ps gt bt fp ks s)(n:Int)(hn:aw n):
 Calls prog 143 #[pt g,I6 n] w (UJ c s n w):=by
 have HM:=fY h;have:=h.blk.z 1 (pt gt);have HE:=NM h.tabs n
 by_cases he:s.dH n=0
 ·obtain⟨gc,A2,k2,cc,es,e1,e2,e3,-,-⟩:=NP h.tabs he
  have HG:=Lp gt bt gc fp ks _ n w h.tabs.tab hn (by rw[HE,he]) e1;have HR:UJ c s n w (.returned (.tuple #[pt gc,I6 0])) w:=⟨rfl,.inr ⟨gc,A2,k2,cc,es,he,rfl,e2,e3⟩⟩;clear h hn HE he e1 e2 e3;go_enter func143,ntmps143;go_wp2_with(first
   |go_at_call 66;refine HM.mono ?_;rintro e w1 ⟨rfl,rfl⟩
   |(go_at_call 193;refine HG.mono ?_;rintro e w1 ⟨rfl,rfl⟩))
  go_ret2;exact HR
 ·have HG:=Bb gt bt fp ks _ n w h.tabs.tab hn (HE▸he)
  rw[HE]at HG;have HR:UJ c s n w (.returned (.tuple #[.pointer none,I6 (s.dH n)])) w:=⟨rfl,.inl ⟨he,rfl⟩⟩;clear h hn HE he;generalize UJ c s n w=P at *;generalize s.dH n=ER at *;go_enter func143,ntmps143;go_wp2_with(first
   |go_at_call 66;refine HM.mono ?_;rintro e w1 ⟨rfl,rfl⟩
   |(go_at_call 193;refine HG.mono ?_;rintro e w1 ⟨rfl,rfl⟩))
  exact HR
def ae.nS(hb:Bl w w')(N:Nat->Prop)(h1:∀k,N k->w.heap.size<=k/\k<w'.heap.size)(hc:∀k,w.heap.size<=k->c k=none):ae T w w' c (ft N .nS c):=by
 refine⟨ah.aa hb,λj hj _=>aC (λh=>oH (h1 j h)),λj t hj e=>?_,λj hj=>?_⟩
 ·by_cases h:N j
  ·rw[bw h]at e;injection e with e;exact .inr e.symm
  ·rw[aC h]at e
   rcases hj with hj|⟨t',e',Fx⟩
   ·rw[hc j hj]at e;cases e
   ·rw[e']at e;injection e with e;subst e;exact .inl Fx
 ·rw[aC (λh=>oH (h1 j h))]
  exact hc j (aB4 hb.size hj)
def Qk{l:List (Option α)}{x:Int}: x∈jm 0 (l.set j none)↔x∈jm 0 l/\x≠(j:Int)+1:=by
 rw[kq,kq]
 constructor
 ·rintro⟨i,m,h1,h2⟩
  rw[aG1]at h1
  split at h1
  ·split at h1<;>cases h1
  ·rename_i hne
   exact⟨⟨i,m,h1,h2⟩,oM⟩
 ·rintro⟨⟨i,m,h1,h2⟩,h3⟩
  refine⟨i,m,?_,h2⟩;rw[aG1,if_neg oM];exact h1
theorem Lq(n:Int)(hn:aw n)(h:cG w c g s)(hc:∀k,w.heap.size<=k->c k=none):
 Calls prog 72 #[pt g,I6 n] w (YT c g (I6 (s.free n).1.err) (s.free n).2 w):=by
 obtain⟨A,m,cap,ps,gt,bt,fp,ks,h⟩:=h;have HM:=fY h;have:=h.blk.z 1 (pt gt);have H:=h;have HC:=hc;have HE:=NM h.tabs n;unfold aL.free
 by_cases he:s.dH n=0
 ·obtain⟨gc,A2,k2,cc,es,e1,e2,e3,e4,e5⟩:=NP h.tabs he
  have HF:=Ip gt bt fp ks _ n w h.tabs.tab hn (by rw[HE,he]);rw[if_pos he];have HN:=And.intro e4 e5;clear h hc hn HE he e1 e2 e3 e4 e5;go_enter func72,ntmps72;go_wp2_with(first
   |go_at_call 66;refine HM.mono ?_;rintro e w1 ⟨rfl,rfl⟩
   |(go_at_call 142;refine HF.mono ?_;rintro e w2 ⟨rfl,T2,G2⟩))
  go_ret;have hs:ae (λt=>t=.at_ 2) w w2 c c:=ae.same (ah.bE G2) (λk hk=>⟨_,hk▸H.tabs.cb,rfl⟩) HC;have:=HN;obtain⟨j,hj⟩:=zE ((n-1).toNat);have hjn:(j:Int)+1=n:=oM
  rw[<-hj];refine⟨c,rfl,⟨A,m,cap,ps,gt,bt,Cx fp n,_,hs.blk H.blk H.cg dC,H.cg,?_,⟨sH T2,H.tabs.cg,H.tabs.cb,λi x hi=>?_,λx=>?_⟩,H.pos⟩,hs.mono λt e=>.inr (.inr (.inl e))⟩
  ·obtain⟨k1,k2,k3,k4,k5⟩:=H.strs.step hs dC dC (λi t e=>e▸km i 2)
   exact⟨k1,k2,k3,k4,k5⟩
  ·simp only[aG1]at hi
   split at hi
   ·split at hi<;>cases hi
   ·rename_i hne
    obtain⟨g1,A1,n1,cc1,Xr,e1,e2⟩:=H.tabs.cuts i x hi;refine⟨g1,A1,n1,cc1,Xr,?_,e2.step hs dC⟩;unfold Cx;rw[if_neg oM];exact e1
  ·rw[Qk,<-H.tabs.YS x,hjn]
   unfold Cx
   by_cases e:x=n
   ·simp[e]
   ·simp[e]
 ·have HG:=yw gt bt fp ks _ n w h.tabs.tab hn (HE▸he)
  rw[HE]at HG;rw[if_neg he];have HR:YT c g (I6 (s.dH n)) s w (.returned (I6 (s.dH n))) w:=⟨c,rfl,⟨A,m,cap,ps,gt,bt,fp,ks,h⟩,ae.refl _ _ _ hc⟩;have e0:(cK (s.dH n)).err=s.dH n:=rfl;simp only[e0];clear h hn HE he hc HC H e0;generalize YT c g (I6 (s.dH n)) s w=P at *;generalize s.dH n=ER at *;go_enter func72,ntmps72;go_wp2_with(first
   |go_at_call 66;refine HM.mono ?_;rintro e w1 ⟨rfl,rfl⟩
   |(go_at_call 142;refine HG.mono ?_;rintro e w1 ⟨rfl,rfl⟩))
  exact HR
def aL.pub(s:aL)(l:List (Key×Ld)):aL:={s with bV:=s.bV+1,cuts:=s.cuts++[some ⟨s.bV+1,vr l⟩]}
def ax8(c:bh)(g:Nat)(s:aL)(l:List (Key×Ld))(w:World)(e:Ending)(w' : World):Prop:=∃c',ae dO w w' c c'/\((64<=s.live/\e=.returned (.tuple #[I6 0,I6 0,I6 6])/\cG w' c' g s)\/(s.live<64/\e=.returned (.tuple #[I6 (s.bV+1),I6 ((s.cuts.length:Int)+1),I6 0])/\cG w' c' g (s.pub l)))
def Lr{l:List (Option α)}{m:α}{x:Int}: x∈jm 0 (l++[some m])↔x∈jm 0 l\/x=(l.length:Int)+1:=by
 rw[kq,kq]
 constructor
 ·rintro⟨i,m',h1,h2⟩
  rcases aE2 i l.length with hi|hi
  ·rw[aC9 hi]at h1;exact .inl ⟨i,m',h1,h2⟩
  ·have hi2:=(d9.1 h1).1
   simp at hi2;exact .inr oM
 ·rintro(⟨i,m',h1,h2⟩|h)
  ·exact⟨i,m',by rw[aC9 (d9.1 h1).1];exact h1,h2⟩
  ·exact⟨l.length,m,sI,h⟩
theorem Bc(A:Option Addr)(n cap:Nat)(rows:List (bq bo))(l:List (Key×Ld))(h:cG w c g s)(hc:∀k,w.heap.size<=k->c k=none)(hr:dK w 3 bo.cells A n cap rows)(hn:n<=1000)(ht:(jb rows).length<=40)(hl:aW w c s.cfg (jb rows) l)(UE:0<=s.bV)(he1:s.bV<=50000)(hcl:s.cuts.length<=50000):
 Calls prog 141 #[pt g,.slice A n cap] w (ax8 c g s l w):=by
 obtain⟨A0,m,cp,ps,gt,bt,fp,ks,h⟩:=h;have HM:=fY h;have H:=h;have HC:=hc;have HL:=hl;have wB:=h.tabs.keys;have HN:=zh (λW (hb:Bl w W)=>UB (s.bV+1) A n cap rows W (hr.keep hb) hn ht (λr hrm e hem=>by
  have hm:e∈jb rows:=aT8.2 ⟨r,hrm,hem⟩;obtain⟨i,hi⟩:=aD7 hm;obtain⟨x,hx⟩:=hl.at2 hi;obtain⟨e',h1,-,h3⟩:=hl.at_ hx;rw[hi]at h1;injection h1 with h1;subst h1
  exact⟨c,s.cfg,_,h3.call hb⟩))
 have NG:¬(g=gt\/g=bt):=λe=>by rcases e with e|e;(have h1:=h.tabs.cg;rw[<-e,h.cg]at h1;cases h1);(have h1:=h.tabs.cb;rw[<-e,h.cg]at h1;cases h1)
 have HB:=h.blk;have HT:=h.tabs.tab;have HEl:(vr l).length<=100000:=by unfold vr;rw[fx];have:=hl.len;omega
 have Ls:(1:Int)<=(s.cuts.length:Int)+1/\(s.cuts.length:Int)+1<=100000:=oM
 have hz:IntKind.i64.wrap (s.bV+1)=s.bV+1:=by rw[IntKind.wrap_i64];omega
 clear h hc hl hr hn ht
 by_cases hf:64<=s.live
 ·have HF:64<=ks.length:=by rw[wB];exact hf
  have HF2:=hf;clear wB hf;go_enter func141,ntmps141;go_upto_region 3 with(go_at_call 66;refine HM.mono ?_;rintro e w1 ⟨rfl,rfl⟩)
  refine zB λS0=>?_
  refine zk 12 [0,1,2,3,4] [_,_,_,pt gt,_] (.q zX<|.q zX<|.q zX<|.q (zS λ_ h=>(HB.call h).z 1 (pt gt))<|.e) S0 ?_;refine zk 7 [5,6,7,8,9] [_,_,I6 s.bV,I6 (s.bV+1),_] (.q zX<|.q zX<|.q (zS λ_ h=>(HB.call h).z 2 (I6 s.bV))<|.q zX<|.e) S0 ?_;refine zQ 10 ?_;go_wp2_with(go_at_call 191;refine(HN _ (S0)).mono ?_;rintro e w5 ⟨gc,A5,n5,c5,rfl,dx,hv5,iK,ha5,wK⟩);refine .i (zT S0 wK) ?_;have S5:=zT S0 wK;refine zQ 11 ?_;go_wp2_with(go_at_call 190;refine zN (ur gt bt gc fp ks _ _ (HT.call (S5)) Ls.1 HF) ?_);refine .i S5 ?_;refine zq 0 [12,13,14,15,16] [.tuple #[I6 0,I6 6],I6 0,I6 6,I6 0,I6 6] S5 ?_;refine zd ?_;have S5':=S5;clear S0 S5 dx hv5 iK ha5 wK;go_wp2;go_ret3;exact⟨c,ae.aa _ c HC S5',.inl ⟨HF2,rfl,⟨A0,m,cp,ps,gt,bt,fp,ks,H.call S5'⟩⟩⟩
 ·have HF:ks.length<64:=by rw[wB];omega
  have HF2:=hf;clear wB hf;go_enter func141,ntmps141;go_upto_region 3 with(go_at_call 66;refine HM.mono ?_;rintro e w1 ⟨rfl,rfl⟩)
  refine zr (λ_=>false) (λwS=>ah (λk=>k=gt\/k=bt) w wS) ?_;have S0:=(ah.refl (λk=>k=gt\/k=bt) w).drew;refine zk 12 [0,1,2,3,4] [_,_,_,pt gt,_] (.q zX<|.q zX<|.q zX<|.q (zS λ_ h=>(HB.upd h NG).z 1 (pt gt))<|.e) S0 ?_;refine zk 7 [5,6,7,8,9] [_,_,I6 s.bV,I6 (s.bV+1),_] (.q zX<|.q zX<|.q (zS λ_ h=>(HB.upd h NG).z 2 (I6 s.bV))<|.q zX<|.e) S0 ?_;refine zQ 10 ?_;go_wp2_with(go_at_call 191;refine(HN _ bR.drew).mono ?_;rintro e w5 ⟨gc,A5,n5,c5,rfl,dx,hv5,iK,ha5,wK⟩;have B5:=dx;have V5:=hv5;have G5:=iK;have D5:=ha5;have X5:Bl w w5:=Below.trans bR.drew wK;clear dx hv5 iK ha5 wK);refine .i ((ah.aa (S:=λk=>k=gt\/k=bt) X5)) ?_;have S5:=ah.aa (S:=λk=>k=gt\/k=bt) X5;refine zQ 11 ?_;go_wp2_with(go_at_call 190;refine(Iq gt bt gc fp ks _ _ (HT.call X5) Ls.1 Ls.2 HF).mono ?_;rintro e w6 ⟨rfl,T6,U6⟩);refine .i (S5.trans U6 iL) ?_;have S6:=S5.trans U6 iL;refine zq 0 [12,13,14,15,16] [.tuple #[I6 ((s.cuts.length:Int)+1),I6 0],I6 ((s.cuts.length:Int)+1),I6 0,I6 ((s.cuts.length:Int)+1),I6 0] S6 ?_;refine zd ?_;have HB6:=HB.upd S6 NG;have S6':=S6;have c2:=HB6.z 2 (I6 s.bV);have f2:=HB6.frozen 2;clear S0 S5 S6;go_wp2;go_ret3;obtain⟨N,hN⟩:∃N:Nat->Prop,N=λk=>k=gc\/(A5.map Addr.block)=some k:=⟨_,rfl⟩
  have hNb:∀k,N k->w.heap.size<=k/\k<w5.heap.size:=λk hk=>by
   rw[hN]at hk;rcases hk with rfl|hk
   ·exact⟨G5,B5.lt⟩
   ·obtain⟨a,ha,rfl⟩:=aS3.1 hk
    exact⟨D5 a ha,V5.lt a ha⟩
  obtain⟨c',hcc⟩:∃c',c' = ft N .nS c:=⟨_,rfl⟩
  have T2:∃T2:Tag->Prop,T2=λt=>t=.at_ 0\/t=.at_ 2:=⟨_,rfl⟩
  obtain⟨T2,hT2⟩:=T2;have t0:T2 (.at_ 0):=by rw[hT2];exact .inl rfl
  have t2:T2 (.at_ 2):=by rw[hT2];exact .inr rfl
  have t1:¬T2 (.at_ 1):=by rw[hT2];rintro(h|h)<;>cases h
  have tf:¬T2 .nS:=by rw[hT2];rintro(h|h)<;>cases h
  have ts:∀i t,T2 t->¬jx i t:=by rw[hT2];rintro i t (rfl|rfl);exact km i 0;exact km i 2
  have tS:∀t,T2 t->dO t:=by rw[hT2];rintro t (rfl|rfl);exact .inl rfl;exact .inr (.inr (.inl rfl))
  have hs1:ae T2 w w5 c c':=by rw[hcc];exact ae.nS X5 N hNb HC
  have hold:∀k,k<w.heap.size->c' k=c k:=λk hk=>by rw[hcc];exact aC (λh=>by have:=(hNb k h).1;omega)
  have hgt:=(hold gt HT.1.lt).trans H.tabs.cg;have hbt:=(hold bt HT.2.1.lt).trans H.tabs.cb;have hgg:=(hold g HB.lt).trans H.cg;have hs2:ae T2 w5 w6 c' c':=ae.same U6 (λk hk=>by rcases hk with rfl|rfl;exact⟨_,hgt,t2⟩;exact⟨_,hbt,t2⟩) hs1.fresh;have hs3:ae T2 w6 (w6.setCell ⟨g,2,none⟩ (I6 (s.bV+1))) c' c':=ae.same ((ah.refl (λk=>k=g) w6).setCell (p:=⟨g,2,none⟩) (.inl rfl) _) (λk hk=>by rw[hk];exact⟨_,hgg,t0⟩) hs2.fresh;have hs:=(hs1.trans hs2 tf).trans hs3 tf;have hX:gP w5 c' s.cfg gc ⟨s.bV+1,vr l⟩ A5 n5 c5 (bL cY (jb rows)):=
   ⟨B5,V5,(HL.step hs1 tf).ax7,by rw[hcc];exact bw (by rw[hN];exact .inl rfl),λa ha=>by rw[hcc];exact bw (by rw[hN];exact .inr (by rw[ha];rfl)),jM UD YN l,HEl⟩
  refine⟨c',hs.mono tS,.inr ⟨by have:=HF2;omega,rfl,⟨A0,m,cp,ps,gt,bt,yu fp ((s.cuts.length:Int)+1) gc,oU ks ((s.cuts.length:Int)+1),HB6.aX 2 _,hgg,?_,⟨?_,hgt,hbt,λi x hi=>?_,λx=>?_⟩,H.pos⟩⟩⟩
  ·obtain⟨k1,k2,k3,k4,k5⟩:=H.strs.step hs t1 tf ts
   exact⟨k1,k2,k3,k4,k5⟩
  ·have:=gQ.block T6 (Below.heap_setCell w6 ⟨g,2,none⟩ (I6 (s.bV+1)) gt (λe=>NG (.inl e.symm))) (Below.heap_setCell w6 ⟨g,2,none⟩ (I6 (s.bV+1)) bt (λe=>NG (.inr e.symm)))
   unfold aL.pub
   simpa using this
  ·change(s.cuts++[some _])[i]? = _ at hi
   rcases aE2 i s.cuts.length with h|h
   ·rw[aC9 h]at hi
    obtain⟨g1,A1,n1,cc1,Xr,e1,e2⟩:=H.tabs.cuts i x hi;refine⟨g1,A1,n1,cc1,Xr,?_,e2.step hs tf⟩;unfold yu;rw[if_neg oM];exact e1
   ·have h2:=(d9.1 hi).1
    simp at h2;obtain rfl:i=s.cuts.length:=oM
    simp at hi;subst hi;exact⟨gc,A5,n5,c5,_,by unfold yu;rw[if_pos rfl],(hX.step (hs2.trans hs3 tf) tf)⟩
  ·unfold aL.pub
   rw[Lr,<-H.tabs.YS x];unfold yu
   by_cases e:x=(s.cuts.length:Int)+1
   ·simp[e]
   ·simp[e]
abbrev ax9:TypeId:=227
def yz: ∀r:bq α,r.hdr.length=1:=λ_=>rfl
def UK: ∀r:bq α,∀u∈r.hdr,u.oneCell' = true:=λr u hu=>by simp[bq.hdr]at hu;subst hu;rfl
def UM:(prog.info? Ll).map (λi=>(i.zero,i.size,i.bytes))=some (some (.slice none 0 0),1,24):=kZ
structure SnI(w wr:World)(c cr:bh)(g:Nat)(A:Option Addr)(n cap:Nat)(ps:List Nat)(gt bt:Nat)(fp:Int->Option Nat)(ks:List Int)(s:aL)(v:Value)(rows:List (bq bo))(l:List (Key×Ld)):Prop where
 aG:jd wr cr g A n cap ps gt bt fp ks s
 step:ae dO w wr c cr
 own:aK wr w.heap.size Ll 1 bq.hdr v rows
 no:∀k,v.ownBlock=some k->cr k=none
 row:∀r∈rows,aK wr w.heap.size kP 3 bo.cells (.slice r.A r.n r.c) r.l/\∀k,(Value.slice r.A r.n r.c).ownBlock=some k->cr k=none
 dG:aW wr cr s.cfg (jb rows) l
def Ql(s:aL)(i:Nat)(h:i<s.strs.length):s.et i (s.str i)=s:=by
 unfold aL.et aL.str;have:s.strs.set i (s.strs.getD i ao7)=s.strs:=by
  rw[aB7,aB3 h];exact List.set_getElem_self h
 rw[this]
def partsOf(s:aL)(k:Nat):List (Key×Ld):=(s.strs.take k).flatMap bF.dG
def DM(s:aL)(h:k<s.strs.length):partsOf s (k+1)=partsOf s k++(s.str k).dG:=by
 unfold partsOf aL.str;rw[aE3,aB3 h,aH0,aB7,aB3 h];simp
def Qm(s:bF):s.dG.length<=s.loads.length:=by
 have:=ym s (eW s.keys);have:(eW s.keys).length=s.loads.length:=by rw[(fg _).length_eq];exact aC8 _
 have h3:s.dG=qX s (eW s.keys):=rfl;rw[h3];omega
def aL.nT(s:aL):Nat:=(s.strs.map λx=>x.loads.length).sum
theorem UN(s:aL)(k:Nat):(partsOf s k).length<=s.nT:=by
 unfold partsOf aL.nT
 suffices h:∀(l:List bF)(k:Nat),((l.take k).flatMap bF.dG).length<=(l.map λx=>x.loads.length).sum from h s.strs k
 intro l
 induction l with
 |nil=>intro k;simp
 |cons x l ih=>
  intro k;cases k with
  |zero=>simp
  |succ k=>
   rw[aU9,aE8,aB8,aH1,aS2];have:=ih k;have:=Qm x;omega
def SnI.next{wr: World}{cr c': bh}(h:SnI w wr c cr g A n cap ps gt bt fp ks s v rows l){p:Nat}(hp:ps[i]? = some p)(hs:ae (jx i) wr w' cr c')(hx:dN w' c' i p (s.str i)):SnI w w' c c' g A n cap ps gt bt fp ks s v rows l:=by
 have hil:i<s.strs.length:=oI (d9.1 hp).1 h.aG.strs.len
 have hno:∀(v:Value),(∀k,v.ownBlock=some k->cr k=none)->∀k,v.ownBlock=some k->∀t,cr k=some t->¬jx i t:=λv hv k hk t e=>by rw[hv k hk]at e;cases e
 refine⟨by have:=h.aG.str hp hs hx;rwa [Ql s i hil]at this,h.step.trans (hs.mono λt e=>.st e) eu,h.own.upd hs.upd (λk hk ⟨t,e,ht⟩=>hno _ h.no k hk t e ht),λk hk=>(hs.old k (h.own.lt k hk).2 (hno _ h.no k hk)).trans (h.no k hk),λr hr=>?_,h.dG.step hs (bS i)⟩
 obtain⟨h1,h2⟩:=h.row r hr;exact⟨h1.upd hs.upd (λk hk ⟨t,e,ht⟩=>hno _ h2 k hk t e ht),λk hk=>(hs.old k (h1.lt k hk).2 (hno _ h2 k hk)).trans (h2 k hk)⟩
abbrev mi:TypeId:=70
structure nU(w:World)(c:bh)(g:Nat)(t:TypeId)(cs:Array Value):Prop where
 blk:ai w g t cs
 no:c g=none
def nU.step{c': bh}(h:nU w c g t cs)(hs:ae T w w' c c'):nU w' c' g t cs:=
 ⟨h.blk.upd hs.upd (λ⟨t,e,_⟩=>by rw[h.no]at e;cases e),(hs.old g h.blk.lt (λt e=>by rw[h.no]at e;cases e)).trans h.no⟩
def nU.call(h:nU w c g t cs)(hb:Bl w w'):nU w' c g t cs:=⟨h.blk.call hb,h.no⟩
def UO(c:bh)(g:Nat)(r:kO×aL)(w:World)(e:Ending)(w' : World):Prop:=∃c',e=.returned (.agg r.1.row)/\cG w' c' g r.2/\ae dO w w' c c'
def aK.gC{e size:Nat}{cells:α->List Value}{l:List α}(h:aK w b e size cells v l)(hb:ai w g t cs)(hne:t≠e):v.ownBlock≠some g:=by
 rcases h with⟨rfl,_⟩|⟨g',off,cap,cur,rfl,_,hg,_⟩
 ·intro h;simp[Value.ownBlock]at h
 ·intro h
  simp[Value.ownBlock]at h;subst h;have h1:w.heap[g']? = some (.cells cs t (0,0)):=hb;rw[hg]at h1;injection h1 with h1
  injection h1 with _ h1
  exact hne h1.symm
def fX.off(h:fX w c A n cap ps s)(hu:ah S w w')(hS:∀k,S k->c k=none):fX w' c A n cap ps s:=
 ⟨aV h.sl hu (λa ha hs=>by have e:=h.ca a ha;rw[hS _ hs]at e;cases e),h.ca,λa ha=>aB9 (h.la a ha) hu.size,h.len,λi p hp=>(h.str i p hp).off hu hS⟩
def gP.off(h:gP w c cf g m A n cc es)(hu:ah S w w')(hS:∀k,S k->c k=none):gP w' c cf g m A n cc es:=
 ⟨h.blk.upd hu (λhs=>by have e:=h.cg;rw[hS _ hs]at e;cases e),h.row.upd hu (λa ha hs=>by have e:=h.ca a ha;rw[hS _ hs]at e;cases e),h.dG.off hu hS,h.cg,h.ca,h.RP,h.len⟩
def jd.off(h:jd w c g A n cap ps gt bt fp ks s)(hu:ah S w w')(hS:∀k,S k->c k=none):jd w' c g A n cap ps gt bt fp ks s:=by
 have hn:∀k t,c k=some t->¬S k:=λk t e hs=>by rw[hS k hs]at e;cases e
 exact⟨h.blk.upd hu (hn g _ h.cg),h.cg,h.strs.off hu hS,⟨h.tabs.tab.block (hu.block gt h.tabs.tab.1.lt (hn gt _ h.tabs.cg)) (hu.block bt h.tabs.tab.2.1.lt (hn bt _ h.tabs.cb)),h.tabs.cg,h.tabs.cb,λi m hm=>by obtain⟨g1,A1,n1,cc1,Xr,e1,e2⟩:=h.tabs.cuts i m hm;exact⟨g1,A1,n1,cc1,Xr,e1,e2.off hu hS⟩,h.tabs.YS⟩,h.pos⟩
def cG.off(h:cG w c g s)(hu:ah S w w')(hS:∀k,S k->c k=none):cG w' c g s:=by
 obtain⟨A,n,cap,ps,gt,bt,fp,ks,h⟩:=h;exact⟨A,n,cap,ps,gt,bt,fp,ks,h.off hu hS⟩
abbrev di:Array Value:=#[I6 0,I6 0,I6 0,I6 0,I6 0,I6 0,I6 0,I6 0,I6 0,I6 0,I6 0,I6 0,I6 0]
theorem Lt(n0:Nat)(h:cG w c g s)(hc:∀k,w.heap.size<=k->c k=none)(zv:∀i,i<s.strs.length->(s.str i).cfg=s.cfg)(hld:∀i,i<s.strs.length->(s.str i).loads.length<=n0)(hn0:n0<=100000)(qd:s.strs.length<=64)(UQ:s.nT<=40)(UE:0<=s.bV)(he1:s.bV<=50000)(hcl:s.cuts.length<=50000):
 Calls prog 71 #[pt g] w (UO c g s.snap w):=by
 obtain⟨A,n,cap,ps,gt,bt,fp,ks,h⟩:=h;have hns:=h.strs.n_;have EX:=zW w (.cells di mi);have CX:=ae.aa dO c hc EX;have UX:nU (w.alloc (.cells di mi)) c w.heap.size mi di:=⟨ai.new _ _ _,hc _ lR⟩;have c0:=(h.call EX).blk.z 0 (.slice A n cap);have H0:SnI w (w.alloc (.cells di mi)) c c g A n cap ps gt bt fp ks s (.slice none 0 0) [] (partsOf s 0):=⟨h.call EX,CX,aK.nil _ _ _ _ _,(λk hk=>by simp[Value.ownBlock]at hk),(λr hr=>by simp at hr),.nil⟩;have Fp:=zv;have HLd:=hld;have HTt:=UQ;have HNs:=hns;have:n<=64:=oM
 have HEe:=And.intro UE (And.intro he1 hcl);clear h hc zv hld UQ hns EX CX qd UE he1 hcl;go_enter func71,ntmps71;go_wp2;obtain⟨gx,hgx⟩:=zE w.heap.size;rw[<-hgx]at UX |-;have mL:=zD hgx;clear hgx c0;go_loopw[14,3] (λv vo wr=>∃(k:Nat)(cr:bh)(rows:List (bq bo))(A2:Option Addr)(n2 c2:Nat),k<=n/\v = I6 k/\vo=.slice A2 n2 c2/\rows.length=k/\SnI w wr c cr g A n cap ps gt bt fp ks s (.slice A2 n2 c2) rows (partsOf s k)/\nU wr cr gx mi di) (λv _ _=>n-(intOf v).toNat)
 case atStart=>exact⟨0,c,[],none,0,0,aB6 _,rfl,rfl,rfl,H0,UX⟩
 case round=>
  obtain⟨k,cr,rows,A2,n2,c2,hk,rfl,rfl,Nl,hin,hux⟩:=hrel;have HI:=hin;have HU:=hux;have HRl:=Nl;clear hin hux Nl
  by_cases hlt:k<n
  ·obtain⟨b,off,p,hA,hp,hb,h4⟩:=ag.at_ HI.aG.strs.sl hlt
   have t0:=h4 0 _ rfl;simp only[aW6,aH9]at t0;subst hA;have:(k:Int)<(n:Int):=oM
   have zt:k<s.strs.length:=by have:=HNs;omega
   have HP:=hp;have HF:=AV wr (HI.aG.strs.str k p hp) HI.step.fresh (HLd k zt) hn0;have Qn:=zt;clear h4 hp hb zt;go_wp2_with(first
    |go_at_call 140;refine HF.mono ?_;rintro e w3 ⟨c3,A3,n3,c3',es3,rfl,he3,hs3,ht3⟩;have E3:=he3;have T3:=ht3;have N3:=HI.next HP ht3 hs3;have U3:=HU.step ht3;clear he3 hs3 ht3
    |(at_builtin;refine cX _ rfl (.tmp 18) (.tmp 21) ax9 rfl w.heap.size Ll _ 1 24 bq.hdr underlying227 UM rF dC yz UK (.slice A2 n2 c2) rows rfl (N3.own.alloc _) ⟨w3.heap.size,0,none⟩ 1 ⟨A3,n3,c3',es3⟩ rfl (br (α:=bq bo) (vs:=bq.hdr ⟨A3,n3,c3',es3⟩) (ai.new _ _ _) rfl) (by have:=HRl;omega) dC (by have:=N3.step.upd.size;simp;omega) ?_;intro v' w5 kG Co wK;obtain⟨A5,n5,c5,rfl,-,-⟩:=kG.shape yz;have O5:=kG;have U5:=Co;have W5:=wK;clear kG Co wK))
   go_roundw
   case rel=>
    have UX:ah (λj=>(Value.slice A2 n2 c2).ownBlock=some j) w3 w5:=(ah.aa ((Below.refl _ w3).alloc lR _)).trans U5 iL;have DD:∀j,(Value.slice A2 n2 c2).ownBlock=some j->c3 j=none:=N3.no
    have hf5:=T3.fresh;have hsz:=HI.step.upd.size;have E3o:=E3.own.mono hsz;refine⟨k+1,c3,rows++[⟨A3,n3,c3',es3⟩],A5,n5,c5,oM,by go_num,rfl,by rw[aB8,HRl];rfl,⟨N3.aG.off UX DD,N3.step.own UX (λj hj=>(N3.own.lt j hj).1),O5,λj hj=>?_,λr hr=>?_,?_⟩,⟨U3.blk.upd UX (N3.own.gC U3.blk dC),U3.no⟩⟩
    ·rcases W5 with e|e
     ·rw[e]at hj;exact DD j hj
     ·rw[e]at hj;injection hj with hj;exact hf5 j (by rw[<-hj];simp)
    ·rcases aD1.1 hr with hr|hr
     ·obtain⟨r1,r2⟩:=N3.row r hr
      exact⟨r1.upd UX (λj hj=>r1.wJ N3.own dC j hj),r2⟩
     ·simp at hr;subst hr
      exact⟨E3o.upd UX (λj hj=>E3o.wJ N3.own dC j hj),E3.no⟩
    ·rw[DM s Qn,show jb (rows++[⟨A3,n3,c3',es3⟩])=jb rows++es3 from by unfold jb;simp]
     refine(N3.dG.off UX DD).app ?_;rw[<-Fp k Qn];exact E3.dG.off UX DD
   case measure=>simp[intOf];omega
  ·obtain rfl:k=n:=oM
   obtain⟨A',n',c',hv,fo,gU⟩:=HI.own.shape yz;injection hv with e1 e2 e3
   subst e1;subst e2;subst e3;have ay0:=Bc A2 n2 c2 rows (partsOf s k) ⟨A,k,cap,ps,gt,bt,fp,ks,HI.aG⟩ HI.step.fresh ⟨gU,λr hr=>by
    obtain⟨_,_,_,e,-,h2⟩:=(HI.row r hr).1.shape gN;injection e with e1 e2 e3
    subst e1;subst e2;subst e3;exact h2⟩ (by rw[fo,HRl];omega) (by rw[HI.dG.len];exact aB4 (UN s k) HTt) HI.dG HEe.1 HEe.2.1 HEe.2.2
   have hpo:partsOf s k=s.strs.flatMap bF.dG:=by unfold partsOf;rw[aB5 (by have:=HNs;omega)]
   have HQ:s.snap=(if 64<=s.live then(cK 6,s)else({eo with bV:=s.bV+1,RX:=(s.cuts.length:Int)+1},s.pub (partsOf s k))):=by rw[hpo];rfl
   obtain⟨R,hR⟩:=zE s.snap;have HRs:=zD hR;rw[<-hR]at HQ |-;have YU:=(λ(e:Ending)(w' : World)(c' : bh)(h:(64<=s.live/\e=.returned (.tuple #[I6 0,I6 0,I6 6])/\cG w' c' g s)\/(s.live<64/\e=.returned (.tuple #[I6 (s.bV+1),I6 ((s.cuts.length:Int)+1),I6 0])/\cG w' c' g (s.pub (partsOf s k))))=>(show ∃ep hn er:Int,e=.returned (.tuple #[I6 ep,I6 hn,I6 er])/\R.1=⟨er,ep,hn,mh,eU⟩/\cG w' c' g R.2 from by
    rcases h with⟨hf,rfl,hso⟩|⟨hf,rfl,hso⟩
    ·rw[HQ,if_pos hf];exact⟨_,_,_,rfl,rfl,hso⟩
    ·rw[HQ,if_neg oM];exact⟨_,_,_,rfl,rfl,hso⟩))
   clear fo gU hpo hR;go_wp2_with(first|(refine zJ U6.blk ?_;intro w9 X9 G9)|(go_at_call 141;refine ay0.mono ?_;rintro e w6 ⟨c6,T6,nD⟩;have U6:=HU.step T6;obtain⟨ep,hn,er,rfl,R6,hso⟩:=YU _ _ _ nD;have O6:=hso;clear nD hso));refine zU X9 underlying70 ?_;have UG:=ah.bE G9;refine⟨c6,?_,?_,(HI.step.trans T6 eu).own UG (λj hj=>by rw[hj,mL.out];exact aC2 _)⟩
   ·rw[<-HRs.out,R6];rfl
   ·rw[<-HRs.out];exact O6.off UG (λj hj=>by rw[hj];exact U6.no)
section
def nQ(c c' : bh):Prop:=∀k t,c k=some t->c' k=some t
def nQ.ft{N:Nat->Prop}{t:Tag}{c:bh}(h:∀k,N k->c k=none):nQ c (ft N t c):=λk t' e=>by
 rw[aC (λhn=>by rw[h k hn]at e;cases e)];exact e
section
variable{w:World}{c c' : bh}
def dU.ext{f:Key->Option Value}{s:bF}{ex:Key->Prop}(h:dU w c i g b f s ex)(he:nQ c c'):dU w c' i g b f s ex:=
 ⟨h.blk,h.map,h.ne,he _ _ h.cg,he _ _ h.cb,λk x hk hx=>by obtain⟨p,F,fr,e1,e2,e3⟩:=h.wH k x hk hx;exact⟨p,F,fr,e1,e2,λj hj=>he _ _ (e3 j hj)⟩⟩
def dN.ext{s:bF}(h:dN w c i g s)(he:nQ c c'):dN w c' i g s:=by
 obtain⟨b,f,h⟩:=h;exact⟨b,f,h.ext he⟩
def eA.ext(h:eA w c cf p x)(he:nQ c c'):eA w c' cf p x:=by
 obtain⟨F,h1,h2⟩:=h;exact⟨F,h1,λj hj=>he _ _ (h2 j hj)⟩
theorem aW.ext(h:aW w c cf es l)(he:nQ c c'):aW w c' cf es l:=by
 induction h with
 |nil=>exact .nil
 |cons h1 _ ih=>exact .cons (h1.ext he) ih
def gP.ext(h:gP w c cf g m A n cc es)(he:nQ c c'):gP w c' cf g m A n cc es:=
 ⟨h.blk,h.row,h.dG.ext he,he _ _ h.cg,λa ha=>he _ _ (h.ca a ha),h.RP,h.len⟩
def fX.ext(h:fX w c A n cap ps s)(he:nQ c c'):fX w c' A n cap ps s:=
 ⟨h.sl,λa ha=>he _ _ (h.ca a ha),h.la,h.len,λi p hp=>(h.str i p hp).ext he⟩
def jd.ext(h:jd w c g A n cap ps gt bt fp ks s)(he:nQ c c'):jd w c' g A n cap ps gt bt fp ks s:=
 ⟨h.blk,he _ _ h.cg,h.strs.ext he,⟨h.tabs.tab,he _ _ h.tabs.cg,he _ _ h.tabs.cb,λi m hm=>by obtain⟨g1,A1,n1,cc1,Xr,e1,e2⟩:=h.tabs.cuts i m hm;exact⟨g1,A1,n1,cc1,Xr,e1,e2.ext he⟩,h.tabs.YS⟩,h.pos⟩
def cG.ext(h:cG w c g s)(he:nQ c c'):cG w c' g s:=by
 obtain⟨A,n,cap,ps,gt,bt,fp,ks,h⟩:=h;exact⟨A,n,cap,ps,gt,bt,fp,ks,h.ext he⟩
end
def ae.tag{w: World}{c c1:bh}(h:ae T w w' c c1)(N:Nat->Prop)(t:Tag)(ht:T t)(hN:∀k,N k->w.heap.size<=k/\k<w'.heap.size):ae T w w' c (ft N t c1):=by
 refine⟨h.upd,λj hj hn=>(aC (λhk=>oH (hN j hk).1)).trans (h.old j hj hn),λj t' hj e=>?_,λj hj=>?_⟩
 ·by_cases hk:N j
  ·rw[bw hk]at e;injection e with e;subst e;exact .inl ht
  ·rw[aC hk]at e;exact h.new j t' hj e
 ·rw[aC (λhk=>oH (hN j hk).2)];exact h.fresh j hj
abbrev ah7:TypeId:=133
def uv:∀p:Nat,(yx p).length=1:=λ_=>rfl
def Qo:∀p:Nat,∀u∈yx p,u.oneCell' = true:=λr u hu=>by simp[yx]at hu;subst hu;rfl
def UR:(prog.info? ah7).map (λi=>(i.zero,i.size,i.bytes))=some (some (.pointer none),1,8):=kZ
structure NwI(w wr:World)(c cr:bh)(cf:aM)(gx gs gt bt:Nat)(A:Option Addr)(n cc:Nat)(ps:List Nat):Prop where
 box:nU wr cr gx 23 cf.row
 blk:nU wr cr gs YR #[.slice A n cc,pt gt,I6 0,.bool false]
 tab:gQ wr gt bt (λ_=>none) [] 1
 ct:cr gt=none/\cr bt=none
 own:aK wr w.heap.size ah7 1 yx (.slice A n cc) ps
 no:∀k,(Value.slice A n cc).ownBlock=some k->cr k=none
 str:∀i p,ps[i]? = some p->dN wr cr i p ⟨cf,[],0⟩
 step:ae dO w wr c cr
 bs:w.heap.size<=gs/\w.heap.size<=gt/\w.heap.size<=bt/\gs≠gt/\gs≠bt
def aK.UT{w:World}{e size:Nat}{cells:α->List Value}{l:List α}(h:aK w b e size cells v l){P:Program}{kt:TypeId}{bm:Nat}{f:Int->Option Value}(hm:cw P w kt bm f ks):v.ownBlock≠some bm:=by
 rcases h with⟨rfl,_⟩|⟨g',off,cap,cur,rfl,_,hg,_⟩
 ·intro h;simp[Value.ownBlock]at h
 ·intro h
  simp[Value.ownBlock]at h;subst h;obtain⟨D,⟨es,clock,h1,_⟩,_⟩:=hm;rw[hg]at h1;cases h1
def UW{w:World}{g': Nat}{t': TypeId}{cs': Array Value}(h:ai w g t cs)(h' : ai w g' t' cs')(ht:t≠t'):g≠g':=λe=>by
 subst e;have h1:w.heap[g]? = some (.cells cs t (0,0)):=h;rw[show w.heap[g]? = some (.cells cs' t' (0,0))from h']at h1;injection h1 with h1
 injection h1 with _ h1
 exact ht h1.symm
theorem Qp(cf:aM)(c:bh)(w:World)(hf:cf.fit)(a8:cf.gV)(hc:∀k,w.heap.size<=k->c k=none) :
 Calls prog 19 #[.agg cf.row] w λe w'=>∃g c',e=.returned (.tuple #[pt g,I6 0])/\cG w' c' g (aL.new cf)/\ae dO w w' c c':=by
 obtain⟨m,hm⟩:∃m:Nat,cf.str=m:=⟨cf.str.toNat,oH (a7 a8.1)⟩
 have aB0:m<=64:=oH (a7 a8.1)
 have Cv:1<=m:=oH (a7 a8.1)
 have HR:=(λW=>fQ cf W hf);rw[show im cf=0 from if_pos a8]at HR;have HX:=zW w (.cells cf.row 23);have BX:nU (w.alloc (.cells cf.row 23)) c w.heap.size 23 cf.row:=⟨ai.new _ _ _,hc _ lR⟩;have HC:=hc;have HSn:=(λi cr W h=>Kw cf i cr W hf a8 h);have HM:=zD hm;clear hf a8 hc hm;go_enter func19,ntmps19;go_wp2_with(first
  |refine zI BX.blk underlying23 ?_
  |go_at_call 53;refine zM (HR _) λw1 hb1=>?_;have E1:=zT HX hb1;have X1:=BX.call hb1;clear hb1
  |(go_at_call 54;refine(Ln _).mono ?_;rintro e w2 ⟨rfl,T2,hb2⟩;have E2:=zT E1 hb2;have X2:=X1.call hb2;have ay1:=hb2.size;have hlt2:=T2.1.lt;have k0:=(X2.call (show Bl w2 (w2.alloc (.cells #[.slice none 0 0,pt (w1.heap.size+1),I6 0,.bool false] YR)) by go_grown)).blk.z 0 (I6 cf.str);rw[HM.out]at k0;clear hb2))
 have ah8:=E1.size;have ap0:=HX.size;obtain⟨gs,Nw⟩:=zE w2.heap.size;obtain⟨bt,hbt⟩:=zE w1.heap.size;obtain⟨gx,hgx⟩:=zE w.heap.size;obtain⟨W0,hW0⟩:=zE (w2.alloc (.cells #[.slice none 0 0,pt (bt+1),I6 0,.bool false] YR));have EW:Bl w2 W0:=by rw[hW0];go_grown
 have H0:NwI w W0 c c cf gx gs (bt+1) bt none 0 0 []:=by
  refine⟨hgx▸X2.call EW,⟨by rw[hW0,Nw];exact ai.new _ _ _,HC _ oM⟩,hbt▸T2.call EW,⟨HC _ oM,HC _ oM⟩,aK.nil _ _ _ _ _,(λk hk=>by simp[Value.ownBlock]at hk),(λi p hp=>by simp at hp),ae.aa dO c HC (zT E2 EW),?_⟩;simp at ap0;refine⟨?_,?_,?_,?_,?_⟩<;>omega
 rw[<-hbt,<-Nw,<-hgx,<-hW0];clear k0 Nw hbt hgx hW0 EW ah8 ap0 ay1 hlt2 T2 X2 E2 X1 E1 BX;go_loopw[16] (λi wr=>∃(k:Nat)(cr:bh)(A:Option Addr)(n cc:Nat)(ps:List Nat),k<=m/\i = I6 k/\ps.length=k/\NwI w wr c cr cf gx gs (bt+1) bt A n cc ps) (λi _=>m-(intOf i).toNat)
 case atStart=>exact⟨0,c,none,0,0,[],aB6 _,rfl,rfl,H0⟩
 case round=>
  obtain⟨k,cr,A,n,cc,ps,hk,rfl,hpl,hin⟩:=hrel;have HI:=hin;have UZ:=hpl;clear hin hpl
  by_cases hlt:k<m
  ·have Fb:(k:Int)<(m:Int):=oM
   have NG:¬((∃t,cr gs=some t/\jx k t)\/(Value.slice A n cc).ownBlock=some gs):=λh=>by
    rcases h with⟨t,e,-⟩|e
    ·rw[HI.blk.no]at e;cases e
    ·exact HI.own.gC HI.blk.blk dC e
   have NX:¬((∃t,cr gx=some t/\jx k t)\/(Value.slice A n cc).ownBlock=some gx):=λh=>by
    rcases h with⟨t,e,-⟩|e
    ·rw[HI.box.no]at e;cases e
    ·exact HI.own.gC HI.box.blk dC e
   go_upto_region 7 with fail
   refine zr (λj=>[11].contains j) (λwS=>ah (λj=>(∃t,cr j=some t/\jx k t)\/(Value.slice A n cc).ownBlock=some j) wr wS) ?_;have S0:=(ah.refl (λj=>(∃t,cr j=some t/\jx k t)\/(Value.slice A n cc).ownBlock=some j) wr).drew;refine zk 7 [0,1,2,3,4] [_,_,pt gs,pt gs,.slice A n cc] (.q zX<|.q zX<|.q zX<|.q zX<|.q (zS λ_ h=>(HI.blk.blk.upd h NG).z 0 (.slice A n cc)) .nil) S0 ?_;refine zk 6 [5] [_] (.c rfl rfl (zl λ_ h=>zb (HI.box.blk.upd h NX) underlying23) .nil) S0 ?_;refine zQ 6 ?_;go_wp2_with(go_at_call 55;refine(HSn k cr wr.drew (λj hj=>HI.step.fresh j hj)).mono ?_;rintro e v6 ⟨g6,c6,rfl,Z6,T6⟩);refine .i (S0.trans T6.upd (λk hk=>.inl (.inl hk))) ?_;have S6:=S0.trans T6.upd (λk hk=>.inl (.inl hk));refine zQ 7 ?_;obtain⟨G,hG,bG,lG⟩:=iA (S:=S6) (#[pt g6]) 133;go_wp2_with fail;refine .i (S6.alloc _) ?_
   (try simp only[hG])
   clear hG;have SG:=S6.alloc (.cells (#[pt g6]) 133);refine zQ 8 ?_;go_wp2_with(refine cX _ rfl (.tmp 22) (.tmp 25) 130 rfl w.heap.size ah7 _ 1 8 yx underlying130 UR rF dC uv Qo (.slice A n cc) ps rfl (((HI.own.cD 1).upd T6.upd (λj hj ⟨t,e,_⟩=>by rw[HI.no j hj]at e;cases e)).alloc _) ⟨G,0,none⟩ 1 g6 rfl (br (α:=Nat) (vs:=yx g6) bG rfl) (oH UZ) dC (by have h1:=HI.step.upd.size;have h2:=T6.upd.size;simp at h2;simp;omega) ?_;intro v' w7 Ck Va hw7;obtain⟨A7,n7,c7,rfl,-,-⟩:=Ck.shape uv;have O7:=Ck;have W7:=hw7;have B7:=HI.blk.blk.upd ((SG).trans Va (λk hk=>.inl (.inr hk))) NG;have cz:=B7.z 0 (.slice A n cc);have fz:=B7.frozen 0;clear Ck hw7);refine .i (SG.trans Va (λk hk=>.inl (.inr hk))) ?_;have S7:=SG.trans Va (λk hk=>.inl (.inr hk));refine zQ 9 ?_;go_wp2_with fail;refine .i S7 ?_;refine zq 1 [10] [pt gs] S7 ?_;refine aq _ _ _ _ kZ ?_;refine zO 11 (λQ2 aI=>?_);go_wp2_with fail;(try refine aI _ _ ?_);(try clear aI Q2)
   refine wpAny_done kZ ?_ _;go_wp2;go_roundw
   case rel=>
    have hdw:=below_drewN (Below.refl wr.heap.size wr) 1;have UX:ah (λj=>(Value.slice A n cc).ownBlock=some j\/j=gs) v6 (w7.setCell ⟨gs,0,none⟩ (.slice A7 n7 c7)):=ah.setCell ((ah.aa ((Below.refl _ v6).alloc lR _)).trans Va (λk hk=>.inl (.inl hk))) (p:=⟨gs,0,none⟩) (.inl (.inr rfl)) _;have hold:∀j,j<wr.heap.size->cr j=none->c6 j=none:=λj hj e=>(T6.old j hj (λt e'=>by rw[e]at e';cases e')).trans e
    have hno:∀j,((Value.slice A n cc).ownBlock=some j\/j=gs)->c6 j=none:=λj hj=>by
     rcases hj with hj|rfl
     ·exact hold j (HI.own.lt j hj).2 (HI.no j hj)
     ·exact hold _ HI.blk.blk.lt HI.blk.no
    have S1:ae dO w v6 c c6:=(HI.step.trans (ae.aa dO cr HI.step.fresh hdw) eu).trans (T6.mono λt e=>.st e) eu;have hxo:(Value.slice A n cc).ownBlock≠some gx:=HI.own.gC HI.box.blk dC;have YV:(Value.slice A n cc).ownBlock≠some (bt+1):=HI.own.gC HI.tab.1 dC;have hbo:(Value.slice A n cc).ownBlock≠some bt:=HI.own.UT HI.tab.2.1;have Xs:=HI.bs;have X6:=(HI.box.call hdw).step T6;have tb:∀j,cr j=none->j<wr.heap.size->¬((Value.slice A n cc).ownBlock=some j\/j=gs)->(w7.setCell ⟨gs,0,none⟩ (.slice A7 n7 c7)).heap[j]? = wr.heap[j]?:=λj e hj hn=>
     (UX.block j (aB9 hj T6.upd.size) hn).trans (T6.upd.block j hj (λ⟨t,e',_⟩=>by rw[e]at e';cases e'))
    refine⟨k+1,c6,A7,n7,c7,ps++[g6],oM,by go_num,by rw[aB8,UZ];rfl,⟨X6.blk.upd UX (λh=>by rcases h with h|h;exact hxo h;exact(UW HI.box.blk HI.blk.blk dC) h),X6.no⟩,⟨B7.aX 0 _,hno gs (.inr rfl)⟩,?_,⟨hold _ HI.tab.1.lt HI.ct.1,hold _ HI.tab.2.1.lt HI.ct.2⟩,?_,λj hj=>?_,λi p hp=>?_,S1.own UX (λj hj=>?_),Xs⟩
    ·exact HI.tab.block (tb _ HI.ct.1 HI.tab.1.lt (λh=>by rcases h with h|h;exact YV h;exact Xs.2.2.2.1 h.symm)) (tb _ HI.ct.2 HI.tab.2.1.lt (λh=>by rcases h with h|h;exact hbo h;exact Xs.2.2.2.2 h.symm))
    ·exact O7.far (p:=⟨gs,0,none⟩) (λj hj e=>O7.gC B7 dC (by rw[hj,e])) _
    ·rcases W7 with e|e
     ·rw[e]at hj;exact hno j (.inl hj)
     ·rw[e]at hj;injection hj with hj;exact T6.fresh j (by rw[<-hj];simp)
    ·rcases aE2 i k with hi|hi
     ·rw[aC9 (UZ▸hi)]at hp
      exact(((HI.str i p hp).call hdw).step T6 (UI oM) (bS k)).off UX hno
     ·rw[aC7 (UZ▸hi),UZ]at hp
      have hik:i-k=0:=by have:=(d9.1 hp).1;simp at this;omega
      rw[hik]at hp;simp at hp;subst hp;obtain rfl:i=k:=oM
      exact Z6.off UX hno
    ·rcases hj with hj|rfl
     ·exact(HI.own.lt j hj).1
     ·exact Xs.1
   case measure=>simp[intOf];omega
  ·obtain rfl:k=m:=oM
   go_wp2;go_ret2;obtain⟨A',n',c',hv,fo,gU⟩:=HI.own.shape uv;injection hv with e1 e2 e3
   subst e1;subst e2;subst e3;have Xs:=HI.bs;have YV:(Value.slice A n cc).ownBlock≠some (bt+1):=HI.own.gC HI.tab.1 dC;have hso:(Value.slice A n cc).ownBlock≠some gs:=HI.own.gC HI.blk.blk dC;have hbo:(Value.slice A n cc).ownBlock≠some bt:=HI.own.UT HI.tab.2.1;obtain⟨N2,Th⟩:∃N2:Nat->Prop,N2=λj=>j=bt+1\/j=bt:=⟨_,rfl⟩
   obtain⟨N1,hN1⟩:∃N1:Nat->Prop,N1=λj=>(Value.slice A n cc).ownBlock=some j:=⟨_,rfl⟩
   obtain⟨N0,hN0⟩:∃N0:Nat->Prop,N0=λj=>j=gs:=⟨_,rfl⟩
   have S1:=HI.step.tag N2 (.at_ 2) (.inr (.inr (.inl rfl))) (λj hj=>by rw[Th]at hj;rcases hj with rfl|rfl;exact⟨Xs.2.1,HI.tab.1.lt⟩;exact⟨Xs.2.2.1,HI.tab.2.1.lt⟩);have S2:=S1.tag N1 (.at_ 1) (.inr (.inl rfl)) (λj hj=>by rw[hN1]at hj;exact HI.own.lt j hj);have S3:=S2.tag N0 (.at_ 0) (.inl rfl) (λj hj=>by rw[hN0]at hj;subst hj;exact⟨Xs.1,HI.blk.blk.lt⟩);have hE:nQ cr (ft N0 (.at_ 0) (ft N1 (.at_ 1) (ft N2 (.at_ 2) cr))):=λj t e=>by
    rw[aC (λh=>by rw[hN0]at h;subst h;rw[HI.blk.no]at e;cases e),aC (λh=>by rw[hN1]at h;rw[HI.no j h]at e;cases e),aC (λh=>by rw[Th]at h;rcases h with rfl|rfl;(rw[HI.ct.1]at e;cases e);(rw[HI.ct.2]at e;cases e))]
    exact e
   have Ir:∀i,i<k->(aL.new cf).str i=⟨cf,[],0⟩:=λi hi=>by
    unfold aL.str aL.new;simp only[aB7];rw[List.getElem?_replicate,if_pos (by rw[HM.out];simpa using hi)]
    rfl
   refine⟨gs,_,rfl,⟨A,n,cc,ps,bt+1,bt,λ_=>none,[],HI.blk.blk,bw (by rw[hN0]),⟨gU,λa ha=>?_,λa ha=>?_,?_,λi p hp=>?_⟩,⟨HI.tab,?_,?_,λi m hm=>by simp[aL.new]at hm,λx=>by simp[aL.new,jm]⟩,by rw[fo,UZ];exact Cv⟩,S3⟩
   ·subst ha
    rw[aC (λh=>by rw[hN0]at h;exact hso (by rw[<-h];rfl))];exact bw (by rw[hN1];rfl)
   ·subst ha
    exact(HI.own.lt a.block rfl).2
   ·rw[UZ];unfold aL.new;simp[HM.out]
   ·have hik:i<k:=by have:=(d9.1 hp).1;rw[UZ]at this;exact this
    rw[Ir i hik];exact(HI.str i p hp).ext hE
   ·rw[aC (λh=>by rw[hN0]at h;exact Xs.2.2.2.1 h.symm),aC (λh=>by rw[hN1]at h;exact YV h)]
    exact bw (by rw[Th];exact .inl rfl)
   ·rw[aC (λh=>by rw[hN0]at h;exact Xs.2.2.2.2 h.symm),aC (λh=>by rw[hN1]at h;exact hbo h)]
    exact bw (by rw[Th];exact .inr rfl)
end
def ap1(r:kO)(w:World)(e:Ending)(w' : World):Prop:=e=.returned (.agg r.row)/\Bl w w'
theorem Lu{m:Nat}(n:Int)(k:Key)(to width:Int)(h:jd w c g A m cap ps gt bt fp ks s)(hn:aw n)(h1:aw to)(h2:aw width)(hg:∀m,some m∈s.cuts->∀x,aJ m.dG k=some x->x.cL.length<=200/\∀y∈x.cL,y.good):
 Calls prog 73 #[pt g,I6 n,.agg k.row,I6 to,I6 width] w (ap1 (s.look n k to width) w):=by
 have EX:=(zW w (.cells k.row aS)).alloc sI (.cells di mi);have BX:=(ai.new w aS k.row).alloc (.cells di mi);have BY:=ai.dR w (.cells k.row aS) mi di;have HC:=Qj (h.call EX) n hn;have H1:=h1;have H2:=h2;have HG:=hg;clear h hn h1 h2 hg
 by_cases he:s.dH n=0
 ·have HE:=he
  obtain⟨R,hR⟩:=zE (s.look n k to width);rw[<-hR];cases hl:aJ (s.cut n).dG k with
  |none=>
   have HQ:=zD (show R=⟨5,0,0,mh,eU⟩from by rw[hR];unfold aL.look;rw[if_neg (λh=>h he),hl];rfl);have HL:=hl;clear he hR hl;go_enter func73,ntmps73;go_wp2_with(first
    |go_at_call 143;refine HC.mono ?_;rintro e w3 ⟨rfl,nD⟩;rcases nD with⟨hx,-⟩|⟨gc,A3,m3,cc3,es3,-,rfl,hc3,hm3⟩;exact absurd HE hx;have C3:=hc3;have M3:=hm3;clear hc3 hm3
    |refine zI BX underlying83 ?_
    |go_at_call 144;refine(Il k to width C3 H1 H2 (λx hx=>HG _ (aC1 M3) x hx)).mono ?_;unfold sF;rw[HL];dsimp only;rintro e w4 ⟨rfl,hb4⟩;have B4:=hb4;have BY4:=BY.call hb4;clear hb4
    |(refine zJ (BY4.alloc _) ?_;intro w9 b8 dM;have X9:=b8;have G9:=dM;clear b8 dM))
   have E4:=zT EX B4;have E5:=(E4.alloc E4.size (.cells mh.row YP)).grown G9 (E4.alloc E4.size (.cells mh.row YP)).size (λj e=>by injection e with e;omega);refine zU X9 underlying70 ?_;exact⟨by rw[HQ.out];rfl,E5⟩
  |some x=>
   have HQ:=zD (show R=⟨0,(s.cut n).bV,0,iR (iQ x.cL (iT to width) to),eU⟩from by rw[hR];unfold aL.look;rw[if_neg (λh=>h he),hl];rfl);have HL:=hl;obtain⟨ST,hST⟩:=zE (iR (iQ x.cL (iT to width) to));have nI:=zD hST;rw[<-hST]at HQ;clear he hR hl hST;go_enter func73,ntmps73;go_upto_region 7 with(first
    |go_at_call 143;refine HC.mono ?_;rintro e w3 ⟨rfl,nD⟩;rcases nD with⟨hx,-⟩|⟨gc,A3,m3,cc3,es3,-,rfl,hc3,hm3⟩;exact absurd HE hx;have C3:=hc3;have M3:=hm3;clear hc3 hm3
    |refine zI BX underlying83 ?_
    |(go_at_call 144;refine(Il k to width C3 H1 H2 (λx hx=>HG _ (aC1 M3) x hx)).mono ?_;unfold sF;rw[HL];dsimp only;rw[<-nI.out];rintro e w4 ⟨rfl,hb4⟩;have B4:=hb4;have C4:=C3.call hb4;have BY4:=BY.call hb4;clear hb4))
   have BS:=ai.new w4 YP ST.row;have E4:=zT EX B4;have E5:=E4.alloc E4.size (.cells ST.row YP);have C5:=C4.call (show Bl w4 (w4.alloc (.cells ST.row YP)) by go_grown);have BY5:=BY4.alloc (.cells ST.row YP);have hlt:w.heap.size+1<w4.heap.size:=BY4.lt;clear E4;obtain⟨gy,Ai⟩:=zE (w.heap.size+1);obtain⟨gz,Xj⟩:=zE w4.heap.size;obtain⟨W5,Bd⟩:=zE (w4.alloc (.cells ST.row YP));rw[<-Ai]at BY5 |-;rw[<-Xj]at BS |-;rw[<-Bd]at BS E5 C5 BY5 |-;have HGy:=zD Ai;have HNz:¬gz=gy:=oM
   clear Ai Xj Bd hlt;refine zr (λ_=>false) (λwS=>ah (λj=>j=gy) W5 wS) ?_;have S0:=(ah.refl (λj=>j=gy) W5).drew;refine zk 3 [0,2] [_,_] (.q zX<|.c rfl rfl (zl λ_ h=>zb (BS.upd h HNz) underlying68) .nil) S0<|zQ 1 ?_;go_wp2_with(go_at_call 145;refine zN (Lm (C5.call (below_drewN bR 1))) ?_);refine .i S0<|zq 1 [3] [.agg #[I6 0,I6 (s.cut n).bV,I6 0,I6 ST.count,I6 ST.sum,I6 ST.least,I6 ST.most,I6 ST.qV,I6 0,I6 0,I6 0,I6 0,I6 0]] S0<|zQ 4 ?_;go_wp2_with(refine zJ (BY5.call (below_drewN bR 1)) ?_;intro w9 b8 dM);refine .i ((S0).grown dM (λk e=>by injection e with e;exact .inl e.symm)) ?_;have S9:=(S0).grown dM (λk e=>by injection e with e;exact .inl e.symm);refine zd ?_;have X9:=b8;have E9:=E5.trans ((S9).below (λk hk=>oI hk HGy.out) E5.size);go_wp2;refine zU X9 underlying70 ?_;exact⟨by rw[HQ.out];rfl,E9⟩
 ·have HE:=he
  have HQ:=zD (show s.look n k to width=⟨s.dH n,0,0,mh,eU⟩from by unfold aL.look;rw[if_pos he];rfl);obtain⟨R,hR⟩:=zE (s.look n k to width);rw[<-hR]at HQ |-;have hne:(s.dH n != 0)=true:=sH he
  unfold UJ at HC;obtain⟨ER,hER⟩:=zE (s.dH n);rw[<-hER]at hne HC HQ HE;clear he hR hER;go_enter func73,ntmps73;go_wp2_with(first
   |go_at_call 143;refine HC.mono ?_;rintro e w3 ⟨rfl,nD⟩;rcases nD with⟨-,rfl⟩|⟨gc,A3,m3,cc3,es3,hx,-⟩;rotate_left;exact absurd hx HE
   |(refine zJ BY ?_;intro w9 b8 dM;have X9:=b8;have G9:=dM;clear b8 dM))
  have E5:=EX.grown G9 EX.size (λj e=>by injection e with e;omega);refine zU X9 underlying70 ?_;exact⟨by rw[HQ.out];rfl,E5⟩
end Go.Proofs.YtjgmjohiehbgaaaGreat
