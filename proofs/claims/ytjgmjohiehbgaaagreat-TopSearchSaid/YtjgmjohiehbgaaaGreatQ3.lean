/- Part 3. -/
import Derived.Test.YtjgmjohiehbgaaaGreatQ2
import Derived.Deep.Light
import Derived.Lib.AppendZerosOnto
import Derived.Shelf.Spec.SlicesInsert
import Derived.RangeFuncNested
import Derived.RangeFuncBound
import Derived.Shelf.RegionOpen
import Derived.OwnWalkIn
import Derived.LoopNIn
import Derived.LoopIn
namespace Go.Proofs.YtjgmjohiehbgaaaGreat
open Go.RowKit Go.Proofs.Tryz
set_option maxHeartbeats 20000000
set_option maxRecDepth 100000
set_option linter.all false
variable{A:Option Addr}{B B7 B8 H base cap e fr g i k n room size:Nat}{L:List Int}{cs:Array Value}{lf:Int}{t:TypeId}{v v':Value}{w w':World}{α:Type}
open Nat (min_def sub_mul)
def wC{a b q r:Int}(hb:0<b)(h:r+b*q=a)(h0:0<=r)(h1:r<b):a / b=q/\a % b=r:=
 (Int.ediv_emod_unique hb).2 ⟨h,h0,h1⟩
def MQ(a b:Int)(hb:1<=b):a.tdiv b=a / b+if 0<=a\/a % b=0 then 0 else 1:=by
 rw[Int.tdiv_eq_ediv,Int.sign_eq_one_of_pos (by omega)]
 by_cases h0:0<=a<;>by_cases h1:a % b=0
 ·rw[if_pos (.inl h0),if_pos (.inl h0)]
 ·rw[if_pos (.inl h0),if_pos (.inl h0)]
 ·rw[if_pos (.inr (Int.dvd_of_emod_eq_zero h1)),if_pos (.inr h1)]
 ·rw[if_neg (λh=>h.elim h0 λh=>h1 (Int.emod_eq_zero_of_dvd h)),if_neg (λh=>h.elim h0 h1)]
def XA(a b:Int)(hb:1<=b):a.tmod b=a % b-if 0<=a\/a % b=0 then 0 else b:=by
 rw[Int.tmod_eq_emod]
 by_cases h0:0<=a<;>by_cases h1:a % b=0
 ·rw[if_pos (.inl h0),if_pos (.inl h0)];omega
 ·rw[if_pos (.inl h0),if_pos (.inl h0)];omega
 ·rw[if_pos (.inr (Int.dvd_of_emod_eq_zero h1)),if_pos (.inr h1)];omega
 ·rw[if_neg (λh=>h.elim h0 λh=>h1 (Int.emod_eq_zero_of_dvd h)),if_neg (λh=>h.elim h0 h1)];omega
def MR(a b:Int)(hb:1<=b):(a % b+b*(a / b)=a/\0<=a % b/\a % b<b)/\(0<=a->0<=a / b/\a / b<=a)/\(a<0->a<=a / b/\a / b<=-1):=by
 have r0:=Int.emod_nonneg a (show b≠0 by omega);have r1:=Int.emod_lt_of_pos a (show 0<b by omega);refine⟨⟨(Int.emod_add_mul_ediv a b),r0,r1⟩,λh=>⟨Int.ediv_nonneg h (by omega),Int.ediv_le_self _ h⟩,λh=>⟨?_,?_⟩⟩
 ·exact(Int.le_ediv_iff_mul_le (by omega)).2 (by have:=Int.mul_le_mul_of_nonpos_left (a:=a) (by omega) hb;omega)
 ·have:=(Int.ediv_lt_iff_lt_mul (a:=a) (b:=0) (c:=b) (by omega)).2 (by omega)
  omega
def ae2(a b:Int)(hb:1<=b) : -((-a) / b)=a / b+if a % b=0 then 0 else 1:=by
 have:=(MR a b hb).1
 by_cases h0:a % b=0
 ·have:=(wC (a:=-a) (b:=b) (q:=-(a / b)) (r:=0) (by omega) (by rw[Int.mul_neg];omega) (by omega) (by omega)).1
  rw[if_pos h0];omega
 ·have:=(wC (a:=-a) (b:=b) (q:=-(a / b)-1) (r:=b-a % b) (by omega) (by rw[Int.mul_sub,Int.mul_neg];omega) (by omega) (by omega)).1
  rw[if_neg h0];omega
def XB(a b:Int)(hb:1<=b):(a-1) / b=a / b-if a % b=0 then 1 else 0:=by
 have:=(MR a b hb).1
 by_cases h0:a % b=0
 ·rw[if_pos h0]
  exact(wC (a:=a-1) (b:=b) (q:=a / b-1) (r:=b-1) (by omega) (by rw[Int.mul_sub];omega) (by omega) (by omega)).1
 ·rw[if_neg h0]
  exact(wC (a:=a-1) (b:=b) (q:=a / b-0) (r:=a % b-1) (by omega) (by rw[Int.sub_zero];omega) (by omega) (by omega)).1
def nN(x:Int):Int:=if 9223372036854775807<x then 9223372036854775807 else if x < -9223372036854775808 then -9223372036854775808 else x
def nW(x:Int):aw (nN x):=by unfold aw nN;omega
def CT(n lo hi:Int):Int:=if n<lo\/hi<lo then lo else if hi<n then hi else n
def MT(a b:Int):Int:=if b<1 then 0 else -((-a) / b)
def CU(l:List Int):Int:=l.foldl (λs n=>nN (s+n)) 0
def BI(l:List Int)(n:Int):CU (l++[n])=nN (CU l+n):=by simp[CU]
def Sc(l:List Int):aw (CU l):=by
 rcases aS6 l with rfl|⟨l,n,rfl⟩
 ·unfold aw CU;simp
 ·rw[aS7,BI];exact nW _
def dP{l:List α}{x:α}(h:l[k]? = some x):l.take (k+1)=l.take k++[x]:=by
 obtain⟨hk,rfl⟩:=d9.1 h;exact List.take_succ_eq_append_getElem hk
section contracts
theorem pd(a b:Int)(w:World)(ha:aw a)(hb:aw b) :
 Calls prog 170 #[I6 a,I6 b] w λe w'=>e=.returned (I6 (nN (a+b)))/\w=w':=by
 go_enter func170,ntmps170;go_wp2
 all_goals go_ret
 all_goals refine⟨au ?_,rfl⟩
 all_goals (simp only[wrap64,aw,nN]at *;omega)
theorem MU(c:Bool)(w:World) :
 Calls prog 281 #[.bool c] w λe w'=>e=.returned (I6 (if c then 1 else 0))/\w=w':=by
 cases c<;>(go_enter func281,ntmps281;go_wp2;go_ret;exact⟨rfl,rfl⟩)
theorem MV(a b:Int)(w:World)(ha:aw a)(hb:aw b) :
 Calls prog 237 #[I6 a,I6 b] w λe w'=>e=.returned (I6 (nN (a-b)))/\w=w':=by
 by_cases h:b = -9223372036854775808
 ·subst h
  by_cases h2:a<0
  ·have:decide (a<0)=true:=sH h2
   go_enter func237,ntmps237;go_wp2_with(first|(go_at_call 281;refine zN (MU true _) ?_)|(go_at_call 170;refine zN (pd _ _ _ (by first|assumption|exact nW _) (by unfold aw;omega)) ?_));go_ret;refine⟨au ?_,rfl⟩;simp only[aw,nN]at *;simp;omega
  ·have:decide (a<0)=false:=sH h2
   go_enter func237,ntmps237;go_wp2_with(first|(go_at_call 281;refine zN (MU false _) ?_)|(go_at_call 170;refine zN (pd _ _ _ (by first|assumption|exact nW _) (by unfold aw;omega)) ?_));go_ret;refine⟨au ?_,rfl⟩;simp only[aw,nN]at *;simp;omega
 ·have:(b == -9223372036854775808)=false:=sH h
  have h3:b≠-9223372036854775808/\True:=⟨h,trivial⟩;have H:=h3;clear h h3;go_enter func237,ntmps237;go_wp2_with(first|(go_at_call 170;refine zN (pd _ _ _ ha (Sa _)) ?_));go_ret;refine⟨au ?_,rfl⟩;have:=H.1;simp only[wrap64,aw,nN]at *;omega
theorem OJ(n lo hi:Int)(w:World) :
 Calls prog 398 #[I6 n,I6 lo,I6 hi] w λe w'=>e=.returned (I6 (CT n lo hi))/\w=w':=by
 go_enter func398,ntmps398;go_wp2
 all_goals go_ret
 all_goals refine⟨au ?_,rfl⟩
 all_goals (simp only[CT]at *;omega)
theorem Sd(a b:Int)(w:World)(ha:aw a)(hb:aw b) :
 Calls prog 394 #[I6 a,I6 b] w λe w'=>e=.returned (I6 (MT a b))/\w=w':=by
 by_cases h:b<1
 ·go_enter func394,ntmps394
  go_wp2;go_ret;exact⟨au (by unfold MT;rw[if_pos h]),rfl⟩
 ·have h' : 1<=b:=oM
  clear h
  by_cases h2:0<=a<;>by_cases h3:0<a
  all_goals first|omega|skip
  all_goals
   go_enter func394,ntmps394;go_wp2
  all_goals
   go_ret;refine⟨au ?_,rfl⟩;unfold MT;rw[if_neg oM,ae2 a b h']
   all_goals
    go_light;have:=MR a b h';have:=MR (a-1) b h';have f6:0<a->wrap64 (a-1)=a-1:=by simp only[wrap64,aw]at *;omega
    try rw[f6 oM]
    simp only[(MQ a b h'),(XA a b h'),(XB a b h'),(MQ (a-1) b h')]at *;simp only[wrap64,aw]at *
    try omega
theorem XC(A:Option Addr)(len cap:Nat)(l:List Int)(w:World)(hs:gB w A len cap l)(hg:∀x∈l,aw x)(hn:len<=300) :
 Calls prog 233 #[.slice A len cap] w λe w'=>e=.returned (I6 (CU l))/\w=w':=by
 have HS:=hs;have HG:=hg;have hl:l.length=len/\True:=⟨hs.1,trivial⟩;have HL:=hl;clear hs hg hl;go_enter func233,ntmps233;go_wp2;go_loop[3,5,8] (λt _ i=>∃k:Nat,k<=len/\i = I6 k/\t = I6 (CU (l.take k))) (λ_ _ i=>len-(intOf i).toNat)
 case atStart=>exact⟨0,aB6 _,rfl,rfl⟩
 case round=>
  obtain⟨k,hk,rfl,rfl⟩:=hrel
  by_cases hlt:k<len
  ·obtain⟨b,off,x,rfl,hx,hb,hc⟩:=HS.at_ hlt
   have hgx:aw x:=HG x (aC1 hx);have HX:=hx;clear hx;go_wp2_with(go_at_call 170;refine zN (pd _ _ _ (Sc _) hgx) ?_);go_round
   case rel=>exact⟨k+1,oM,by go_num,by rw[dP HX,BI]⟩
   case measure=>simp[intOf];omega
  ·go_wp2
   go_ret;exact⟨au (by rw[aB5 (oH HL.1)]),rfl⟩
end contracts
structure aD where
 tick:Int
 value:Int
deriving DecidableEq
def aD.cells(a:aD):List Value:=[I6 a.tick,I6 a.value]
def aD.good(a:aD):Prop:=aw a.tick/\aw a.value
abbrev cH(w:World)(A:Option Addr)(len cap:Nat)(l:List aD):Prop:=ag w 2 aD.cells A len cap l
def cH.at_{len:Nat}{l:List aD}(h:cH w A len cap l)(hk:k<len):
 ∃(b off:Nat)(x:aD),A=some ⟨b,off,none⟩/\l[k]? = some x/\b<w.heap.size/\w.cell? ⟨b,off+k*2,none⟩=some (I6 x.tick)/\w.cell? ⟨b,off+k*2+1,none⟩=some (I6 x.value):=by
 obtain⟨b,off,x,h1,h2,h3,h4⟩:=ag.at_ h hk;exact⟨b,off,x,h1,h2,h3,h4 0 _ rfl,by rw[aD9];exact h4 1 _ rfl⟩
abbrev kH(w:World)(base:Nat)(v:Value)(l:List aD):Prop:=Own w base 183 2 aD.cells v l
def lT:(prog.info? 183).map (λi=>(i.zero,i.size,i.bytes))=some (some (.agg #[I6 0,I6 0]),2,16):=kZ
def mG:∀x:aD,∀u∈x.cells,u.oneCell' = true:=by
 intro x u hu;simp[aD.cells]at hu;rcases hu with rfl|rfl<;>rfl
def wY{ops:Array Oper}{rest:List Oper}{o:Oper}{a:Act}{Q:Exit->Act->World->Prop}(w:World)(hgd:o.guard=none)(s x:Operand)
 (ho:o.op=.call {callee:=.builtin .append,args:=#[s,x],argTypes:=#[41,41]}) (base:Nat) (v:Value) (l:List aD) (hs:a.eval s=v) (hown:kH w base v l)
 (g:Nat) (t:TypeId) (c:Nat) (y:aD) (hx:a.eval x=.slice (some ⟨g,0,none⟩) 1 c) (hnews:ai w g t #[I6 y.tick,I6 y.value]) (hlen:l.length<1000000) (hbase:base<=w.heap.size)
 (h:∀v' w',kH w' base v' (l++[y])->Below base w w'->w.grownBy w' v.ownBlock->wpList prog ops Q rest (a.put o.dst v') w'):wpList prog ops Q (o::rest) a w:=
 iC w hgd s x 41 ho base 183 _ 2 16 _ underlying41 lT rF dC (λ_=>rfl) mG v l hs hown ⟨g,0,none⟩ c y hx (br (α:=aD) hnews rfl) hlen dC hbase h
def XE{ops:Array Oper}{rest:List Oper}{o:Oper}{a:Act}{Q:Exit->Act->World->Prop}(w:World)(hgd:o.guard=none)(s x:Operand)
 (ho:o.op=.call {callee:=.builtin .append,args:=#[s,x],argTypes:=#[41,41]}) (base:Nat) (v:Value) (l:List aD) (hs:a.eval s=v) (hown:kH w base v l)
 (A:Option Addr) (m c:Nat) (ys:List aD) (hx:a.eval x=.slice A m c) (RM:cH w A m c ys) (hlen:l.length+m<1000000) (hbase:base<=w.heap.size)
 (h:∀v' w',kH w' base v' (l++ys)->Below base w w'->w.grownBy w' v.ownBlock->wpList prog ops Q rest (a.put o.dst v') w'):wpList prog ops Q (o::rest) a w:=
 fP w hgd s x _ ho base 183 _ 2 16 _ underlying41 lT rF dC (λ_=>rfl) mG v l hs hown A m c ys hx RM hlen dC hbase h
theorem jr{P:Program}(w:World)(dT sT ty elem:TypeId)(sz g o ae3 au4:Nat)(a:Addr)(wZ Sg:Nat)(cs:List Value){cur:Array Value}(hu:P.underlying dT=some (.slice elem))(hs:(P.info? elem).map (·.size)=some sz)(hn:cs.length=Nat.min wZ ae3*sz)(hsrc:∀j v,cs[j]? = some v->w.cell? (a.add j)=some v)(hb:ai w g t cur)(iD:o+cs.length<=cur.size)(h1:∀v∈cs,v.oneCell' = true):
 (Builtin.copy_ #[dT,sT] ty #[.slice (some ⟨g,o,none⟩) ae3 au4,.slice (some a) wZ Sg]).run P w=.ok (goInt (Nat.min wZ ae3)) (w.setCells g o cs):=by
 have hst:=run_storeCells_cells (P:=P) g o cs 0 w (λj hj=>by rw[hb.cell,aC6 oM];rfl) (λj hj=>hb.frozen _) h1;cases hq:P.info? elem with
 |none=>simp[hq]at hs
 |some i=>
  have hi:i.size=sz:=by simpa[hq]using hs
  simp[Builtin.copy_,run_underlying hu,Builtin.lenOf,Builtin.firstCells,sizeOf,typeInfo,hq,hi,<-hn,(run_loadCells_list (P:=P) w a cs hsrc),hst]
def pZ{P:Program}(w:World)(t e ty:TypeId)(z:Value)(ht:P.underlying t=some (.slice e))(hv:∀w,(zeroValue e).run P w=.ok z w)(g o n c:Nat)(hn:0<n){t' : TypeId}{cur:Array Value}
 (hb:ai w g t' cur) (zs:List Value) (hz:(Builtin.zeroCells z.cells n).toList=zs) (iD:o+zs.length<=cur.size) (h1:∀u∈zs,u.oneCell' = true) :
 (Builtin.clear_ #[t] ty #[.slice (some ⟨g,o,none⟩) n c]).run P w=.ok (.tuple #[]) (w.setCells g o zs):=by
 have hst:=run_storeCells_cells (P:=P) g o zs 0 w (λj hj=>by rw[hb.cell,aC6 oM];rfl) (λj hj=>hb.frozen _) h1;simp only[aH9]at hst;obtain⟨m,rfl⟩:∃m,n=m+1:=⟨n-1,oM⟩
 simp[Builtin.clear_,run_underlying ht,hv,hz,hst]
def nX(n:Nat):List Value:=(Builtin.zeroCells (Value.agg #[I6 0,I6 0]).cells n).toList
def pg(n:Nat):(nX n).length=n*2:=by simp[nX,Builtin.zeroCells,Value.cells]
theorem BJ(n:Nat):∀u∈nX n,u.oneCell' = true:=by
 intro u hu;simp only[nX,Builtin.zeroCells,Value.cells,Array.toList_map,aF2]at hu;obtain⟨i,_,rfl⟩:=hu;have h:i % (#[I6 0,I6 0]:Array Value).size<2:=aS9 _ dC;generalize i % (#[I6 0,I6 0]:Array Value).size=q at *
 match q,h with
 |0,_=>rfl
 |1,_=>rfl
def FA(w:World):(zeroValue 183).run prog w=.ok (.agg #[I6 0,I6 0]) w:=kZ
theorem tE(g n cap j:Nat)(cur:Array Value)(w:World)(hb:ai w g 183 cur)(hc:cur.size=cap*2)(hn:n<=cap)(hm:cap<=9223372036854775807)(h0:0<j)(hj:j<=n)
 (news:List Value) (hnews:news=(cur.toList.drop (j*2)).take ((n-j)*2)) (h1:∀u∈news,u.oneCell' = true) :
 Calls prog 231 #[.slice (some ⟨g,0,none⟩) n cap,I6 0,I6 j] w λe w'=>
  e=.returned (.slice (some ⟨g,0,none⟩) (n-j) cap)/\w' = (w.drew.setCells g 0 news).setCells g ((n-j)*2) (nX j):=by
 obtain⟨i0,hi0,hz0,hz1,hz2⟩:=info_parts lT;have hlen:news.length=(n-j)*2:=by rw[hnews,aC3,aD2,aT6];omega
 obtain⟨A,hA,hsrc⟩:∃A:Addr,(if cap=j then some (⟨g,0,none⟩:Addr)else some ⟨g,j*2,none⟩)=some A/\Hid (∀t u,news[t]? = some u->w.drew.cell? (A.add t)=some u):=by
  by_cases h:cap=j
  ·refine⟨⟨g,0,none⟩,by simp[h],λt u hu=>?_⟩
   have h0:news.length=0:=oH hlen
   rw[List.length_eq_zero_iff.1 h0]at hu;simp at hu
  ·refine⟨⟨g,j*2,none⟩,by simp[h],λt u hu=>?_⟩
   have ht:t<(n-j)*2:=by
    have:=(d9.1 hu).1
    rwa [hlen]at this
   rw[hnews,aE4,if_pos ht,aE5]at hu;rw[Addr.add_lit];exact(hb.cell (j*2+t)).trans (by rw[<-aG0];exact hu)
 have s1:Hid (news.length=(n-j)*2):=hlen;have s2:Hid (∀u∈news,u.oneCell' = true):=h1;have s3:Hid (∀t,t<news.length->(w.drew.cell? ⟨g,0+0*2+t,none⟩).isSome=true/\w.drew.frozen? ⟨g,0+0*2+t,none⟩=false):=by
  intro t ht;rw[hlen]at ht;refine⟨?_,hb.frozen _⟩
  show(w.cell? _).isSome=true
  rw[hb.cell,aC6 oM];rfl
 obtain⟨W1,hW1⟩:=zE (w.drew.setCells g (0+0*2) news);have hb1:ai W1 g 183 (vI cur 0 news):=by
  rw[hW1];exact(ai.setCells hb.drew (o:=0) (oH hlen)).1
 have: ∀ty,(Builtin.clear_ #[41] ty #[.slice (some ⟨g,(n-j)*2,none⟩) (n-(n-j)) (cap-(n-j))]).run prog W1=.ok (.tuple #[]) (W1.setCells g ((n-j)*2) (nX j)):=
  λty=>pZ W1 _ _ ty _ underlying41 FA g ((n-j)*2) _ _ oM hb1 _ (by rw[show n-(n-j)=j by omega];rfl) (by rw[dz (oH hlen),pg];omega) (BJ j)
 have hW:Hid (W1=w.drew.setCells g (0+0*2) news):=hW1;have: ¬((0:Int)=(j:Int)):=oM
 have: ¬(cap=n-j):=oM
 have:((0:Int)==(j:Int))=false:=by simp;omega
 clear hW1 hb1 hb hnews hlen h1 hc;go_enter func231,ntmps231;go_wp2_with fail;go_region_law(refine step_append_room rfl (.tmp 22) (.tmp 25) 41 rfl 183 i0 2 underlying41 hi0 hz1 g 0 0 cap (by simp[Act.eval,Act.put]) A (n-j) (cap-j) news (by simp[Act.eval,Act.put]) s1 hsrc s2 oM s3 ?_;rw[<-hW]);go_wp2;go_ret;exact⟨rfl,by rw[hW]⟩
def pP(l:List aD):Prop:=l.Pairwise (λa b=>a.tick<b.tick)
def xa(l:List aD)(t:Int):List aD:=l.filter (λy=>decide (y.tick<t))
def rD(l:List aD)(t:Int):List aD:=l.filter (λy=>decide (t<y.tick))
def bT(l:List aD)(t:Int):List aD:=l.filter (λy=>decide (t<=y.tick))
def aH(l:List aD)(t:Int):Nat:=(xa l t).length
def rE(l:List aD)(x:aD):List aD:=xa l x.tick++x::rD l x.tick
def nY(l:List aD)(room:Nat)(x:aD):List aD:=if room<(rE l x).length then(rE l x).drop 1 else rE l x
def bU(tick value:Int):Int:=if tick<0 then 3 else if value<0 then 4 else 0
def nZ(l:List aD)(room:Nat)(x:aD):List aD:=if bU x.tick x.value=0 then nY l room x else l
def xb(room:Nat)(l:List aD):List aD:=l.foldl (λa x=>nZ a room x) []
def OM{t v:Int}(h1:0<=t)(h2:0<=v):bU t v=0:=by unfold bU;rw[if_neg oM,if_neg oM]
def FB{t v:Int}(h1:t<0):bU t v=3:=if_pos h1
def CW{t v:Int}(h1:0<=t)(h2:v<0):bU t v=4:=by unfold bU;rw[if_neg oM,if_pos oM]
def FC{y:aD}{l:List aD}(h:pP (y::l)):(∀z∈l,y.tick<z.tick)/\pP l:=aI5.1 h
def filter_none{p:α->Bool}{l:List α}(h:∀x∈l,p x=false):l.filter p=[]:=by
 rw[List.filter_eq_nil_iff];intro a ha;rw[h a ha];simp
def filter_all{p:α->Bool}{l:List α}(h:∀x∈l,p x=true):l.filter p=l:=aS5.2 h
theorem iE{l:List aD}(hs:pP l)(t:Int):l.take (aH l t)=xa l t/\l.drop (aH l t)=bT l t:=by
 induction l with
 |nil=>exact⟨rfl,rfl⟩
 |cons y l ih=>
  obtain⟨h1,h2⟩:=FC hs
  by_cases hy:y.tick<t
  ·have e1:xa (y::l) t=y::xa l t:=by unfold xa;rw[List.filter_cons_of_pos (sH hy)]
   have e2:bT (y::l) t=bT l t:=by unfold bT;rw[List.filter_cons_of_neg (sH hy)]
   unfold aH;rw[e1,e2,aC4,aU9,List.drop_succ_cons];exact⟨by rw[show(xa l t).length=aH l t from rfl,(ih h2).1],(ih h2).2⟩
  ·have e1:xa (y::l) t=[]:=filter_none (λz hz=>by
    simp only[aE6]at hz;rcases hz with rfl|hz
    ·simpa using hy
    ·have:=h1 z hz;simp;omega)
   have e2:bT (y::l) t=y::l:=filter_all (λz hz=>by
    simp only[aE6]at hz;rcases hz with rfl|hz
    ·simpa using hy
    ·have:=h1 z hz;simp;omega)
   unfold aH;rw[e1,e2];exact⟨rfl,rfl⟩
def oa(l:List aD)(t:Int):aH l t<=l.length:=aE7 _ _
def OO{l:List aD}(hs:pP l)(t:Int){y:aD}(h:l[i]? = some y):decide (t<=y.tick)=decide (aH l t<=i):=by
 obtain⟨h1,h2⟩:=iE hs t;rw[decide_eq_decide];rcases aE2 i (aH l t)with hlt|hge
 ·have:(xa l t)[i]? = some y:=by rw[<-h1,aE4,if_pos hlt];exact h
  have hm:=aC1 this;unfold xa at hm;have:=(aD5.1 hm).2;simp at this;omega
 ·have:(bT l t)[i-aH l t]? = some y:=by rw[<-h2,aE5,show aH l t+(i-aH l t)=i by omega];exact h
  have hm:=aC1 this;unfold bT at hm;have:=(aD5.1 hm).2;simp at this;omega
theorem xc{l:List aD}(hs:pP l)(t:Int):(∃y,l[aH l t]? = some y/\y.tick=t/\bT l t=y::rD l t)\/((∀y,l[aH l t]? = some y->y.tick≠t)/\bT l t=rD l t):=by
 obtain⟨h1,h2⟩:=iE hs t;have hf:rD l t=rD (bT l t) t:=by
  unfold rD bT;rw[List.filter_filter];apply List.filter_congr;intro x _;rw[Bool.eq_iff_iff];simp;omega
 have hsf:pP (bT l t):=List.Pairwise.filter _ hs;have hall:∀z∈bT l t,t<=z.tick:=λz hz=>by
  have:=(aD5.1 hz).2;simpa using this
 cases hc:bT l t with
 |nil=>
  right;rw[hf,hc];refine⟨λy hy=>?_,rfl⟩;have:(bT l t)[0]? = some y:=by rw[<-h2,aE5];exact hy
  rw[hc]at this;simp at this
 |cons y r=>
  have e0:l[aH l t]? = some y:=by
   have:(l.drop (aH l t))[0]? = some y:=by rw[h2,hc];rfl
   rw[aE5]at this;exact this
  rw[hc]at hsf hall;obtain⟨k1,k2⟩:=FC hsf
  by_cases hy:y.tick=t
  ·left
   refine⟨y,e0,hy,?_⟩;rw[hf,hc];unfold rD;rw[List.filter_cons_of_neg sM,filter_all (λz hz=>by have:=k1 z hz;simp;omega)]
  ·right
   refine⟨λz hz=>by rw[e0]at hz;cases hz;exact hy,?_⟩;rw[hf,hc];unfold rD;refine(filter_all (λz hz=>?_)).symm;have:=hall y sI;simp only[aE6]at hz;rcases hz with rfl|hz
   ·simp;omega
   ·have:=k1 z hz;simp;omega
def MW{l:List aD}(hs:pP l){x y:aD}(h:l[aH l x.tick]? = some y)(he:y.tick=x.tick):l.set (aH l x.tick) x=rE l x:=by
 rcases xc hs x.tick with⟨z,hz,_,hf⟩|⟨hn,_⟩
 ·obtain⟨h1,h2⟩:=iE hs x.tick
  have hlt:aH l x.tick<l.length:=(d9.1 h).1;rw[aI2,if_pos hlt,h1];unfold rE
  congr 2
  have:l.drop (aH l x.tick+1)=(l.drop (aH l x.tick)).drop 1:=by rw[aV5]
  rw[this,h2,hf];rfl
 ·exact absurd he (hn y h)
def MX{l:List aD}(hs:pP l){x:aD}(h:∀y,l[aH l x.tick]? = some y->y.tick≠x.tick):l.take (aH l x.tick)++x::l.drop (aH l x.tick)=rE l x:=by
 obtain⟨h1,h2⟩:=iE hs x.tick;rcases xc hs x.tick with⟨z,hz,he,_⟩|⟨_,hf⟩
 ·exact absurd he (h z hz)
 ·rw[h1,h2,hf];rfl
def FD{l:List aD}(hs:pP l)(x:aD):pP (rE l x):=by
 unfold pP rE;rw[aH3];refine⟨List.Pairwise.filter _ hs,?_,?_⟩
 ·rw[aI5]
  refine⟨λz hz=>?_,List.Pairwise.filter _ hs⟩;have:=(aD5.1 hz).2;simpa using this
 ·intro a ha b hb
  have h1:=(aD5.1 ha).2;simp only[aE6]at hb;rcases hb with rfl|hb
  ·simpa using h1
  ·have h2:=(aD5.1 hb).2
   simp at h1 h2;omega
def FE{l:List aD}(hs:pP l)(room:Nat)(x:aD):pP (nY l room x):=by
 unfold nY
 split
 ·exact List.Pairwise.drop (FD hs x)
 ·exact FD hs x
theorem FI(l:List aD)(x:aD):(rE l x).length<=l.length+1:=by
 unfold rE xa rD;rw[aB8,aC4];have h:∀l:List aD,(l.filter (λy=>decide (y.tick<x.tick))).length+(l.filter (λy=>decide (x.tick<y.tick))).length<=l.length:=by
  intro l
  induction l with
  |nil=>simp
  |cons y l ih=>
   simp only[aT9,aC4]
   by_cases h1:y.tick<x.tick
   ·have h2:¬x.tick<y.tick:=oM
    simp[h1,h2];omega
   ·by_cases h2:x.tick<y.tick
    ·simp[h1,h2];omega
    ·simp[h1,h2];omega
 have:=h l;omega
def FJ{l:List aD}(h:l.length<=room)(h1:1<=room)(x:aD):(nY l room x).length<=room:=by
 have:=FI l x;unfold nY
 split
 ·rw[aD2];omega
 ·omega
def BM{l:List aD}(h:∀y∈l,y.good){x:aD}(hx:x.good):∀y∈rE l x,y.good:=by
 intro y hy;unfold rE at hy;rw[aD1,aE6]at hy;rcases hy with hy|rfl|hy
 ·exact h y (aD5.1 hy).1
 ·exact hx
 ·exact h y (aD5.1 hy).1
def BN{l:List aD}(h:∀y∈l,y.good){x:aD}(hx:x.good)(room:Nat):∀y∈nY l room x,y.good:=by
 intro y hy;unfold nY at hy
 split at hy
 ·exact BM h hx y (aT4 hy)
 ·exact BM h hx y hy
def BO{l:List aD}(hs:pP l)(t:Int):l.drop (aH l t)=bT l t:=(iE hs t).2
def BP{l:List aD}(hs:pP l)(t:Int):pP (bT l t):=List.Pairwise.filter _ hs
def OQ{l:List aD}(hs:pP l)(t:Int):l.length-(bT l t).length=aH l t/\(bT l t).length<=l.length:=by
 rw[<-BO hs,aD2];have:=oa l t;omega
def ie{l:List α}{y:α}(h:l[k]? = some y):l.take (k+1)=l.take k++[y]:=by
 rw[aE3,h];rfl
def xd(l:List aD):∀u∈l.flatMap aD.cells,u.oneCell' = true:=λu hu=>by obtain⟨y,_,hy⟩:=aT8.1 hu;exact mG y u hy
def aA(x:aD):x.cells.length=2:=rfl
def xg{o:Nat}{vs:List Value}(h:o+vs.length<=cs.size)(m:Nat)(hm:m=o+vs.length):(vI cs o vs).toList.take m=cs.toList.take o++vs:=by
 subst hm;unfold vI;rw[aV0,<-aD0,aG9 sM,aB5 sM]
def uT{o:Nat}{vs:List Value}(h:o+vs.length<=cs.size){m:Nat}(hm:m<=o):(vI cs o vs).toList.take m=cs.toList.take m:=by
 unfold vI;rw[aV0,aG9 sM,aH4,aG5 hm]
theorem slices_Delete(v:Value)(l:List aD)(j:Nat)(w:World)(h:kH w base v l)(hl:l.length<=100000)(hj:j<=l.length):
 Calls prog 231 #[v,I6 0,I6 j] w λe w'=>∃v',e=.returned v'/\kH w' base v' (l.drop j)/\v'.ownBlock=v.ownBlock/\ah (λk=>v.ownBlock=some k) w w':=by
 by_cases h0:j=0
 ·subst h0
  have key:∀A n c,n<=c->c<=9223372036854775807->Calls prog 231 #[.slice A n c,I6 0,I6 (0:Nat)] w λe w'=>e=.returned (.slice A n c)/\w=w':=by
   intro A n c h1 h2;clear h hl hj;go_enter func231,ntmps231;go_wp2
   all_goals (go_ret;exact⟨rfl,rfl⟩)
  obtain⟨A,n,c,rfl,rfl,hs⟩:=h.shape aA;refine(key A _ c hs.2.1 (by have:=hs.2.2.1;unfold maxLen at this;omega)).mono ?_;rintro e w' ⟨rfl,rfl⟩;exact⟨_,rfl,h,rfl,ah.refl _ _⟩
 ·rcases h.2 with⟨rfl,hn⟩|⟨g,cap,cur,rfl,hbg,hg,mF,hcm,hcs,eM⟩
  ·omega
  ·have hb:ai w g 183 cur:=hg
   have hnews:(l.drop j).flatMap aD.cells=(cur.toList.drop (j*2)).take ((l.length-j)*2):=by
    rw[<-jF aA,<-eM,aV6,sub_mul]
   have hlen:((l.drop j).flatMap aD.cells).length=(l.length-j)*2:=by rw[aZ aA,aD2]
   refine(tE g l.length cap j cur w hb hcs mF (by unfold maxLen at hcm;omega) oM hj _ hnews (xd _)).mono ?_;rintro e w' ⟨rfl,rfl⟩;obtain⟨b1,g1⟩:=ai.setCells hb.drew (o:=0) (vs:=(l.drop j).flatMap aD.cells) (oH hlen);have hz:(l.length-j)*2+(nX j).length<=(vI cur 0 ((l.drop j).flatMap aD.cells)).size:=by
    rw[dz (oH hlen),pg];omega
   obtain⟨b2,g2⟩:=ai.setCells b1 (o:=(l.length-j)*2) (vs:=nX j) hz;refine⟨_,rfl,⟨by simp[aZ aA],.inr ⟨g,cap,_,by rw[aD2],hbg,b2,by rw[aD2];omega,hcm,by rw[dz hz,dz (oH hlen),hcs],?_⟩⟩,rfl,?_⟩
   ·rw[aD2,uT hz lR,xg (oH hlen) _ (oH hlen)]
    simp
   ·exact((ah.refl _ w).drew.grown g1 (λk e=>by cases e;exact .inl rfl)).grown g2 (λk e=>by cases e;exact .inl rfl)
theorem rG(w:World)(n c:Nat) :
 Calls prog 106 #[.slice none n c] w λe w'=>e=.returned (.slice none 0 0)/\w=w':=by
 have:=λ(W:World)=>Lib.run_eql_slice_nil (P:=prog) W 41 183 none n c 0 0 underlying41
 go_enter func106,ntmps106;go_wp2;go_ret;exact⟨rfl,rfl⟩
def iY(w:World)(l:List aD)(e:Ending)(w' : World):Prop:=∃A n c,e=.returned (.slice A n c)/\kH w' w.heap.size (.slice A n c) l/\Bl w w'
def iY.mk{l:List aD}(h:kH w' w.heap.size v l)(hb:Bl w w'):iY w l (.returned v) w':=by
 obtain⟨A,n,c,rfl,_,_⟩:=h.shape (λ_=>rfl);exact⟨A,n,c,rfl,h,hb⟩
def Own.is{cells:α->List Value}{c:Nat}{l:List α}(h:Own w base e size cells (.slice A n c) l)(hsz:∀x,(cells x).length=size):ag w size cells A n c l:=by
 obtain⟨A',n',c',he,_,hs⟩:=h.shape hsz;cases he;exact hs
theorem slices_Clone(A:Option Addr)(n c:Nat)(l:List aD)(w:World)(hs:cH w A n c l)(hn:n<=100000) :
 Calls prog 106 #[.slice A n c] w (iY w l):=by
 cases A with
 |none=>
  obtain⟨rfl,rfl⟩:=hs.2.2.2.1 rfl;have hl:l=[]:=aC0 hs.1;subst hl;refine(rG w 0 0).mono ?_;rintro e w' ⟨rfl,rfl⟩;exact iY.mk (Own.nil _ _ _ _ _) bR
 |some a=>
  have:=λ(W:World)=>Lib.run_eql_slice_nil (P:=prog) W 41 183 (some a) n c 0 0 underlying41
  have HS:=af hs (show Bl w (w.alloc (.cells #[] 183)) by go_grown);have HO:kH (w.alloc (.cells #[] 183)) w.heap.size (.slice (some ⟨w.heap.size,0,none⟩) 0 0) []:=World.ownsRow_made w #[] 0 lR (aB6 _) rfl;clear hs;go_enter func106,ntmps106;go_wp2_with(at_builtin;refine XE _ rfl (.tmp 5) (.tmp 6) rfl w.heap.size (.slice (some ⟨w.heap.size,0,none⟩) 0 0) [] rfl HO (some a) n c l rfl HS sM sI ?_;intro v' w1 ho aT hgr;have HV:=ho;have HB:=Below.trans (show Bl w (w.alloc (.cells #[] 183)) by go_grown) aT;clear ho aT hgr);go_ret;exact iY.mk HV HB
def BQ(h:ai w g t cs):w.shape? g=some (t,cs.size):=by
 unfold ai at h;simp[World.shape?,h]
theorem pQ(g n c i vb:Nat)(cur:Array Value)(l:List aD)(x:aD)(w:World)(hi:i<n)(hroom:n+1<=c)(aA6:c<=9223372036854775807)(hvb:vb≠g)
 (hb:ai w g 183 cur) (hcs:cur.size=c*2) (hl:l.length=n) (eM:cur.toList.take (n*2)=l.flatMap aD.cells) (hv:ai w vb 183 #[I6 x.tick,I6 x.value]) :
 Calls prog 230 #[.slice (some ⟨g,0,none⟩) n c,I6 i,.slice (some ⟨vb,0,none⟩) 1 1] w λe w'=>
  e=.returned (.slice (some ⟨g,0,none⟩) (n+1) c)/\w' = (w.drew.setCells g ((i+1)*2) ((l.drop i).flatMap aD.cells)).setCells g (i*2) x.cells:=by
 have:((i:Int)==(n:Int))=false:=by simp;omega
 have hdl:((l.drop i).flatMap aD.cells).length=(n-i)*2:=by rw[aZ aA,aD2,hl]
 have hdr:(l.drop i).flatMap aD.cells=(cur.toList.drop (i*2)).take ((n-i)*2):=by
  rw[<-jF aA,<-eM,aV6,sub_mul]
 have JL:∀lb cb,(callFunc 275 #[.slice (some ⟨vb,0,none⟩) 1 1,.slice (some ⟨g,(i+1)*2,none⟩) lb cb]).run prog w=.ok (.value (.bool false)) w:=λlb cb=>by
  rw[run_callFunc_extern (show prog.funcs[275]? = some Tryz.f275 by kernel_rfl) kZ kZ kZ (e:=Extern.SlicesOverlaps.overlaps #[41,41] #[4]) kZ,
   Lib.run_overlaps_apart w 41 4 183 underlying41 2 (λ_=>kZ) ⟨vb,0,none⟩ ⟨g,(i+1)*2,none⟩ 1 1 lb cb hvb _ _ _ _ (BQ hv) (BQ hb) oM (hv.frozen _) (hv.frozen _)]
  rfl
 have:IntKind.i64.wrap ((i:Int)+1)=(i:Int)+1:=by rw[IntKind.wrap_i64];omega
 have:(0:Int)<=(i:Int)+1:=oM
 have:i<=n:=oM
 have:((i:Int)+1).toNat=i+1:=oM
 have: ¬(c=i+1):=oM
 have:(i:Int)<=(n:Int)+1:=oM
 have: ¬(c=i):=oM
 have:(n:Int)+1<=(c:Int):=oM
 have hsz:(prog.info? 183).map (·.size)=some 2:=kZ
 have MZ:(i+1)*2+((l.drop i).flatMap aD.cells).length<=cur.size:=by rw[hdl,hcs];omega
 have am2:∀ty dc sc,(Builtin.copy_ #[41,41] ty #[.slice (some ⟨g,(i+1)*2,none⟩) (n-i) dc,.slice (some ⟨g,i*2,none⟩) (n+1-i) sc]).run prog w.drew=.ok (goInt (Nat.min (n+1-i) (n-i))) (w.drew.setCells g ((i+1)*2) ((l.drop i).flatMap aD.cells)):=λty dc sc=>
  jr w.drew _ _ ty 183 2 g ((i+1)*2) (n-i) dc ⟨g,i*2,none⟩ (n+1-i) sc _ underlying41 hsz (by rw[hdl];simp only[min_def];split<;>omega)
   (λj v hj=>by
    have:=(d9.1 hj).1;rw[hdr,aE4,if_pos oM,aE5]at hj;rw[Addr.add_lit];exact(hb.drew.cell _).trans (by rw[<-aG0];exact hj)) hb.drew MZ (xd _)
 obtain⟨W1,hW1⟩:=zE (w.drew.setCells g ((i+1)*2) ((l.drop i).flatMap aD.cells));obtain⟨b1,g1⟩:=ai.setCells hb.drew MZ;rw[<-hW1]at b1 g1;have hv1:ai W1 vb 183 #[I6 x.tick,I6 x.value]:=hv.drew.grown g1 (λe=>hvb (Option.some.inj e));have au6:∀ty dc,(Builtin.copy_ #[41,41] ty #[.slice (some ⟨g,i*2,none⟩) (n+1-i) dc,.slice (some ⟨vb,0,none⟩) 1 1]).run prog W1=.ok (goInt (Nat.min 1 (n+1-i))) (W1.setCells g (i*2) x.cells):=λty dc=>
  jr W1 _ _ ty 183 2 g (i*2) (n+1-i) dc ⟨vb,0,none⟩ 1 1 x.cells underlying41 hsz (by rw[aA];simp only[min_def];split<;>omega)
   (λj v hj=>by rw[Addr.add_lit,aR9];exact(hv1.cell j).trans (by rw[show(#[I6 x.tick,I6 x.value]:Array Value)=x.cells.toArray from rfl];simpa using hj)) b1 (by rw[dz MZ,aA,hcs];omega) (mG x)
 rw[<-hW1]at am2;have HW:=zD hW1;have:=hl;clear hW1 b1 g1 hv1 hb hv hdl hdr eM hcs hl MZ;go_enter func230,ntmps230;go_wp2_with(simp only[JL]);go_region_law(refine Go.Proofs.step_copy_runI rfl _ _ 41 41 rfl _ _ (by simp[Act.eval,Act.put]) (by simp[Act.eval,Act.put]) (am2 _ _ _) ?_);go_wp2_with(at_builtin;refine Go.Proofs.wpList_copy_runI _ rfl _ _ 41 41 rfl _ _ rfl rfl (au6 _ _) ?_);go_ret;exact⟨rfl,by rw[HW.out]⟩
def pj(w:World)(cur:Array Value)(n i c:Nat):Array Value:=(cur.toList.take (i*2)).toArray++Builtin.zeroCells (Value.agg #[I6 0,I6 0]).cells (n+1-i)++Builtin.zeroCells (Value.agg #[I6 0,I6 0]).cells (grownCap w (n+1) c 183-(n+1))
def FL(k:Nat):(Builtin.zeroCells (Value.agg #[I6 0,I6 0]).cells k).size=k*2:=by simp[Builtin.zeroCells,Value.cells]
theorem qy(g n c i vb:Nat)(cur:Array Value)(l:List aD)(x:aD)(w:World)(hi:i<n)(mF:n<=c)(hroom:c<n+1)(hbig:n<=1000000)
 (hb:ai w g 183 cur) (hcs:cur.size=c*2) (hl:l.length=n) (eM:cur.toList.take (n*2)=l.flatMap aD.cells) (hv:ai w vb 183 #[I6 x.tick,I6 x.value]) :
 Calls prog 230 #[.slice (some ⟨g,0,none⟩) n c,I6 i,.slice (some ⟨vb,0,none⟩) 1 1] w λe w'=>
  e=.returned (.slice (some ⟨w.heap.size,0,none⟩) (n+1) (grownCap w (n+1) c 183))/\∃row,ai w' w.heap.size 183 row/\row.size=grownCap w (n+1) c 183*2/\row.toList.take ((n+1)*2)=(l.take i).flatMap aD.cells++(x.cells++(l.drop i).flatMap aD.cells)/\Bl w w':=by
 obtain⟨i0,hi0,hz0,hz1,hz2⟩:=info_parts lT;have hze:((i:Int)==(n:Int))=false:=by simp;omega
 have hdl:((l.drop i).flatMap aD.cells).length=(n-i)*2:=by rw[aZ aA,aD2,hl]
 have hdr:(l.drop i).flatMap aD.cells=(cur.toList.drop (i*2)).take ((n-i)*2):=by
  rw[<-jF aA,<-eM,aV6,sub_mul]
 have hsz:(prog.info? 183).map (·.size)=some 2:=kZ
 have hkk:(n:Int)+1-(i:Int)=((n+1-i:Nat):Int):=oM
 have hik:i+(n+1-i)=n+1:=oM
 have hold:(Builtin.firstCells i0.size i (.slice (some ⟨g,0,none⟩) i c)).run prog w.drew=.ok (cur.toList.take (i*2)).toArray w.drew:=by
  rw[hz1];exact run_firstCells_some w.drew 2 i ⟨g,0,none⟩ i c (cur.toList.take (i*2)) sM (λj v hj=>by
   rw[Addr.add_lit,aR9];rw[aE4]at hj
   split at hj
   ·exact(hb.drew.cell j).trans (by rw[<-aG0];exact hj)
   ·cases hj)
 have hrz:∀ty,(Builtin.append_ #[41,3] ty #[.slice (some ⟨g,0,none⟩) i c,I6 ((n:Int)+1-(i:Int))]).run prog w =
  .ok (.slice (some ⟨w.heap.size,0,none⟩) (n+1) (grownCap w (n+1) c 183)) (w.drew.alloc (.cells (pj w cur n i c) 183)):=λty=>by
  have h:=Lib.run_append_grow_zeros (P:=prog) w 41 3 ty 183 i0 _ .i64 .i64 underlying41 underlying3 hi0 hz0 (some ⟨g,0,none⟩) i c (cur.toList.take (i*2)) hold (n+1-i) oM oM oM oM (by rw[hz2];omega) (by rw[hz2,hik];exact growslice_fits hroom oM);rw[hik]at h;rw[hkk];exact h
 have hGn:n+1<=grownCap w (n+1) c 183:=grownCap_ge w _ _ _;have aA7:grownCap w (n+1) c 183<=9223372036854775807:=by
  have:=grownCap_le_maxLen w (n+1) c 183 (by unfold maxLen;omega);unfold maxLen at this;omega
 have Xe:(pj w cur n i c).size=grownCap w (n+1) c 183*2:=by
  unfold pj;rw[Array.size_append,Array.size_append,FL,FL];simp;omega
 have hRt:(pj w cur n i c).toList.take (i*2)=(l.take i).flatMap aD.cells:=by
  unfold pj;rw[aV1,aV1,aD0,aG9 sM,aV0,aH4,Nat.min_self,<-jE aA,<-eM,aH4,aG5 oM]
 generalize grownCap w (n+1) c 183=G at *;generalize pj w cur n i c=ROW at *;obtain⟨W1,hW1⟩:=zE (w.drew.alloc (.cells ROW 183));have b1:ai W1 w.heap.size 183 ROW:=by rw[hW1];exact ai.new w.drew _ _
 have o1:ai W1 g 183 cur:=by rw[hW1];exact hb.drew.alloc _
 have v1:ai W1 vb 183 #[I6 x.tick,I6 x.value]:=by rw[hW1];exact hv.drew.alloc _
 have e1:Bl w W1:=by rw[hW1];exact(Below.refl _ w).drew.alloc lR _
 rw[<-hW1]at hrz;have RN:i*2+x.cells.length<=ROW.size:=by rw[aA,Xe];omega
 have am3:∀ty dc,(Builtin.copy_ #[41,41] ty #[.slice (some ⟨w.heap.size,i*2,none⟩) (n+1-i) dc,.slice (some ⟨vb,0,none⟩) 1 1]).run prog W1=.ok (goInt (Nat.min 1 (n+1-i))) (W1.setCells w.heap.size (i*2) x.cells):=λty dc=>
  jr W1 _ _ ty 183 2 w.heap.size (i*2) (n+1-i) dc ⟨vb,0,none⟩ 1 1 x.cells underlying41 hsz (by rw[aA];simp only[min_def];split<;>omega)
   (λj v hj=>by rw[Addr.add_lit,aR9];exact(v1.cell j).trans (by rw[show(#[I6 x.tick,I6 x.value]:Array Value)=x.cells.toArray from rfl];simpa using hj)) b1 RN (mG x)
 obtain⟨b2,g2⟩:=ai.setCells b1 RN;obtain⟨W2,hW2⟩:=zE (W1.setCells w.heap.size (i*2) x.cells);rw[<-hW2]at am3 b2 g2;have hgN:g≠w.heap.size:=by have:=hb.lt;omega
 have o2:ai W2.drew g 183 cur:=(o1.grown g2 (λe=>hgN (Option.some.inj e))).drew;have hf2:(i+1)*2+((l.drop i).flatMap aD.cells).length<=(vI ROW (i*2) x.cells).size:=by rw[hdl,dz RN,Xe];omega
 have au7:∀ty dc sc,(Builtin.copy_ #[41,41] ty #[.slice (some ⟨w.heap.size,(i+1)*2,none⟩) (n-i) dc,.slice (some ⟨g,i*2,none⟩) (n-i) sc]).run prog W2.drew=.ok (goInt (Nat.min (n-i) (n-i))) (W2.drew.setCells w.heap.size ((i+1)*2) ((l.drop i).flatMap aD.cells)):=λty dc sc=>
  jr W2.drew _ _ ty 183 2 w.heap.size ((i+1)*2) (n-i) dc ⟨g,i*2,none⟩ (n-i) sc _ underlying41 hsz (by rw[hdl];simp only[min_def];split<;>omega)
   (λj v hj=>by
    have:=(d9.1 hj).1;rw[hdr,aE4,if_pos oM,aE5]at hj;rw[Addr.add_lit];exact(o2.cell _).trans (by rw[<-aG0];exact hj)) b2.drew hf2 (xd _)
 obtain⟨b3,g3⟩:=ai.setCells b2.drew hf2;have HE:Bl w (W2.drew.setCells w.heap.size ((i+1)*2) ((l.drop i).flatMap aD.cells)):=(((e1.grown g2 e1.size (λk e=>by cases e;exact aC2 _)).drew).grown g3 (aB4 e1.size g2.size) (λk e=>by cases e;exact aC2 _));have HB:=b3;have OS:=(show(vI (vI ROW (i*2) x.cells) ((i+1)*2) ((l.drop i).flatMap aD.cells)).size=G*2 by rw[dz hf2,dz RN,Xe]);have zZ:=(show(vI (vI ROW (i*2) x.cells) ((i+1)*2) ((l.drop i).flatMap aD.cells)).toList.take ((n+1)*2)=(l.take i).flatMap aD.cells++(x.cells++(l.drop i).flatMap aD.cells) by
  rw[xg hf2 _ (by rw[hdl];omega),xg RN _ (by rw[aA];omega),hRt,aD0])
 have: ¬(G=i):=oM
 have: ¬(G=i+1):=oM
 have: ¬(c=i):=oM
 have:IntKind.i64.wrap ((i:Int)+1)=(i:Int)+1:=by rw[IntKind.wrap_i64];omega
 have:(0:Int)<=(i:Int)+1:=oM
 have:((i:Int)+1).toNat=i+1:=oM
 have:(i:Int)<=(n:Int):=oM
 have:(c:Int)<(n:Int)+1:=oM
 clear hkk hik hold Xe hRt hdl hdr eM hb hv hcs hl b1 o1 v1 e1 RN b2 g2 o2 hf2 b3 g3 hW1 hW2 hi0 hz0 hz1 hz2 hsz hgN;go_enter func230,ntmps230;go_wp2_with(first
  |at_builtin;refine Lib.wpList_append_run _ rfl _ _ _ _ rfl _ _ rfl rfl _ _ (hrz _) ?_
  |(at_builtin;refine Go.Proofs.wpList_copy_runI _ rfl _ _ 41 41 rfl _ _ rfl rfl (am3 _ _) ?_))
 go_region_law(refine Go.Proofs.step_copy_runI rfl _ _ 41 41 rfl (.slice (some ⟨w.heap.size,(i+1)*2,none⟩) (n-i) (G-(i+1))) (.slice (some ⟨g,i*2,none⟩) (n-i) (c-i)) (by simp[Act.eval,Act.put]) (by simp[Act.eval,Act.put]) (au7 _ _ _) ?_);go_wp2;go_ret;exact⟨rfl,_,HB,OS,zZ,HE⟩
def am4(base:Nat)(v:Value)(l:List aD)(w:World)(e:Ending)(w' : World):Prop:=∃v',e=.returned v'/\kH w' base v' l/\(v'.ownBlock=v.ownBlock\/v'.ownBlock=some w.heap.size)/\ah (λk=>v.ownBlock=some k) w w'
theorem rH(A:Option Addr)(n c vb:Nat)(l:List aD)(x:aD)(w:World)(h:kH w base (.slice A n c) l)(hn:n=l.length)(hl:n<=100000)(mF:n<=c)(hc:c<=9223372036854775807)(hbase:base<=w.heap.size)(hv:ai w vb 183 #[I6 x.tick,I6 x.value]):
 Calls prog 230 #[.slice A n c,I6 n,.slice (some ⟨vb,0,none⟩) 1 1] w (am4 base (.slice A n c) (l++[x]) w):=by
 by_cases hcn:n=c
 ·subst hcn
  have HO:=h;have HV:=br (α:=aD) (vs:=x.cells) hv rfl;have hlen:l.length<1000000:=oM
  clear h hv hn;go_enter func230,ntmps230;go_wp2_with(at_builtin;refine cU _ rfl (.tmp 23) (.tmp 24) 41 rfl base 183 _ 2 16 _ underlying41 lT rF dC (λ_=>rfl) mG (.slice A n n) l rfl HO ⟨vb,0,none⟩ 1 x rfl HV hlen dC hbase ?_;intro v' w1 ho hu hw;have H1:=ho;have H2:=hu;have H3:=hw;clear ho hu hw);go_ret;exact⟨_,rfl,H1,H3,H2⟩
 ·have: ¬(c=n):=λe=>hcn e.symm
  have HO:=h;have HV:=br (α:=aD) (vs:=x.cells) hv rfl;have hlen:l.length<1000000:=oM
  clear h hv hn hcn;go_enter func230,ntmps230;go_wp2_with(at_builtin;refine cU _ rfl (.tmp 23) (.tmp 24) 41 rfl base 183 _ 2 16 _ underlying41 lT rF dC (λ_=>rfl) mG (.slice A n c) l rfl HO ⟨vb,0,none⟩ 1 x rfl HV hlen dC hbase ?_;intro v' w1 ho hu hw;have H1:=ho;have H2:=hu;have H3:=hw;clear ho hu hw);go_ret;exact⟨_,rfl,H1,H3,H2⟩
def z7(v:Value)(l:List aD)(i vb:Nat)(x:aD)(w:World)(h:kH w base v l)(hl:l.length<=100000)(hi:i<=l.length)(hbase:base<=w.heap.size)(hv:ai w vb 183 #[I6 x.tick,I6 x.value])(hvb:v.ownBlock≠some vb):
 Calls prog 230 #[v,I6 i,.slice (some ⟨vb,0,none⟩) 1 1] w (am4 base v (l.take i++x::l.drop i) w):=by
 by_cases he:i=l.length
 ·subst he
  rw[aW7,List.drop_length];obtain⟨A,n,c,rfl,hn,hs⟩:=h.shape aA;have hh:=rH A n c vb l x w h hn oM hs.2.1 (by have:=hs.2.2.1;unfold maxLen at this;omega) hbase hv;rw[hn]at hh;rw[<-hn]at hh |-;exact hh
 ·rcases h.2 with⟨rfl,hn⟩|⟨g,cap,cur,rfl,hbg,hg,mF,hcm,hcs,eM⟩
  ·omega
  ·have hb:ai w g 183 cur:=hg
   have hne:vb≠g:=λe=>hvb (by rw[e];rfl)
   have hdl:((l.drop i).flatMap aD.cells).length=(l.length-i)*2:=by rw[aZ aA,aD2]
   have ey:(l.take i++x::l.drop i).length=l.length+1:=by simp;omega
   by_cases hr:l.length+1<=cap
   ·refine(pQ g l.length cap i vb cur l x w oM hr (by unfold maxLen at hcm;omega) hne hb hcs rfl eM hv).mono ?_
    rintro e w' ⟨rfl,rfl⟩;have RN:(i+1)*2+((l.drop i).flatMap aD.cells).length<=cur.size:=oI hdl hcs
    obtain⟨b1,g1⟩:=ai.setCells hb.drew RN;have hf2:i*2+x.cells.length<=(vI cur ((i+1)*2) ((l.drop i).flatMap aD.cells)).size:=by rw[dz RN,aA,hcs];omega
    obtain⟨b2,g2⟩:=ai.setCells b1 hf2;refine⟨_,rfl,⟨by simp only[aZ aA],.inr ⟨g,cap,_,by rw[ey],hbg,b2,oM,hcm,by rw[dz hf2,dz RN,hcs],?_⟩⟩,.inl rfl,?_⟩
    ·rw[ey]
     unfold vI;have e1:(cur.toList.take ((i+1)*2)++((l.drop i).flatMap aD.cells++cur.toList.drop ((i+1)*2+((l.drop i).flatMap aD.cells).length))).take (i*2)=(l.take i).flatMap aD.cells:=by
      rw[aG9 sM,aH4,aG5 oM,<-jE aA,<-eM,aH4,aG5 oM]
     have e2:(cur.toList.take ((i+1)*2)++((l.drop i).flatMap aD.cells++cur.toList.drop ((i+1)*2+((l.drop i).flatMap aD.cells).length))).drop (i*2+x.cells.length)=(l.drop i).flatMap aD.cells++cur.toList.drop ((i+1)*2+((l.drop i).flatMap aD.cells).length):=by
      rw[aR7 (by simp[aA];omega),aA,aG3 sM,aD4]
     simp only[aV0];rw[e1,e2,aH0,aE8,<-aD0,<-aD0];rw[aG9 (by simp only[aB8,aZ aA,aA,aC3,aD2];omega),aB5 (by simp only[aB8,aZ aA,aA,aC3,aD2];omega)];rw[aD0]
    ·exact((ah.refl _ w).drew.grown g1 (λk e=>by cases e;exact .inl rfl)).grown g2 (λk e=>by cases e;exact .inl rfl)
   ·refine(qy g l.length cap i vb cur l x w oM mF oM oM hb hcs rfl eM hv).mono ?_
    rintro e w' ⟨rfl,row,hrow,hrs,hrt,aT⟩;refine⟨_,rfl,⟨by simp only[aZ aA],.inr ⟨w.heap.size,_,row,by rw[ey],hbase,hrow,ey▸grownCap_ge _ _ _ _,grownCap_le_maxLen w _ _ _ (by unfold maxLen;omega),hrs,?_⟩⟩,.inr rfl,ah.aa aT⟩;rw[ey,hrt,aH0,aE8]
def cV(w:World)(g:Nat)(v:Value)(l:List aD)(room:Int):Prop:=ai w g 301 #[v,I6 room]/\kH w 0 v l/\v.ownBlock≠some g
def foot(g:Nat)(v:Value)(k:Nat):Prop:=k=g\/v.ownBlock=some k
def cV.upd{S:Nat->Prop}{l:List aD}{room:Int}(h:cV w g v l room)(hu:ah S w w')(hn:∀k,foot g v k->¬S k):cV w' g v l room:=
 ⟨h.1.upd hu (hn g (.inl rfl)),h.2.1.upd hu (λk hk=>hn k (.inr hk)),h.2.2⟩
def cV.call{l:List aD}{room:Int}(h:cV w g v l room)(hb:Bl w w'):cV w' g v l room:=⟨h.1.call hb,h.2.1.call hb,h.2.2⟩
def cV.lt{l:List aD}{room:Int}(h:cV w g v l room): ∀k,foot g v k->k<w.heap.size:=by
 rintro k (rfl|hk)
 ·exact h.1.lt
 ·exact(World.ownsRow.lt h.2.1 k hk).2
def Own.gC{cells:α->List Value}{l:List α}(h:Own w base e size cells v l)(hb:ai w g t cs)(hte:t≠e):v.ownBlock≠some g:=by
 intro he;rcases h.2 with⟨rfl,_⟩|⟨b,cap,cur,rfl,_,hg,_⟩
 ·simp[Value.ownBlock]at he
 ·have e2:b=g:=by simpa[Value.ownBlock]using he
  subst e2;have:=(show w.heap[b]? = _ from hb).symm.trans hg;simp at this;exact hte this.2
def Own.from_{cells:α->List Value}{l:List α}(h:Own w base e size cells v l): ∀k,v.ownBlock=some k->base<=k:=λk hk=>(World.ownsRow.lt h k hk).1
theorem Sh(g bs bt:Nat)(v:Value)(l:List aD)(room tick:Int)(i:Nat)(W:World)(hs:cV W g v l room)(hb1:ai W bs 215 #[pt g])(hb2:ai W bt 2 #[I6 tick])
 (hi:i<l.length) (hn:l.length<=100000) (hsrt:pP l) :
 Calls prog 274 (#[I6 i]++#[pt bs,pt bt]) W (Rt (.bool (decide (aH l tick<=i))) (Bl W)):=by
 obtain⟨A,n,c,rfl,kX,gU⟩:=hs.2.1.shape aA;obtain⟨b,off,x,rfl,hx,hb,u0,u1⟩:=cH.at_ gU (show i<n by omega);have HQ:=zD (OO hsrt tick hx);have:=hb1.z 0 (pt g);have:=hb2.z 0 (I6 tick);have:=hs.1.z 0 (.slice (some ⟨b,off,none⟩) n c);have:(i:Int)<(n:Int):=oM
 have:(0:Int)<=(i:Int):=oM
 clear hs hb1 hb2 hx gU u1 hsrt hb kX;go_enter func274,ntmps274;go_wp2;go_quiet(fail);go_wp2;go_ret;exact⟨dQ HQ.out,below_drewN bR _⟩
theorem mH(g:Nat)(v:Value)(l:List aD)(room tick:Int)(w:World)(h:cV w g v l room)(hsrt:pP l)(hn:l.length<=100000) :
 Calls prog 229 #[pt g,I6 tick] w (Rt (I6 (aH l tick)) (Bl w)):=by
 have eg:∀args w,(callFunc 274 args).run prog w=.ok (.enter 274 args) w:=enters_of func274 kZ rfl
 have hk:=oa l tick;obtain⟨A,n,c,rfl,kX,gU⟩:=h.2.1.shape aA;have E0:=zD (show Bl w ((w.alloc (.cells #[pt g] 215)).alloc (.cells #[I6 tick] 2)) by go_grown);have HS:=zD (λW (hb:Below ((w.alloc (.cells #[pt g] 215)).alloc (.cells #[I6 tick] 2)).heap.size ((w.alloc (.cells #[pt g] 215)).alloc (.cells #[I6 tick] 2)) W)=>
  Sh g w.heap.size (w.heap.size+1) _ l room tick (W:=W) (hs:=(h.call E0.out).call hb) (hb1:=((ai.new w _ _).alloc _).call hb) (hb2:=(ai.dR w _ _ _).call hb) (hn:=hn) (hsrt:=hsrt))
 have:=h.1.z 0 (.slice A n c);have lt:=h.1.lt;have HL:=zD kX;have fo:n<=1000000:=oM
 have hK:aH l tick<=n:=oM
 generalize aH l tick=K at *;clear h gU kX hk hn;go_enter func229,ntmps229;go_wp2_with fail;refine(FM 274 _ n K _ eg fo hK (λW i hb hi=>HS.out W hb i (by rw[<-HL.out];exact hi))).mono ?_;rintro e w1 ⟨rfl,hb1⟩;have HB:=zD (zT E0.out hb1);clear hb1;go_wp2;go_ret;exact⟨rfl,HB.out⟩
theorem Aa(room:Int)(w:World)(h:room<1\/256<room) :
 Calls prog 178 #[I6 room] w λe w'=>e=.returned (.pointer none)/\w=w':=by
 rcases h with h|h
 ·go_enter func178,ntmps178
  go_wp2;go_ret;exact⟨rfl,rfl⟩
 ·have:decide (room<1)=false:=by simp;omega
  go_enter func178,ntmps178;go_wp2;go_ret;exact⟨rfl,rfl⟩
theorem xk(room:Int)(w:World)(h1:1<=room)(h2:room<=256) :
 Calls prog 178 #[I6 room] w λe w'=>e=.returned (pt w.heap.size)/\w' = w.alloc (.cells #[.slice none 0 0,I6 room] 301):=by
 have:decide (room<1)=false:=by simp;omega
 have:decide (256<room)=false:=by simp;omega
 go_enter func178,ntmps178;go_wp2;go_ret;exact⟨rfl,rfl⟩
def cV.new(w:World)(room:Int):cV (w.alloc (.cells #[.slice none 0 0,I6 room] 301)) w.heap.size (.slice none 0 0) [] room:=
 ⟨ai.new _ _ _,Own.nil _ _ _ _ _,by simp[Value.ownBlock]⟩
theorem dA(tick value:Int)(w:World) :
 Calls prog 78 #[I6 tick,I6 value] w λe w'=>e=.returned (I6 (bU tick value))/\w=w':=by
 by_cases h1:tick<0
 ·rw[FB h1]
  go_enter func78,ntmps78;go_wp2;go_ret;exact⟨rfl,rfl⟩
 ·by_cases h2:value<0
  ·rw[CW oM h2]
   go_enter func78,ntmps78;go_wp2;go_ret;exact⟨rfl,rfl⟩
  ·rw[OM oM oM]
   go_enter func78,ntmps78;go_wp2;go_ret;exact⟨rfl,rfl⟩
theorem vJ(w:World):Calls prog 127 #[.pointer none] w λe w'=>e=.returned (.slice none 0 0)/\w=w':=by
 go_enter func127,ntmps127;go_wp2;go_ret;exact⟨rfl,rfl⟩
theorem oh(g:Nat)(v:Value)(l:List aD)(room:Int)(w:World)(h:cV w g v l room)(hn:l.length<=100000) :
 Calls prog 127 #[pt g] w (iY w l):=by
 obtain⟨A,n,c,rfl,kX,gU⟩:=h.2.1.shape aA;have:=h.1.z 0 (.slice A n c);have HC:=slices_Clone A n c l w gU oM;clear h gU kX hn;go_enter func127,ntmps127;go_wp2_with fail;refine HC.mono ?_;rintro e w1 ⟨A1,n1,c1,rfl,ho,hb⟩;have HO:=ho;have HB:=hb;clear ho hb;go_wp2;go_ret;exact⟨_,_,_,rfl,HO,HB⟩
theorem tF(w:World):Calls prog 240 #[.pointer none] w λe w'=>e=.returned (.pointer none)/\w=w':=by
 go_enter func240,ntmps240;go_wp2;go_ret;exact⟨rfl,rfl⟩
def ae5(w:World)(l:List aD)(room:Int)(e:Ending)(w' : World):Prop:=∃g v,e=.returned (pt g)/\cV w' g v l room/\(∀k,foot g v k->w.heap.size<=k)/\Bl w w'
theorem CY(g:Nat)(v:Value)(l:List aD)(room:Int)(w:World)(h:cV w g v l room)(hn:l.length<=100000) :
 Calls prog 240 #[pt g] w (ae5 w l room):=by
 have HS:=h;have HC:=(λW hW=>oh g v l room W hW hn);have:=h.1.lt;have sA:∃A n c,v=.slice A n c:=by obtain⟨A,n,c,h1,_⟩:=h.2.1.shape aA;exact⟨A,n,c,h1⟩
 obtain⟨A,n,c,rfl⟩:=sA;clear h hn;go_enter func240,ntmps240;go_upto_region 3 with(fail)
 obtain⟨w0,hw0⟩:∃w0,w0=w:=⟨w,rfl⟩
 rw[<-hw0]at HS |-;have HW:=zD hw0;clear hw0;refine zB λS0=>?_
 refine zk 4 [0,2,3,4,5] [_,_,_,_,I6 room] (.q zX<|.q zX<|.q zX<|.q zX<|.q (zS λ_ h=>(HS.1.call h).z 1 (I6 room)) .nil) S0<|zQ 1 ?_;go_wp2_with(go_at_call 127;refine(HC _ (HS.call S0)).mono ?_;rintro e v3 ⟨A3,n3,c3,rfl,kJ,hb3⟩);refine .i (zT S0 hb3) ?_;have S3:=zT S0 hb3;refine zq 2 [6] [_] S3<|zQ 7 ?_;obtain⟨G,hG,bG,lG⟩:=dp (S:=S3) (#[.slice A3 n3 c3,I6 room]) 301;go_wp2_with fail;refine .i (S3.alloc S3.size _) ?_
 (try simp only[hG])
 clear hG;have SG:=S3.alloc S3.size (.cells (#[.slice A3 n3 c3,I6 room]) 301);refine zq 0 [8] [_] SG<|zd ?_;have HO:=kJ.alloc (.cells #[.slice A3 n3 c3,I6 room] 301);have HG:=bG;clear kJ hb3;go_wp2;go_ret;have e0:w0=w:=HW.out;subst e0;exact⟨G,_,rfl,⟨HG,HO.mono (aB6 _),HO.gC HG dC⟩,λk hk=>by
  rcases hk with rfl|hk
  ·exact lG
  ·exact HO.from_ k hk,SG⟩
def jt(g:Nat)(v:Value)(l:List aD)(room:Int)(w:World)(ret:Value)(e:Ending)(w' : World):Prop:=∃v',e=.returned ret/\cV w' g v' l room/\ah (foot g v) w w'/\∀k,foot g v' k->foot g v k\/w.heap.size<=k
theorem vK(cut:Int)(w:World):Calls prog 188 #[.pointer none,I6 cut] w λe w'=>e=.returned (I6 0)/\w=w':=by
 go_enter func188,ntmps188;go_wp2;go_ret;exact⟨rfl,rfl⟩
def cV.put{l l' : List aD}{room:Int}(h:cV w g v l room)(hu:ah (λk=>v.ownBlock=some k) w w')(ho:kH w' 0 v' l')(hw:v'.ownBlock=v.ownBlock\/∃k,v'.ownBlock=some k/\w.heap.size<=k):
 cV (w'.setCell ⟨g,0,none⟩ v') g v' l' room/\ah (foot g v) w (w'.setCell ⟨g,0,none⟩ v')/\(∀k,foot g v' k->foot g v k\/w.heap.size<=k)/\w'.cell? ⟨g,0,none⟩=some v/\w'.frozen? ⟨g,0,none⟩=false:=by
 have hne:v'.ownBlock≠some g:=by
  rcases hw with e|⟨k,e,hk⟩
  ·rw[e];exact h.2.2
  ·rw[e];intro e2;have:=h.1.lt;cases e2;omega
 have hb:ai w' g 301 #[v,I6 room]:=h.1.upd hu (λe=>h.2.2 e);refine⟨⟨hb.aX 0 v',ho.far (λk hk e=>hne (by rw[hk,e])) _,hne⟩,(hu.mono (λk hk=>.inr hk)).setCell (.inl (.inl rfl)) _,?_,hb.ar rfl,hb.frozen _⟩;rintro k (rfl|hk)
 ·exact .inl (.inl rfl)
 ·rcases hw with e|⟨j,e,hj⟩
  ·exact .inl (.inr (e▸hk))
  ·rw[e]at hk;cases hk;exact .inr hj
theorem FO(g:Nat)(v:Value)(l:List aD)(room cut:Int)(w:World)(h:cV w g v l room)(hs:pP l)(hn:l.length<=100000) :
 Calls prog 188 #[pt g,I6 cut] w (jt g v (bT l cut) room w (I6 (aH l cut))):=by
 have HS:=h;have HP:=mH g v l room cut w h hs hn;have HK:=BO hs cut;have Xg:=oa l cut;have HN:=hn;obtain⟨A,n,c,rfl,kX,gU⟩:=h.2.1.shape aA;generalize aH l cut=K at *;have:K<=100000:=oH Xg
 clear h hs hn kX gU;go_enter func188,ntmps188;go_wp2_with fail;refine HP.mono ?_;rintro e w1 ⟨rfl,hb1⟩;have S1:=HS.call hb1;have U1:=hb1;have c3:=(HS.call hb1).1.z 0 (.slice A n c);clear hb1;go_wp2_with fail;refine(slices_Delete _ l K _ S1.2.1 HN Xg).mono ?_;rintro e w2 ⟨v',rfl,ho,hv,hu⟩;obtain⟨A',n',c',rfl,-,-⟩:=ho.shape aA;obtain⟨p1,p2,p3,p4,p5⟩:=S1.put hu ho (.inl hv);have P1:=p1;have P2:=p2;have P3:=p3;clear ho hv hu p1 p2 p3 c3;go_wp2;go_ret;exact⟨_,rfl,HK▸P1,(ah.aa U1).trans P2 iL,λk hk=>(P3 k hk).imp id (λh=>aB4 U1.size h)⟩
def J7{β:Type}{P Q R:List β}{N:Nat}(h:P.length+Q.length<=N):(P++(Q++R)).take N=P++(Q++R.take (N-P.length-Q.length)):=by
 rw[aS0,aB5 oM,aS0,aB5 oM]
def Own.set{cells:α->List Value}{h c:Nat}{l:List α}(ho:Own w base e size cells (.slice (some ⟨h,0,none⟩) n c) l)(hsz:∀x,(cells x).length=size){K:Nat}(hK:K<l.length)(x:α):
 Own (w.setCells h (K*size) (cells x)) base e size cells (.slice (some ⟨h,0,none⟩) n c) (l.set K x)/\w.grownBy (w.setCells h (K*size) (cells x)) (some h)/\w.there h (K*size) size:=by
 rcases ho.2 with⟨he,_⟩|⟨b,cap,cur,he,hbg,hg,mF,hcm,hcs,eM⟩
 ·cases he
 ·cases he
  have hb:ai w h e cur:=hg;have h1:(K+1)*size<=l.length*size:=aE9 _ hK;have:l.length*size<=c*size:=aE9 _ mF;rw[aD6,aI4]at h1;have iD:K*size+(cells x).length<=cur.size:=by rw[hsz];omega
  obtain⟨b1,g1⟩:=ai.setCells hb iD;refine⟨⟨by simp[aZ hsz],.inr ⟨h,c,_,sI,hbg,b1,by simpa using mF,hcm,by rw[dz iD,hcs],?_⟩⟩,g1,λj hj=>?_⟩
  ·have e1:(cur.toList.take (K*size)).length=K*size:=by rw[aC3,aT6];omega
   rw[aF3,aI2,if_pos hK];unfold vI;rw[aV0,aH0,aE8,<-jE hsz,<-jF hsz,<-eM,aH4,aG5 oM];rw[J7 (by rw[e1,hsz];omega),e1,hsz,aV6];rw[show(K+1)*size=K*size+size by rw[aD6,aI4],Nat.sub_sub]
  ·exact⟨by rw[hb.cell,aC6 (by rw[hsz]at iD;omega)];rfl,hb.frozen _⟩
def Own.Sj{cells:α->List Value}{l:List α}(h:Own w base e size cells v l):Own w.drew base e size cells v l:=h
def Own.Sk{cells:α->List Value}{l:List α}(h:Own w base e size cells v l){G:Nat}(hG:w.heap.size<=G):v.ownBlock≠some G:=λe=>by
 have:=(World.ownsRow.lt h G e).2;omega
theorem om(p:Option Addr)(tick value E:Int)(w:World)(h:E≠0)(he:bU tick value=E) :
 Calls prog 179 #[.pointer p,I6 tick,I6 value] w λe w'=>e=.returned (I6 E)/\w=w':=by
 have HC:=dA tick value w;rw[he]at HC;have:(E==0)=false:=sH h
 clear he h;go_enter func179,ntmps179;go_wp2_with(go_at_call 78;refine HC.mono ?_;rintro e w1 ⟨rfl,rfl⟩);go_ret;exact⟨rfl,rfl⟩
theorem xn(tick value:Int)(w:World)(he:bU tick value=0) :
 Calls prog 179 #[.pointer none,I6 tick,I6 value] w λe w'=>e=.returned (I6 5)/\w=w':=by
 have HC:=dA tick value w;rw[he]at HC;clear he;go_enter func179,ntmps179;go_wp2_with(go_at_call 78;refine HC.mono ?_;rintro e w1 ⟨rfl,rfl⟩);go_ret;exact⟨rfl,rfl⟩
theorem xo(g:Nat)(v:Value)(l:List aD)(room tick value:Int)(y:aD)(w:World)(h:cV w g v l room)(hs:pP l)(hn:l.length<=100000)(he:bU tick value=0)(hr:1<=room)
 (hy:l[aH l tick]? = some y) (hyt:y.tick=tick) :
 Calls prog 179 #[pt g,I6 tick,I6 value] w (jt g v (l.set (aH l tick) ⟨tick,value⟩) room w (I6 0)):=by
 have HC:=dA tick value w;rw[he]at HC;have HS:=h;have HP:=mH g v l room tick w h hs hn;have hK:=(d9.1 hy).1;obtain⟨A,n,c,rfl,kX,gU⟩:=h.2.1.shape aA;obtain⟨b,off,y',rfl,hy',hb,u0,u1⟩:=cH.at_ gU (show aH l tick<n by omega);rw[hy]at hy';cases hy';have h0:off=0:=by
  rcases h.2.1.2 with⟨e,_⟩|⟨b',cap,cur,e,_⟩
  ·cases e
  ·cases e;rfl
 subst h0;subst hyt;subst kX;generalize aH l y.tick=K at *;have HK:=hK;have:decide ((K:Int)<(l.length:Int))=true:=by simp;omega
 have:(room==0)=false:=by simp;omega
 have:=h.1.lt;have q0:=u0;have:=u1;have hb':=hb;have:(K:Int)<(l.length:Int):=oM
 have:=hn;have c3:=h.1.z 0 (.slice (some ⟨b,0,none⟩) l.length c);have c4:=h.1.z 1 (I6 room);have:l.length<=100000:=hn;clear h hs hn he hr hy gU u0 u1 hb hK;go_enter func179,ntmps179;go_wp2_with(go_at_call 78;refine HC.mono ?_;rintro e w1 ⟨rfl,rfl⟩);clear c3 c4;refine HP.mono ?_;rintro e w1 ⟨rfl,hb1⟩;have S1:=HS.call hb1;have U1:=hb1;have c3:=((HS.call hb1).1.alloc (.cells #[I6 y.tick,I6 value] 183)).z 0 (.slice (some ⟨b,0,none⟩) l.length c);have t0:=((Below.refl _ w1).alloc lR (.cells #[I6 y.tick,I6 value] 183)).cell (p:=⟨b,0+K*2,none⟩) (aB9 hb' hb1.size) |>.trans ((hb1.cell (p:=⟨b,0+K*2,none⟩) hb').trans q0)
 rw[aR9]at t0;clear hb1;have sz:=U1.size;go_wp2;have X1:=ai.new w1 183 #[I6 y.tick,I6 value];have S2:=S1.call (w':=w1.alloc (.cells #[I6 y.tick,I6 value] 183)) ((Below.refl _ w1).alloc lR _);have U2:=U1.alloc U1.size (.cells #[I6 y.tick,I6 value] 183);clear S1 U1 sz c3 t0;generalize w1.alloc (.cells #[I6 y.tick,I6 value] 183)=w2 at *;generalize w1.heap.size=gx at *;refine zr (λj=>[7].contains j) (λwS=>Bl w2 wS) ?_;have S0:=(Below.refl w2.heap.size w2).drew;refine zk 3 [0,1,2,3,4] [_,_,_,.slice (some ⟨b,0,none⟩) l.length c,_] (.q zX<|.q zX<|.q zX<|.q (zS λ_ h=>(S2.1.call h).z 0 (.slice (some ⟨b,0,none⟩) l.length c))<|.e) S0 ?_;refine zk 1 [5,6] [_,.pointer (some ⟨b,K*2,none⟩)] (.c rfl rfl (zl λ_ h=>zb (X1.call h) underlying183)<|.e) S0 ?_;refine aq _ _ _ _ kZ ?_;refine zO 7 (λQ2 aI=>?_);go_wp2_with(refine wpList_store_mid rfl 183 (.tmp 56) (.tmp 55) rfl b (K*2) #[I6 y.tick,I6 value] rfl rfl ((S2.call S0).2.1.set aA HK (⟨y.tick,value⟩:aD)).2.2 kZ (by simp[Value.oneCell']) ?_);(try refine aI _ _ ?_);(try clear aI Q2)
 refine wpAny_done kZ ?_ _;have D1:=S2.call S0;have D2:=D1.2.1.set aA HK (⟨y.tick,value⟩:aD);have D3:=zT U2 S0;go_wp2;go_ret;exact⟨_,rfl,⟨D1.1.grown D2.2.1 (λe=>D1.2.2 e.symm),D2.1,D1.2.2⟩,(ah.aa D3).grown D2.2.1 (λk e=>by cases e;exact .inl (.inr rfl)),λk hk=>.inl hk⟩
structure aU where
 tick:Int
 load:Int
 want:Int
 aQ:Int
 why:Int
deriving DecidableEq
def aU.cells(a:aU):List Value:=[I6 a.tick,I6 a.load,I6 a.want,I6 a.aQ,I6 a.why]
abbrev dB(w:World)(A:Option Addr)(len cap:Nat)(l:List aU):Prop:=ag w 5 aU.cells A len cap l
def dB.at_{len:Nat}{l:List aU}(h:dB w A len cap l)(hk:k<len):
 ∃(b off:Nat)(x:aU),A=some ⟨b,off,none⟩/\l[k]? = some x/\b<w.heap.size/\w.cell? ⟨b,off+k*5,none⟩=some (I6 x.tick)/\w.cell? ⟨b,off+k*5+1,none⟩=some (I6 x.load)/\w.cell? ⟨b,off+k*5+2,none⟩=some (I6 x.want)/\w.cell? ⟨b,off+k*5+3,none⟩=some (I6 x.aQ)/\w.cell? ⟨b,off+k*5+4,none⟩=some (I6 x.why):=by
 obtain⟨b,off,x,h1,h2,h3,h4⟩:=ag.at_ h hk;exact⟨b,off,x,h1,h2,h3,h4 0 _ rfl,by rw[aD9];exact h4 1 _ rfl,by rw[aD9];exact h4 2 _ rfl,by rw[aD9];exact h4 3 _ rfl,by rw[aD9];exact h4 4 _ rfl⟩
def CZ(l:List aU)(i:Nat):Int:=(l[i]?.map aU.aQ).getD 0
def OT{l:List aU}{x:aU}(h:l[i]? = some x):CZ l i=x.aQ:=by unfold CZ;rw[h];rfl
def eN(ph:List aU)(fr:Nat):List aU:=ph.drop fr++ph.take fr
def eV(l:List aU)(room:Nat)(x:aU):List aU:=if room<(l++[x]).length then(l++[x]).drop 1 else l++[x]
def RI(ph:List aU)(fr room:Nat):Prop:=ph.length<=room/\(ph.length<room->fr=0)/\fr<room
def ij(ph:List aU)(fr room:Nat)(h:RI ph fr room):(eN ph fr).length=ph.length:=by
 unfold eN;rw[aB8,aD2,aC3];have:=h.1;have:=h.2.1;have:=h.2.2;omega
def BU{ph:List aU}(h:RI ph fr room)(hl:ph.length<room)(x:aU):RI (ph++[x]) fr room/\eN (ph++[x]) fr=eV (eN ph fr) room x:=by
 have h0:=h.2.1 hl;subst h0;refine⟨⟨by simp;omega,λ_=>rfl,h.2.2⟩,?_⟩;unfold eN eV;simp only[List.drop_zero,List.take_zero,aW3,aB8,aS8];rw[if_neg oM]
def BV{ph:List aU}(h:RI ph fr room)(hl:ph.length=room)(x:aU):RI (ph.set fr x) ((fr+1) % room) room/\eN (ph.set fr x) ((fr+1) % room)=eV (eN ph fr) room x:=by
 have h2:=h.2.2;have hlt:fr<ph.length:=oM
 refine⟨⟨by simp;omega,λhh=>by simp at hh;omega,aS9 _ oM⟩,?_⟩;have e0:eV (eN ph fr) room x=ph.drop (fr+1)++ph.take fr++[x]:=by
  unfold eV;rw[if_pos (by rw[aB8,ij ph fr room h];simp;omega)];unfold eN;rw[aH2 hlt]
  rfl
 rw[e0];unfold eN;rw[aI2,if_pos hlt];have hl2:(ph.take fr).length=fr:=by rw[aC3];omega
 rcases aE2 (fr+1) room with h3|h3
 ·rw[aW8 h3]
  have e1:(ph.take fr++x::ph.drop (fr+1)).drop (fr+1)=ph.drop (fr+1):=by
   rw[List.drop_append,aG3 oM,hl2,show fr+1-fr=1 by omega];simp
  have e2:(ph.take fr++x::ph.drop (fr+1)).take (fr+1)=ph.take fr++[x]:=by
   rw[aS0,aB5 oM,hl2,show fr+1-fr=1 by omega];simp
  rw[e1,e2,aD0]
 ·have:fr+1=room:=oM
  rw[this,Nat.mod_self,aG3 (show ph.length<=room by omega)];simp
def XG{ph:List aU}(h:RI ph fr room)(hi:i<ph.length):(fr+i) % ph.length<ph.length/\ph[(fr+i) % ph.length]? = (eN ph fr)[i]?:=by
 have:=h.1;have:=h.2.1;have:=h.2.2;refine⟨aS9 _ oM,?_⟩;unfold eN;rcases aE2 (fr+i) ph.length with h4|h4
 ·rw[aW8 h4,aC9 (by rw[aD2];omega),aE5]
 ·have e:(fr+i) % ph.length=fr+i-ph.length:=by
   rw[Nat.mod_eq_sub_mod h4,aW8 oM]
  rw[e,aC7 (by rw[aD2];omega),aD2,aE4,if_pos oM]
  congr 1
  omega
def FP{l:List aU}(h:l.length<=room)(h1:1<=room)(x:aU):(eV l room x).length<=room/\1<=(eV l room x).length:=by
 unfold eV
 split
 ·simp at *;omega
 ·simp at *;omega
abbrev cI(a:aU):Array Value:=#[I6 a.tick,I6 a.load,I6 a.want,I6 a.aQ,I6 a.why]
abbrev zA:Array Value:=#[I6 0,I6 0,I6 0,I6 0,I6 0]
abbrev Ac(w:World)(base:Nat)(v:Value)(l:List aU):Prop:=Own w base 49 5 aU.cells v l
def gD(x:aU):x.cells.length=5:=rfl
def mJ:∀x:aU,∀u∈x.cells,u.oneCell' = true:=by
 intro x u hu;simp[aU.cells]at hu;rcases hu with rfl|rfl|rfl|rfl|rfl<;>rfl
def lU:(prog.info? 49).map (λi=>(i.zero,i.size,i.bytes))=some (some (.agg #[I6 0,I6 0,I6 0,I6 0,I6 0]),5,40):=kZ
def bY(w:World)(g:Nat)(v:Value)(ph:List aU)(fr room:Nat):Prop:=ai w g 399 #[v,I6 fr,I6 room]/\Ac w 0 v ph/\v.ownBlock≠some g/\RI ph fr room
def bY.upd{S:Nat->Prop}{ph:List aU}(h:bY w g v ph fr room)(hu:ah S w w')(hn:∀k,foot g v k->¬S k):bY w' g v ph fr room:=
 ⟨h.1.upd hu (hn g (.inl rfl)),h.2.1.upd hu (λk hk=>hn k (.inr hk)),h.2.2⟩
def bY.call{ph:List aU}(h:bY w g v ph fr room)(hb:Bl w w'):bY w' g v ph fr room:=⟨h.1.call hb,h.2.1.call hb,h.2.2⟩
def bY.lt{ph:List aU}(h:bY w g v ph fr room): ∀k,foot g v k->k<w.heap.size:=by
 rintro k (rfl|hk)
 ·exact h.1.lt
 ·exact(World.ownsRow.lt h.2.1 k hk).2
def bY.cells{ph:List aU}(h:bY w g v ph fr room):w.cell? ⟨g,0,none⟩=some v/\w.cell? ⟨g,1,none⟩=some (I6 fr)/\w.cell? ⟨g,2,none⟩=some (I6 room):=⟨h.1.ar rfl,h.1.ar rfl,h.1.ar rfl⟩
theorem Sl(room:Nat)(w:World)(h1:1<=room)(h2:room<=4096) :
 Calls prog 246 #[I6 room] w λe w'=>e=.returned (pt w.heap.size)/\w' = w.alloc (.cells #[.slice none 0 0,I6 0,I6 room] 399):=by
 have:decide ((room:Int)<1)=false:=by simp;omega
 have:decide ((4096:Int)<(room:Int))=false:=by simp;omega
 go_enter func246,ntmps246;go_wp2;go_ret;exact⟨rfl,rfl⟩
def bY.new(w:World)(room:Nat)(h:1<=room):bY (w.alloc (.cells #[.slice none 0 0,I6 0,I6 room] 399)) w.heap.size (.slice none 0 0) [] 0 room:=
 ⟨ai.new _ _ _,Own.nil _ _ _ _ _,by simp[Value.ownBlock],by simp[RI];omega⟩
theorem rI(w:World):Calls prog 295 #[.pointer none] w λe w'=>e=.returned (I6 0)/\w=w':=by
 go_enter func295,ntmps295;go_wp2;go_ret;exact⟨rfl,rfl⟩
theorem xq(g:Nat)(v:Value)(ph:List aU)(fr room:Nat)(w:World)(h:bY w g v ph fr room) :
 Calls prog 295 #[pt g] w λe w'=>e=.returned (I6 ph.length)/\w=w':=by
 obtain⟨A,n,c,rfl,kX,gU⟩:=h.2.1.shape gD;subst kX;have:=h.cells.1;clear h gU;go_enter func295,ntmps295;go_wp2;go_ret;exact⟨rfl,rfl⟩
theorem XH(g:Nat)(v:Value)(ph:List aU)(fr room i:Nat)(x:aU)(w:World)(h:bY w g v ph fr room)(hroom:room<=1000000)(hx:(eN ph fr)[i]? = some x) :
 Calls prog 296 #[.pointer (some ⟨g,0,none⟩),.int .i64 i] w λe w'=>e=.returned (.tuple #[.agg (cI x),.bool true])/\Below w.heap.size w w':=by
 have hi:i<ph.length:=by rw[<-ij ph fr room h.2.2.2];exact(d9.1 hx).1
 obtain⟨hj,hj2⟩:=XG h.2.2.2 hi;rw[hx]at hj2;have:=h.2.2.2.2.2;have:=h.2.2.2.1;obtain⟨A,n,c,rfl,kX,gU⟩:=h.2.1.shape gD;obtain⟨b,off,y,rfl,hy,hb,u0,u1,u2,u3,u4⟩:=dB.at_ gU (show(fr+i) % ph.length<n by omega);rw[hj2]at hy;cases hy;subst kX;have E0:=(show Below w.heap.size w ((w.alloc (.cells #[.int .i64 0,.int .i64 0,.int .i64 0,.int .i64 0,.int .i64 0] 49)).alloc (.cells #[.int .i64 0,.int .i64 0,.int .i64 0,.int .i64 0,.int .i64 0] 49)) by go_grown);have HS:=zD (h.call E0);have HL:=zD (λW hW=>xq g (.slice (some ⟨b,off,none⟩) ph.length c) ph fr room W hW);have HR:=zD ((ai.new w 49 #[.int .i64 0,.int .i64 0,.int .i64 0,.int .i64 0,.int .i64 0]).alloc (.cells #[.int .i64 0,.int .i64 0,.int .i64 0,.int .i64 0,.int .i64 0] 49));have HE:=zD E0;have am6:((fr:Int)+(i:Int)).tmod (ph.length:Int)=(((fr+i) % ph.length:Nat):Int):=by
  rw[<-Int.natCast_add,<-Int.ofNat_tmod]
 have HM:=zD am6;have HC:=zD (λW (hW:Below w.heap.size w W)=>(⟨(hW.cell (p:=⟨b,off+(fr+i) % ph.length*5,none⟩) hb).trans u0,(hW.cell (p:=⟨b,off+(fr+i) % ph.length*5+1,none⟩) hb).trans u1,(hW.cell (p:=⟨b,off+(fr+i) % ph.length*5+2,none⟩) hb).trans u2,(hW.cell (p:=⟨b,off+(fr+i) % ph.length*5+3,none⟩) hb).trans u3,(hW.cell (p:=⟨b,off+(fr+i) % ph.length*5+4,none⟩) hb).trans u4⟩ :
  W.cell? ⟨b,off+(fr+i) % ph.length*5,none⟩=some (.int .i64 x.tick)/\W.cell? ⟨b,off+(fr+i) % ph.length*5+1,none⟩=some (.int .i64 x.load)/\W.cell? ⟨b,off+(fr+i) % ph.length*5+2,none⟩=some (.int .i64 x.want)/\W.cell? ⟨b,off+(fr+i) % ph.length*5+3,none⟩=some (.int .i64 x.aQ)/\W.cell? ⟨b,off+(fr+i) % ph.length*5+4,none⟩=some (.int .i64 x.why)))
 have HWr:=zD (show IntKind.i64.wrap ((fr:Int)+(i:Int))=(fr:Int)+(i:Int) by rw[IntKind.wrap_i64];omega);have:decide ((i:Int)<0)=false:=sI
 have:decide ((ph.length:Int)<=(i:Int))=false:=by simp;omega
 have: ¬ph.length<=i:=oM
 clear h gU hb u0 u1 u2 u3 u4 hx hj2 E0 am6;generalize hJ:(fr+i) % ph.length=J at *;clear hJ;go_enter func296,ntmps296;go_wp2_with fail;refine(HL.out _ HS.out).mono ?_;rintro e w1 ⟨rfl,rfl⟩;go_upto_region 4 with(fail)
 generalize(w.alloc (.cells #[.int .i64 0,.int .i64 0,.int .i64 0,.int .i64 0,.int .i64 0] 49)).alloc (.cells #[.int .i64 0,.int .i64 0,.int .i64 0,.int .i64 0,.int .i64 0] 49)=w0 at *;generalize hg0:w.heap.size=g0 at *;have HG0:=zD hg0;clear hg0;generalize ph.length=n at *;refine zr (λj=>[18,19].contains j) (λwS=>Below w0.heap.size w0 wS) ?_;have S0:=(Below.refl w0.heap.size w0).drew;refine zk 15 [0,1,2,3,4] [_,_,_,.slice (some ⟨b,off,none⟩) n c,_] (.q zX<|.q zX<|.q zX<|.q (zS λ_ h=>(HS.out.call h).cells.1)<|.e) S0 ?_;refine zk 10 [5,6,7,8,9] [_,_,.int .i64 fr,_,.int .i64 ((fr:Int)+(i:Int))] (.q zX<|.q zX<|.c rfl rfl (zl λ_ h=>by have c:=(HS.out.call h).cells.2.1;go_simp)<|.q zX<|.c rfl rfl (zl λ_ _=>by have:=HWr.out;go_simp) .nil) S0 ?_;refine zk 5 [10,11,12,13,14] [_,_,_,.slice (some ⟨b,off,none⟩) n c,.int .i64 n] (.q zX<|.q zX<|.q zX<|.q (zS λ_ h=>(HS.out.call h).cells.1)<|.e) S0 ?_;refine zk 2 [15,16,17] [.int .i64 J,.pointer (some ⟨b,off+J*5,none⟩),.agg (cI x)] (.c rfl rfl (zl λ_ _=>by have: ¬(n=0):=(oM);have:=HM.out;go_simp)<|.q zX<|.c rfl rfl (zl λ_ h=>by obtain⟨q0,q1,q2,q3,q4⟩:=HC.out _ (HE.out.trans (h.mono (aU3 HR.out.lt)));go_simp) .nil) S0 ?_;refine aq _ _ _ _ (kZ) ?_;refine zO 18 (λQ2 aI=>?_);go_wp2_with(refine zJ (HR.out.call S0) ?_;intro w9 b8 dM);(try refine aI _ _ ?_);(try clear aI Q2)
 refine wpAny_take (i:=19) (v:=_) rfl (kZ) (kZ) (kZ) (λ_ _ _ h=>h) (Or.inl ⟨by rfl,λW=>by rfl⟩) ?_;refine wpAny_done (kZ) ?_ _;have HE9:=zD ((HE.out.trans (S0.mono (aU3 HR.out.lt))).trans (Only.below dM (aC2 _) (aB4 (aU3 HR.out.lt) S0.size)));have XI:=zD b8;clear b8 dM;go_wp2;refine bodyPost_ret (az rfl _ _ g0 _ _ _ rfl XI.out underlying49 rfl (kZ)) rfl ⟨rfl,?_⟩;rw[HG0.out];exact HE9.out
def xr(g:Nat)(v:Value)(ph:List aU)(fr room:Nat)(w:World)(e:Ending)(w' : World):Prop:=∃v' y b,e=.returned (.tuple #[.agg y,.bool b])/\bY w' g v' ph fr room/\ah (foot g v) w w'/\∀k,foot g v' k->foot g v k\/w.heap.size<=k
def bY.put{ph Sm : List aU}(h:bY w g v ph fr room)(hu:ah (λk=>v.ownBlock=some k) w w')(ho:Ac w' 0 v' Sm)(hw:v'.ownBlock=v.ownBlock\/∃k,v'.ownBlock=some k/\w.heap.size<=k)(hri:RI Sm fr room):
 bY (w'.setCell ⟨g,0,none⟩ v') g v' Sm fr room/\ah (foot g v) w (w'.setCell ⟨g,0,none⟩ v')/\(∀k,foot g v' k->foot g v k\/w.heap.size<=k)/\w'.cell? ⟨g,0,none⟩=some v/\w'.frozen? ⟨g,0,none⟩=false:=by
 have hne:v'.ownBlock≠some g:=by
  rcases hw with e|⟨k,e,hk⟩
  ·rw[e];exact h.2.2.1
  ·rw[e];intro e2;have:=h.1.lt;cases e2;omega
 have hb:ai w' g 399 #[v,I6 fr,I6 room]:=h.1.upd hu (λe=>h.2.2.1 e);refine⟨⟨hb.aX 0 v',ho.far (λk hk e=>hne (by rw[hk,e])) _,hne,hri⟩,(hu.mono (λk hk=>.inr hk)).setCell (.inl (.inl rfl)) _,?_,hb.ar rfl,hb.frozen _⟩;rintro k (rfl|hk)
 ·exact .inl (.inl rfl)
 ·rcases hw with e|⟨j,e,hj⟩
  ·exact .inl (.inr (e▸hk))
  ·rw[e]at hk;cases hk;exact .inr hj
abbrev rJ(w:World)(x:aU):World:=((w.alloc (.cells (cI x) 49)).alloc (.cells zA 49)).alloc (.cells zA 49)
def oo(w:World)(x:aU):ai (rJ w x) w.heap.size 49 (cI x)/\ai (rJ w x) (w.heap.size+1) 49 zA/\ai (rJ w x) (w.heap.size+2) 49 zA/\Bl w (rJ w x)/\(rJ w x).heap.size=w.heap.size+3:=by
 refine⟨((ai.new w _ _).alloc _).alloc _,(ai.dR w _ _ _).alloc _,?_,gW,sI⟩
 simpa using(ai.new ((w.alloc (.cells (cI x) 49)).alloc (.cells zA 49)) 49 zA)
theorem Ad(x:aU)(w:World) :
 Calls prog 402 #[.pointer none,.agg (cI x)] w λe w'=>(e=.returned (.tuple #[.agg zA,.bool false]))/\Bl w w':=by
 obtain⟨f1,f2,f3,f4,f5⟩:=oo w x;have F2:=f2;have F3:=f3;have F4:=f4;clear f1 f2 f3 f4 f5;go_enter func402,ntmps402;go_upto_region 3 with(fail)
 go_wp2_with(first|(refine zI F3 underlying49 ?_)|(refine zJ F2 ?_;intro w9 XI JM));refine bodyPost_ret (az rfl _ _ (w.heap.size+1) _ _ _ rfl XI underlying49 rfl kZ) rfl ⟨rfl,F4.trans (Only.below JM oM F4.size)⟩
def BZ{Sm : List aU}{Ae:Nat}{w2 w5 w9:World}(F4:Bl w w2)(F5:w2.heap.size=w.heap.size+3)(Ag:∀k,foot g v k->k<w.heap.size)(P1:bY w5 g v' Sm Ae room)(U5:ah (foot g v) w2 w5)(P3:∀k,foot g v' k->foot g v k\/w2.heap.size<=k)(JM:w5.grownBy w9 (some (w.heap.size+1))):bY w9 g v' Sm Ae room/\ah (foot g v) w w9/\∀k,foot g v' k->foot g v k\/w.heap.size<=k:=by
 have h1:∀k,foot g v' k->k≠w.heap.size+1:=λk hk e=>by
  rcases P3 k hk with h|h
  ·have:=Ag k h;omega
  ·omega
 refine⟨P1.upd (S:=λk=>k=w.heap.size+1) ((ah.refl _ w5).grown JM (λk e=>by cases e;exact .inl rfl)) (λk hk=>h1 k hk),?_,λk hk=>(P3 k hk).imp id (λh=>oM)⟩;exact((ah.aa F4).trans U5 iL).grown JM (λk e=>by cases e;exact .inr oM)
theorem xu(g:Nat)(v:Value)(ph:List aU)(fr room:Nat)(x:aU)(w:World)(h:bY w g v ph fr room)(hroom:room<=100000)(hl:ph.length<room) :
 Calls prog 402 #[pt g,.agg (cI x)] w (xr g v (ph++[x]) fr room w):=by
 obtain⟨f1,f2,f3,f4,f5⟩:=oo w x;have HRI:=(BU h.2.2.2 hl x).1;have H0:=h.call f4;have Ag:=h.lt;obtain⟨A,n,c,rfl,kX,-⟩:=h.2.1.shape gD;subst kX;obtain⟨c0,c1,c2⟩:=H0.cells;have F1:=f1;have F2:=f2;have F3:=f3;have F4:=f4;have F5:=f5;have d1:((room:Int)==0)=false:=by simp;omega
 have d2:decide ((ph.length:Int)<(room:Int))=true:=by simp;omega
 have hlt2:ph.length<room:=hl;have hlen:ph.length<1000000:=oM
 have qB:=hlen;clear h f1 f2 f3 f4 f5 hl hlen;go_enter func402,ntmps402;go_upto_region 4 with(fail)
 go_quiet(fail);go_upto_region 5 with(fail)
 have F1:=F1.drewN nq;have F2:=F2.drewN nq;have F3:=F3.drewN nq;have F4:=below_drewN F4 nq;have F5:((rJ w x).drewN nq).heap.size=w.heap.size+3:=F5;have H0:=H0.call (below_drewN bR nq);clear d1 d2 hlt2 c0 c1 c2;generalize(rJ w x).drewN nq=w2 at *;refine zr (λj=>[10].contains j) (λwS=>ah (λk=>(Value.slice A ph.length c).ownBlock=some k) w2 wS) ?_;have S0:=(ah.refl (λk=>(Value.slice A ph.length c).ownBlock=some k) w2).drew;refine zk 6 [0,1,2,3,4] [_,_,_,_,.slice A ph.length c] (.q zX<|.q zX<|.q zX<|.q zX<|.q (zS λ_ h=>(H0.1.upd h (λe=>H0.2.2.1 e)).z 0 (.slice A ph.length c)) .nil) S0 ?_;refine zk 5 [5] [_] (.c rfl rfl (zl λ_ h=>zb (F1.upd h (λe=>absurd (Ag _ (.inr e)) oM)) underlying49) .nil) S0 ?_;refine zQ 6 ?_;have nG:=iA (S:=S0) (#[I6 x.tick,I6 x.load,I6 x.want,I6 x.aQ,I6 x.why]) 49;obtain⟨G,hG,bG,lG⟩:=nG;go_wp2_with fail;refine .i (S0.alloc _) ?_
 (try simp only[hG])
 clear hG;have SG:=S0.alloc (.cells (#[I6 x.tick,I6 x.load,I6 x.want,I6 x.aQ,I6 x.why]) 49);refine zQ 7 ?_;go_wp2_with(refine cU _ rfl (.tmp 34) (.tmp 36) 37 rfl 0 49 _ 5 40 _ underlying37 lU rF dC (λ_=>rfl) mJ (.slice A ph.length c) ph rfl (H0.2.1.Sj.alloc _) ⟨G,0,none⟩ 1 x rfl (br (α:=aU) (vs:=x.cells) bG rfl) qB dC (aB6 _) ?_;intro v' w3 kJ jP hw3;obtain⟨A',n',c',rfl,-,-⟩:=kJ.shape gD;obtain⟨P1,P2,P3,p4,p5⟩:=bY.put (H0.call (bR.drew.alloc lR _)) jP kJ (hw3.imp id (λe=>⟨_,e,aC2 _⟩)) HRI);refine .i (SG.trans jP iL) ?_;have S3:=SG.trans jP iL;refine zQ 8 ?_;go_wp2_with fail;refine .i S3 ?_;refine zq 1 [9] [_] S3 ?_;refine aq _ _ _ _ kZ ?_;refine zO 10 (λQ2 aI=>?_);go_wp2_with fail;(try refine aI _ _ ?_);(try clear aI Q2)
 refine wpAny_done kZ ?_ _;have U5:=(ah.aa (S:=foot g (Value.slice A ph.length c)) (show Bl w2 (w2.drew.alloc (.cells (cI x) 49))from(Below.refl _ w2).drew.alloc lR _)).trans P2 iL;have P4:=(λk hk=>(P3 k hk).imp id (λh=>aB4 ((Below.refl w2.heap.size w2).drew.alloc lR (.cells (cI x) 49)).size h));have G2:=F2.upd U5 (λhf=>by have:=Ag _ hf;omega);have G3:=F3.upd U5 (λhf=>by have:=Ag _ hf;omega);clear P2 P3 jP hw3 kJ p4 p5 SG S3 bG F1 F2 F3;generalize w3.setCell ⟨g,0,none⟩ (.slice A' n' c')=w5 at *;go_wp2_with(first|(refine zI G3 underlying49 ?_)|(refine zJ G2 ?_;intro w9 XI JM));refine bodyPost_ret (az rfl _ _ (w.heap.size+1) _ _ _ rfl XI underlying49 rfl kZ) rfl ⟨_,_,_,rfl,BZ F4 F5 Ag P1 U5 P4 JM⟩
section
open Go.RowKit Go.Shelf
attribute [local go_sem] Oper.semAt_some
def bY.below{ph:List aU}(h:bY w g v ph fr room)(hb:Below B w w')(hf:∀k,foot g v k->k<B):bY w' g v ph fr room:=
 ⟨h.1.below hb (hf g (.inl rfl)),h.2.1.below hb (λk hk=>hf k (.inr hk)),h.2.2⟩
def xx(h:Bl w w'):w.grownBy w' none:=⟨h.os,h.tape,h.output,h.size,λk hk _=>h.block k hk⟩
def Sn(Bn n₀:Nat)(A B:World):Prop:=Below n₀ A B/\B.heap[Bn]? = A.heap[Bn]?
def Sn.trans{Bn n₀:Nat}{A B C:World}(h:Sn Bn n₀ A B)(h' : Sn Bn n₀ B C):Sn Bn n₀ A C:=⟨h.1.trans h'.1,h'.2.trans h.2⟩
def Sn.put{Bn n₀:Nat}(hB:Bn<w.heap.size)(hn:n₀<=w.heap.size)(W:World)(l:Nat)(o o' : Obj)(hl:w.heap.size<=l)(h1:W.heap[l]? = some o)(h2:o.isCells=false)(h3:o.isWalk=false):Sn Bn n₀ W (W.putObj l o'):=
 ⟨belowK_b (w:=w) hn W l o o' hl h1 h2 h3,(belowK_b (w:=w) lR W l o o' hl h1 h2 h3).block Bn hB⟩
theorem OU(n l Bn n₀ g:Nat)(v:Value)(ph:List aU)(fr room:Nat)(J Jx:List aU->World->Prop)(hn:1<=n)(hroom:room<=1000000)
 (hY:∀pre x W,J pre W->pre.length<ph.length->YieldAt Fence.wide (n-1) prog l #[.agg (cI x)] W λe W'=>
  (e=.returned (.bool true)/\J (pre++[x]) W'/\Sn Bn n₀ W W')\/(e=.returned (.bool false)/\Jx (pre++[x]) W'))
 (W:World) (hJ:AbidesFrom W.heap.size J) (hBn:Boxed W Bn 321 (pt g)) (oq:n₀<=W.heap.size) (hR:bY W g v ph fr room) (hf:∀k,foot g v k->k<n₀) (h0:J [] W) :
 CallsIn Fence.wide n prog 294 #[.func (.yield l) #[] #[],pt Bn] W λe W'=>(∃v,e=.returned v)/\
  ((∃ys,ys=eN ph fr/\J ys W')\/(∃pre,pre <+: eN ph fr/\Jx pre W')):=by
 have HY:=zD hY
 have HB:=zD hBn
 have HR:=zD hR
 have HF:=zD hf
 have HJ:=zD hJ
 have HL:=zD (ij ph fr room hR.2.2.2)
 have:=hBn.cell
 have:ph.length<=1000000:=aB4 hR.2.2.2.1 hroom
 clear hY hBn hR hf hJ
 refine callsIn_of_wp func294 rfl trivial ?_ rfl
 simp only[ntmps294,aF1,aC4,aG6,Nat.reduceAdd,Nat.reduceSub,aF7,aF8,aG7,aG2,aD4,aE0]
 gi_wp2_with(refine⟨trivial,?_⟩;gi_at_call 295;refine(callsIn_wide.2 (xq g v ph fr room _ HR.out)).mono ?_;rintro e w' ⟨rfl,rfl⟩)
 gi_loopw[8] (λi wr=>∃k:Nat,k<=ph.length/\i = I6 k/\J ((eN ph fr).take k) wr/\Sn Bn n₀ W wr) (λi _=>ph.length-(intOf i).toNat)
 case atStart=>exact⟨0,aB6 _,rfl,h0,Below.refl _ _,rfl⟩
 case round=>
  obtain⟨k,hk,rfl,hJs,rk⟩:=hrel
  have HJs:=zD hJs
  have HN:=zD rk
  clear hJs
  by_cases hlt:k<ph.length
  ·obtain⟨x,hx⟩:∃x,(eN ph fr)[k]? = some x:=⟨_,aB3 (HL.out▸hlt)⟩
   have HX:=zD hx
   have b1:Boxed wr Bn 321 (pt g):=rk.2.trans HB.out
   have:=b1.cell
   have hBl:=b1.lt
   clear b1
   have HA:=zD (XH g v ph fr room k x wr (HR.out.below rk.1 HF.out) hroom hx)
   have:(k:Int)<(ph.length:Int):=oM
   clear hx rk
   gi_wp2_with(refine⟨trivial,?_⟩;gi_at_call 296;refine(callsIn_wide.2 HA.out).mono ?_;rintro e wx ⟨rfl,hbx⟩;have hB2:Bl wr (wx.alloc (.cells (cI x) 49)):=hbx.alloc hbx.size _;have hJ2:=HJ.out _ _ _ none HJs.out (xx hB2) (λr e=>by cases e);obtain⟨fn,tmps,assign,body,hy,hR⟩:=HY.out _ x _ hJ2 (by rw[aC3,HL.out];omega);simp only[cI]at hy;have tG:=zD hB2;clear hB2 hJ2 hbx)
   refine hR.mono ?_
   have EZ:(eN ph fr).take k++[x]=(eN ph fr).take (k+1):=by rw[aE3,HX.out];rfl
   rintro e W3 (⟨rfl,hJ3,hk3⟩|⟨rfl,au8⟩)
   ·gi_wp2
    go_roundw
    case rel=>exact⟨k+1,oM,sI,EZ▸hJ3,(HN.out.trans ⟨tG.out.mono (aB4 oq HN.out.1.size),tG.out.block Bn hBl⟩).trans hk3⟩
    case measure=>simp[intOf];omega
   ·gi_wp2
    refine bodyPost_ret (results_none rfl _ _ _) rfl ?_
    exact⟨⟨_,rfl⟩,.inr ⟨_,EZ▸List.take_prefix _ _,au8⟩⟩
  ·have zt:k=ph.length:=oM
   have hJe:=HJs.out
   rw[aB5 (oH HL.out)]at hJe
   subst zt
   gi_wp2
   go_end0
   exact⟨⟨_,rfl⟩,.inl ⟨_,rfl,hJe⟩⟩
theorem Ah(n l Bn:Nat)(hn:1<=n)(J:List aU->World->Prop)(W:World)(hBn:Boxed W Bn 321 (.pointer none))(h0:J [] W) :
 CallsIn Fence.wide n prog 294 #[.func (.yield l) #[] #[],pt Bn] W λe W'=>(∃v,e=.returned v)/\J [] W':=by
 have:=hBn.cell;refine callsIn_of_wp func294 rfl trivial ?_ rfl;simp only[ntmps294,aF1,aC4,aG6,Nat.reduceAdd,Nat.reduceSub,aF7,aF8,aG7,aG2,aD4,aE0]
 gi_wp2_with(refine⟨trivial,?_⟩;gi_at_call 295;refine(callsIn_wide.2 (rI _)).mono ?_;rintro e w' ⟨rfl,rfl⟩)
 gi_loopw[8] (λi wr=>i = I6 0/\J [] wr) (λ_ _=>0)
 case atStart=>exact⟨rfl,h0⟩
 case round=>
  obtain⟨rfl,hJs⟩:=hrel
  gi_wp2
  go_end0;exact⟨⟨_,rfl⟩,hJs⟩
theorem Sq(n:Nat)(p:Option Addr)(w:World) :
 CallsIn Fence.wide n prog 251 #[.pointer p] w λe w'=>e=.returned (.func (.func 294) #[] #[pt w.heap.size])/\w' = w.alloc (.cells #[.pointer p] 321):=by
 refine callsIn_of_wp func251 rfl trivial ?_ rfl;simp only[ntmps251,aF1,aC4,aG6,Nat.reduceAdd,Nat.reduceSub,aF7,aF8,aG7,aG2,aD4,aE0]
 gi_wp2
 go_ret;exact⟨rfl,rfl⟩
def rK(w:World)(p:Option Addr)(B:Nat)(xs:List aU):Prop:=(p=none/\xs=[])\/∃g v ph fr room,p=some ⟨g,0,none⟩/\bY w g v ph fr room/\room<=1000000/\(∀k,foot g v k->k<B)/\xs=eN ph fr
def rK.below{p:Option Addr}{xs:List aU}(h:rK w p B xs)(hb:Below B w w'):rK w' p B xs:=by
 rcases h with h|⟨g,v,ph,fr,room,h1,h2,h3,h4,h5⟩
 ·exact .inl h
 ·exact .inr ⟨g,v,ph,fr,room,h1,h2.below hb h4,h3,h4,h5⟩
def rK.len{p:Option Addr}{xs:List aU}(h:rK w p B xs):xs.length<=1000000:=by
 rcases h with⟨-,rfl⟩|⟨g,v,ph,fr,room,h1,h2,h3,h4,rfl⟩
 ·simp
 ·rw[ij ph fr room h2.2.2.2];exact aB4 h2.2.2.2.1 h3
def J8(n:Nat)(hn:1<=n)(Bn n₀:Nat)(p:Option Addr)(xs:List aU)(w:World)(oq:n₀<=w.heap.size)(hc:Boxed w Bn 321 (.pointer p))(hR:rK w p n₀ xs) :
 SeqStopsK Fence.wide n prog 294 #[pt Bn] (λx:aU=>#[Value.agg (cI x)]) (Sn Bn n₀) (λys=>ys=xs) (λpre=>pre <+: xs) xs.length w:=λl J Jx W hW hJ _ hY h0=>by
 have hc' : Boxed W Bn 321 (.pointer p):=(hW.block Bn hc.lt).trans hc;rcases hR.below (hW.mono oM)with⟨rfl,rfl⟩|⟨g,v,ph,fr,room,rfl,h2,h3,h4,rfl⟩
 ·exact(Ah n l Bn hn J W hc' h0).mono λe W' ⟨he,hj⟩=>⟨he,.inl ⟨_,rfl,hj⟩⟩
 ·exact OU n l Bn n₀ g v ph fr room J Jx hn h3 (λpre x W1 hp hlt=>hY pre x W1 hp (by rw[ij ph fr room h2.2.2.2];exact hlt)) W hJ hc' (oH hW.size) h2 (λk hk=>oH (h4 k hk)) h0
def Da(n:Nat)(hn:3<=n)(p:Option Addr)(xs:List aU)(w:World)(hR:rK w p w.heap.size xs) :
 CallsIn Fence.wide n prog 201 #[.pointer p] w λe W'=>∃v,e=.returned v/\Ac W' w.heap.size v xs/\Bl w W':=by
 have h1:1<=n:=oM
 have:=hR.len;obtain⟨i0,hi,hz0,hz1,hz2⟩:=info_parts lU;refine callsIn_of_wp_marks func201 rfl trivial ?_ rfl;simp only[ntmps201,aF1,aC4,aG6,Nat.reduceAdd,Nat.reduceSub,aF7,aF8,aG7,aG2,aD4,aE0]
 gi_wp2_with(refine⟨trivial,?_⟩;gi_at_call 251;refine(Sq (n-1) _ _).mono ?_;rintro e w' ⟨rfl,rfl⟩)
 have bO:=(Boxed.new w 37 (.slice none 0 0)).alloc (.cells #[.pointer p] 321);have bN:=Boxed.new (w.alloc (.cells #[.slice none 0 0] 37)) 321 (.pointer p);rw[World.size_alloc]at bN;have RO:Bl w ((w.alloc (.cells #[.slice none 0 0] 37)).alloc (.cells #[.pointer p] 321)):=((Below.refl _ w).alloc lR _).alloc sI _;have hsz:((w.alloc (.cells #[.slice none 0 0] 37)).alloc (.cells #[.pointer p] 321)).heap.size=w.heap.size+2:=sI
 obtain⟨W0,hW0⟩:∃W0,(w.alloc (.cells #[.slice none 0 0] 37)).alloc (.cells #[.pointer p] 321)=W0:=⟨_,rfl⟩
 rw[hW0]at bN bO RO hsz |-;clear hW0;refine wpIn_rangeFunc_ownH rfl h1 (gf:=294) (lb:=#[pt (w.heap.size+1)]) rfl trivial (enters_of func294 kZ rfl)
  (J8 (n-1) oM (w.heap.size+1) w.heap.size p xs W0 oM bN (hR.below RO)) Sn.trans (Sn.put (w:=W0) oM oM) bR (λ_=>rfl)
  (λpre W=>((∃v,Boxed W w.heap.size 37 v/\W.ownsRow w.heap.size 49 5 v pre.length (pre.flatMap aU.cells)/\True)/\Boxed W (w.heap.size+1) 321 (.pointer p))/\Bl w W)
  (λ_ _ _=>False)
  (OwnFrom.and (OwnFrom.and (Own.from (holdsRow_own w.heap.size w.heap.size 37 49 5 (λpre:List aU=>pre.length) (λpre:List aU=>pre.flatMap aU.cells) (λ_ _=>True)) _) (Own.from (boxed_own _ _ _) _)) (ownFrom_below lR oM))
  (λ_ _ _ _ _ hs _ _=>hs)
  ⟨⟨⟨_,bO,World.ownsRow_nil _ _ _ _,trivial⟩,bN⟩,RO⟩
  (λx a' W=>∃Bx,w.heap.size+1<Bx/\ai W Bx 49 (cI x)/\a' = {tmps:=#[.pointer p,undef,.slice none 0 0,pt w.heap.size,pt Bx,.pointer p,.func (.func 294) #[] #[pt (w.heap.size+1)],.agg (cI x),undef,undef,undef,undef,undef],defers:=[]})
  (λx a' _ X Y row hs hg hr=>by
   obtain⟨Bx,h1,h2,h3⟩:=hs;refine⟨Bx,h1,h2.grown hg (λe=>?_),h3⟩;obtain⟨o,ho,hc⟩:=(hr Bx e.symm).2;rw[show X.heap[Bx]? = _ from h2]at ho;cases ho;cases hc)
  ?assign ?body ?done ?stop
 case assign=>
  rintro l pre x W K ⟨⟨⟨v,hv,hrow,-⟩,bN1⟩,hB⟩ hK
  gi_wp2
  exact hK _ _ ((KeepsOthers.alloc _ _).from _) ⟨(Below.refl _ W).alloc hB.size _,Below.heap_alloc W _ _ bN1.lt⟩ ⟨⟨⟨v,hv.alloc _,hrow.alloc _,trivial⟩,bN1.alloc _⟩,hB.alloc hB.size _⟩ ⟨W.heap.size,bN1.lt,ai.new W _ _,rfl⟩
 case body=>
  rintro l pre x a' W hl ⟨r,hr⟩ ⟨⟨⟨v,hv,hrow,-⟩,bN1⟩,hB⟩ ⟨Bx,hBx,bX,rfl⟩ hlt;have:=hv.cell;have:=bX.ar (i:=0) rfl;have:=bX.ar (i:=1) rfl;have:=bX.ar (i:=2) rfl;have:=bX.ar (i:=3) rfl;have:=bX.ar (i:=4) rfl
  gi_wp2_with(gi_at_builtin;refine wpListIn_append_own _ rfl _ _ 37 rfl w.heap.size 49 i0 (.agg zA) 5 40 underlying37 hi hz0 hz1 hz2 rfl dC _ _ _ rfl (hrow.alloc _) ⟨W.heap.size,0,none⟩ 1 1 x.cells rfl rfl (br (α:=aU) (vs:=x.cells) (ai.new _ _ _) rfl) (mJ x) (by unfold maxLen;omega) oM (by have:=hB.size;simp;omega) ?_;intro v' w1 hown' hgrow _;obtain⟨g',cap',rfl⟩:=ownsRow_succ hown';obtain⟨hv1,hv2,hr2,hk2,hb2⟩:=hv.appended dC hrow hB.size lR hown' hgrow;have M4:Boxed w1 (w.heap.size+1) 321 (.pointer p):=(bN1.alloc _).kept hgrow (bN1.not_row dC hrow);have fo:=M4.other (B':=w.heap.size) oM (Value.slice (some ⟨g',0,none⟩) (pre.length+1) cap');have:=hv1.cell;have:=hv1.frozen)
  exact⟨hk2.from _,⟨hb2,fo.trans bN1.symm⟩,⟨⟨⟨_,hv2,sH hr2,trivial⟩,fo⟩,hB.trans hb2⟩⟩
 case done=>
  rintro D ys W hD rfl ⟨⟨⟨v,hv,hrow,-⟩,bN1⟩,hB⟩ hK;have:=hv.cell
  gi_wp2
  refine⟨sI,.inl ⟨_,_,rfl,run_takeDeferred hK,?_⟩⟩;exact⟨_,results_tmp rfl _ _ _,v,rfl,ownsRow_putObj hrow _ hK rfl,hB.trans (belowK_b (w:=w) lR W D _ _ oM hK rfl rfl)⟩
 case stop=>
  rintro D c pre W _ _ h _;exact h.elim
def OV(p:Option Addr)(xs:List aU)(w:World)(hR:rK w p w.heap.size xs) :
 Calls prog 201 #[.pointer p] w λe W'=>∃v,e=.returned v/\Ac W' w.heap.size v xs/\Bl w W':=
 callsIn_wide.1 (Da 3 lR p xs w hR)
end
structure Key where
 hi:Nat
 lo:Nat
deriving DecidableEq
abbrev Key.row(k:Key):Array Value:=#[V6 k.hi,V6 k.lo]
def Key.cells(k:Key):List Value:=[V6 k.hi,V6 k.lo]
def Key.good(k:Key):Prop:=k.hi<18446744073709551616/\k.lo<18446744073709551616
abbrev gF(w:World)(A:Option Addr)(len cap:Nat)(l:List Key):Prop:=ag w 2 Key.cells A len cap l
def cW:∀x:Key,x.cells.length=2:=λ_=>rfl
def gF.at_{len:Nat}{l:List Key}(h:gF w A len cap l)(hk:k<len):
 ∃(b off:Nat)(x:Key),A=some ⟨b,off,none⟩/\l[k]? = some x/\b<w.heap.size/\w.cell? ⟨b,off+k*2,none⟩=some (V6 x.hi)/\w.cell? ⟨b,off+k*2+1,none⟩=some (V6 x.lo):=by
 obtain⟨b,off,x,h1,h2,h3,h4⟩:=ag.at_ h hk;exact⟨b,off,x,h1,h2,h3,h4 0 _ rfl,by rw[aD9];exact h4 1 _ rfl⟩
def FQ:(prog.info? 83).map (λi=>(i.zero,i.size,i.bytes))=some (some (.agg #[V6 0,V6 0]),2,16):=kZ
def wE:∀x:Key,∀u∈x.cells,u.oneCell' = true:=by
 intro x u hu;simp[Key.cells]at hu;rcases hu with rfl|rfl<;>rfl
def jQ(x y:Key):Bool:=decide (x=y)
def qC(x y:Key) :
 (∀(W:World)(op:BinOp)(o1 o2:Operand),(eqGuard op 83 o1 o2 (.agg x.row) (.agg y.row)).run prog W=.ok () W)/\
 (∀W:World,(binOp .eql 83 (.agg x.row) (.agg y.row)).run prog W=.ok (.bool (jQ x y)) W)/\
 (∀W:World,(binOp .neq 83 (.agg x.row) (.agg y.row)).run prog W=.ok (.bool (!jQ x y)) W):=by
 refine XD kZ kZ kZ kZ [.u64,.u64] [(x.hi:Int),(x.lo:Int)] [(y.hi:Int),(y.lo:Int)] kZ kZ kZ _ _ rfl rfl _ ?_;obtain⟨a,b⟩:=x;obtain⟨a',b'⟩:=y;unfold jQ;rw[Bool.eq_iff_iff];simp;omega
section
open Go.RowKit Go.Maps
def FU:laidOutB prog=true:=kZ
abbrev aS:TypeId:=83
def ad1:WideMaps.KeyLaw prog aS:=deep_law_laid FU (m:=3) oM (of_decide_eq_true kZ) kZ (by rw[underlying83])
def Sr:prog.keyType aS=true:=kZ
def wF:prog.cellsOf aS=2:=kZ
def FV:prog.cellsOf 81=1:=kZ
def Ss(n:Nat)(a b:Int)(ha:(Lit.int .u64 a).wf=true)(hb:(Lit.int .u64 b).wf=true):prog.keyLits (n+2) aS [.int .u64 a,.int .u64 b]=some [.int .u64 a,.int .u64 b]:=by
 have hu:=underlying83;have qd:=underlying81;unfold Program.keyLits;simp only[hu];simp[wF,FV];unfold Program.keyLits;simp[qd,ha,hb]
def M9(x:Key):Lit:=.string (keyBytes [.int .u64 x.hi,.int .u64 x.lo])
def Na(h:n<18446744073709551616):(Lit.int .u64 (n:Int)).wf=true:=WalkArith.wf_u64 ⟨oM,oM⟩
def Db{x:Key}(hx:x.good):keyOf prog aS (.agg x.row)=some (M9 x):=by
 have hu:=underlying83;obtain⟨n,hn⟩:∃n,prog.types.size+1=n+2:=⟨prog.types.size-1,by have:1<prog.types.size:=of_decide_eq_true kZ;omega⟩
 unfold keyOf;simp only[hu,Sr,hn];have hf:(Value.agg x.row).formed prog aS=true:=by simp[Value.formed,hu,wF]
 rw[hf];simp only[Bool.and_self,if_true]
 show(Program.keyLits _ _ _ [V6 x.hi,V6 x.lo]).map _=_
 rw[Ss n _ _ (Na hx.1) (Na hx.2)]
 rfl
theorem XJ{u:Value}{y:Lit}(h:keyOf prog aS u=some y):∃x:Key,x.good/\u=.agg x.row/\y=M9 x:=by
 have hu:=underlying83;obtain⟨n,hn⟩:∃n,prog.types.size+1=n+2:=⟨prog.types.size-1,by have:1<prog.types.size:=of_decide_eq_true kZ;omega⟩
 have:=h;unfold keyOf at h;simp only[hu,Sr,hn,Bool.true_and]at h
 split at h
 ·rename_i hf
  cases u<;>simp[Value.formed,hu,wF]at hf
  rename_i cs;obtain⟨c0,c1,rfl⟩:∃c0 c1,cs=#[c0,c1]:=by
   obtain⟨l⟩:=cs
   match l,hf with
   |[c0,c1],_=>exact⟨c0,c1,rfl⟩
  have h2:(prog.keyLits (n+2) aS [c0,c1]).map (λls=>Lit.string (keyBytes ls))=some y:=h;unfold Program.keyLits at h2;simp only[hu]at h2;simp[wF,FV]at h2;unfold Program.keyLits at h2;simp only[underlying81]at h2;cases c0<;>simp at h2
  rename_i k0 n0
  by_cases e0:k0=.u64/\(Lit.int .u64 n0).wf=true
  ·obtain⟨rfl,w0⟩:=e0
   simp only[w0,and_self,if_true]at h2;cases c1<;>simp at h2
   rename_i k1 n1
   by_cases e1:k1=.u64/\(Lit.int .u64 n1).wf=true
   ·obtain⟨rfl,w1⟩:=e1
    simp[w1]at h2;have b0:=BF w0;have b1:=BF w1;unfold MM at b0 b1;refine⟨⟨n0.toNat,n1.toNat⟩,⟨by show n0.toNat<_;omega,by show n1.toNat<_;omega⟩,?_,?_⟩
    ·unfold Key.row;rw[aV2 b0.1,aV2 b1.1]
    ·unfold M9;rw[aV2 b0.1,aV2 b1.1];exact h2.symm
   ·simp[e1]at h2
  ·simp[e0]at h2
 ·cases h
def FW{x y:Key}(h:Value.agg x.row=.agg y.row):x=y:=by
 obtain⟨a,b⟩:=x;obtain⟨c,d⟩:=y;simp at h;simp;omega
def ll:mK prog aS Key where
 kd:=Keyed.of_law ad1
 v:=λx=>.agg x.row
 l:=M9
 good:=Key.good
 ok:=Db
 inv:=XJ
 inj:=λ{x y} hx hy h=>FW ((Keyed.of_law ad1).inj (Db hx) (by rw[h];exact Db hy))
def tK:prog.underlying 3=some (.int .i64):=underlying3
def XK:mK prog 3 Int where
 kd:=int_keyed tK
 v:=λx=>.int .i64 x
 l:=λx=>.int .i64 x
 good:=aw
 ok:=λ{x} hx=>keyOf_int_mk tK (WalkArith.wf_i64 hx)
 inv:=λ{u y} h=>by
  obtain⟨x,rfl,hw⟩:=Maps.keyOf_int_inv tK h;exact⟨x,dw hw.2,rfl,hw.1⟩
 inj:=λ{x y} _ _ h=>by injection h
def il:prog.underlying 9=some .string:=underlying9
def fI:mK prog 9 ByteArray where
 kd:=string_keyed il
 v:=λs=>.string s
 l:=λs=>.string s.data.toList
 good:=λs=>s.size<=maxLen
 ok:=λ{s} hs=>WideMaps.keyOf_string_mk il hs
 inv:=λ{u y} h=>by
  unfold keyOf at h;simp only[il]at h;cases u<;>simp[mapKey,il]at h
  exact⟨_,h.1,rfl,h.2.symm⟩
 inj:=λ{x y} _ _ h=>by
  injection h with h
  cases x;cases y;simp at h;simp[h]
end
structure dI where
 min:Int
 max:Int
 target:Int
 lz:Int
 bp:Int
 hold:Int
def dI.fit(p:dI):Prop:=aw p.min/\aw p.max/\aw p.target/\aw p.lz/\aw p.bp/\aw p.hold
def dI.xJ(p:dI):Prop:=0<=p.min/\1<=p.max/\p.min<=p.max/\p.max<=1073741824/\1<=p.target/\0<=p.lz/\p.lz<=999/\1<=p.bp/\0<=p.hold
instance(p:dI):Decidable p.xJ:=by unfold dI.xJ;infer_instance
def dy(p:dI):Int:=if p.xJ then 0 else 7
def gj{p:dI}(h:p.xJ):dy p=0:=if_pos h
def jI{p:dI}(h:¬p.xJ):dy p=7:=if_neg h
theorem aY(p:dI)(w:World) :
 Calls prog 79 #[(.agg #[I6 p.min,I6 p.max,I6 p.target,I6 p.lz,I6 p.bp,I6 p.hold])] w (Rt (I6 (dy p)) (Bl w)):=by
 go_enter func79,ntmps79;go_wp2
 all_goals
  go_ret;refine⟨au ?_,gW⟩;go_light
  first
   |show(7:Int)=_;rw[jI (by unfold dI.xJ;omega)]
   |(show(0:Int)=_;rw[gj (by unfold dI.xJ;omega)])
def jg(N:Nat):Nat:=N / 2 ^ 64
def kF(N:Nat):Nat:=N % 2 ^ 64
def Df{N:Nat}(h:N<2 ^ 128):jg N<2 ^ 64:=by unfold jg;omega
def tO(N:Nat):kF N<2 ^ 64:=by unfold kF;omega
def Dg(N:Nat):jg N*2 ^ 64+kF N=N:=by unfold jg kF;omega
structure o9 where
 mn:Int
 wa:Int
def o9.cells(x:o9):List Value:=[I6 x.mn,I6 x.wa]
def o9.good(x:o9):Prop:=aw x.mn/\aw x.wa
def MJ(x:Int):List Value:=[I6 x]
theorem Rz(l:List Int):l.flatMap MJ=l.map λx=>I6 x:=by
 induction l with
 |nil=>rfl
 |cons x l ih=>rw[aE8,ih];rfl
abbrev wz:TypeId:=2
abbrev JG:TypeId:=107
def gT(L:List Int):Array Value:=(L.map λx=>I6 x).toArray
def ab3(h:ai w H wz (gT L))(k:Nat)(x:Int):ai (w.setCell ⟨H,k,none⟩ (I6 x)) H wz (gT (L.set k x)):=by
 have e:gT (L.set k x)=(gT L).setIfInBounds k (I6 x):=by
  unfold gT;rw[List.map_set];simp
 rw[e];exact h.aX k (I6 x)
structure JH(w:World)(H B7 B8 n:Nat)(L:List Int)(lf:Int):Prop where
 h:ai w H wz (gT L)
 s:ai w B7 JG #[.slice (some ⟨H,0,none⟩) n n]
 f:ai w B8 wz #[I6 lf]
 len:L.length=n
 ne:H≠B7/\H≠B8/\B7≠B8
def JH.call(h:JH w H B7 B8 n L lf)(hb:Bl w w'):JH w' H B7 B8 n L lf:=⟨h.h.call hb,h.s.call hb,h.f.call hb,h.len,h.ne⟩
def JH.has(h:JH w H B7 B8 n L lf)(k:Nat)(x:Int):JH (w.setCell ⟨H,k,none⟩ (I6 x)) H B7 B8 n (L.set k x) lf:=
 ⟨ab3 h.h k x,h.s.far h.ne.1.symm _,h.f.far h.ne.2.1.symm _,by rw[aF3];exact h.len,h.ne⟩
def JH.left(h:JH w H B7 B8 n L lf)(x:Int):JH (w.setCell ⟨B8,0,none⟩ (I6 x)) H B7 B8 n L x:=
 ⟨h.h.far h.ne.2.1 _,h.s.far h.ne.2.2 _,h.f.aX 0 _,h.len,h.ne⟩
def JH.is(h:JH w H B7 B8 n L lf)(hn:n<=1000):ag w 1 MJ (some ⟨H,0,none⟩) n n L:=by
 have h1:=lS (l:=L) (cells:=MJ) (size:=1) (λ_=>rfl) h.h (by unfold gT;rw[Rz]) (by rw[h.len];unfold maxLen;omega);rw[h.len]at h1;exact h1
def RD(l:List o9)(L:List Int):Prop:=∀(i:Nat)(x:o9)(h:Int),l[i]? = some x->L[i]? = some h->x.mn<=h/\h<=x.wa
def RD.give{l:List o9}(h:RD l L){x:o9}{y:Int}(hx:l[k]? = some x)(hy:L[k]? = some y)(hl:y<x.wa):RD l (L.set k (y+1)):=λi a b ha hb=>by
 rw[aG1]at hb
 split at hb
 ·rename_i e
  subst e;rw[hx]at ha;injection ha with ha
  subst ha
  split at hb
  ·injection hb with hb
   have:=h k x y hx hy;omega
  ·cases hb
 ·exact h i a b ha hb
end Go.Proofs.YtjgmjohiehbgaaaGreat
