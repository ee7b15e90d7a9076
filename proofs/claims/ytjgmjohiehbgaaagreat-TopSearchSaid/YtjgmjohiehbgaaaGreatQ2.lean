/- Part 2. -/
import Derived.Test.YtjgmjohiehbgaaaGreatRows
import Derived.WalkSpells
import Derived.WalkLawsBesides
import Derived.Lib.Hide
import Derived.ShutString
import Derived.Deep.Slices
import Derived.Handy
import Derived.Deep.RegionHeld3
import Derived.Laws.AppendOwnNone
import Derived.Lib.AppendZeros
import Derived.Deep.LoopGhost
import Derived.Shelf.GgClosure.Gives
import Derived.Maps.Ext
namespace Go.Proofs.YtjgmjohiehbgaaaGreat
open Go.RowKit Go.Proofs.Tryz
set_option maxHeartbeats 20000000
set_option maxRecDepth 100000
set_option linter.all false
variable{A:Option Addr}{B base cap g k len n size:Nat}{D:DataW Value}{P:Program}{Q:Exit->Act->World->Prop}{S:World->Prop}{W w w' w0 w1:World}{a a2:Act}{cs:Array Value}{d:Tmp}{ds:List Tmp}{fn:Func}{is:List Nat}{late:Nat->Bool}{listed:Array Bool}{o oi:Oper}{ops:Array Oper}{p:Prop}{rest:List Oper}{row:Option Nat}{t ty:TypeId}{u0 u1 u2 u3 u4 u5 v:Value}{vs:List Value}{α:Type}
def au{k:IntKind}{a b:Int}(h:a=b):Ending.returned (.int k a)=.returned (.int k b):=by rw[h]
def dQ{a b:Bool}(h:a=b):Ending.returned (.bool a)=.returned (.bool b):=by rw[h]
def aw(a:Int):Prop:=-9223372036854775808<=a/\a<=9223372036854775807
def MM(a:Int):Prop:=0<=a/\a<=18446744073709551615
def U8(a:Int):Prop:=0<=a/\a<=255
def dw{a:Int}(h:(Lit.int .i64 a).wf=true):aw a:=bounds_i64 h
def BF{a:Int}(h:(Lit.int .u64 a).wf=true):MM a:=bounds_u64 h
def Sa(a:Int):aw (wrap64 a):=by unfold aw wrap64;omega
abbrev pt(g:Nat):Value:=.pointer (some ⟨g,0,none⟩)
abbrev I6(n:Int):Value:=.int .i64 n
abbrev V6(n:Int):Value:=.int .u64 n
def zh(h:p):p:=h
def zD(h:p):Hid p:=h
def oM(h:p:=by omega):p:=h
def kZ(h:p:=by kernel_rfl):p:=h
def dC(h:p:=by decide):p:=h
def sI(h:p:=by simp):p:=h
def sM(h:p:=by simp;omega):p:=h
def sN(h:p:=by simp<;>omega):p:=h
def rF(h:p:=by rfl):p:=h
theorem gW(h:p:=by go_grown):p:=h
def iL(h:p:=by exact λ_ h=>.inl h):p:=h
def zE(a:α): ∃x,x=a:=⟨a,rfl⟩
def oH{A:Prop}(a:A)(h:A->p:=by intro _;omega):p:=h a
def oI{A B:Prop}(a:A)(b:B)(h:A->B->p:=by intro _ _;omega):p:=h a b
def sH{A:Prop}(a:A)(h:A->p:=by intro h;simpa using h):p:=h a
abbrev Bl(w w' : World):Prop:=Below w.heap.size w w'
abbrev Rt(v:Value)(R:World->Prop)(e:Ending)(w:World):Prop:=e=.returned v/\R w
def zM{f:FuncId}{a:Array Value}{R:World->Prop}{Q:Ending->World->Prop}(h:Calls P f a w λe w'=>e=.returned v/\R w')(k:∀w',R w'->Q (.returned v) w'):Calls P f a w Q:=h.mono λ_ w' ⟨he,hr⟩=>he ▸ k w' hr
def zN{f:FuncId}{a:Array Value}{R:World->Prop}{Q:Ending->World->Prop}(h:Calls P f a w λe w'=>e=.returned v/\R w')(k:Q (.returned v) w)(hr:∀w',R w'->w' = w:=by intro _ h;first|exact h|exact h.symm):Calls P f a w Q:=h.mono λ_ w' ⟨he,h1⟩=>he ▸ hr w' h1 ▸ k
def lR: n<=n:=Nat.le_refl n
def bR: Below n w w:=Below.refl n w
def d9:=@List.getElem?_eq_some_iff
def aB3:=@List.getElem?_eq_getElem
def aB4:=@Nat.le_trans
def aB5:=@List.take_of_length_le
def aB6:=@Nat.zero_le
def aB7:=@List.getD_eq_getElem?_getD
def aB8:=@List.length_append
def aB9:=@Nat.lt_of_lt_of_le
def aC0:=@List.eq_nil_of_length_eq_zero
def aC1:=@List.mem_of_getElem?
def aC2:=@Nat.le_refl
def aC3:=@List.length_take
def aC4:=@List.length_cons
def aC5:=@Nat.le_succ
def aC6:=@Array.getElem?_eq_getElem
def aC7:=@List.getElem?_append_right
def aC8:=@List.length_map
def aC9:=@List.getElem?_append_left
def aD0:=@List.append_assoc
def aD1:=@List.mem_append
def aD2:=@List.length_drop
def aD3:=@Nat.le_succ_of_le
def aD4:=@List.nil_append
def aD5:=@List.mem_filter
def aD6:=@Nat.add_mul
def aD7:=@List.getElem?_of_mem
def aD8:=@List.mem_singleton
def aD9:=@Nat.add_assoc
def aE0:=@List.cons_append
def aE1:=@List.getElem?_eq_none
def aE2:=@Nat.lt_or_ge
def aE3:=@List.take_add_one
def aE4:=@List.getElem?_take
def aE5:=@List.getElem?_drop
def aE6:=@List.mem_cons
def aE7:=@List.length_filter_le
def aE8:=@List.flatMap_cons
def aE9:=@Nat.mul_le_mul_right
def aF0:=@List.take_append_drop
def aF1:=@List.size_toArray
def aF2:=@List.mem_map
def aF3:=@List.length_set
def aF4:=@Array.getElem?_eq_some_iff
def aF5:=@Bool.and_eq_true
def aF6:=@Option.getD_some
def aF7:=@Array.replicate_succ
def aF8:=@Array.replicate_zero
def aF9:=@Nat.mul_comm
def aG0:=@Array.getElem?_toList
def aG1:=@List.getElem?_set
def aG2:=@List.append_toArray
def aG3:=@List.drop_of_length_le
def aG4:=@List.map_append
def aG5:=@Nat.min_eq_left
def aG6:=@List.length_nil
def aG7:=@List.push_toArray
def aG8:=@Bool.false_eq_true
def aG9:=@List.take_append_of_le_length
def aH0:=@List.flatMap_append
def aH1:=@List.map_cons
def aH2:=@List.drop_eq_getElem_cons
def aH3:=@List.pairwise_append
def aH4:=@List.take_take
def aH5:=@List.nodup_append
def aH6:=@List.mem_cons_of_mem
def aH7:=@Nat.mul_assoc
def aH8:=@List.takeWhile_append_dropWhile
def aH9:=@Nat.add_zero
def aI0:=@List.mem_of_mem_take
def aI1:=@List.mem_or_eq_of_mem_set
def aI2:=@List.set_eq_take_append_cons_drop
def aI3:=@Int.eq_ofNat_of_zero_le
def aI4:=@Nat.one_mul
def aI5:=@List.pairwise_cons
def aI6:=@Option.map_some
def aI7:=@List.all_eq_true
def aR7:=@List.drop_append_of_le_length
def aR8:=@List.mem_range
def aR9:=@Nat.zero_add
def aS0:=@List.take_append
def aS1:=@Nat.mul_lt_mul_of_pos_right
def aS2:=@List.sum_cons
def aS3:=@Option.map_eq_some_iff
def aS4:=@Nat.mul_le_mul
def aS5:=@List.filter_eq_self
def aS6:=@List.eq_nil_or_concat
def aS7:=@List.concat_eq_append
def aS8:=@List.length_singleton
def aS9:=@Nat.mod_lt
def aT0:=@Nat.add_sub_cancel
def aT1:=@List.filter_append
def aT2:=@Option.toList_some
def aT3:=@Nat.lt_irrefl
def aT4:=@List.mem_of_mem_drop
def aT5:=@List.find?_cons
def aT6:=@Array.length_toList
def aT7:=@Nat.pow_succ
def aT8:=@List.mem_flatMap
def aT9:=@List.filter_cons
def aU0:=@List.not_mem_nil
def aU1:=@List.set_cons_succ
def aU2:=@List.perm_ext_iff_of_nodup
def aU3:=@Nat.le_of_lt
def aU4:=@Int.toNat_natCast
def aU5:=@List.foldl_append
def aU6:=@Nat.pow_lt_pow_right
def aU7:=@Bool.not_eq_true'
def aU8:=@List.eq_of_mem_replicate
def aU9:=@List.take_succ_cons
def aV0:=@List.toList_toArray
def aV1:=@Array.toList_append
def aV2:=@Int.toNat_of_nonneg
def aV3:=@List.length_pos_iff
def aV4:=@List.length_take_le
def aV5:=@List.drop_drop
def aV6:=@List.drop_take
def aV7:=@List.nodup_nil
def aV8:=@Nat.and_two_pow_sub_one_eq_mod
def aV9:=@Nat.eq_zero_or_pos
def aW0:=@Array.getElem?_eq_none
def aW1:=@List.set_cons_zero
def aW2:=@List.find?_eq_none
def aW3:=@List.append_nil
def aW4:=@List.set_append_right
def aW5:=@Int.le_refl
def aW6:=@Nat.mul_one
def aW7:=@List.take_length
def aW8:=@Nat.mod_eq_of_lt
def aW9:=@Nat.sub_self
section
open Go.ChangeShapes Go.WideShapes Go.ChangeAt Go.RowKit
inductive Kd where
 |int (k:IntKind)
 |bool
 |str
def jO(g:TypeId->Option (List Kd)):List Field->Nat->Option (List Kd)
 |[],_=>some []
 |f::r,o=>match g f.type with
  |some ks=>if f.offset=o then(jO g r (o+ks.length)).map (ks++·)else none
  |none=>none
def ib(P:Program):Nat->TypeId->Option (List Kd)
 |0,_=>none
 |n+1,t=>match P.underlying t with
  |some (.int k)=>if P.cellsOf t=1 then some [.int k]else none
  |some .bool=>if P.cellsOf t=1 then some [.bool]else none
  |some .string=>if P.cellsOf t=1 then some [.str]else none
  |some (.struct fs)=>match jO (ib P n) fs.toList 0 with
   |some ks=>if P.cellsOf t=ks.length then some ks else none
   |none=>none
  |_=>none
def ae1:Kd->Value->Prop
 | .int k,v=>∃n,v=.int k n/\(Lit.int k n).wf=true
 | .bool,v=>∃b,v=.bool b
 | .str,v=>∃s,v=.string s/\s.size<=maxLen
def lQ:List Kd->List Value->Prop
 |[],vs=>vs=[]
 |k::ks,vs=>∃v r,vs=v::r/\ae1 k v/\lQ ks r
theorem lQ.append{ks ls:List Kd}(h:lQ ks (vs.take ks.length))(h2:lQ ls (vs.drop ks.length)):lQ (ks++ls) vs:=by
 induction ks generalizing vs with
 |nil=>simpa using h2
 |cons k ks ih=>
  obtain⟨v,r,e,hk,hr⟩:=h;cases vs with
  |nil=>simp at e
  |cons u us=>
   simp only[aC4,aU9,List.cons.injEq]at e;obtain⟨rfl,rfl⟩:=e;exact⟨u,us,rfl,hk,ih hr (by simpa using h2)⟩
section
variable{H:Type}{enc:TypeId×Value->H}{P:Program}{w:World}{base:Nat}{spare:Nat->Bool}{held:Bool}
theorem zKf{g:TypeId->Option (List Kd)}{cs:List Value}{T:TypeId->List Value->Prop}(hg:∀t ks vs,g t=some ks->T t vs->lQ ks vs/\P.cellsOf t=ks.length) :
 ∀(fs:List Field)(o:Nat)(ks:List Kd),jO g fs o=some ks->cs.length=o+ks.length->(∀f∈fs,T f.type ((cs.drop f.offset).take (P.cellsOf f.type)))->lQ ks (cs.drop o):=by
 intro fs
 induction fs with
 |nil=>
  intro o ks h hl _;simp only[jO,Option.some.injEq]at h;subst h
  show cs.drop o=[]
  exact List.drop_eq_nil_of_le (by simp at hl;omega)
 |cons f r ih=>
  intro o ks h hl hf;simp only[jO]at h
  split at h
  ·rename_i ks1 h1
   split at h
   ·rename_i ho
    obtain⟨ks2,h2,rfl⟩:=aS3.1 h;have t1:=hf f (by simp);obtain⟨a1,c1⟩:=hg _ _ _ h1 t1;rw[c1,ho]at a1;refine lQ.append a1 ?_;rw[aV5];exact ih _ _ h2 (by rw[hl,aB8];omega) (λf' hf'=>hf f' (by simp[hf']))
   ·simp at h
  ·simp at h
theorem BH:∀(n:Nat)(t:TypeId)(ks:List Kd)(cs:List Value)(fuel:Nat)(x:DataW H×List MemPlace),ib P n t=some ks->DataW.trod enc P w base spare held fuel t cs=some x->lQ ks cs/\P.cellsOf t=ks.length:=by
 intro n
 induction n with
 |zero=>intro t ks cs fuel x h;simp[ib]at h
 |succ n ih=>
  intro t ks cs fuel x h hx;unfold ib at h
  split at h
  ·rename_i k hk
   split at h
   ·rename_i hc
    simp only[Option.some.injEq]at h;subst h;obtain⟨m,rfl,_,wf⟩:=DataW.trod_int hk hx;exact⟨⟨_,_,rfl,⟨m,rfl,wf⟩,rfl⟩,hc⟩
   ·simp at h
  ·rename_i hk
   split at h
   ·rename_i hc
    simp only[Option.some.injEq]at h;subst h;obtain⟨m,rfl,_⟩:=DataW.trod_bool hk hx;exact⟨⟨_,_,rfl,⟨m,rfl⟩,rfl⟩,hc⟩
   ·simp at h
  ·rename_i hk
   split at h
   ·rename_i hc
    simp only[Option.some.injEq]at h;subst h;obtain⟨m,rfl,_,hs⟩:=DataW.trod_string hk hx;exact⟨⟨_,_,rfl,⟨m,rfl,hs⟩,rfl⟩,hc⟩
   ·simp at h
  ·rename_i fs hk
   split at h
   ·rename_i ks' wB
    split at h
    ·rename_i hc
     simp only[Option.some.injEq]at h;subst h;obtain⟨xs,n',rfl,_,hlen,hxl,hf⟩:=DataW.trod_struct hk hx;refine⟨?_,hc⟩;have:=zKf (P:=P) (g:=ib P n) (cs:=cs) (T:=λt vs=>∃y,DataW.trod enc P w base spare held n' t vs=some y) (λt ks vs h1 ⟨y,h2⟩=>ih t ks vs n' y h1 h2) fs.toList 0 ks' wB (by rw[hlen,hc];omega) ?_
     ·simpa using this
     ·intro f hfm
      obtain⟨i,hi,rfl⟩:=List.getElem_of_mem hfm;have hi' : i<fs.size:=by simpa using hi
      refine⟨xs[i]'(by omega),?_⟩;have:=hf i (fs.toList[i]) (by simp[hi']);rw[this];exact aB3 _
    ·simp at h
   ·simp at h
  ·simp at h
def am0{α:Type}(w:World)(a:Addr)(size:Nat)(cells:α->List Value)(l:List α):Prop:=
 ∀(i:Nat)(x:α),l[i]? = some x->∀(j:Nat)(v:Value),(cells x)[j]? = some v->w.cell? (a.add (i*size+j))=some v
def ag{α:Type}(w:World)(size:Nat)(cells:α->List Value)(A:Option Addr)(len cap:Nat)(l:List α):Prop:=
 l.length=len/\len<=cap/\cap<=maxLen/\(A=none->len=0/\cap=0)/\∀a,A=some a->am0 w a size cells l/\(0<len->a.block<w.heap.size/\a.spot=none)
def MO{w:World}{a:Addr}(h:w.cell? a=some v):a.block<w.heap.size:=by
 rcases aE2 a.block w.heap.size with h1|h1
 ·exact h1
 ·have:w.heap[a.block]? = none:=by simp;omega
  simp[World.cell?,this]at h
theorem wW{p:Nat->α->Prop}(h:∀i,i<n->∃x,p i x): ∃l:List α,l.length=n/\∀i x,l[i]? = some x->p i x:=by
 induction n with
 |zero=>exact⟨[],rfl,λi x h=>by simp at h⟩
 |succ n ih=>
  obtain⟨l,hl,hp⟩:=ih (λi hi=>h i (by omega));obtain⟨x,hx⟩:=h n (by omega);refine⟨l++[x],by simp[hl],λi y hy=>?_⟩;rcases aE2 i l.length with hi|hi
  ·rw[aC9 hi]at hy
   exact hp i y hy
  ·rw[aC7 hi]at hy
   have:i-l.length=0:=by
    rcases aV9 (i-l.length)with e|e
    ·exact e
    ·rw[aE1 (by simp;omega)]at hy;simp at hy
   rw[this]at hy;simp at hy;subst hy;rw[show i=n by omega];exact hx
theorem ag.at_{cells:α->List Value}{l:List α}(h:ag w size cells A len cap l)(hk:k<len):
 ∃(b off:Nat)(x:α),A=some ⟨b,off,none⟩/\l[k]? = some x/\b<w.heap.size/\∀(j:Nat)(v:Value),(cells x)[j]? = some v->w.cell? ⟨b,off+(k*size+j),none⟩=some v:=by
 obtain⟨hl,hlc,hm,hn,ha⟩:=h;cases A with
 |none=>have:=hn rfl;omega
 |some a=>
  obtain⟨hr,hb⟩:=ha a rfl;obtain⟨h1,h2⟩:=hb (by omega);obtain⟨b,off,spot⟩:=a;simp only at h2;subst h2;have hx:l[k]? = some (l[k]'(by omega)):=aB3 _;refine⟨b,off,_,rfl,hx,h1,λj v hv=>?_⟩;have:=hr k _ hx j v hv;have e:(⟨b,off,none⟩:Addr).add (k*size+j)=⟨b,off+(k*size+j),none⟩:=by
   unfold Addr.add;split<;>simp_all
  rw[e]at this;exact this
def vG{e:TypeId}{ks:List Kd}{d:DataW H}{p:List MemPlace}(cells:α->List Value)(good:α->Prop)(zP:0<ks.length)(hdec:∀vs,lQ ks vs->∃x:α,cells x=vs/\good x)(ht:P.underlying t=some (.slice e))(hk:ib P n e=some ks)(h:DataW.Trod enc P w base spare held t (.slice A len cap) d p): ∃l:List α,ag w ks.length cells A len cap l/\∀x∈l,good x:=by
 obtain⟨fuel,hf⟩:=h;rcases Deep.open_slice ht hf with⟨hcs,_⟩|⟨a,len',cap',m,n',D,Pl,hcs,_,hl,hm,Xy,_,hi⟩
 ·simp[Value.cells]at hcs
  obtain⟨rfl,rfl,rfl⟩:=hcs;exact⟨[],⟨rfl,aC2 _,aB6 _,λ_=>⟨rfl,rfl⟩,λa ha=>by cases ha⟩,λx hx=>by simp at hx⟩
 ·simp[Value.cells]at hcs
  obtain⟨rfl,rfl,rfl⟩:=hcs;have:len<=m:=by rw[Xy];split<;>omega
  obtain⟨l,OG,hp⟩:=wW (n:=len) (p:=λi x=>good x/\∃vs,cells x=vs/\vs.length=ks.length/\∀j v,vs[j]? = some v->w.cell? (a.add (i*ks.length+j))=some v) (λi hin=>by
   obtain⟨cs',hc,Fx⟩:=hi i (by omega);obtain⟨ho,hC⟩:=BH n e ks cs' n' _ hk Fx;obtain⟨x,hx,hgx⟩:=hdec _ ho;rw[hC]at hc;obtain⟨_,hcl,hat⟩:=World.cells?_some hc;refine⟨x,hgx,cs',hx,hcl,λj v hv=>?_⟩;have hj:j<ks.length:=by
    rcases aE2 j cs'.length with h|h
    ·omega
    ·rw[aE1 h]at hv;simp at hv
   rw[<-Deep.add_add,hat j hj,hv])
  refine⟨l,⟨OG,hl,hm,λh=>by simp at h,λa' ha'=>?_⟩,λx hx=>?_⟩
  ·simp only[Option.some.injEq]at ha'
   subst ha';refine⟨λi x hx j v hv=>?_,λh0=>?_⟩
   ·obtain⟨_,vs,e1,_,hc⟩:=hp i x hx
    exact hc j v (e1▸hv)
   ·obtain⟨cs',hc,Fx⟩:=hi 0 (by omega)
    obtain⟨ho,hC⟩:=BH n e ks cs' n' _ hk Fx;obtain⟨_,hcl,hat⟩:=World.cells?_some hc;have h1:=hat 0 (by omega);rw[aB3 (by omega)]at h1;have e0:(a.add (0*ks.length)).add 0=a:=by simp[Addr.add]
    rw[hC,e0]at h1;exact⟨MO h1,World.cell?_spot h1⟩
  ·obtain⟨i,hi',rfl⟩:=List.getElem_of_mem hx
   exact(hp i _ (aB3 hi')).1
end
abbrev gB(w:World)(A:Option Addr)(len cap:Nat)(l:List Int):Prop:=ag w 1 (λn:Int=>[Value.int .i64 n]) A len cap l
def gB.at_{w:World}{l:List Int}(h:gB w A len cap l)(hk:k<len):
 ∃(b off:Nat)(x:Int),A=some ⟨b,off,none⟩/\l[k]? = some x/\b<w.heap.size/\w.cell? ⟨b,off+k,none⟩=some (.int .i64 x):=by
 obtain⟨b,off,x,h1,h2,h3,h4⟩:=ag.at_ h hk;have:=h4 0 _ rfl;rw[show k*1+0=k by omega]at this;exact⟨b,off,x,h1,h2,h3,this⟩
end
section
def ai(w:World)(g:Nat)(t:TypeId)(cs:Array Value):Prop:=w.heap[g]? = some (.cells cs t (0,0))
section
variable{w w' : World}{g:Nat}{t:TypeId}{cs:Array Value}
def ai.lt(h:ai w g t cs):g<w.heap.size:=by
 rcases aE2 g w.heap.size with hlt|hge
 ·exact hlt
 ·unfold ai at h;rw[aW0 hge]at h;cases h
def ai.cell(h:ai w g t cs)(i:Nat):w.cell? ⟨g,i,none⟩=cs[i]?:=cell_of_row w g i cs t (0,0) h
def ai.ar(h:ai w g t cs){i:Nat}(hv:cs[i]? = some v):w.cell? ⟨g,i,none⟩=some v:=(h.cell i).trans hv
def ai.frozen(h:ai w g t cs)(i:Nat):w.frozen? ⟨g,i,none⟩=false:=by
 unfold ai at h;simp[World.frozen?,h]
def ai.new(w:World)(t:TypeId)(cs:Array Value):ai (w.alloc (.cells cs t)) w.heap.size t cs:=heap_alloc_new w _
def ai.drew(h:ai w g t cs):ai w.drew g t cs:=h
def ai.drewN(h:ai w g t cs)(n:Nat):ai (w.drewN n) g t cs:=h
def ai.alloc(h:ai w g t cs)(o:Obj):ai (w.alloc o) g t cs:=(Below.heap_alloc w o g h.lt).trans h
def ai.aX(h:ai w g t cs)(i:Nat)(u:Value):ai (w.setCell ⟨g,i,none⟩ u) g t (cs.setIfInBounds i u):=by
 unfold ai at h |-;simp[World.setCell,Array.getElem?_modify,h]
def ai.far(h:ai w g t cs){p:Addr}(hp:g≠p.block)(u:Value):ai (w.setCell p u) g t cs:=(Below.heap_setCell w p u g hp).trans h
def ai.below(h:ai w g t cs)(hb:Below B w w')(hg:g<B):ai w' g t cs:=(hb.block g hg).trans h
def ai.call(h:ai w g t cs)(hb:Below w.heap.size w w'):ai w' g t cs:=h.below hb h.lt
def ai.grown(h:ai w g t cs)(hb:w.grownBy w' row)(hg:some g≠row):ai w' g t cs:=(hb.block g h.lt hg).trans h
def ai.there(h:ai w g t cs)(hn:cs.size=n):w.there g 0 n:=λj hj=>by
 rw[aR9];exact⟨by rw[h.cell,aC6 (by omega)];rfl,h.frozen j⟩
end
def nu(hb:Below W.heap.size W w1):(∀b o,b<W.heap.size->w1.cell? ⟨b,o,none⟩=W.cell? ⟨b,o,none⟩)/\(∀b o,b<W.heap.size->w1.frozen? ⟨b,o,none⟩=W.frozen? ⟨b,o,none⟩):=
 ⟨λb o h=>hb.cell (p:=⟨b,o,none⟩) h,λb o h=>hb.frozen (p:=⟨b,o,none⟩) h⟩
def am1{g:Nat}(hb:Below W.heap.size W w1)(c0:W.cell? ⟨g,0,none⟩=some u0)(c1:W.cell? ⟨g,1,none⟩=some u1)(c2:W.cell? ⟨g,2,none⟩=some u2)(c3:W.cell? ⟨g,3,none⟩=some u3)(c4:W.cell? ⟨g,4,none⟩=some u4)(c5:W.cell? ⟨g,5,none⟩=some u5)(sz:g<W.heap.size)(CR:Below g w0 W):
 w1.cell? ⟨g,0,none⟩=some u0/\w1.cell? ⟨g,1,none⟩=some u1/\w1.cell? ⟨g,2,none⟩=some u2/\w1.cell? ⟨g,3,none⟩=some u3/\w1.cell? ⟨g,4,none⟩=some u4/\w1.cell? ⟨g,5,none⟩=some u5/\g<w1.heap.size/\Below g w0 w1:=
 ⟨(hb.cell (p:=⟨g,0,none⟩) sz).trans c0,(hb.cell (p:=⟨g,1,none⟩) sz).trans c1,(hb.cell (p:=⟨g,2,none⟩) sz).trans c2,(hb.cell (p:=⟨g,3,none⟩) sz).trans c3,(hb.cell (p:=⟨g,4,none⟩) sz).trans c4,(hb.cell (p:=⟨g,5,none⟩) sz).trans c5,aB9 sz hb.size,CR.trans (hb.mono (aU3 sz))⟩
def J4{g:Nat}(h:W.cell? ⟨g,0,none⟩=some u0/\W.cell? ⟨g,1,none⟩=some u1/\W.cell? ⟨g,2,none⟩=some u2/\W.cell? ⟨g,3,none⟩=some u3/\W.cell? ⟨g,4,none⟩=some u4/\W.cell? ⟨g,5,none⟩=some u5/\g<W.heap.size/\Below g w0 W):
 W.drew.cell? ⟨g,0,none⟩=some u0/\W.drew.cell? ⟨g,1,none⟩=some u1/\W.drew.cell? ⟨g,2,none⟩=some u2/\W.drew.cell? ⟨g,3,none⟩=some u3/\W.drew.cell? ⟨g,4,none⟩=some u4/\W.drew.cell? ⟨g,5,none⟩=some u5/\g<W.drew.heap.size/\Below g w0 W.drew:=
 ⟨h.1,h.2.1,h.2.2.1,h.2.2.2.1,h.2.2.2.2.1,h.2.2.2.2.2.1,h.2.2.2.2.2.2.1,h.2.2.2.2.2.2.2.drew⟩
def OH{g:Nat}(h:W.cell? ⟨g,0,none⟩=some u0/\W.cell? ⟨g,1,none⟩=some u1/\W.cell? ⟨g,2,none⟩=some u2/\W.cell? ⟨g,3,none⟩=some u3/\W.cell? ⟨g,4,none⟩=some u4/\W.cell? ⟨g,5,none⟩=some u5/\g<W.heap.size/\Below g w0 W):Below g w0 W:=h.2.2.2.2.2.2.2
theorem kW(b:Nat):∀(vs:List Value)(o:Nat)(w:World),(w.setCells b o vs).heap.size=w.heap.size/\(w.setCells b o vs).os=w.os/\(w.setCells b o vs).tape=w.tape/\(w.setCells b o vs).output=w.output/\∀k,k≠b->(w.setCells b o vs).heap[k]? = w.heap[k]?
 |[],o,w=>⟨rfl,rfl,rfl,rfl,λ_ _=>rfl⟩
 |v::vs,o,w=>by
  obtain⟨h1,h2,h3,h4,h5⟩:=kW b vs (o+1) (w.setCell ⟨b,o,none⟩ v);refine⟨h1.trans (by simp[World.setCell]),h2,h3,h4,λk hk=>(h5 k hk).trans (Below.heap_setCell w ⟨b,o,none⟩ v k hk)⟩
theorem mE(b:Nat)(t:TypeId):∀(vs:List Value)(o:Nat)(w:World)(cs:Array Value),ai w b t cs->∃cs',ai (w.setCells b o vs) b t cs'/\cs'.size=cs.size/\∀i,cs'[i]? = if o<=i/\i<o+vs.length/\i<cs.size then vs[i-o]? else cs[i]?
 |[],o,w,cs,h=>⟨cs,h,rfl,λi=>by rw[if_neg (by simp;omega)]⟩
 |v::vs,o,w,cs,h=>by
  obtain⟨cs',h1,h2,h3⟩:=mE b t vs (o+1) (w.setCell ⟨b,o,none⟩ v) _ (h.aX o v);refine⟨cs',h1,by simpa using h2,λi=>?_⟩;rw[h3];simp only[Array.size_setIfInBounds,aC4]
  by_cases hi:o+1<=i/\i<o+1+vs.length/\i<cs.size
  ·rw[if_pos hi,if_pos (by omega),show i-o=(i-(o+1))+1 by omega];rfl
  ·rw[if_neg hi,Array.getElem?_setIfInBounds]
   by_cases ho:o=i
   ·subst ho
    rw[if_pos rfl]
    by_cases hs:o<cs.size
    ·rw[if_pos hs,if_pos (by omega)];simp
    ·rw[if_neg hs,if_neg (by omega),aW0 (by omega)]
   ·rw[if_neg ho,if_neg (by omega)]
def ai.store{w:World}{g:Nat}{t:TypeId}{cs:Array Value}(h:ai w g t cs)(new:Array Value)(hs:new.size=cs.size):ai (w.setCells g 0 new.toList) g t new/\w.grownBy (w.setCells g 0 new.toList) (some g):=by
 obtain⟨cs',h1,h2,h3⟩:=mE g t new.toList 0 w cs h;have e:cs' = new:=by
  apply Array.ext (by omega);intro i MP hi2;have:=h3 i;rw[if_pos (by simp;omega),aC6 MP]at this;simp[hi2]at this;exact this
 subst e;obtain⟨k1,k2,k3,k4,k5⟩:=kW g cs'.toList 0 w;exact⟨h1,⟨k2,k3,k4,by omega,λk _ hne=>k5 k (λe=>hne (by rw[e]))⟩⟩
def wpList_store_row{op:Oper}{w:World}(hgd:op.guard=none)(ty:TypeId)(x y:Operand)(ho:op.op=.store ty x y)(g:Nat)(t:TypeId)(cs new:Array Value)(hx:a.eval x=.pointer (some ⟨g,0,none⟩))(hy:a.eval y=.agg new)(hb:ai w g t cs)(hs:new.size=cs.size)(hi:(P.info? ty).map (·.size)=some new.size)(h1:new.all (·.oneCell')=true)(h:∀w',ai w' g t new->w.grownBy w' (some g)->wpList P ops Q rest (a.put op.dst undef) w'):wpList P ops Q (op::rest) a w:=
 wpList_store_mid hgd ty x y ho g 0 new hx hy (hb.there hs.symm) hi h1 (h _ (hb.store new hs).1 (hb.store new hs).2)
def ai.load{op:Oper}{w:World}(hgd:op.guard=none)(ty:TypeId)(x:Operand)(ho:op.op=.load ty x)(g:Nat)(t:TypeId)(cs:Array Value)(d:TypeDesc)(hx:a.eval x=.pointer (some ⟨g,0,none⟩))(hb:ai w g t cs)(hu:P.underlying ty=some d)(hd:(match d with|.struct _|.array _ _=>true|_=>false)=true)(hi:(P.info? ty).map (·.size)=some cs.size)(h:wpList P ops Q rest (a.put op.dst (.agg cs)) w):wpList P ops Q (op::rest) a w:=
 wpList_load_row hgd ty x ho g hx t cs (0,0) d hb hu hd hi h
def Fy{p:Tmp}(h:fn.results=#[.cell p ty])(tmps:Array Value)(w:World)(g:Nat)(t:TypeId)(cs:Array Value)(d:TypeDesc)(hp:tmps.getD p undef=.pointer (some ⟨g,0,none⟩))(hg:ai w g t cs)(hu:P.underlying ty=some d)(hd:(match d with|.struct _|.array _ _=>true|_=>false)=true)(hi:(P.info? ty).map (·.size)=some cs.size):
 (results fn tmps).run P w=.ok (.agg cs) w:=results_cell_row h tmps w g t cs (0,0) d hp hg hu hd hi
def az{p u:Tmp}(h:fn.results=#[.cell p ty,.tmp u])(tmps:Array Value)(w:World)(g:Nat)(t:TypeId)(cs:Array Value)(d:TypeDesc)(hp:tmps.getD p undef=.pointer (some ⟨g,0,none⟩))(hg:ai w g t cs)(hu:P.underlying ty=some d)(hd:(match d with|.struct _|.array _ _=>true|_=>false)=true)(hi:(P.info? ty).map (·.size)=some cs.size):
 (results fn tmps).run P w=.ok (.tuple #[.agg cs,tmps.getD u undef]) w:=by
 have hp' : tmps[p]?.getD undef=.pointer (some ⟨g,0,none⟩):=by simpa using hp
 simp[results,h,hp',asAddr,run_loadVar_row w g t ty cs (0,0) d hg hu hd hi]
def tD{p u v:Tmp}(h:fn.results=#[.cell p ty,.tmp u,.tmp v])(tmps:Array Value)(w:World)(g:Nat)(t:TypeId)(cs:Array Value)(d:TypeDesc)(hp:tmps.getD p undef=.pointer (some ⟨g,0,none⟩))(hg:ai w g t cs)(hu:P.underlying ty=some d)(hd:(match d with|.struct _|.array _ _=>true|_=>false)=true)(hi:(P.info? ty).map (·.size)=some cs.size):
 (results fn tmps).run P w=.ok (.tuple #[.agg cs,tmps.getD u undef,tmps.getD v undef]) w:=by
 have hp' : tmps[p]?.getD undef=.pointer (some ⟨g,0,none⟩):=by simpa using hp
 simp[results,h,hp',asAddr,run_loadVar_row w g t ty cs (0,0) d hg hu hd hi]
def Only.below{w w' : World}{g:Nat}(h:w.grownBy w' (some g))(hB:B<=g)(hs:B<=w.heap.size):Below B w w':=
 (Below.refl B w).grown h hs (λk hk=>by cases hk;exact hB)
end
section
section
variable{P:Program}{ops:Array Oper}{rest:List Oper}{op:Oper}{a:Act}{w:World}{Q:Exit->Act->World->Prop}{g:Nat}{t ty:TypeId}{cs new:Array Value}{x y:Operand}{d:TypeDesc}
def ai.z(hb:ai w g t cs)(i:Nat)(v:Value)(hv:cs[i]? = some v:=by rfl):w.cell? ⟨g,i,none⟩=some v:=hb.ar hv
theorem zC{f:FuncId}{args:Array Value}{R:Ending->World->Prop}(w0:World)(h:Calls P f args W λe w'=>e=.returned v/\Below W.heap.size W w')(k:∀va:World,(∀b o,b<W.heap.size->va.cell? ⟨b,o,none⟩=W.cell? ⟨b,o,none⟩)->(∀b o,b<W.heap.size->va.frozen? ⟨b,o,none⟩=W.frozen? ⟨b,o,none⟩)->Below w0.heap.size w0 va->w0.heap.size<va.heap.size->n<=va.heap.size->R (.returned v) va)(hg:Below w0.heap.size w0 W:=by go_grown)(hz:w0.heap.size<W.heap.size:=by first|omega|(simp;done)|(simp;omega))(hn:W.heap.size=n:=by(try simp only[World.size_alloc,World.size_setCell,World.size_drew]);rfl):Calls P f args W R:=h.mono λe va ⟨he,hb⟩=>he ▸ k va (nu hb).1 (nu hb).2 (hg.trans (hb.mono hg.size)) (aB9 hz hb.size) (hn ▸ hb.size)
def zI(hb:ai w g t cs)(hu:P.underlying ty=some d)(h:wpList P ops Q rest (a.put op.dst (.agg cs)) w)(ho:op.op=.load ty x:=by exact rfl)(hx:a.eval x=.pointer (some ⟨g,0,none⟩):=by exact rfl)(hgd:op.guard=none:=by exact rfl)(hd:(match d with|.struct _|.array _ _=>true|_=>false)=true:=by exact rfl)(hi:(P.info? ty).map (·.size)=some cs.size:=by kernel_rfl):wpList P ops Q (op::rest) a w:=ai.load hgd ty x ho g t cs d hx hb hu hd hi h
def zJ(hb:ai w g t cs)(h:∀w',ai w' g t new->w.grownBy w' (some g)->wpList P ops Q rest (a.put op.dst undef) w')(ho:op.op=.store ty x y:=by exact rfl)(hx:a.eval x=.pointer (some ⟨g,0,none⟩):=by exact rfl)(hy:a.eval y=.agg new:=by exact rfl)(hgd:op.guard=none:=by exact rfl)(hs:new.size=cs.size:=by rfl)(hi:(P.info? ty).map (·.size)=some new.size:=by kernel_rfl)(h1:new.all (·.oneCell')=true:=by simp[Value.oneCell']):wpList P ops Q (op::rest) a w:=wpList_store_row hgd ty x y ho g t cs new hx hy hb hs hi h1 h
def zU{R:Ending->World->Prop}{p:Tmp}(hg:ai w g t cs)(hu:P.underlying ty=some d)(hR:R (.returned (.agg cs)) w)(h:fn.results=#[.cell p ty]:=by exact rfl)(hp:a.tmps.getD p undef=.pointer (some ⟨g,0,none⟩):=by exact rfl)(hd:(match d with|.struct _|.array _ _=>true|_=>false)=true:=by exact rfl)(hi:(P.info? ty).map (·.size)=some cs.size:=by kernel_rfl)(hdf:a.defers=[]:=by exact rfl):bodyPost P fn R .ret a w:=bodyPost_ret (Fy h _ _ _ _ _ _ hp hg hu hd hi) hdf hR
end
end
def Own{α:Type}(w:World)(base:Nat)(e:TypeId)(size:Nat)(cells:α->List Value)(v:Value)(l:List α):Prop:=w.ownsRow base e size v l.length (l.flatMap cells)
theorem aZ{cells:α->List Value}(hsz:∀x,(cells x).length=size)(l:List α):(l.flatMap cells).length=l.length*size:=by
 induction l with
 |nil=>simp
 |cons x l ih=>simp only[aE8,aB8,ih,hsz,aC4];rw[aD6,aI4,Nat.add_comm]
theorem ic{cells:α->List Value}(hsz:∀x,(cells x).length=size)(l:List α)(i j:Nat)(x:α)(hi:l[i]? = some x)(hj:j<size):(l.flatMap cells)[i*size+j]? = (cells x)[j]?:=by
 induction l generalizing i with
 |nil=>simp at hi
 |cons y l ih=>
  rw[aE8];cases i with
  |zero=>
   simp at hi;subst hi;rw[Nat.zero_mul,aR9,aC9 (by rw[hsz];exact hj)]
  |succ i=>
   rw[aC7 (by rw[hsz,aD6];omega),hsz];rw[show(i+1)*size+j-size=i*size+j by rw[aD6];omega];exact ih i (by simpa using hi)
def Own.slice{e:Nat}{cells:α->List Value}{l:List α}(h:Own w base e size cells v l)(hsz:∀x,(cells x).length=size):
 ∃A cap,v=.slice A l.length cap/\ag w size cells A l.length cap l:=by
 rcases h.2 with⟨rfl,h0⟩|⟨g,cap,cur,rfl,hb,hg,mF,hcm,hcs,EZ⟩
 ·rw[h0]
  exact⟨none,0,rfl,h0,aC2 _,aB6 _,(λ_=>⟨rfl,rfl⟩),λa ha=>by cases ha⟩
 ·have hlt:g<w.heap.size:=by
   rcases aE2 g w.heap.size with hlt|hge
   ·exact hlt
   ·rw[aW0 hge]at hg;cases hg
  refine⟨some ⟨g,0,none⟩,cap,rfl,rfl,mF,hcm,(λh=>by cases h),λa ha=>?_⟩;cases ha;refine⟨?_,λ_=>⟨hlt,rfl⟩⟩;intro i x hi j u hj;have hj' : j<size:=by
   have:=(d9.1 hj).1
   rwa [hsz]at this
  exact(h.cells (g:=g) rfl) (i*size+j) u ((ic hsz l i j x hi hj').trans hj)
def Own.nil(w:World)(base e size:Nat)(cells:α->List Value):Own w base e size cells (.slice none 0 0) ([]:List α):=World.ownsRow_nil _ _ _ _
def Own.below{e:Nat}{cells:α->List Value}{l:List α}(h:Own w base e size cells v l)(hb:Below B w w')(hB:∀k,v.ownBlock=some k->k<B):Own w' base e size cells v l:=by
 refine⟨h.1,?_⟩;rcases h.2 with hn|⟨g,cap,cur,rfl,hbg,hg,rest⟩
 ·exact .inl hn
 ·exact .inr ⟨g,cap,cur,rfl,hbg,(hb.block g (hB g rfl)).trans hg,rest⟩
def Own.call{e:Nat}{cells:α->List Value}{l:List α}(h:Own w base e size cells v l)(hb:Bl w w'):Own w' base e size cells v l:=
 h.below hb λk hk=>(World.ownsRow.lt h k hk).2
def Own.alloc{e:Nat}{cells:α->List Value}{l:List α}(h:Own w base e size cells v l)(o:Obj):Own (w.alloc o) base e size cells v l:=World.ownsRow.alloc h o
def Own.mono{base' e:Nat}{cells:α->List Value}{l:List α}(h:Own w base e size cells v l)(hb:base'<=base):Own w base' e size cells v l:=by
 refine⟨h.1,?_⟩;rcases h.2 with hn|⟨g,cap,cur,rfl,hbg,rest⟩
 ·exact .inl hn
 ·exact .inr ⟨g,cap,cur,rfl,aB4 hb hbg,rest⟩
def iC(w:World)(hgd:o.guard=none)(s x:Operand)(t:TypeId)(ho:o.op=.call {callee:=.builtin .append,args:=#[s,x],argTypes:=#[t,t]})(base:Nat)(e:TypeId)(z:Value)(size bytes:Nat)(cells:α->List Value)(ht:P.underlying t=some (.slice e))(hi:(P.info? e).map (λi=>(i.zero,i.size,i.bytes))=some (some z,size,bytes))(hzs:z.cells.size=size)(hsz:0<size)(hcs:∀x,(cells x).length=size)(vH:∀x,∀u∈cells x,u.oneCell' = true)(v:Value)(l:List α)(hs:a.eval s=v)(hown:Own w base e size cells v l)(ad:Addr)(c:Nat)(y:α)(hx:a.eval x=.slice (some ad) 1 c)(hnews:∀j u,(cells y)[j]? = some u->w.cell? (ad.add j)=some u)(hlen:l.length<1000000)(hby:bytes<=100000)(hbase:base<=w.heap.size)(h:∀v' w',Own w' base e size cells v' (l++[y])->Below base w w'->w.grownBy w' v.ownBlock->wpList P ops Q rest (a.put o.dst v') w'):wpList P ops Q (o::rest) a w:=by
 obtain⟨i,h1,h2,h3,h4⟩:=info_parts hi;refine wpList_append_own w hgd s x t ho base e i z size bytes ht h1 h2 h3 h4 hzs hsz v l.length (l.flatMap cells) hs hown ad 1 c (cells y) hx (by rw[hcs,aI4]) hnews (vH y) (by unfold maxLen;omega)
  (by have:=aS4 (show l.length+1<=1000000 by omega) hby;omega) hbase ?_
 intro v' w' ho' hgrow _;refine h v' w' ?_ ((Below.refl base w).grown hgrow hbase λk hk=>(World.ownsRow.lt hown k hk).1) hgrow
 show w'.ownsRow base e size v' (l++[y]).length ((l++[y]).flatMap cells)
 simpa using ho'
abbrev Xz(w:World)(base:Nat)(v:Value)(l:List Int):Prop:=Own w base 2 1 (λn:Int=>[I6 n]) v l
def Sb:(prog.info? 2).map (λi=>(i.zero,i.size,i.bytes))=some (some (I6 0),1,8):=kZ
theorem wX(w:World)(hgd:o.guard=none)(s x:Operand)(ho:o.op=.call {callee:=.builtin .append,args:=#[s,x],argTypes:=#[107,107]})(base:Nat)(v:Value)(l:List Int)(hs:a.eval s=v)(hown:Xz w base v l)(ad:Addr)(c:Nat)(y:Int)(hx:a.eval x=.slice (some ad) 1 c)(hnews:w.cell? ad=some (I6 y))(hlen:l.length<1000000)(hbase:base<=w.heap.size)(h:∀v' w',Xz w' base v' (l++[y])->Below base w w'->wpList prog ops Q rest (a.put o.dst v') w'):wpList prog ops Q (o::rest) a w:=by
 refine iC w hgd s x 107 ho base 2 _ 1 8 _ underlying107 Sb rF dC (λ_=>rfl) (λ_ u hu=>by simp at hu;subst hu;rfl) v l hs hown ad c y hx ?_ hlen dC hbase (λv' w' h1 h2 _=>h v' w' h1 h2);intro j u hj;cases j with
 |zero=>simp at hj;subst hj;rw[show ad.add 0=ad by simp[Addr.add]];exact hnews
 |succ j=>simp at hj
theorem Fz{cells:α->List Value}(hsz:∀x,(cells x).length=size)(l:List α)(j:Nat)(u:Value)(h:(l.flatMap cells)[j]? = some u): ∃i r x,j=i*size+r/\l[i]? = some x/\(cells x)[r]? = some u:=by
 induction l generalizing j with
 |nil=>simp at h
 |cons y l ih=>
  rw[aE8]at h;rcases aE2 j size with hj|hj
  ·rw[aC9 (by rw[hsz];exact hj)]at h
   exact⟨0,j,y,oM,rfl,h⟩
  ·rw[aC7 (by rw[hsz];exact hj),hsz]at h
   obtain⟨i,r,x,h1,h2,h3⟩:=ih _ h;exact⟨i+1,r,x,by rw[aD6];omega,h2,h3⟩
def ag.cells{α:Type}{w:World}{size:Nat}{cells:α->List Value}{a:Addr}{len cap:Nat}{l:List α}(h:ag w size cells (some a) len cap l)(hsz:∀x,(cells x).length=size):∀j u,(l.flatMap cells)[j]? = some u->w.cell? (a.add j)=some u:=by
 intro j u hj;obtain⟨i,r,x,rfl,hi,hr⟩:=Fz hsz l j u hj;exact(h.2.2.2.2 a rfl).1 i x hi r u hr
theorem fP(w:World)(hgd:o.guard=none)(s x:Operand)(t:TypeId)(ho:o.op=.call {callee:=.builtin .append,args:=#[s,x],argTypes:=#[t,t]})(base:Nat)(e:TypeId)(z:Value)(size bytes:Nat)(cells:α->List Value)(ht:P.underlying t=some (.slice e))(hi:(P.info? e).map (λi=>(i.zero,i.size,i.bytes))=some (some z,size,bytes))(hzs:z.cells.size=size)(hsz:0<size)(hcs:∀x,(cells x).length=size)(vH:∀x,∀u∈cells x,u.oneCell' = true)(v:Value)(l:List α)(hs:a.eval s=v)(hown:Own w base e size cells v l)(A:Option Addr)(m c:Nat)(ys:List α)(hx:a.eval x=.slice A m c)(RM:ag w size cells A m c ys)(hlen:l.length+m<1000000)(hby:bytes<=100000)(hbase:base<=w.heap.size)(h:∀v' w',Own w' base e size cells v' (l++ys)->Below base w w'->w.grownBy w' v.ownBlock->wpList P ops Q rest (a.put o.dst v') w'):wpList P ops Q (o::rest) a w:=by
 obtain⟨i,h1,h2,h3,h4⟩:=info_parts hi;cases A with
 |none=>
  obtain⟨rfl,rfl⟩:=RM.2.2.2.1 rfl;have hn:ys=[]:=aC0 RM.1;subst hn;exact wpList_append_own_none hgd s x t ho base e i size ht h1 v l.length (l.flatMap cells) hs hown hx<|h v w (by rw[aW3];exact hown) bR (World.grownBy.refl w _)
 |some ad=>
  have Fa:=RM.1;refine wpList_append_own w hgd s x t ho base e i z size bytes ht h1 h2 h3 h4 hzs hsz v l.length (l.flatMap cells) hs hown ad m c (ys.flatMap cells) hx (by rw[aZ hcs,Fa]) (RM.cells hcs)
   (λu hu=>by obtain⟨y,_,hy⟩:=aT8.1 hu;exact vH y u hy) (by unfold maxLen;omega) (by have:=aS4 (show l.length+m<=1000000 by omega) hby;omega) hbase ?_
  intro v' w' ho' hgrow _;refine h v' w' ?_ ((Below.refl base w).grown hgrow hbase λk hk=>(World.ownsRow.lt hown k hk).1) hgrow
  show w'.ownsRow base e size v' (l++ys).length ((l++ys).flatMap cells)
  rw[aB8,aH0,Fa];exact ho'
def af{cells:α->List Value}{l:List α}(h:ag w size cells A len cap l)(hb:Bl w w'):ag w' size cells A len cap l:=by
 refine⟨h.1,h.2.1,h.2.2.1,h.2.2.2.1,λa ha=>?_⟩;obtain⟨h1,h2⟩:=h.2.2.2.2 a ha;refine⟨λi x hi j v hj=>?_,λhl=>⟨aB9 (h2 hl).1 hb.size,(h2 hl).2⟩⟩;have hlt:a.block<w.heap.size:=by
  refine(h2 ?_).1;have:=(d9.1 hi).1;rw[<-h.1];omega
 have hbl:(a.add (i*size+j)).block=a.block:=by unfold Addr.add;split<;>rfl
 have:=h1 i x hi j v hj;exact(World.cell?_of_block (w:=w) (hb.block _ (hbl▸hlt))).trans this
def lS{cells:α->List Value}{l:List α}(hsz:∀x,(cells x).length=size)(h:ai w g t cs)(hc:cs=(l.flatMap cells).toArray)(hm:l.length<=maxLen):
 ag w size cells (some ⟨g,0,none⟩) l.length l.length l:=by
 refine⟨rfl,aC2 _,hm,(λh=>by cases h),λa ha=>?_⟩;cases ha;refine⟨λi x hi j v hj=>?_,λ_=>⟨h.lt,rfl⟩⟩;have hj' : j<size:=by
  have:=(d9.1 hj).1
  rwa [hsz]at this
 have e:(⟨g,0,none⟩:Addr).add (i*size+j)=⟨g,i*size+j,none⟩:=by
  unfold Addr.add;split<;>simp_all
 rw[e];exact h.ar (by rw[hc];simpa using(ic hsz l i j x hi hj').trans hj)
def OI(w:World)(size:Nat)(cells:α->List Value):ag w size cells none 0 0 ([]:List α):=
 ⟨rfl,aC2 _,aB6 _,λ_=>⟨rfl,rfl⟩,λa ha=>by cases ha⟩
def ai.dR(w:World)(o:Obj)(t:TypeId)(cs:Array Value):ai ((w.alloc o).alloc (.cells cs t)) (w.heap.size+1) t cs:=by
 simpa using(ai.new (w.alloc o) t cs)
def br{α:Type}(h:ai w g t cs)(hc:cs=vs.toArray): ∀j u,vs[j]? = some u->w.cell? ((⟨g,0,none⟩:Addr).add j)=some u:=by
 intro j u hj;have e:(⟨g,0,none⟩:Addr).add j=⟨g,j,none⟩:=by
  unfold Addr.add;split<;>simp_all
 rw[e];exact h.ar (by rw[hc];simpa using hj)
def Own.shape{e:Nat}{cells:α->List Value}{l:List α}(h:Own w base e size cells v l)(hsz:∀x,(cells x).length=size): ∃A n cap,v=.slice A n cap/\n=l.length/\ag w size cells A n cap l:=by
 obtain⟨A,c,h1,h2⟩:=h.slice hsz;exact⟨A,_,c,h1,rfl,h2⟩
def Own.far{e:Nat}{cells:α->List Value}{l:List α}(h:Own w base e size cells v l){p:Addr}(hp:∀k,v.ownBlock=some k->k≠p.block)(u:Value):Own (w.setCell p u) base e size cells v l:=by
 refine⟨h.1,?_⟩;rcases h.2 with hn|⟨g,cap,cur,rfl,hbg,hg,rest⟩
 ·exact .inl hn
 ·exact .inr ⟨g,cap,cur,rfl,hbg,(Below.heap_setCell w p u g (hp g rfl)).trans hg,rest⟩
section
structure ah(S:Nat->Prop)(w w' : World):Prop where
 os:w'.os=w.os
 tape:w'.tape=w.tape
 output:w'.output=w.output
 size:w.heap.size<=w'.heap.size
 block:∀k,k<w.heap.size->¬S k->w'.heap[k]? = w.heap[k]?
section
variable{S T:Nat->Prop}{w w1 w' : World}
def ah.refl(S:Nat->Prop)(w:World):ah S w w:=⟨rfl,rfl,rfl,aC2 _,λ_ _ _=>rfl⟩
def ah.aa(h:Bl w w'):ah S w w':=⟨h.os,h.tape,h.output,h.size,λk hk _=>h.block k hk⟩
def ah.below(h:ah S w w')(hS:∀k,S k->B<=k)(hB:B<=w.heap.size):Below B w w':=
 ⟨h.os,h.tape,h.output,h.size,λk hk=>h.block k oM (λhs=>oH (hS k hs))⟩
def ah.trans(h:ah S w w1)(h2:ah T w1 w')(hT:∀k,T k->S k\/w.heap.size<=k):ah S w w':=
 ⟨h2.os.trans h.os,h2.tape.trans h.tape,h2.output.trans h.output,aB4 h.size h2.size,λk hk hs=>
  (h2.block k (aB9 hk h.size) (λht=>by rcases hT k ht with h3|h3;exact hs h3;omega)).trans (h.block k hk hs)⟩
def ah.call(h:ah S w w1)(h2:Bl w1 w'):ah S w w':=h.trans (T:=λ_=>False) (ah.aa h2) (λ_ hk=>hk.elim)
def ah.mono(h:ah S w w')(hT:∀k,S k->T k):ah T w w':=⟨h.os,h.tape,h.output,h.size,λk hk ht=>h.block k hk (λhs=>ht (hT k hs))⟩
def ah.grown(h:ah S w w1)(hg:w1.grownBy w' row)(hr:∀k,row=some k->S k\/w.heap.size<=k):ah S w w':=
 h.trans (T:=λk=>row=some k) ⟨hg.os,hg.tape,hg.output,hg.size,λk hk hn=>hg.block k hk (λe=>hn e.symm)⟩ hr
def ah.drew(h:ah S w w'):ah S w w'.drew:=⟨h.os,h.tape,h.output,h.size,h.block⟩
def ah.alloc(h:ah S w w')(o:Obj):ah S w (w'.alloc o):=
 ⟨h.os,h.tape,h.output,by have:=h.size;simp;omega,λk hk hn=>(Below.heap_alloc _ _ _ (aB9 hk h.size)).trans (h.block k hk hn)⟩
def ah.setCell(h:ah S w w'){p:Addr}(hp:S p.block\/w.heap.size<=p.block)(u:Value):ah S w (w'.setCell p u):=
 ⟨h.os,h.tape,h.output,by have:=h.size;simp[World.setCell];omega,λk hk hn=>(Below.heap_setCell _ _ _ _ (λe=>by subst e;rcases hp with h3|h3;exact hn h3;omega)).trans (h.block k hk hn)⟩
def ai.upd(h:ai w g t cs)(hu:ah S w w')(hg:¬S g):ai w' g t cs:=(hu.block g h.lt hg).trans h
def Own.upd{e:Nat}{cells:α->List Value}{l:List α}(h:Own w base e size cells v l)(hu:ah S w w')(hne:∀k,v.ownBlock=some k->¬S k):Own w' base e size cells v l:=by
 refine⟨h.1,?_⟩;have hlt:=World.ownsRow.lt h;rcases h.2 with hn|⟨b,cap,cur,rfl,hbg,hb,rest⟩
 ·exact .inl hn
 ·exact .inr ⟨b,cap,cur,rfl,hbg,(hu.block b (hlt b rfl).2 (hne b rfl)).trans hb,rest⟩
def aV{cells:α->List Value}{l:List α}(h:ag w size cells A len cap l)(hu:ah S w w')(hne:∀a,A=some a->¬S a.block):ag w' size cells A len cap l:=by
 refine⟨h.1,h.2.1,h.2.2.1,h.2.2.2.1,λa ha=>?_⟩;obtain⟨h1,h2⟩:=h.2.2.2.2 a ha;refine⟨λi x hi j v hj=>?_,λhl=>⟨aB9 (h2 hl).1 hu.size,(h2 hl).2⟩⟩;have hlt:a.block<w.heap.size:=by
  refine(h2 ?_).1;have:=(d9.1 hi).1;rw[<-h.1];omega
 have hbl:(a.add (i*size+j)).block=a.block:=by unfold Addr.add;split<;>rfl
 have:=h1 i x hi j v hj;exact(World.cell?_of_block (w:=w) (hu.block _ (hbl▸hlt) (hbl▸hne a ha))).trans this
end
def Own.cD{w:World}{e:Nat}{cells:α->List Value}{l:List α}(h:Own w base e size cells v l)(n:Nat):Own (w.drewN n) base e size cells v l:=h
def ah.cD{S:Nat->Prop}{w w' : World}(h:ah S w w')(n:Nat):ah S w (w'.drewN n):=⟨h.os,h.tape,h.output,h.size,h.block⟩
def iA{T:Nat->Prop}{W1:World}(S:ah T W W1)(cs:Array Value)(t:TypeId): ∃g,W1.heap.size=g/\ai (W1.alloc (.cells cs t)) g t cs/\W.heap.size<=g:=⟨_,rfl,ai.new _ _ _,S.size⟩
def below_drewN{a w:World}(h:Below B a w)(n:Nat):Below B a (w.drewN n):=⟨h.os,h.tape,h.output,h.size,h.block⟩
def vI(cs:Array Value)(o:Nat)(vs:List Value):Array Value:=(cs.toList.take o++(vs++cs.toList.drop (o+vs.length))).toArray
def dz{o:Nat}(h:o+vs.length<=cs.size):(vI cs o vs).size=cs.size:=by
 unfold vI;simp;omega
def ai.setCells{w:World}(h:ai w g t cs){o:Nat}(hs:o+vs.length<=cs.size):ai (w.setCells g o vs) g t (vI cs o vs)/\w.grownBy (w.setCells g o vs) (some g):=by
 obtain⟨cs',h1,h2,h3⟩:=mE g t vs o w cs h;have e:cs' = vI cs o vs:=by
  apply Array.ext (by rw[h2,dz hs]);intro i MP hi2;have:=h3 i;rw[aC6 MP]at this;have h4:(vI cs o vs)[i]? = some (vI cs o vs)[i]:=aC6 hi2
  suffices hh:(if o<=i/\i<o+vs.length/\i<cs.size then vs[i-o]? else cs[i]?)=(vI cs o vs)[i]? by
   rw[hh,h4]at this;exact Option.some.inj this
  unfold vI;simp only[List.getElem?_toArray];rcases aE2 i o with hio|hio
  ·rw[if_neg oM,aC9 sM,aE4,if_pos hio];simp
  ·rw[aC7 sM]
   simp only[aC3,aT6,aG5 (show o<=cs.size by omega)];rcases aE2 i (o+vs.length)with h5|h5
   ·rw[if_pos oM,aC9 oM]
   ·rw[if_neg oM,aC7 oM,aE5,show o+vs.length+(i-o-vs.length)=i by omega];simp
 obtain⟨k1,k2,k3,k4,k5⟩:=kW g vs o w;rw[e]at h1;exact⟨h1,⟨k2,k3,k4,oM,λk _ hne=>k5 k (λe=>hne (by rw[e]))⟩⟩
theorem jE{cells:α->List Value}(hsz:∀x,(cells x).length=size)(l:List α)(i:Nat):(l.flatMap cells).take (i*size)=(l.take i).flatMap cells:=by
 induction l generalizing i with
 |nil=>simp
 |cons y l ih=>
  cases i with
  |zero=>simp
  |succ i=>rw[aE8,aS0,hsz,aB5 (by rw[hsz,aD6];omega),show(i+1)*size-size=i*size by rw[aD6];omega,ih,aU9,aE8]
theorem jF{cells:α->List Value}(hsz:∀x,(cells x).length=size)(l:List α)(i:Nat):(l.flatMap cells).drop (i*size)=(l.drop i).flatMap cells:=by
 induction l generalizing i with
 |nil=>simp
 |cons y l ih=>
  cases i with
  |zero=>simp
  |succ i=>rw[aE8,List.drop_append,hsz,aG3 (by rw[hsz,aD6];omega),show(i+1)*size-size=i*size by rw[aD6];omega,ih,List.drop_succ_cons,aD4]
end
def rC(P:Program):List Field->Nat->Bool
 |[],_=>true
 |f::fs,o=>(f.name != "_" && f.offset==o&&(match P.underlying f.type with|some (.int _)=>true|_=>false)&&P.plainKey f.type)&&rC P fs (o+1)
theorem zV(w:World)(d:Nat)(xs ys:Array Value): ∀(fs:List Field)(o:Nat)(ks:List IntKind)(us vs:List Int),rC P fs o=true->ks.length=fs.length->us.length=fs.length->vs.length=fs.length->
 (∀i v,(List.zipWith Value.int ks us)[i]? = some v->xs[o+i]? = some v)->(∀i v,(List.zipWith Value.int ks vs)[i]? = some v->ys[o+i]? = some v)->(Op.eqFields (d+1) xs ys fs).run P w=.ok (us==vs) w:=by
 intro fs
 induction fs with
 |nil=>
  intro o ks us vs _ _ ha hb _ _;obtain rfl:=List.length_eq_zero_iff.1 ha;obtain rfl:=List.length_eq_zero_iff.1 hb;simp[Op.eqFields]
 |cons f fs ih=>
  intro o ks us vs hf hk ha hb hx hy
  match ks,us,vs,hk,ha,hb with
  |k::ks,a::us,b::vs,hk,ha,hb=>
   unfold rC at hf;simp only[aF5,bne_iff_ne,beq_iff_eq]at hf;obtain⟨⟨⟨⟨h1,h2⟩,h3⟩,h4⟩,h5⟩:=hf;have hx0:=hx 0 (.int k a) rfl;have hy0:=hy 0 (.int k b) rfl;rw[aH9,<-h2]at hx0 hy0;have hu:∃q,P.underlying f.type=some (.int q):=by
    split at h3
    ·rename_i q hq;exact⟨q,hq⟩
    ·simp at h3
   obtain⟨q,hq⟩:=hu;have ih':=ih (o+1) ks us vs h5 (sH hk) (sH ha) (sH hb) (λi v hv=>by have:=hx (i+1) v hv;rwa [show o+(i+1)=o+1+i by omega]at this) (λi v hv=>by have:=hy (i+1) v hv;rwa [show o+(i+1)=o+1+i by omega]at this)
   simp only[Op.eqFields,h1,ne_eq,not_false_eq_true,if_true,Sem.run_bind,run_part_plain w h4 hx0,run_part_plain w h4 hy0,run_equalIn_int w d f.type k q a b hq,Result.andThen_ok]
   by_cases hab:a=b
   ·subst hab
    simpa using ih'
   ·have e:(a==b)=false:=sH hab
    simp[e]
def XD(hs:prog.underlying t=some (.struct (prog.fieldsOf t)))(hp:prog.stoodInHeld t=false)(hg:prog.eqGuardType prog.depth t=false)(hf:rC prog (prog.fieldsOf t).toList 0=true)(ks:List IntKind)(us vs:List Int)(hk:ks.length=(prog.fieldsOf t).toList.length)(ha:us.length=(prog.fieldsOf t).toList.length)(hb:vs.length=(prog.fieldsOf t).toList.length)(xs ys:Array Value)(hx:xs=(List.zipWith Value.int ks us).toArray)(hy:ys=(List.zipWith Value.int ks vs).toArray)(b:Bool)(he:(us==vs)=b):
 (∀(W:World)(op:BinOp)(o1 o2:Operand),(eqGuard op t o1 o2 (.agg xs) (.agg ys)).run prog W=.ok () W)/\
 (∀W:World,(binOp .eql t (.agg xs) (.agg ys)).run prog W=.ok (.bool b) W)/\
 (∀W:World,(binOp .neq t (.agg xs) (.agg ys)).run prog W=.ok (.bool (!b)) W):=by
 subst hx hy he;have e:∀W:World,(Op.equalIn 10000 t (.agg (List.zipWith Value.int ks us).toArray) (.agg (List.zipWith Value.int ks vs).toArray)).run prog W=.ok (us==vs) W:=λW=>by
  rw[show(10000:Nat)=9998+1+1 from rfl,run_equalIn_agg W (9998+1) t _ _ hs hp,zV W 9998 _ _ _ 0 ks us vs hf hk ha hb (λi v hv=>sH hv) (λi v hv=>sH hv)]
 refine⟨λW op o1 o2=>run_eqGuard_agg W op t o1 o2 _ _ hg,λW=>?_,λW=>?_⟩
 ·rw[run_eql_struct,e];rfl
 ·rw[run_neq_struct,e];rfl
def cU(w:World)(hgd:o.guard=none)(s x:Operand)(t:TypeId)(ho:o.op=.call {callee:=.builtin .append,args:=#[s,x],argTypes:=#[t,t]})(base:Nat)(e:TypeId)(z:Value)(size bytes:Nat)(cells:α->List Value)(ht:P.underlying t=some (.slice e))(hi:(P.info? e).map (λi=>(i.zero,i.size,i.bytes))=some (some z,size,bytes))(hzs:z.cells.size=size)(hsz:0<size)(hcs:∀x,(cells x).length=size)(vH:∀x,∀u∈cells x,u.oneCell' = true)(v:Value)(l:List α)(hs:a.eval s=v)(hown:Own w base e size cells v l)(ad:Addr)(c:Nat)(y:α)(hx:a.eval x=.slice (some ad) 1 c)(hnews:∀j u,(cells y)[j]? = some u->w.cell? (ad.add j)=some u)(hlen:l.length<1000000)(hby:bytes<=100000)(hbase:base<=w.heap.size)(h:∀v' w',Own w' base e size cells v' (l++[y])->ah (λk=>v.ownBlock=some k) w w'->(v'.ownBlock=v.ownBlock\/v'.ownBlock=some w.heap.size)->wpList P ops Q rest (a.put o.dst v') w'):wpList P ops Q (o::rest) a w:=by
 obtain⟨i,h1,h2,h3,h4⟩:=info_parts hi;have hb1:(l.length+1)*bytes<=140737488355328:=by have:=aS4 (show l.length+1<=1000000 by omega) hby;omega
 have kX:(cells y).length=1*i.size:=by rw[hcs,h3,aI4]
 obtain⟨v',w',hr,k1,k2,k3⟩:=run_append_own (P:=P) w base t o.type e i z size bytes ht h1 h2 h3 h4 hzs hsz v l.length (l.flatMap cells) hown ad 1 c (cells y) (by rw[hcs,aI4]) hnews (vH y) (by unfold maxLen;omega) hb1 hbase;have ae4:v'.ownBlock=v.ownBlock\/v'.ownBlock=some w.heap.size:=by
  rcases hown.2 with⟨rfl,hn⟩|⟨g,cap,cur,rfl,hbg,hg,mF,hcm,au5,eM⟩
  ·right
   have hr2:=run_append_nil (P:=P) w t o.type e i z ht h1 h2 ad 1 c (cells y) kX hnews oM oM (oH h4);rw[hr2]at hr;injection hr with e1 e2
   rw[<-e1];rfl
  ·by_cases hroom:l.length+1<=cap
   ·left
    have hr2:=run_append_room (P:=P) w t o.type e i ht h1 g l.length cap cur hg ad 1 c (cells y) kX hnews (vH y) hroom (by rw[kX,au5,h3,<-aD6];exact aE9 _ hroom);rw[hr2]at hr;injection hr with e1 e2
    rw[<-e1];rfl
   ·right
    have hl2:(l.flatMap cells).length=l.length*i.size:=by rw[aZ hcs,h3]
    have hr2:=run_append_grow (P:=P) w t o.type e i z ht h1 h2 ⟨g,0,none⟩ l.length cap (l.flatMap cells) hl2 (World.ownsRow.cells hown (g:=g) rfl) ad 1 c (cells y) kX hnews oM oM (growslice_fits oM (h4▸hb1));rw[hr2]at hr;injection hr with e1 e2
    rw[<-e1];rfl
 refine Lib.wpList_append_run w hgd s x t t ho v _ hs hx v' w' hr<|h v' w' ?_ ⟨k2.os,k2.tape,k2.output,k2.size,λk hk hn=>k2.block k hk (λe=>hn e.symm)⟩ ae4
 show w'.ownsRow base e size v' (l++[y]).length ((l++[y]).flatMap cells)
 simpa using k1
section
section
variable{P:Program}{ops:Array Oper}{Q:Exit->Act->World->Prop}{md:Region.Mode}
def fe(P:Program)(md:Region.Mode)(ops:Array Oper)(Q:Exit->Act->World->Prop)(late:Nat->Bool)(S:World->Prop):Nat->Array Bool->Act->World->Prop
 |0,listed,a,w=>Region.ready md ops listed=[]/\Q .normal a w
 |n+1,listed,a,w=>(Region.ready md ops listed=[]->Q .normal a w)/\
  ∀j∈Region.ready md ops listed,wpOp P ops Q j (λa' w'=>(late j=false->S w')/\fe P md ops Q late S n (listed.setIfInBounds j true) a' w') a w
theorem iF{late:Nat->Bool}{S:World->Prop} : ∀(n:Nat)(listed:Array Bool)(a:Act)(w:World),fe P md ops Q late S n listed a w->wpAny P md ops Q n listed a w
 |0,_,_,_,h=>h
 |n+1,_,_,_,h=>⟨h.1,λj hj=>wpOp_mono (λa' w' h'=>iF n _ a' w' h'.2) (h.2 j hj)⟩
def J5(md:Region.Mode)(ops:Array Oper)(i:Nat)(late:Nat->Bool):Bool:=
 (List.range ops.size).all λj=>!late j||match ops[j]? with
  |some o=>o.after.any λe=>Region.binds md e&&(e.on==i||late e.on)
  |none=>true
theorem J6{i:Nat}(hi:ops[i]? = some oi)(am5:∀(j:Nat)(o:Oper) cs b,ops[j]? = some o->o.op≠.select cs b)(hl:J5 md ops i late=true)(wD:late i=false)(hQ:∀c a w,Q (.panic c) (a.put oi.dst v) w->Q (.panic c) a w):
 ∀(n:Nat)(listed:Array Bool)(a:Act)(w:World),
  (∀j oj,ops[j]? = some oj->j≠i->listed.getD j true=false->(∀e∈oj.after,Region.binds md e=true->e.on≠i)->oi.apart ops oj=true)->
  (∀j,late j=true->listed.getD j false=false)->
  i∈Region.ready md ops listed->YieldsIf P ops S oi v a->S w->
  fe P md ops Q late S n (listed.setIfInBounds i true) (a.put oi.dst v) w->fe P md ops Q late S (n+1) listed a w:=by
 intro n
 induction n with
 |zero=>
  intro listed a w _ _ hr hy hS H;refine⟨λh=>(by rw[h]at hr;cases hr),λj hj=>?_⟩
  by_cases e:j=i
  ·subst e;exact hy.wpOp hi hS ⟨λ_=>hS,H⟩
  ·have h2:=ready_mono hj e
   rw[H.1]at h2;cases h2
 |succ n ih=>
  intro listed a w ac9 ad0 hr hy hS H;refine⟨λh=>(by rw[h]at hr;cases hr),λj hj=>?_⟩
  by_cases e:j=i
  ·subst e;exact hy.wpOp hi hS ⟨λ_=>hS,H⟩
  ·obtain⟨hju,oj,hoj,hall⟩:=mem_ready.1 hj;have hiu:=(mem_ready.1 hr).1;have hiF:listed.getD i false=false:=by
    rcases aE2 i listed.size with h'|h'
    ·simp[h']at hiu |-;exact hiu
    ·simp[aW0 h']
   have hne:∀x∈oj.after,Region.binds md x=true->x.on≠i:=λx hx hb heq=>by
    have:=hall x hx hb;rw[heq,hiF]at this;cases this
   have xi:late j=false:=by
    cases hlj:late j with
    |false=>rfl
    |true=>
     exfalso
     have h2:=aI7.1 hl j (aR8.2 (aF4.1 hoj).1);rw[hlj,hoj]at h2;simp only[Bool.not_true,Bool.false_or]at h2;obtain⟨x,hx,hb⟩:=Array.any_eq_true'.1 h2;simp only[aF5,Bool.or_eq_true,beq_iff_eq]at hb;rcases hb.2 with h3|h3
     ·exact hne x hx hb.1 h3
     ·have h4:=hall x hx hb.1
      rw[ad0 _ h3]at h4;cases h4
   have h2:=wpOp_putIf hoj (ac9 j oj hoj e hju hne) (λcs b=>am5 i oi cs b hi) (λcs b=>am5 j oj cs b hoj) hQ hy (H.2 j (ready_mono hj e));refine wpOp_mono (λa' w' h3=>⟨λ_=>h3.2.1 xi,ih (listed.setIfInBounds j true) a' w' ?_ ?_ (ready_mono hr (Ne.symm e)) h3.1 (h3.2.1 xi) ?_⟩) h2
   ·intro k ok hk Fb hun hno
    refine ac9 k ok hk Fb ?_ hno
    by_cases hjk:j=k
    ·subst hjk;exact hju
    ·rw[getD_set_ne true hjk]at hun;exact hun
   ·intro k hk
    by_cases hjk:j=k
    ·subst hjk;rw[hk]at xi;cases xi
    ·rw[getD_set_ne false hjk];exact ad0 k hk
   ·rw[Array.setIfInBounds_comm _ _ e];exact h3.2.2
def gi{i:Nat}(hi:ops[i]? = some oi)(hs:Region.noSelect ops=true)(hf:Region.free md ops listed i=true)(hr:(Region.ready md ops listed).contains i=true)(hl:J5 md ops i late=true)(wD:late i=false)(OG:(List.range ops.size).all (λj=>!late j || !listed.getD j false)=true)(hlt:∀j,late j=true->j<ops.size)(hQ:∀c a w,Q (.panic c) (a.put oi.dst v) w->Q (.panic c) a w)(hy:YieldsIf P ops S oi v a)(hS:S w)(h:fe P md ops Q late S n (listed.setIfInBounds i true) (a.put oi.dst v) w):fe P md ops Q late S (n+1) listed a w:=
 J6 hi (Region.noSelect_spec hs) hl wD hQ n listed a w (Region.free_spec hi hf) (λj hj=>by
  have:=aI7.1 OG j (aR8.2 (hlt j hj));rw[hj]at this
  simpa using this) (by simpa using hr) hy hS h
theorem mI{K:Act->World->Prop}{Q1 Q2:Exit->Act->World->Prop}(hp:∀c a w,¬Q1 (.panic c) a w)(hl:¬LetsOut Q1)(h:o.wp P a w K Q1):o.wp P a w K Q2:=by
 unfold Oper.wp at *;generalize(execOp a.eval o).run P w=r at *;cases r with
 |ok x w'=>
  cases x<;>simp only[Oper.upon]at h |-
  case value=>exact h
  case skip=>exact h
  case defer=>exact h
  case enter=>exact Calls.mono h λe w'' he=>(by cases e<;>first|exact he|exact absurd he (hp _ _ _)|exact absurd he hl)
  case row=>exact h
 |halt x w'=>
  cases x<;>simp only[Oper.upon]at h |-
  case panic=>exact absurd h (hp _ _ _)
def oc(hr:Region.ready md ops listed=[k])(hi:ops[k]? = some o)(hw:Region.wanted o (yielded ops a.tmps)=true)(h:∀Q2:Exit->Act->World->Prop,(∀a' w',(late k=false->S w')->fe P md ops Q late S n (listed.setIfInBounds k true) a' w'->Q2 .normal a' w')->wpList P ops Q2 [o] a w):fe P md ops Q late S (n+1) listed a w:=by
 refine⟨λh0=>(by rw[hr]at h0;cases h0),λj hj=>?_⟩;rw[hr,aD8]at hj;subst hj;have h1:=h (λe a' w'=>match e with|.normal=>(late j=false->S w')/\fe P md ops Q late S n (listed.setIfInBounds j true) a' w'|e=>False) (λa' w' h1 h2=>⟨h1,h2⟩);unfold wpList at h1;simp only[hw,if_true]at h1;unfold wpOp;simp only[hi,hw,if_true];rcases h1 with h1|h1
 ·exact .inl (mI (λ_ _ _ h=>h) (λ⟨_,_,h⟩=>h) h1)
 ·exact absurd h1.2 (λ⟨_,_,h⟩=>h)
def FN{i j:Nat}{oj:Oper}(hr:Region.ready md ops listed=[i,j])(hi:ops[i]? = some oi)(hwi:Region.wanted oi (yielded ops a.tmps)=true)(hj:ops[j]? = some oj)(hwj:Region.wanted oj (yielded ops a.tmps)=true)(h1:∀Q2:Exit->Act->World->Prop,(∀a' w',(late i=false->S w')->fe P md ops Q late S n (listed.setIfInBounds i true) a' w'->Q2 .normal a' w')->wpList P ops Q2 [oi] a w)(h2:∀Q2:Exit->Act->World->Prop,(∀a' w',(late j=false->S w')->fe P md ops Q late S n (listed.setIfInBounds j true) a' w'->Q2 .normal a' w')->wpList P ops Q2 [oj] a w):fe P md ops Q late S (n+1) listed a w:=by
 have step:∀(k:Nat)(o:Oper),ops[k]? = some o->Region.wanted o (yielded ops a.tmps)=true->
  (∀Q2:Exit->Act->World->Prop,(∀a' w',(late k=false->S w')->fe P md ops Q late S n (listed.setIfInBounds k true) a' w'->Q2 .normal a' w')->wpList P ops Q2 [o] a w)->
  wpOp P ops Q k (λa' w'=>(late k=false->S w')/\fe P md ops Q late S n (listed.setIfInBounds k true) a' w') a w:=by
  intro k o hk hw h;have h1:=h (λe a' w'=>match e with|.normal=>(late k=false->S w')/\fe P md ops Q late S n (listed.setIfInBounds k true) a' w'|e=>False) (λa' w' h1 h2=>⟨h1,h2⟩);unfold wpList at h1;simp only[hw,if_true]at h1;unfold wpOp;simp only[hk,hw,if_true];rcases h1 with h1|h1
  ·exact .inl (mI (λ_ _ _ h=>h) (λ⟨_,_,h⟩=>h) h1)
  ·exact absurd h1.2 (λ⟨_,_,h⟩=>h)
 refine⟨λh0=>(by rw[hr]at h0;cases h0),λk hk=>?_⟩;rw[hr]at hk;simp only[aE6,aU0,or_false]at hk;rcases hk with rfl|rfl
 ·exact step _ _ hi hwi h1
 ·exact step _ _ hj hwj h2
def dp{W1:World}(S:Below B W W1)(cs:Array Value)(t:TypeId): ∃g,W1.heap.size=g/\ai (W1.alloc (.cells cs t)) g t cs/\W.heap.size<=g:=⟨_,rfl,ai.new _ _ _,S.size⟩
theorem eQ(hr:Region.ready md ops listed=[])(h:Q .normal a w): ∀n,fe P md ops Q late S n listed a w
 |0=>⟨hr,h⟩
 |_+1=>⟨λ_=>h,λj hj=>(by rw[hr]at hj;cases hj)⟩
theorem aq{late:Nat->Bool}{S:World->Prop} : ∀(n:Nat)(listed:Array Bool)(a:Act)(w:World),(List.range ops.size).all (λj=>listed.getD j true||late j)=true->wpAny P md ops Q n listed a w->fe P md ops Q late S n listed a w
 |0,_,_,_,_,h=>h
 |n+1,listed,a,w,hl,h=>⟨h.1,λj hj=>by
  have hju:=(mem_ready.1 hj).1;obtain⟨o,ho,_⟩:=(mem_ready.1 hj).2;have xi:=aI7.1 hl j (aR8.2 (aF4.1 ho).1);rw[hju,Bool.false_or]at xi;refine wpOp_mono (λa' w' h'=>⟨λhf=>(by rw[xi]at hf;cases hf),aq n _ a' w' ?_ h'⟩) (h.2 j hj);refine aI7.2 λk hk=>?_
  by_cases hjk:j=k
  ·subst hjk;rw[xi,Bool.or_true]
  ·rw[getD_set_ne true hjk];exact aI7.1 hl k hk⟩
def XF(hr:Region.ready md ops listed=[k])(hi:ops[k]? = some o)(hw:Region.wanted o (yielded ops a.tmps)=true)(h:∀Q2:Exit->Act->World->Prop,(∀a' w',wpAny P md ops Q n (listed.setIfInBounds k true) a' w'->Q2 .normal a' w')->wpList P ops Q2 [o] a w):wpAny P md ops Q (n+1) listed a w:=by
 refine wpAny_all hr (by simp) λj hj=>?_
 rw[aD8]at hj;subst hj;have h1:=h (λe a' w'=>match e with|.normal=>wpAny P md ops Q n (listed.setIfInBounds j true) a' w'|e=>False) (λa' w' h1=>h1);unfold wpList at h1;simp only[hw,if_true]at h1;unfold wpOp;simp only[hi,hw,if_true];rcases h1 with h1|h1
 ·exact .inl (mI (λ_ _ _ h=>h) (λ⟨_,_,h⟩=>h) h1)
 ·exact absurd h1.2 (λ⟨_,_,h⟩=>h)
end
end
def og(w:World)(g:Nat)(t ty:TypeId)(cs:Array Value)(d:TypeDesc)(hg:ai w g t cs)(hu:P.underlying ty=some d)(hd:(match d with|.struct _|.array _ _=>true|_=>false)=true)(hi:(P.info? ty).map (·.size)=some cs.size):
 (Instr.loadAt ty (.pointer (some ⟨g,0,none⟩))).run P w=.ok (.agg cs) w:=by
 simp only[Instr.loadAt,Instr.sureAddr,Sem.run_bind,Sem.run_pure,Result.andThen_ok,run_loadVar_row w g t ty cs (0,0) d hg hu hd hi]
def aF{x:Operand}{p:Value}(ho:o.op=.load ty x)(hx:a.eval x=p)(h:(Instr.loadAt ty p).run P w=.ok v w):(execOp a.eval o).run P w=.ok (.value v) w:=by
 unfold execOp;simp only[ho,hx,Sem.run_bind,h,Result.andThen_ok,Sem.run_pure]
section
section
variable{P:Program}{ops:Array Oper}{Q:Exit->Act->World->Prop}{md:Region.Mode}
def pk(md:Region.Mode)(ops:Array Oper)(late:Nat->Bool):List Nat->Array Bool->Bool
 |[],_=>true
 |i::is,listed=>(Region.free md ops listed i&&(Region.ready md ops listed).contains i&&J5 md ops i late && !late i&&(List.range ops.size).all (λj=>!late j || !listed.getD j false))&&pk md ops late is (listed.setIfInBounds i true)
def marked:List Nat->Array Bool->Array Bool
 |[],l=>l
 |i::is,l=>marked is (l.setIfInBounds i true)
def behind(ops:Array Oper):List Nat->List Value->Act->Act
 |i::is,v::vs,a=>match ops[i]? with
  |some o=>behind ops is vs (a.put o.dst v)
  |none=>a
 |_,_,a=>a
def Ys(P:Program)(ops:Array Oper)(S:World->Prop):List Nat->List Value->Act->Prop
 |[],[],_=>True
 |i::is,v::vs,a=>∃o,ops[i]? = some o/\YieldsIf P ops S o v a/\Ys P ops S is vs (a.put o.dst v)
 |_,_,_=>False
def Ys.nil: Ys P ops S [] [] a:=trivial
def Ys.cons{i:Nat}(ho:ops[i]? = some o)(hy:YieldsIf P ops S o v a)(h:Ys P ops S is vs (a.put o.dst v)):Ys P ops S (i::is) (v::vs) a:=⟨o,ho,hy,h⟩
theorem kY{late:Nat->Bool}{S:World->Prop}(hs:Region.noSelect ops=true)(hlt:∀j,late j=true->j<ops.size)(hQ:∀c a d v w,Q (.panic c) (Act.put a (some d) v) w->Q (.panic c) a w)(m:Nat){w:World}(hS:S w) :
 ∀(is:List Nat)(vs:List Value)(listed:Array Bool)(a:Act),pk md ops late is listed=true->Ys P ops S is vs a->
  fe P md ops Q late S m (marked is listed) (behind ops is vs a) w->fe P md ops Q late S (m+is.length) listed a w
 |[],[],listed,a,_,_,h=>h
 |i::is,v::vs,listed,a,a8,hy,h=>by
  obtain⟨o,ho,hy1,hy2⟩:=hy;simp only[pk,aF5]at a8;obtain⟨⟨⟨⟨⟨h1,h2⟩,h3⟩,h4⟩,h5⟩,h6⟩:=a8;rw[aC4,<-aD9];refine gi ho hs h1 h2 h3 (by simpa using h4) h5 hlt (λc a w hh=>by
   cases hd:o.dst with
   |none=>rw[hd]at hh;exact hh
   |some d=>rw[hd]at hh;exact hQ c a d _ w hh) hy1 hS ?_
  refine kY hs hlt hQ m hS is vs _ _ h6 hy2 ?_;simp only[marked,behind,ho]at h;exact h
 |[],_::_,_,_,_,hy,_=>hy.elim
 |_::_,[],_,_,_,hy,_=>hy.elim
def ig{m:Nat}{aN0:Array Bool}(hs:Region.noSelect ops=true)(hlt:∀j,late j=true->j<ops.size)(a8:pk md ops late is listed=true)(hQ:∀c a d v w,Q (.panic c) (Act.put a (some d) v) w->Q (.panic c) a w)(hy:Ys P ops S is vs a)(hS:S w)(hl:marked is listed=aN0)(ha:behind ops is vs a=a2)(h:fe P md ops Q late S m aN0 a2 w):fe P md ops Q late S (m+is.length) listed a w:=by
 subst hl ha;exact kY hs hlt hQ m hS is vs listed a a8 hy h
end
end
section
section
variable{P:Program}{ops:Array Oper}{Q:Exit->Act->World->Prop}{md:Region.Mode}
theorem zp(h1:Region.wanted o (yielded ops a.tmps)=true:=by rfl)(h2:∀w,S w->(execOp a.eval o).run P w=.ok (.value v) w:=by intro W1 hW1;first|rfl|(go_simp;done)|(go_simp;with_reducible rfl)|(go_simp;intros;omega)|kernel_rfl):YieldsIf P ops S o v a:=.inl ⟨h1,h2⟩
theorem zFF(h2:∀w,S w->(execOp a.eval o).run P w=.ok (.value v) w:=by intro W1 hW1;first|(go_simp;done)|(go_simp;intros;omega))(h1:Region.wanted o (yielded ops a.tmps)=true:=by rfl):YieldsIf P ops S o v a:=.inl ⟨h1,h2⟩
theorem zPP(h1:Region.wanted o (yielded ops a.tmps)=true:=by rfl)(h2:∀w,S w->(execOp a.eval o).run P w=.ok (.value v) w:=by intro W1 hW1;first|(go_simp;done)|(go_simp;with_reducible rfl)|(go_simp;intros;omega)|rfl|kernel_rfl):YieldsIf P ops S o v a:=.inl ⟨h1,h2⟩
def zl(h2:∀w,S w->(execOp a.eval o).run P w=.ok (.value v) w)(h1:Region.wanted o (yielded ops a.tmps)=true:=by rfl):YieldsIf P ops S o v a:=.inl ⟨h1,h2⟩
def zn(h1:Region.wanted o (yielded ops a.tmps)=false:=by rfl)(h2:v=undef:=by rfl):YieldsIf P ops S o v a:=.inr ⟨h1,h2⟩
def Yz(P:Program)(ops:Array Oper)(S:World->Prop):List Nat->List Tmp->List Value->Act->Prop
 |[],[],[],_=>True
 |i::is,d::ds,v::vs,a=>∃o,ops[i]? = some o/\o.dst=some d/\YieldsIf P ops S o v a/\Yz P ops S is ds vs (a.put (some d) v)
 |_,_,_,_=>False
def qz:List Tmp->List Value->Act->Act
 |d::ds,v::vs,a=>qz ds vs (a.put (some d) v)
 |_,_,a=>a
def Yz.nil: Yz P ops S [] [] [] a:=trivial
def Yz.c{i:Nat}(ho:ops[i]? = some o)(hd:o.dst=some d)(hy:YieldsIf P ops S o v a)(h:Yz P ops S is ds vs (a.put (some d) v)):Yz P ops S (i::is) (d::ds) (v::vs) a:=⟨o,ho,hd,hy,h⟩
theorem Yz.ys: ∀{is:List Nat} {ds:List Tmp} {vs:List Value} {a:Act},Yz P ops S is ds vs a->Ys P ops S is vs a/\behind ops is vs a=qz ds vs a
 |[],[],[],_,_=>⟨trivial,rfl⟩
 |i::is,d::ds,v::vs,a,h=>by
  obtain⟨o,ho,hd,hy,h⟩:=h
  rw[<-hd]at h
  exact⟨⟨o,ho,hy,(Yz.ys h).1⟩,by simp only[behind,ho,qz];rw[<-hd];exact(Yz.ys h).2⟩
def zk(m:Nat)(is:List Nat)(vs:List Value)(hy:Yz P ops S is ds vs a)(hS:S w)(h:fe P md ops Q late S m (marked is listed) a2 w)(ha:qz ds vs a=a2:=by simp only[qz,Act.put,List.setIfInBounds_toArray,aU1,aW1];rfl)(hs:Region.noSelect ops=true:=by kernel_rfl)(hlt:∀j,late j=true->j<ops.size:=by intro j hj;first|(simp at hj;done)|(simp at hj;simp;omega))(a8:pk md ops late is listed=true:=by kernel_rfl)(hQ:∀c a d v w,Q (.panic c) (Act.put a (some d) v) w->Q (.panic c) a w:=by exact λ_ _ _ _ _ h=>h):fe P md ops Q late S (m+is.length) listed a w:=by
 subst ha
 rw[<-hy.ys.2]at h
 exact kY hs hlt hQ m hS is vs listed a a8 hy.ys.1 h
def zq(m:Nat)(is:List Nat)(vs:List Value)(hS:S w)(h:fe P md ops Q late S m (marked is listed) a2 w)(hy:Yz P ops S is ds vs a:=by first|exact Yz.c rfl rfl zp<|Yz.c rfl rfl zp<|Yz.c rfl rfl zp<|Yz.c rfl rfl zp<|Yz.c rfl rfl zp Yz.nil|exact Yz.c rfl rfl zp Yz.nil|exact Yz.c rfl rfl zp<|Yz.c rfl rfl zp Yz.nil|exact Yz.c rfl rfl zp<|Yz.c rfl rfl zp<|Yz.c rfl rfl zp Yz.nil|exact Yz.c rfl rfl zp<|Yz.c rfl rfl zp<|Yz.c rfl rfl zp<|Yz.c rfl rfl zp Yz.nil|exact Yz.c rfl rfl zp<|Yz.c rfl rfl zp<|Yz.c rfl rfl zp<|Yz.c rfl rfl zp<|Yz.c rfl rfl zp<|Yz.c rfl rfl zp Yz.nil|exact Yz.c rfl rfl zp<|Yz.c rfl rfl zp<|Yz.c rfl rfl zp<|Yz.c rfl rfl zp<|Yz.c rfl rfl zp<|Yz.c rfl rfl zp<|Yz.c rfl rfl zp Yz.nil|exact Yz.c rfl rfl zp<|Yz.c rfl rfl zp<|Yz.c rfl rfl zp<|Yz.c rfl rfl zp<|Yz.c rfl rfl zp<|Yz.c rfl rfl zp<|Yz.c rfl rfl zp<|Yz.c rfl rfl zp Yz.nil)(ha:qz ds vs a=a2:=by simp only[qz,Act.put,List.setIfInBounds_toArray,aU1,aW1];rfl)(hs:Region.noSelect ops=true:=by kernel_rfl)(hlt:∀j,late j=true->j<ops.size:=by intro j hj;first|(simp at hj;done)|(simp at hj;simp;omega))(a8:pk md ops late is listed=true:=by kernel_rfl)(hQ:∀c a d v w,Q (.panic c) (Act.put a (some d) v) w->Q (.panic c) a w:=by exact λ_ _ _ _ _ h=>h):fe P md ops Q late S (m+is.length) listed a w:=zk m is vs hy hS h ha hs hlt a8 hQ
def zo(k:Nat)(h:∀Q2:Exit->Act->World->Prop,(∀a' w',(late k=false->S w')->fe P md ops Q late S n (listed.setIfInBounds k true) a' w'->Q2 .normal a' w')->wpList P ops Q2 [o] a w)(hr:Region.ready md ops listed=[k]:=by kernel_rfl)(hi:ops[k]? = some o:=by exact rfl)(hw:Region.wanted o (yielded ops a.tmps)=true:=by rfl):fe P md ops Q late S (n+1) listed a w:=oc hr hi hw h
def zO(k:Nat)(h:∀Q2:Exit->Act->World->Prop,(∀a' w',wpAny P md ops Q n (listed.setIfInBounds k true) a' w'->Q2 .normal a' w')->wpList P ops Q2 [o] a w)(hr:Region.ready md ops listed=[k]:=by kernel_rfl)(hi:ops[k]? = some o:=by exact rfl)(hw:Region.wanted o (yielded ops a.tmps)=true:=by rfl):wpAny P md ops Q (n+1) listed a w:=XF hr hi hw h
def zr{id:Nat}(late:Nat->Bool)(S:World->Prop)(h:fe P .any ops Q late S ops.size (Array.replicate ops.size false) a w.drew)(hm:P.follows .mixedOrders=true:=by kernel_rfl):(Code.region id ops true).wp P Q a w:=wp_region_any hm (iF _ _ _ _ h)
def zb{x:Operand}{d:TypeDesc}(hg:ai w g t cs)(hu:P.underlying ty=some d)(ho:o.op=.load ty x:=by rfl)(hx:a.eval x=.pointer (some ⟨g,0,none⟩):=by rfl)(hd:(match d with|.struct _|.array _ _=>true|_=>false)=true:=by rfl)(hi:(P.info? ty).map (·.size)=some cs.size:=by first|kernel_rfl|exact Si _):(execOp a.eval o).run P w=.ok (.value (.agg cs)) w:=aF ho hx (og _ _ _ _ _ _ hg hu (by cases d<;>first|rfl|simp at hd) hi)
end
end
section
section
variable{P:Program}{ops:Array Oper}{Q:Exit->Act->World->Prop}{md:Region.Mode}
def Zy(P:Program)(ops:Array Oper)(S:World->Prop)(i:Nat)(d:Tmp)(v:Value)(a:Act):Prop:=∃o,ops[i]? = some o/\o.dst=some d/\YieldsIf P ops S o v a
def zX{i:Nat}(ho:ops[i]? = some o:=by exact rfl)(hd:o.dst=some d:=by exact rfl)(hy:YieldsIf P ops S o v a:=by exact zp):Zy P ops S i d v a:=⟨o,ho,hd,hy⟩
def zK{i:Nat}(ho:ops[i]? = some o:=by exact rfl)(hd:o.dst=some d:=by exact rfl)(hy:YieldsIf P ops S o v a:=by exact zPP):Zy P ops S i d v a:=⟨o,ho,hd,hy⟩
def zw{i:Nat}(ho:ops[i]? = some o:=by exact rfl)(hd:o.dst=some d:=by exact rfl)(hy:YieldsIf P ops S o v a:=by exact zn):Zy P ops S i d v a:=⟨o,ho,hd,hy⟩
theorem zS{C:World->Prop}{i:Nat}(hh:∀w,S w->C w)(ho:ops[i]? = some o:=by exact rfl)(hd:o.dst=some d:=by exact rfl)(hw:Region.wanted o (yielded ops a.tmps)=true:=by rfl)(hk:∀w,C w->(execOp a.eval o).run P w=.ok (.value v) w:=by intro _ _;go_simp):Zy P ops S i d v a:=⟨o,ho,hd,zl (λw h=>hk w (hh w h)) hw⟩
def Yz.q{i:Nat}(hx:Zy P ops S i d v a)(h:Yz P ops S is ds vs (a.put (some d) v)):Yz P ops S (i::is) (d::ds) (v::vs) a:=let ⟨_,h1,h2,h3⟩:=hx;.c h1 h2 h3 h
def Yz.e{i:Nat}(ho:ops[i]? = some o:=by exact rfl)(hd:o.dst=some d:=by exact rfl)(hy:YieldsIf P ops S o v a:=by exact zp):Yz P ops S [i] [d] [v] a:=.c ho hd hy .nil
def Yz.f{i:Nat}(ho:ops[i]? = some o:=by exact rfl)(hd:o.dst=some d:=by exact rfl)(hy:YieldsIf P ops S o v a:=by exact zPP):Yz P ops S [i] [d] [v] a:=.c ho hd hy .nil
def Qz(P:Program)(md:Region.Mode)(ops:Array Oper)(Q:Exit->Act->World->Prop)(late:Nat->Bool)(S:World->Prop)(k n:Nat)(listed:Array Bool)(e:Exit)(a:Act)(w:World):Prop:=e=.normal/\(late k=false->S w)/\fe P md ops Q late S n (listed.setIfInBounds k true) a w
def Qz.i(h1:S w)(h2:fe P md ops Q late S n (listed.setIfInBounds k true) a w):Qz P md ops Q late S k n listed .normal a w:=⟨rfl,λ_=>h1,h2⟩
def zs(h:wpList P ops (Qz P md ops Q late S k n listed) [o] a w)(hi:ops[k]? = some o)(hw:Region.wanted o (yielded ops a.tmps)=true):wpOp P ops Q k (λa' w'=>(late k=false->S w')/\fe P md ops Q late S n (listed.setIfInBounds k true) a' w') a w:=by
 unfold wpList at h
 simp only[hw,if_true]at h
 unfold wpOp
 simp only[hi,hw,if_true]
 rcases h with h|h
 ·refine .inl (mI (Q1:=Qz P md ops Q late S k n listed) (λ_ _ _ h=>by cases h.1) ?_ ?_)
  ·rintro⟨_,_,h⟩;cases h.1
  ·exact(Oper.wp_mono (λa' w' h'=>h'.2) h)
 ·exact absurd h.2 (λ⟨_,_,h⟩=>by cases h.1)
def zQ(k:Nat)(h:wpList P ops (Qz P md ops Q late S k n listed) [o] a w)(hr:Region.ready md ops listed=[k]:=by kernel_rfl)(hi:ops[k]? = some o:=by exact rfl)(hw:Region.wanted o (yielded ops a.tmps)=true:=by rfl):fe P md ops Q late S (n+1) listed a w:=by
 refine⟨λh0=>(by rw[hr]at h0;cases h0),λj hj=>?_⟩
 rw[hr,aD8]at hj;subst hj
 exact zs h hi hw
def zY(i j:Nat){oj:Oper}(h1:wpList P ops (Qz P md ops Q late S i n listed) [oi] a w)(h2:wpList P ops (Qz P md ops Q late S j n listed) [oj] a w)(hr:Region.ready md ops listed=[i,j]:=by kernel_rfl)(hi:ops[i]? = some oi:=by exact rfl)(hwi:Region.wanted oi (yielded ops a.tmps)=true:=by rfl)(hj:ops[j]? = some oj:=by exact rfl)(hwj:Region.wanted oj (yielded ops a.tmps)=true:=by rfl):fe P md ops Q late S (n+1) listed a w:=by
 refine⟨λh0=>(by rw[hr]at h0;cases h0),λk hk=>?_⟩
 rw[hr,aE6,aD8]at hk
 rcases hk with rfl|rfl
 ·exact zs h1 hi hwi
 ·exact zs h2 hj hwj
def zd(h:Q .normal a w)(hr:Region.ready md ops listed=[]:=by kernel_rfl):fe P md ops Q late S n listed a w:=eQ hr h n
def zT{w2:World}(h1:Below w.heap.size w w1)(h2:Below w1.heap.size w1 w2):Below w.heap.size w w2:=h1.trans (h2.mono h1.size)
def zW(w:World)(b:Obj):Below w.heap.size w (w.alloc b):=(Below.refl w.heap.size w).alloc (aC2 _) b
def zB{id:Nat}(h:Below w.heap.size w w.drew->fe P .any ops Q (λ_=>false) (λwS=>Below w.heap.size w wS) ops.size (Array.replicate ops.size false) a w.drew)(hm:P.follows .mixedOrders=true:=by kernel_rfl):(Code.region id ops true).wp P Q a w:=zr _ _ (h (Below.refl w.heap.size w).drew) hm
end
end
theorem FM(g:Nat)(cb:Array Value)(n K:Nat)(w:World)(eg:∀args w,(callFunc g args).run prog w=.ok (.enter g args) w)(hn:n<=1000000)(hK:K<=n)
 (hf:∀(W:World)(i:Nat),Bl w W->i<n->Calls prog g (#[I6 i]++cb) W (Rt (.bool (decide (K<=i))) (Bl W))) :
 Calls prog 273 #[I6 n,.func (.func g) #[] cb] w (Rt (I6 K) (Bl w)):=by
 have HF:=hf;clear hf;go_enter func273,ntmps273;go_wp2;go_loopw[5,6] (λs5 s6 wr=>∃(lo hi:Nat),s5 = I6 lo/\s6 = I6 hi/\lo<=K/\K<=hi/\hi<=n/\Bl w wr) (λs5 s6 _=>(intOf s6-intOf s5).toNat)
 case atStart=>exact⟨0,n,rfl,rfl,aB6 _,hK,aC2 _,Below.refl _ _⟩
 case round=>
  obtain⟨lo,hi,rfl,rfl,h1,h2,h3,aT⟩:=hrel;have HB:=aT;clear aT
  by_cases hlt:lo<hi
  ·have hc:=HF wr ((lo+hi) / 2) HB oM
   rw[show(((lo+hi) / 2:Nat):Int)=((lo:Int)+(hi:Int)) / 2 by omega]at hc
   by_cases hp:K<=(lo+hi) / 2
   ·rw[decide_eq_true hp]at hc
    have HC:=hc;clear hc;go_wp2_with(go_at_fn g;refine HC.mono ?_;rintro e w' ⟨rfl,hb1⟩;have Xf:=zT HB hb1;clear hb1);go_roundw
    case rel=>exact⟨lo,(lo+hi) / 2,rfl,by rw[show((lo:Int)+(hi:Int)) / 2=(((lo+hi) / 2:Nat):Int) by omega],h1,hp,oM,Xf⟩
    case measure=>simp[intOf];omega
   ·rw[decide_eq_false hp]at hc
    have HC:=hc;clear hc;go_wp2_with(go_at_fn g;refine HC.mono ?_;rintro e w' ⟨rfl,hb1⟩;have Xf:=zT HB hb1;clear hb1);go_roundw
    case rel=>exact⟨(lo+hi) / 2+1,hi,by rw[show((lo:Int)+(hi:Int)) / 2+1=(((lo+hi) / 2+1:Nat):Int) by omega],rfl,oM,h2,h3,Xf⟩
    case measure=>simp[intOf];omega
  ·obtain rfl:K=lo:=oM
   go_wp2;go_ret;exact⟨rfl,HB⟩
section
open Go.RowKit Go.Maps
structure mK(P:Program)(k:TypeId)(α:Type) where
 kd:Keyed P k
 v:α->Value
 l:α->Lit
 good:α->Prop
 ok:∀{x:α},good x->keyOf P k (v x)=some (l x)
 inv:∀{u:Value} {y:Lit},keyOf P k u=some y->∃x,good x/\u=v x/\y=l x
 inj:∀{x y:α},good x->good y->l x=l y->x=y
def mK.isKey{P:Program}{k:TypeId}{α:Type}(E:mK P k α){x:α}(h:E.good x):WideAt.IsKeyLit (E.l x):=E.kd.key (E.ok h)
def tH(v:Value):Option (DataW Value×List MemPlace):=some (.held v,[])
def nv{α:Type}(g:α->Prop)(L:α->Lit)(D:DataW Value)(f:α->Option Value)(ks:List α):Prop:=
 Maps.size D=ks.length/\ks.Nodup/\(∀x,x∈ks↔(f x).isSome=true)/\(∀x,g x->f x=none->Maps.has D (L x)=false)/\(∀x v,f x=some v->∀z,D.atKey (L x) z=.held v)/\∀x∈ks,g x
def bP{α:Type}{P:Program}{k:TypeId}(E:mK P k α)(w:World)(b:Nat)(f:α->Option Value)(ks:List α):Prop:=
 ∃D:DataW Value,w.ownsMap P k tH b ks.length D/\nv E.good E.l D f ks
def xy{H:Type}{P:Program}{k:TypeId}{R:Value->Option (DataW H×List MemPlace)}{w:World}{b:Nat}{D:DataW H}(h:w.ownsMap P k R b n D):w.ownsMap P k R b (Maps.size D) D:=by
 obtain⟨es,clock,hb,F,hs,rfl⟩:=h;exact⟨es,clock,hb,F,by show es.size<=List.length _;rw[length_sorted];simp,rfl⟩
section
variable{α:Type}{P:Program}{k:TypeId}{E:mK P k α}{w w' : World}{b:Nat}{f:α->Option Value}{ks:List α}
def bP.made(E:mK P k α)(w:World):bP E (w.alloc (.map #[] 0)) w.heap.size (λ_=>none) []:=
 ⟨.map [],World.ownsMap_made w P k tH,rfl,aV7,sI,λ_ _ _=>rfl,(λx v h=>by cases h),λx h=>by simp at h⟩
def bP.lt(h:bP E w b f ks):b<w.heap.size:=by obtain⟨D,h,_⟩:=h;exact h.lt
def bP.nodup(h:bP E w b f ks):ks.Nodup:=by obtain⟨D,_,h⟩:=h;exact h.2.1
def bP.mem(h:bP E w b f ks)(x:α):x∈ks↔(f x).isSome=true:=by obtain⟨D,_,h⟩:=h;exact h.2.2.1 x
def bP.good(h:bP E w b f ks):∀x∈ks,E.good x:=by obtain⟨D,_,h⟩:=h;exact h.2.2.2.2.2
def bP.grown(h:bP E w b f ks)(hg:w.grownBy w' row)(hne:some b≠row):bP E w' b f ks:=by
 obtain⟨D,h1,h2⟩:=h;exact⟨D,h1.kept hg hne,h2⟩
def bP.block(h:bP E w b f ks)(hb:w'.heap[b]? = w.heap[b]?):bP E w' b f ks:=by
 obtain⟨D,⟨es,clock,h1,h2⟩,h3⟩:=h;exact⟨D,⟨es,clock,hb.trans h1,h2⟩,h3⟩
def bP.below(h:bP E w b f ks)(hb:Below B w w')(hB:b<B):bP E w' b f ks:=h.block (hb.block b hB)
def bP.call(h:bP E w b f ks)(hb:Bl w w'):bP E w' b f ks:=h.below hb h.lt
def bP.alloc(h:bP E w b f ks)(o:Obj):bP E (w.alloc o) b f ks:=h.grown (World.grownBy_alloc w o none) sI
def bP.far(h:bP E w b f ks){p:Addr}(hp:b≠p.block)(u:Value):bP E (w.setCell p u) b f ks:=h.block (Below.heap_setCell w p u b hp)
def bP.tI(h:bP E w b f ks){f' : α->Option Value}{ks' : List α}(hf:f=f')(hk:ks=ks'):bP E w b f' ks':=by subst hf;subst hk;exact h
def bP.len_(h:bP E w b f ks){e:TypeId}(ht:P.underlying t=some (.map k e))(ty:TypeId):(Builtin.len_ #[t] ty #[.map (some b)]).run P w=.ok (I6 (ks.length:Int)) w:=by
 obtain⟨D,h1,h2,_⟩:=h;rw[<-h2];exact h1.len ht ty
theorem bP.look(h:bP E w b f ks){e:TypeId}(ht:P.underlying t=some (.map k e)){z:Value}(hz:(zeroValue e).run P w=.ok z w){x:α}(hx:E.good x):
 (Instr.lookup t (.map (some b)) (E.v x) false).run P w=.ok ((f x).getD z) w:=by
 obtain⟨D,h1,_,_,_,h3,h4,_⟩:=h;obtain⟨v,ps,hrun,hv⟩:=h1.lookup E.kd ht hz (zd:=.held z) (zp:=[]) rfl (E.ok hx);rw[hrun];have e:DataW.held v=D.atKey (E.l x) (.held z):=by
  unfold tH at hv;injection hv with hv
  exact congrArg Prod.fst hv
 cases hf:f x with
 |none=>rw[atKey_of_not_has (h3 x hx hf)]at e;injection e with e;rw[e];rfl
 |some u=>rw[h4 x u hf]at e;injection e with e;rw[e];rfl
theorem bP.look_ok(h:bP E w b f ks){e:TypeId}(ht:P.underlying t=some (.map k e)){z:Value}(hz:(zeroValue e).run P w=.ok z w){x:α}(hx:E.good x):
 (Instr.lookup t (.map (some b)) (E.v x) true).run P w=.ok (.tuple #[(f x).getD z,.bool (f x).isSome]) w:=by
 obtain⟨D,h1,_,_,_,h3,h4,_⟩:=h;obtain⟨v,ps,hrun,hv⟩:=h1.look_ok E.kd ht hz (zd:=.held z) (zp:=[]) rfl (E.ok hx);rw[hrun];have e:DataW.held v=D.atKey (E.l x) (.held z):=by
  unfold tH at hv;injection hv with hv
  exact congrArg Prod.fst hv
 cases hf:f x with
 |none=>rw[atKey_of_not_has (h3 x hx hf)]at e;injection e with e;rw[e,h3 x hx hf];rfl
 |some u=>rw[h4 x u hf]at e;injection e with e;rw[e,has_true_of_atKey (h4 x u hf)];rfl
end
section
variable{α:Type}[DecidableEq α]{P:Program}{k:TypeId}{E:mK P k α}{w w' : World}{b:Nat}{f:α->Option Value}{ks:List α}
def cE(ks:List α)(x:α):List α:=if x∈ks then ks else ks++[x]
def lg(f:α->Option Value)(x:α)(v:Value):α->Option Value:=λy=>if y=x then some v else f y
def J9(f:α->Option Value)(x:α):α->Option Value:=λy=>if y=x then none else f y
def ee(ks:List α)(x y:α):y∈cE ks x↔y∈ks\/y=x:=by
 unfold cE
 split
 ·constructor
  ·exact .inl
  ·rintro(h|rfl)<;>assumption
 ·simp
def jG(ks:List α)(x:α):(cE ks x).length<=ks.length+1:=by unfold cE;split<;>simp
theorem nv.ae6{g:α->Prop}{L:α->Lit}(h:nv g L D f ks){x:α}(hx:g x):Maps.has D (L x)=decide (x∈ks):=by
 obtain⟨h1,h2,h3,h4,h5,h6⟩:=h;cases hf:f x with
 |none=>
  rw[h4 x hx hf];have:x ∉ ks:=λhm=>by have:=(h3 x).1 hm;rw[hf]at this;cases this
  simp[this]
 |some u=>
  rw[has_true_of_atKey (h5 x u hf)];have:x∈ks:=(h3 x).2 (by rw[hf];rfl);simp[this]
def nv.put{g:α->Prop}{L:α->Lit}(ae7:∀{x y:α},g x->g y->L x=L y->x=y)(hT:Maps.Tidy D)(h:nv g L D f ks)(x:α)(hg:g x)(hk:WideAt.IsKeyLit (L x))(v:Value):nv g L (D.put (L x) (.held v)) (lg f x v) (cE ks x):=by
 have hx:=h.ae6 hg;obtain⟨h1,h2,h3,h4,h5,h6⟩:=h;have hne:∀{y:α},g y->y≠x->L y≠L x:=λhy h e=>h (ae7 hy hg e)
 refine⟨?_,?_,λy=>?_,λy Ai hy=>?_,λy u hy z=>?_,λy hy=>?_⟩
 ·rw[size_put hT,hx,h1]
  unfold cE
  by_cases hm:x∈ks<;>simp[hm]
 ·unfold cE
  split
  ·exact h2
  ·rename_i hm
   exact aH5.2 ⟨h2,sI,by simp;exact λa ha e=>hm (e ▸ ha)⟩
 ·unfold lg cE
  by_cases e:y=x
  ·subst e
   by_cases hm:y∈ks<;>simp[hm]
  ·rw[if_neg e,<-h3 y]
   by_cases hm:x∈ks<;>simp[hm,e]
 ·unfold lg at hy
  by_cases e:y=x
  ·rw[if_pos e]at hy;cases hy
  ·rw[if_neg e]at hy
   rw[has_put_other (hne Ai e),h4 y Ai hy]
 ·unfold lg at hy
  by_cases e:y=x
  ·rw[if_pos e]at hy
   cases hy;subst e;exact atKey_put_same hT.isMap hk _ _
  ·rw[if_neg e]at hy
   rw[atKey_put_other (hne (h6 y ((h3 y).2 (by rw[hy];rfl))) e),h5 y u hy]
 ·rcases(ee ks x y).1 hy with hy|rfl
  ·exact h6 y hy
  ·exact hg
def nv.del{g:α->Prop}{L:α->Lit}(ae7:∀{x y:α},g x->g y->L x=L y->x=y)(hT:Maps.Tidy D)(h:nv g L D f ks)(x:α)(hg:g x):nv g L (D.del (L x)) (J9 f x) (ks.filter λy=>decide (y≠x)):=by
 have hx:=h.ae6 hg;obtain⟨h1,h2,h3,h4,h5,h6⟩:=h;have hne:∀{y:α},g y->y≠x->L y≠L x:=λhy h e=>h (ae7 hy hg e)
 refine⟨?_,h2.filter _,λy=>?_,λy Ai hy=>?_,λy u hy z=>?_,λy hy=>h6 y (aD5.1 hy).1⟩
 ·have e:=size_del (k:=L x) hT
  rw[h1,hx]at e
  by_cases hm:x∈ks
  ·simp[hm]at e
   have hl:(ks.filter λy=>decide (y≠x)).length+1=ks.length:=by
    have:=h2.erase_eq_filter x;have e2:(ks.filter λy=>decide (y≠x))=ks.erase x:=by
     rw[this];exact List.filter_congr λy _=>by by_cases e:y=x<;>simp[e]
    rw[e2,List.length_erase_of_mem hm];have:=List.length_pos_of_mem hm;omega
   omega
  ·simp[hm]at e
   rw[e,aS5.2];intro a ha;simp;exact λe=>hm (e ▸ ha)
 ·unfold J9
  by_cases e:y=x
  ·subst e;simp
  ·rw[if_neg e,<-h3 y];simp[e]
 ·unfold J9 at hy
  by_cases e:y=x
  ·subst e;exact has_del_same
  ·rw[if_neg e]at hy
   rw[has_del_other (hne Ai e),h4 y Ai hy]
 ·unfold J9 at hy
  by_cases e:y=x
  ·rw[if_pos e]at hy;cases hy
  ·rw[if_neg e]at hy
   rw[atKey_del_other (hne (h6 y ((h3 y).2 (by rw[hy];rfl))) e),h5 y u hy]
def bP.put(h:bP E w b f ks){e:TypeId}(ht:P.underlying t=some (.map k e))(hn:ks.length<maxLen){x:α}(hx:E.good x)(v:Value):
 ∃w',(Instr.mapUpdate t (.map (some b)) (E.v x) v).run P w=.ok () w'/\bP E w' b (lg f x v) (cE ks x)/\w.grownBy w' (some b):=by
 obtain⟨D,h1,h2⟩:=h;obtain⟨w',r1,r2,r3⟩:=h1.update E.kd ht hn (E.ok hx) (d:=.held v) (ps:=[]) (val:=v) rfl;have hv:=h2.put E.inj (h1.tidy E.kd) x hx (E.isKey hx) v;exact⟨w',r1,⟨_,by have:=xy r2;rw[hv.1]at this;exact this,hv⟩,r3⟩
def bP.del(h:bP E w b f ks){e:TypeId}(ht:P.underlying t=some (.map k e)){x:α}(hx:E.good x)(ty:TypeId):
 ∃w',(Builtin.delete_ #[t,k] ty #[.map (some b),E.v x]).run P w=.ok (.tuple #[]) w'/\bP E w' b (J9 f x) (ks.filter λy=>decide (y≠x))/\w.grownBy w' (some b):=by
 obtain⟨D,h1,h2⟩:=h;obtain⟨w',r1,r2,r3⟩:=h1.drop E.kd ht (E.ok hx) ty;have hv:=h2.del E.inj (h1.tidy E.kd) x hx;exact⟨w',r1,⟨_,by have:=xy r2;rw[hv.1]at this;exact this,hv⟩,r3.grown⟩
end
section
variable{α:Type}{P:Program}{k:TypeId}(E:mK P k α)(w:World){ops:Array Oper}{rest:List Oper}{o:Oper}{a:Act}{Q:Exit->Act->World->Prop}
def ik(hg:o.guard=none)(m x:Operand)(t:TypeId)(hop:o.op=Op.lookup t m x false)(e:TypeId)(ht:P.underlying t=some (.map k e))(z:Value)(hz:(zeroValue e).run P w=.ok z w)
 (b:Nat) (f:α->Option Value) (ks:List α) (hm:a.eval m=.map (some b)) (h:bP E w b f ks) (y:α) (hx:a.eval x=E.v y) (hy:E.good y)
 (hK:wpList P ops Q rest (a.put o.dst ((f y).getD z)) w):wpList P ops Q (o::rest) a w:=by
 refine wpList_plain hg λK' hK'=>?_
 unfold Oper.wp;simp[execOp,hop,hm,hx,(h.look ht hz hy),Result.andThen];exact hK' _ _ hK
def bQ(hg:o.guard=none)(m x:Operand)(t:TypeId)(hop:o.op=Op.lookup t m x true)(e:TypeId)(ht:P.underlying t=some (.map k e))(z:Value)(hz:(zeroValue e).run P w=.ok z w)
 (b:Nat) (f:α->Option Value) (ks:List α) (hm:a.eval m=.map (some b)) (h:bP E w b f ks) (y:α) (hx:a.eval x=E.v y) (hy:E.good y)
 (hK:wpList P ops Q rest (a.put o.dst (.tuple #[(f y).getD z,.bool (f y).isSome])) w):wpList P ops Q (o::rest) a w:=by
 refine wpList_plain hg λK' hK'=>?_
 unfold Oper.wp;simp[execOp,hop,hm,hx,(h.look_ok ht hz hy),Result.andThen];exact hK' _ _ hK
def nw(hg:o.guard=none)(m:Operand)(t:TypeId)(hop:o.op=Op.call {callee:=Callee.builtin Builtin.len,args:=#[m],argTypes:=#[t]})(e:TypeId)(ht:P.underlying t=some (.map k e))
 (b:Nat) (f:α->Option Value) (ks:List α) (hm:a.eval m=.map (some b)) (h:bP E w b f ks)
 (hK:wpList P ops Q rest (a.put o.dst (I6 (ks.length:Int))) w):wpList P ops Q (o::rest) a w:=by
 refine wpList_plain hg λK' hK'=>?_
 unfold Oper.wp;simp[execOp,hop,resolve,invoke,builtin,hm,(h.len_ ht o.type),Result.andThen];exact hK' _ _ hK
variable[DecidableEq α]
def df(hg:o.guard=none)(m x v:Operand)(t:TypeId)(hop:o.op=Op.mapUpdate t m x v)(e:TypeId)(ht:P.underlying t=some (.map k e))
 (b:Nat) (f:α->Option Value) (ks:List α) (hm:a.eval m=.map (some b)) (h:bP E w b f ks) (hn:ks.length<maxLen) (y:α) (hx:a.eval x=E.v y) (hy:E.good y) (u:Value) (hv:a.eval v=u)
 (hK:∀w',bP E w' b (lg f y u) (cE ks y)->w.grownBy w' (some b)->wpList P ops Q rest (a.put o.dst undef) w'):wpList P ops Q (o::rest) a w:=by
 refine wpList_plain hg λK' hK'=>?_
 obtain⟨w',hrun,r1,r2⟩:=h.put ht hn hy u;unfold Oper.wp;simp[execOp,hop,hm,hx,hv,hrun,Result.andThen];exact hK' _ _ (hK w' r1 r2)
end
def lh{α:Type}{P:Program}{k:TypeId}(E:mK P k α)(w:World)(b r:Nat)(f:α->Option Value)(ks:List α)(lf:α->Bool)(cnt:Nat):Prop:=
 ∃(D:DataW Value)(left:Lit->Bool),w.ranges P k tH b r ks.length D left cnt/\nv E.good E.l D f ks/\(∀x,E.good x->lf x=left (E.l x))/\(∀x,lf x=true->x∈ks)
section
variable{α:Type}{P:Program}{k:TypeId}{E:mK P k α}{w w' : World}{b r:Nat}{f:α->Option Value}{ks:List α}{lf:α->Bool}{cnt:Nat}
def lh.left_eq(h:lh E w b r f ks lf cnt):w.rangeLeft b r=cnt:=by obtain⟨D,left,h1,_⟩:=h;exact h1.left_eq
def lh.kept(h:lh E w b r f ks lf cnt)(hg:w.grownBy w' row)(hb:some b≠row)(hr:some r≠row):lh E w' b r f ks lf cnt:=by
 obtain⟨D,left,h1,h2⟩:=h;exact⟨D,left,h1.kept hg hb hr,h2⟩
end
section
variable{α:Type}[DecidableEq α]{P:Program}{k:TypeId}(E:mK P k α)(w:World){ops:Array Oper}{rest:List Oper}{o:Oper}{a:Act}{Q:Exit->Act->World->Prop}
theorem rL(hg:o.guard=none)(m:Operand)(t:TypeId)(hop:o.op=Op.range t m)(e:TypeId)(ht:P.underlying t=some (.map k e))
 (b:Nat) (f:α->Option Value) (ks:List α) (hm:a.eval m=.map (some b)) (h:bP E w b f ks)
 (hK:∀w',lh E w' b w.heap.size f ks (λx=>decide (x∈ks)) ks.length->w.grownBy w' none->w'.heap.size=w.heap.size+1->wpList P ops Q rest (a.put o.dst (pt w.heap.size)) w') :
 wpList P ops Q (o::rest) a w:=by
 obtain⟨D,h1,h2⟩:=h;have h2':=h2;obtain⟨e1,e2,e3,e4,e5,e6⟩:=h2';refine wpList_range_own w hg m t hop k e E.kd ht tH b _ D hm h1 ?_;intro w' r1 r2 r3;refine hK w' ⟨D,_,by rw[e1]at r1;exact r1,h2,λx hgx=>?_,λx hx=>by simpa using hx⟩ r2 r3;cases hf:f x with
 |none=>
  rw[e4 x hgx hf];have:x ∉ ks:=λhm=>by have:=(e3 x).1 hm;rw[hf]at this;cases this
  simp[this]
 |some u=>
  rw[has_true_of_atKey (e5 x u hf)];have:x∈ks:=(e3 x).2 (by rw[hf];rfl);simp[this]
def tJ(hg:o.guard=none)(it:Operand)(hop:o.op=Op.next it false)(b r:Nat)(f:α->Option Value)(ks:List α)(lf:α->Bool)(cnt:Nat)
 (hit:a.eval it = pt r) (h:lh E w b r f ks lf cnt)
 (hDone:(∀x∈ks,lf x=false)->wpList P ops Q rest (a.put o.dst (.tuple #[.bool false])) w)
 (hMore:∀(x:α)(v:Value)(w' : World)(cnt' : Nat),E.good x->x∈ks->lf x=true->f x=some v->lh E w' b r f ks (λy=>lf y&&decide (y≠x)) cnt'->cnt' < cnt->w.grownBy w' (some r)->w'.heap.size=w.heap.size->
  (Instr.entry (pt r)).run P w'=.ok (.tuple #[E.v x,v]) w'->wpList P ops Q rest (a.put o.dst (.tuple #[.bool true,E.v x,v])) w') :
 wpList P ops Q (o::rest) a w:=by
 obtain⟨D,left,h1,h2,h3,h4⟩:=h;refine wpList_next_ranges w hg it hop k E.kd tH E.v (λv:Value=>v) (λkey kl hkey=>by obtain⟨x,_,rfl,_⟩:=E.inv hkey;exact⟨x,rfl⟩) (λv y _=>⟨v,rfl⟩) b r _ D left cnt hit h1 ?_ ?_
 ·intro _ hl
  exact hDone λx hx=>by rw[h3 x (h2.2.2.2.2.2 x hx)];exact hl _
 ·intro x v kl y w' cnt' hkey hlk hv hat hrg hlt hgr hsz hen
  obtain⟨x',hgx,ex,rfl⟩:=E.inv hkey;have hlx:lf x' = true:=by rw[h3 x' hgx];exact hlk
  have hm:=h4 x' hlx;have hfx:f x' = some v:=by
   obtain⟨u,hu⟩:=Option.isSome_iff_exists.1 ((h2.2.2.1 x').1 hm);have:=hat .nil;rw[h2.2.2.2.2.1 x' u hu]at this;unfold tH at hv;injection hv with hv
   rw[<-congrArg Prod.fst hv]at this;injection this with this
   rw[hu,this]
  rw[ex]at hen |-;refine hMore x' v w' cnt' hgx hm hlx hfx ⟨D,_,hrg,h2,λy hy=>?_,λy hy=>?_⟩ hlt hgr hsz hen
  ·simp only
   rw[h3 y hy]
   by_cases e:y=x'
   ·subst e;rw[WideAt.sameKey_self (E.isKey hgx)];simp
   ·rw[Maps.sameKey_ne (λh=>e (E.inj hy hgx h))];simp[e]
  ·simp at hy
   exact h4 y hy.1
end
end
def rQ(w:World)(b:Nat)(ns:List Nat):Prop:=∀(j n:Nat),ns[j]? = some n->w.cell? ⟨b,j,none⟩=some (.int .u8 (n:Int))
def rQ.below{b:Nat}{ns:List Nat}(h:rQ w b ns)(hb:Below B w w')(hB:b<B):rQ w' b ns:=
 λj n hj=>(hb.cell (p:=⟨b,j,none⟩) hB).trans (h j n hj)
def qa(w:World)(src e dst:TypeId)(hs:P.underlying src=some (.slice e))(he:P.underlying e=some (.int .u8))(hd:P.underlying dst=some .string)(b len cap:Nat)(ns:List Nat)(hlen:ns.length=len)(h:rQ w b ns):
 (convert src dst (.slice (some ⟨b,0,none⟩) len cap)).run P w=.ok (.string (strOfNums (ns.map λn:Nat=>(n:Int)))) w:=by
 refine run_convert_bytes_arg w src e hs he b 0 len cap _ (sH hlen) (λi hi=>?_) dst hd;have hx:ns[i]? = some (ns[i]'oM):=aB3 _;rw[aR9,h i _ hx];simp[List.getD,hx]
structure iM where
 kind:Int
 lock:Int
deriving DecidableEq
def l7(n:Nat)(k:Int):List iM:=(List.range n).map λ(i:Nat)=>⟨k,(i:Int)⟩
def jW(n:Nat)(k:Int):(l7 n k).length=n:=by simp[l7]
def PA(n:Nat)(k:Int):l7 (n+1) k=l7 n k++[⟨k,(n:Int)⟩]:=by simp[l7,List.range_succ]
def lI(k h:Int):List iM:=[⟨k,h⟩,⟨4,0⟩,⟨5,h⟩]
def gI(home:Int)(s:Nat)(kind:Int):List iM:=
 if kind=1\/kind=6 then lI 3 home++[⟨3,(s:Int)+1⟩,⟨6,0⟩,⟨5,(s:Int)+1⟩]
 else if kind=2 then l7 s 3++[⟨4,0⟩]++l7 s 5
 else if kind=3 then l7 s 2++lI 3 s++l7 s 5
 else if kind=4 then lI 3 s
 else if kind=5 then lI 2 s
 else if kind=7 then lI 2 home
 else lI 3 ((s:Int)+1)
def GG(home:Int)(s:Nat)(kind:Int):(gI home s kind).length<=2*s+6:=by
 unfold gI lI
 split
 ·simp
 split
 ·simp[jW];omega
 split
 ·simp[jW];omega
 split
 ·simp
 split
 ·simp
 split<;>simp
def ay(a n:Nat):List Int:=(List.range' a n).map λ(i:Nat)=>(i:Int)
def vR(ok:Bool)(err home:Int)(s:Nat)(kind:Int):List iM:=
 if ok then[⟨1,0⟩]++(if err=0 then gI home s kind else[])++[⟨7,0⟩]else[]
def Tt(ok:Bool)(err home:Int)(s:Nat)(kind:Int):(vR ok err home s kind).length<=2*s+8:=by
 unfold vR;have:=GG home s kind
 split
 ·split<;>simp<;>omega
 ·simp
end Go.Proofs.YtjgmjohiehbgaaaGreat
