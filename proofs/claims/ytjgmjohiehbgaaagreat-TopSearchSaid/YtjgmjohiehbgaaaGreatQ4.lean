/- Part 4. -/
import Derived.Test.YtjgmjohiehbgaaaGreatQ2
import Derived.Deep.Light
namespace Go.Proofs.YtjgmjohiehbgaaaGreat
open Go.RowKit Go.Proofs.Tryz
set_option maxHeartbeats 20000000
set_option maxRecDepth 100000
set_option linter.all false
variable{P:Program}{c cap g i k n off size:Nat}{e t:TypeId}{fp:Int->Option Nat}{l:List Nat}{s:ByteArray}{w:World}{x:Int}{α:Type}
open List (take_left)
open Nat (pow_mul pow_pos)
section
def aK{α:Type}(w:World)(base:Nat)(e:TypeId)(size:Nat)(cells:α->List Value)(v:Value)(l:List α):Prop:=
 (v=.slice none 0 0/\l=[])\/
  ∃g off cap cur,v=.slice (some ⟨g,off,none⟩) l.length cap/\base<=g/\w.heap[g]? = some (.cells cur e (0,0))/\l.length<=cap/\cap<=maxLen/\off+cap*size<=cur.size/\(cur.toList.drop off).take (l.length*size)=l.flatMap cells
section
variable{α:Type}{w w' : World}{base e size:Nat}{cells:α->List Value}{v:Value}{l:List α}
def aK.nil(w:World)(base e size:Nat)(cells:α->List Value):aK w base e size cells (.slice none 0 0) ([]:List α):=.inl ⟨rfl,rfl⟩
def aK.of(h:Own w base e size cells v l):aK w base e size cells v l:=by
 rcases h.2 with⟨rfl,h0⟩|⟨g,cap,cur,rfl,hb,hg,mF,hcm,hcs,EZ⟩
 ·exact .inl ⟨rfl,aC0 h0⟩
 ·exact .inr ⟨g,0,cap,cur,rfl,hb,hg,mF,hcm,oM,sH EZ⟩
def aK.lt(h:aK w base e size cells v l):∀k,v.ownBlock=some k->base<=k/\k<w.heap.size:=by
 intro k hk;rcases h with⟨rfl,_⟩|⟨g,off,cap,cur,rfl,hb,hg,_⟩
 ·simp[Value.ownBlock]at hk
 ·simp[Value.ownBlock]at hk
  subst hk;exact⟨hb,(aF4.1 hg).1⟩
def aK.block(h:aK w base e size cells v l)(hb:∀k,v.ownBlock=some k->w'.heap[k]? = w.heap[k]?):aK w' base e size cells v l:=by
 rcases h with hn|⟨g,off,cap,cur,rfl,hbg,hg,rest⟩
 ·exact .inl hn
 ·exact .inr ⟨g,off,cap,cur,rfl,hbg,(hb g rfl).trans hg,rest⟩
def aK.below{B:Nat}(h:aK w base e size cells v l)(hb:Below B w w')(hB:∀k,v.ownBlock=some k->k<B):aK w' base e size cells v l:=h.block λk hk=>hb.block k (hB k hk)
def aK.call(h:aK w base e size cells v l)(hb:Bl w w'):aK w' base e size cells v l:=h.below hb λk hk=>(h.lt k hk).2
def aK.alloc(h:aK w base e size cells v l)(o:Obj):aK (w.alloc o) base e size cells v l:=h.block λk hk=>Below.heap_alloc w o k (h.lt k hk).2
def aK.cD(h:aK w base e size cells v l)(n:Nat):aK (w.drewN n) base e size cells v l:=h
def aK.upd{S:Nat->Prop}(h:aK w base e size cells v l)(hu:ah S w w')(hne:∀k,v.ownBlock=some k->¬S k):aK w' base e size cells v l:=h.block λk hk=>hu.block k (h.lt k hk).2 (hne k hk)
def aK.far(h:aK w base e size cells v l){p:Addr}(hp:∀k,v.ownBlock=some k->k≠p.block)(u:Value):aK (w.setCell p u) base e size cells v l:=h.block λk hk=>Below.heap_setCell w p u k (hp k hk)
def aK.mono{base' : Nat}(h:aK w base e size cells v l)(hb:base'<=base):aK w base' e size cells v l:=by
 rcases h with hn|⟨g,off,cap,cur,rfl,hbg,rest⟩
 ·exact .inl hn
 ·exact .inr ⟨g,off,cap,cur,rfl,aB4 hb hbg,rest⟩
def aK.Dc(h:aK w base e size cells v l){a:Addr}(hv:v=.slice (some a) n c): ∀j u,(l.flatMap cells)[j]? = some u->w.cell? (a.add j)=some u:=by
 intro j u hu;rcases h with⟨rfl,_⟩|⟨g,off,cap,cur,rfl,_,hgg,_,_,_,eM⟩
 ·cases hv
 ·injection hv with e1
  injection e1 with e1
  subst e1;rw[Addr.add_lit,cell_of_row w g (off+j) cur e (0,0) hgg];rw[<-eM,aE4]at hu
  split at hu
  ·rw[aE5]at hu
   simpa using hu
  ·cases hu
def aK.shape(h:aK w base e size cells v l)(hsz:∀x,(cells x).length=size):∃A n cap,v=.slice A n cap/\n=l.length/\ag w size cells A n cap l:=by
 have h0:=h;rcases h with⟨rfl,rfl⟩|⟨g,off,cap,cur,rfl,hb,hg,mF,hcm,hcs,EZ⟩
 ·exact⟨none,0,0,rfl,rfl,rfl,aC2 _,aB6 _,(λ_=>⟨rfl,rfl⟩),λa ha=>by cases ha⟩
 ·refine⟨_,_,_,rfl,rfl,rfl,mF,hcm,(λh=>by cases h),λa ha=>?_⟩
  cases ha;refine⟨?_,λ_=>⟨(aF4.1 hg).1,rfl⟩⟩;intro i x hi j u hj;have hj' : j<size:=by
   have:=(d9.1 hj).1
   rwa [hsz]at this
  exact h0.Dc rfl _ _ ((ic hsz l i j x hi hj').trans hj)
def aK.tail{x:α}(hsz:∀x,(cells x).length=size)(h:aK w base e size cells (.slice (some ⟨g,off,none⟩) (l.length+1) cap) (x::l)):
 aK w base e size cells (.slice (some ⟨g,off+size,none⟩) l.length (cap-1)) l/\(cap=1->aK w base e size cells (.slice (some ⟨g,off,none⟩) l.length (cap-1)) l):=by
 rcases h with⟨h,_⟩|⟨g',tL,cap',cur,hv,hb,hg,mF,hcm,hcs,EZ⟩
 ·cases h
 injection hv with e1 e2 e3
 injection e1 with e1
 injection e1 with e1 e4
 subst e1;subst e4;subst e3;have:l.length+1<=cap:=mF;have au9:off+size+(cap-1)*size<=cur.size:=by
  have:cap*size=(cap-1)*size+size:=by
   conv=>lhs;rw[show cap=(cap-1)+1 by omega]
   rw[aD6,aI4]
  omega
 have av0:(cur.toList.drop (off+size)).take (l.length*size)=l.flatMap cells:=by
  have h1:=congrArg (List.drop size) EZ;have h2:List.drop size ((x::l).flatMap cells)=l.flatMap cells:=by
   rw[aE8,aR7 (by rw[hsz];exact aC2 _),aG3 (by rw[hsz];exact aC2 _),aD4]
  rw[h2,aV6,aV5,aC4,aD6,aI4,aT0]at h1;exact h1
 refine⟨.inr ⟨g,off+size,cap-1,cur,rfl,hb,hg,oM,oM,au9,av0⟩,λhc=>?_⟩;have hl:l=[]:=aC0 oM;subst hl;refine .inr ⟨g,off,cap-1,cur,rfl,hb,hg,oM,oM,?_,sI⟩;subst hc;simp;omega
end
def je(w:World)(t ty e:TypeId)(i:TypeInfo)(ht:P.underlying t=some (.slice e))(hi:P.info? e=some i)(g off wZ Sg:Nat)(cur:Array Value)(hg:w.heap[g]? = some (.cells cur e (0,0)))(a:Addr)(m c:Nat)(news:List Value)(hl:news.length=m*i.size)(hnews:∀j u,news[j]? = some u->w.cell? (a.add j)=some u)(h1:∀u∈news,u.oneCell' = true)(hroom:wZ+m<=Sg)(iD:off+wZ*i.size+news.length<=cur.size):
 (Builtin.append_ #[t,t] ty #[.slice (some ⟨g,off,none⟩) wZ Sg,.slice (some a) m c]).run P w =
  .ok (.slice (some ⟨g,off,none⟩) (wZ+m) Sg) (w.setRow g (cur.toList.take (off+wZ*i.size)++news++cur.toList.drop (off+wZ*i.size+news.length)).toArray):=by
 have hst:=run_storeCells_at P g (off+wZ*i.size) e news 0 cur w hg (sH iD) h1;simp only[aH9]at hst;simp[Builtin.append_,run_underlying ht,sizeOf,typeInfo,hi,Builtin.lenOf,hroom,(run_firstCells_some (P:=P) w i.size m a m c news hl hnews),Addr.add_lit,hst]
def cX{α:Type}(w:World){ops:Array Oper}{rest:List Oper}{o:Oper}{a:Act}{Q:Exit->Act->World->Prop}(hgd:o.guard=none)(s x:Operand)(t:TypeId)(ho:o.op=.call {callee:=.builtin .append,args:=#[s,x],argTypes:=#[t,t]})(base:Nat)(e:TypeId)(z:Value)(size bytes:Nat)(cells:α->List Value)(ht:P.underlying t=some (.slice e))(hi:(P.info? e).map (λi=>(i.zero,i.size,i.bytes))=some (some z,size,bytes))(hzs:z.cells.size=size)(hsz:0<size)(hcs:∀x,(cells x).length=size)(vH:∀x,∀u∈cells x,u.oneCell' = true)(v:Value)(l:List α)(hs:a.eval s=v)(hown:aK w base e size cells v l)(ad:Addr)(c:Nat)(y:α)(hx:a.eval x=.slice (some ad) 1 c)(hnews:∀j u,(cells y)[j]? = some u->w.cell? (ad.add j)=some u)(hlen:l.length<1000000)(hby:bytes<=100000)(hbase:base<=w.heap.size)(h:∀v' w',aK w' base e size cells v' (l++[y])->ah (λk=>v.ownBlock=some k) w w'->(v'.ownBlock=v.ownBlock\/v'.ownBlock=some w.heap.size)->wpList P ops Q rest (a.put o.dst v') w'):wpList P ops Q (o::rest) a w:=by
 obtain⟨i,h1,h2,h3,h4⟩:=info_parts hi;have hb1:(l.length+1)*bytes<=140737488355328:=by have:=aS4 (show l.length+1<=1000000 by omega) hby;omega
 have kX:(cells y).length=1*i.size:=by rw[hcs,h3,aI4]
 have hm:l.length+1<=maxLen:=by unfold maxLen;omega
 have xB:(l.flatMap cells).length=l.length*size:=aZ hcs l;have Su:((l++[y]).flatMap cells)=l.flatMap cells++cells y:=sI
 have grown:∀(old:Nat),aK (w.drew.alloc (.cells ((l.flatMap cells).toArray++(cells y).toArray++Builtin.zeroCells z.cells (grownCap w (l.length+1) old e-(l.length+1))) e)) base e size cells (.slice (some ⟨w.heap.size,0,none⟩) (l.length+1) (grownCap w (l.length+1) old e)) (l++[y]):=by
  intro old;have hge:=grownCap_ge w (l.length+1) old e;have hcm:grownCap w (l.length+1) old e<=maxLen:=grownCap_le_maxLen w (l.length+1) old e hm;refine .inr ⟨w.heap.size,0,_,_,sI,hbase,heap_alloc_new w.drew _,by simpa using hge,hcm,?_,?_⟩
  ·simp only[Array.size_append,aF1,size_zeroCells,hzs,xB,hcs,aR9]
   have h5:grownCap w (l.length+1) old e*size=l.length*size+size+(grownCap w (l.length+1) old e-(l.length+1))*size:=by
    conv=>lhs;rw[show grownCap w (l.length+1) old e=(l.length+1)+(grownCap w (l.length+1) old e-(l.length+1)) by omega]
    rw[aD6,aD6,aI4]
   omega
  ·have e6:(l++[y]).length*size=(l.flatMap cells++cells y).length:=by
    rw[aB8,aB8,xB,hcs,aD6];simp
   rw[Su,e6,List.drop_zero];simp only[aV1];exact take_left
 have am7:∀o:Obj,ah (λk=>v.ownBlock=some k) w (w.drew.alloc o):=λo=>(ah.refl _ w).drew.alloc o
 rcases hown with⟨rfl,rfl⟩|⟨g,off,cap,cur,rfl,hbg,hg,mF,hcm,hcz,eM⟩
 ·have hr2:=run_append_nil (P:=P) w t o.type e i z ht h1 h2 ad 1 c (cells y) kX hnews oM oM (by rw[h4];have:=hb1;simp at this;omega)
  refine Lib.wpList_append_run w hgd s x t t ho _ _ hs hx _ _ hr2 ?_;have hg:=grown 0;simp only[aG6,aR9,List.flatMap_nil,aD4,Array.empty_append]at hg;exact h _ _ (by simpa using hg) (am7 _) (.inr rfl)
 ·by_cases hroom:l.length+1<=cap
  ·have iD:off+l.length*i.size+(cells y).length<=cur.size:=by
    rw[hcs,h3];have:=aE9 size hroom;rw[aD6,aI4]at this;omega
   have hr2:=je (P:=P) w t o.type e i ht h1 g off l.length cap cur hg ad 1 c (cells y) kX hnews (vH y) hroom iD;refine Lib.wpList_append_run w hgd s x t t ho _ _ hs hx _ _ hr2 ?_;rw[h3]at iD |-;refine h _ _ (.inr ⟨g,off,cap,_,sI,hbg,setRow_heap w g cur _ e _ hg,by simpa using hroom,hcm,?_,?_⟩) ⟨rfl,rfl,rfl,sI,λk _ hk=>setRow_other w g k _ (λe=>hk (by simp[Value.ownBlock,e]))⟩ (.inl rfl)
   ·simp only[aF1,aB8,aC3,aD2,aT6]
    omega
   ·rw[Su]
    have e6:(l++[y]).length*size=(l.flatMap cells++cells y).length:=by
     rw[aB8,aB8,xB,hcs,aD6];simp
    rw[e6];simp only[aD0];have:off<=cur.toList.length:=by simp;omega
    have e7:cur.toList.take (off+l.length*size)=cur.toList.take off++l.flatMap cells:=by
     rw[List.take_add,eM]
    rw[e7,aD0,aR7 (by rw[aC3];omega),aG3 (by rw[aC3];omega),aD4,<-aD0];exact take_left
  ·have holds:=aK.Dc (w:=w) (base:=base) (e:=e) (size:=size) (cells:=cells) (l:=l) (.inr ⟨g,off,cap,cur,rfl,hbg,hg,mF,hcm,hcz,eM⟩) (a:=⟨g,off,none⟩) rfl
   have hr2:=run_append_grow (P:=P) w t o.type e i z ht h1 h2 ⟨g,off,none⟩ l.length cap (l.flatMap cells) (by rw[xB,h3]) holds ad 1 c (cells y) kX hnews oM oM (growslice_fits oM (by rw[h4];exact hb1));refine Lib.wpList_append_run w hgd s x t t ho _ _ hs hx _ _ hr2 ?_;exact h _ _ (grown cap) (am7 _) (.inr rfl)
end
def step(h c:Nat):Nat:=((h ^^^ c)*1099511628211) % 18446744073709551616
def qG(l:List Nat):Nat:=l.foldl step 14695981039346656037
def uV(l:List UInt8):List Nat:=l.map (·.toNat)
def xK{β:Type}(f:β->α->β)(b:β)(l:List α)(c:α):(l++[c]).foldl f b=f (l.foldl f b) c:=sI
def SF{β:Type}(f:β->α->β)(b:β)(p:β->Prop)(hb:p b)(hf:∀h c,p (f h c))(l:List α):p (l.foldl f b):=by
 rcases aS6 l with rfl|⟨l,n,rfl⟩
 ·exact hb
 ·rw[aS7,xK];exact hf _ _
def XR(h c:Nat):step h c<18446744073709551616:=by unfold step;omega
def Ke(l:List Nat)(c:Nat):qG (l++[c])=step (qG l) c:=xK _ _ _ _
def Gh(l:List Nat):qG l<18446744073709551616:=SF _ _ (· < 18446744073709551616) oM XR l
def Kf(s:ByteArray)(k:Nat)(h:k<s.size):uV (s.data.toList.take (k+1))=uV (s.data.toList.take k)++[s[k].toNat]:=by
 rw[List.take_succ_eq_append_getElem (sH h)];simp[uV];rfl
def Pe(h c:Nat)(hh:h<18446744073709551616)(hc:c<256):IntKind.u64.wrap (bits .xor .u64 (h:Int) (IntKind.u64.wrap (c:Int))*1099511628211)=((step h c:Nat):Int):=by
 rw[IntKind.wrap_u64 c,show(c:Int) % 18446744073709551616=(c:Int) by omega,u64_xor_nat h c hh oM,IntKind.wrap_u64];unfold step;omega
def nA(h:Nat)(b:Int):Nat:=if b<1\/32<b then 0 else(h ^^^ h / 2 ^ b.toNat) % 2 ^ b.toNat
def am9(b:Nat)(h:b<=32):2 ^ b<=4294967296:=Nat.pow_le_pow_right (n:=2) dC h
def uW(b:Nat):0<2 ^ b:=pow_pos dC
def Gi(b:Nat):(2:Int) ^ b=((2 ^ b:Nat):Int):=sI
def Pf(h:Nat)(b:Int)(h1:1<=b)(h2:b<=32)(hh:h<18446744073709551616) :
 bits .and .u64 (bits .xor .u64 (h:Int) ((h:Int) / 2 ^ b.toNat)) (IntKind.u64.wrap (IntKind.u64.wrap (2 ^ b.toNat)-1))=((nA h b:Nat):Int):=by
 have:=uW b.toNat;have:=am9 b.toNat oM;have:h / 2 ^ b.toNat<=h:=Nat.div_le_self _ _;have e1:(h:Int) / 2 ^ b.toNat=((h / 2 ^ b.toNat:Nat):Int):=by rw[Gi];exact(Int.natCast_ediv _ _).symm
 have e2:IntKind.u64.wrap (IntKind.u64.wrap (2 ^ b.toNat)-1)=((2 ^ b.toNat-1:Nat):Int):=by
  rw[Gi,IntKind.wrap_u64,IntKind.wrap_u64];omega
 have x:h ^^^ h / 2 ^ b.toNat<2 ^ 64:=Nat.xor_lt_two_pow oM oM;rw[e1,e2,u64_xor_nat _ _ hh oM,u64_and_nat _ _ x oM,aV8];unfold nA;rw[if_neg oM]
def an0(s:ByteArray)(k:Nat)(h:k<s.size):s[k].toNat<256:=s[k].toNat_lt
theorem Pg(s:ByteArray)(w:World)(hs:s.size<=maxLen) :
 Calls prog 239 #[.string s] w λe w'=>e=.returned (V6 ((qG (uV s.data.toList):Nat):Int))/\w=w':=by
 unfold maxLen at hs;go_enter func239,ntmps239;go_wp2;go_loop[3,4,7] (λh _ i=>∃k a:Nat,k<=s.size/\i = I6 k/\h = V6 a/\a=qG (uV (s.data.toList.take k))) (λ_ _ i=>s.size-(intOf i).toNat)
 case atStart=>exact⟨0,_,aB6 _,rfl,rfl,rfl⟩
 case round=>
  obtain⟨k,a,hk,rfl,rfl,ha⟩:=hrel;have HA:=zD ha;clear ha
  by_cases hlt:k<s.size
  ·go_wp2
   go_round
   case rel=>
    refine⟨k+1,step a s[k].toNat,by omega,by go_num,?_,?_⟩
    ·rw[Pe a _ (by rw[HA.out];exact Gh _) (an0 s k hlt)]
    ·rw[Kf s k hlt,Ke,HA.out]
   case measure=>simp[intOf];omega
  ·go_wp2
   go_ret;refine⟨au ?_,rfl⟩
   show(a:Int)=_
   rw[HA.out,aB5 sM]
theorem SI(h:Nat)(b:Int)(w:World)(hh:h<18446744073709551616) :
 Calls prog 184 #[V6 h,I6 b] w λe w'=>e=.returned (V6 ((nA h b:Nat):Int))/\w=w':=by
 by_cases h1:b<1
 ·go_enter func184,ntmps184
  go_wp2;go_ret;exact⟨au (by unfold nA;rw[if_pos (.inl h1)];rfl),rfl⟩
 ·by_cases h2:32<b
  ·go_enter func184,ntmps184
   go_wp2;go_ret;exact⟨au (by unfold nA;rw[if_pos (.inr h2)];rfl),rfl⟩
  ·have h3:1<=b:=oM
   have h4:b<=32:=oM
   clear h1 h2;go_enter func184,ntmps184;go_wp2;go_ret;exact⟨au (Pf h b h3 h4 hh),rfl⟩
def SK(h:Nat)(b:Int)(h1:1<=b)(h2:b<=32):nA h b<2 ^ b.toNat:=by
 unfold nA;rw[if_neg oM];exact aS9 _ (uW _)
def bytesOf(x k:Nat):List Nat:=(List.range k).map λi=>x / 2 ^ (56-8*i) % 256
def xL(hi lo:Nat):Nat:=qG (bytesOf hi 8++bytesOf lo 8)
def Ph(hi lo:Nat):xL hi lo<18446744073709551616:=Gh _
def xM(x:Nat)(h:x<18446744073709551616):bytesOf x 8=[x / 72057594037927936,x / 281474976710656 % 256,x / 1099511627776 % 256,x / 4294967296 % 256,x / 16777216 % 256,x / 65536 % 256,x / 256 % 256,x % 256]:=by
 have e:x / 72057594037927936=x / 72057594037927936 % 256:=oM
 rw[e];simp[bytesOf,List.range_succ]
theorem Pj(hi lo:Nat)(w:World)(h1:hi<18446744073709551616)(h2:lo<18446744073709551616) :
 Calls prog 238 #[.agg #[V6 hi,V6 lo]] w λe w'=>∃c0 c1 c2 c3 c4 c5 c6 c7 c8 c9 c10 c11 c12 c13 c14 c15:Nat,e=.returned (.agg #[.int .u8 (c0:Int),.int .u8 (c1:Int),.int .u8 (c2:Int),.int .u8 (c3:Int),.int .u8 (c4:Int),.int .u8 (c5:Int),.int .u8 (c6:Int),.int .u8 (c7:Int),.int .u8 (c8:Int),.int .u8 (c9:Int),.int .u8 (c10:Int),.int .u8 (c11:Int),.int .u8 (c12:Int),.int .u8 (c13:Int),.int .u8 (c14:Int),.int .u8 (c15:Int)])/\(c0<256/\c1<256/\c2<256/\c3<256/\c4<256/\c5<256/\c6<256/\c7<256/\c8<256/\c9<256/\c10<256/\c11<256/\c12<256/\c13<256/\c14<256/\c15<256)/\bytesOf hi 8++bytesOf lo 8=[c0,c1,c2,c3,c4,c5,c6,c7,c8,c9,c10,c11,c12,c13,c14,c15]/\Bl w w':=by
 go_enter func238,ntmps238;go_wp2;refine wp_loop_rounds 9 ?_
 iterate 9 (rw[rounds_succ];go_wp2)
 refine bodyPost_ret (v:=.agg #[.int .u8 (((hi / 72057594037927936:Nat)):Int),.int .u8 (((hi / 281474976710656 % 256:Nat)):Int),.int .u8 (((hi / 1099511627776 % 256:Nat)):Int),.int .u8 (((hi / 4294967296 % 256:Nat)):Int),.int .u8 (((hi / 16777216 % 256:Nat)):Int),.int .u8 (((hi / 65536 % 256:Nat)):Int),.int .u8 (((hi / 256 % 256:Nat)):Int),.int .u8 (((hi % 256:Nat)):Int),.int .u8 (((lo / 72057594037927936:Nat)):Int),.int .u8 (((lo / 281474976710656 % 256:Nat)):Int),.int .u8 (((lo / 1099511627776 % 256:Nat)):Int),.int .u8 (((lo / 4294967296 % 256:Nat)):Int),.int .u8 (((lo / 16777216 % 256:Nat)):Int),.int .u8 (((lo / 65536 % 256:Nat)):Int),.int .u8 (((lo / 256 % 256:Nat)):Int),.int .u8 (((lo % 256:Nat)):Int)]) (by simp[results,results238,go_sem]) rfl ⟨_,_,_,_,_,_,_,_,_,_,_,_,_,_,_,_,rfl,by omega,?_,by go_grown⟩;rw[xM hi h1,xM lo h2]
 rfl
def Au(w:World)(src e t:TypeId)(hs:P.underlying src=some (.slice e))(he:P.underlying e=some (.int .u8))(cap:Nat)(ns:List Nat)(dst:TypeId)(hd:P.underlying dst=some .string)(cs:Array Value)(hcs:cs=(ns.map λn:Nat=>Value.int .u8 (n:Int)).toArray)(len:Nat)(hlen:ns.length=len):
 (convert src dst (.slice (some ⟨w.heap.size,0,none⟩) len cap)).run P (w.alloc (.cells cs t))=.ok (.string (strOfNums (ns.map λn:Nat=>(n:Int)))) (w.alloc (.cells cs t)):=by
 subst hcs;refine run_convert_bytes_arg _ src e hs he w.heap.size 0 len cap _ (sH hlen) (λi hi=>?_) dst hd;rw[cell_of_row _ _ _ _ t (0,0) (heap_alloc_new w _)];simp[List.getD,hlen,hi]
def vM(ns:List Nat)(h:∀n∈ns,n<256):uV (strOfNums (ns.map λn:Nat=>(n:Int))).data.toList=ns:=by
 rw[strOfNums_data];unfold uV;rw[List.map_map,List.map_map]
 conv=>rhs;rw[<-List.map_id ns]
 refine List.map_congr_left λn hn=>?_
 have:=h n hn;simp;omega
theorem XS(hi lo:Nat)(w:World)(h1:hi<18446744073709551616)(h2:lo<18446744073709551616) :
 Calls prog 185 #[.agg #[V6 hi,V6 lo]] w (Rt (V6 ((xL hi lo:Nat):Int)) (Bl w)):=by
 go_enter func185,ntmps185;go_wp2_with fail;refine(Pj hi lo _ h1 h2).mono ?_;rintro e w1 ⟨c0,c1,c2,c3,c4,c5,c6,c7,c8,c9,c10,c11,c12,c13,c14,c15,rfl,⟨k0,k1,k2,k3,k4,k5,k6,k7,k8,k9,k10,k11,k12,k13,k14,k15⟩,hb,aT⟩;have HB:=hb;clear hb;go_wp2_with fail;rw[Au w1 202 5 _ underlying202 underlying5 16 [c0,c1,c2,c3,c4,c5,c6,c7,c8,c9,c10,c11,c12,c13,c14,c15] 9 underlying9 #[.int .u8 (c0:Int),.int .u8 (c1:Int),.int .u8 (c2:Int),.int .u8 (c3:Int),.int .u8 (c4:Int),.int .u8 (c5:Int),.int .u8 (c6:Int),.int .u8 (c7:Int),.int .u8 (c8:Int),.int .u8 (c9:Int),.int .u8 (c10:Int),.int .u8 (c11:Int),.int .u8 (c12:Int),.int .u8 (c13:Int),.int .u8 (c14:Int),.int .u8 (c15:Int)] rfl 16 rfl];go_wp2_with fail;refine(Pg _ _ (by rw[strOfNums_size];unfold maxLen;simp)).mono ?_;rintro e w2 ⟨rfl,rfl⟩;go_wp2;go_ret;refine⟨au ?_,?_⟩
 ·show((qG (uV (strOfNums ([c0,c1,c2,c3,c4,c5,c6,c7,c8,c9,c10,c11,c12,c13,c14,c15].map λn:Nat=>(n:Int))).data.toList):Nat):Int)=_
  rw[vM _ sM,<-HB];rfl
 ·exact((bR.alloc lR _).trans (aT.mono sI)).alloc (by have:=aT.size;simp at this;omega) _
def dD(n:Int):Bool:=n==1||n==2||n==4||n==8||n==16||n==32||n==64
def jT(n:Int):Int:=if n=2 then 1 else if n=4 then 2 else if n=8 then 3 else if n=16 then 4 else if n=32 then 5 else if n=64 then 6 else 0
def a7{n:Int}(h:dD n=true):n=1\/n=2\/n=4\/n=8\/n=16\/n=32\/n=64:=by
 unfold dD at h;simp at h;omega
def Pk(n:Int)(h1:1<=n)(h2:n<=64):(bits .and .i64 n (n-1)==0)=dD n:=by
 obtain⟨m,rfl⟩:=aI3 (show 0<=n by omega);have h:∀m:Nat,m<65->1<=m->(bits .and .i64 (m:Int) ((m:Int)-1)==0)=dD (m:Int):=by decide +kernel
 exact h m oM oM
def Cc{n:Int}(h:n<1\/64<n):dD n=false:=by
 unfold dD;simp;omega
theorem gm(n:Int)(w:World)(hn:aw n) :
 Calls prog 123 #[I6 n] w λe w'=>e=.returned (.bool (dD n))/\w=w':=by
 by_cases h1:n<1
 ·go_enter func123,ntmps123
  go_wp2;go_ret;exact⟨dQ (by rw[Cc (.inl h1)]),rfl⟩
 ·by_cases h2:64<n
  ·go_enter func123,ntmps123
   go_wp2;go_ret;exact⟨dQ (by rw[Cc (.inr h2)]),rfl⟩
  ·have h3:1<=n:=oM
   have h4:n<=64:=oM
   clear h1 h2;go_enter func123,ntmps123;go_wp2;go_ret;exact⟨dQ (Pk n h3 h4),rfl⟩
theorem Kg(n:Int)(w:World)(hn:aw n) :
 Calls prog 186 #[I6 n] w λe w'=>e=.returned (I6 (jT n))/\w=w':=by
 by_cases h:dD n=true
 ·have hr:=a7 h
  rcases hr with rfl|rfl|rfl|rfl|rfl|rfl|rfl
  all_goals
   go_enter func186,ntmps186;go_wp2_with(go_at_call 123;refine zN (gm _ _ hn) ?_);refine wp_loop_rounds 8 ?_
   repeat (rw[rounds_succ];go_wp2)
   go_ret;exact⟨rfl,rfl⟩
 ·have h' : dD n=false:=sH h
  have e:jT n=0:=by
   unfold dD at h';simp at h';unfold jT;simp[h']
  clear h;go_enter func186,ntmps186;go_wp2_with(go_at_call 123;refine zN (gm _ _ hn) ?_);go_ret;exact⟨au e.symm,rfl⟩
def Fe(hi lo:Nat)(n:Int):Int:=if dD n then((nA (xL hi lo) (jT n):Nat):Int)else -1
def SM(n:Int):0<=jT n/\jT n<=6:=by unfold jT;omega
def uX(h:Nat)(n:Int):nA h (jT n)<64/\(dD n=true->(nA h (jT n):Int)<n):=by
 have:=SM n
 by_cases h0:jT n<1
 ·have e:nA h (jT n)=0:=by unfold nA;rw[if_pos (.inl h0)]
  rw[e];exact⟨oM,λhr=>oH (a7 hr)⟩
 ·have f:=SK h (jT n) oM oM
  have:2 ^ (jT n).toNat<=2 ^ 6:=Nat.pow_le_pow_right dC oM;refine⟨oM,λhr=>?_⟩;rcases a7 hr with rfl|rfl|rfl|rfl|rfl|rfl|rfl<;>simp[jT]at f |-<;>first|omega|(simp[jT]at h0)
def xN(hi lo:Nat)(n:Int) : -1<=Fe hi lo n/\Fe hi lo n<64/\(dD n=true->0<=Fe hi lo n/\Fe hi lo n<n):=by
 unfold Fe;have f:=uX (xL hi lo) n
 split
 ·rename_i h;exact⟨oM,oM,λ_=>⟨oM,f.2 h⟩⟩
 ·rename_i h;exact⟨oM,oM,λh2=>absurd h2 h⟩
theorem xO(hi lo:Nat)(n:Int)(w:World)(hn:aw n)(h1:hi<18446744073709551616)(h2:lo<18446744073709551616) :
 Calls prog 134 #[.agg #[V6 hi,V6 lo],I6 n] w (Rt (I6 (Fe hi lo n)) (Bl w)):=by
 have:=(uX (xL hi lo) n).1;cases h:dD n
 ·go_enter func134,ntmps134
  go_wp2_with(go_at_call 123;refine zN (gm _ _ hn) ?_);go_ret;exact⟨au (by unfold Fe;rw[h];rfl),gW⟩
 ·go_enter func134,ntmps134
  go_wp2_with(first|(go_at_call 123;refine zN (gm _ _ hn) ?_)|(go_at_call 186;refine zN (Kg _ _ hn) ?_)|(go_at_call 184;refine zN (SI _ _ _ (Ph hi lo)) ?_)|(go_at_call 185;refine zM (XS _ _ _ h1 h2) λw1 hb=>?_));go_ret;refine⟨au (by unfold Fe;rw[h];simp),?_⟩;exact(bR.alloc lR _).trans (hb.mono sI)
def hq(l:List Nat):Nat:=l.foldl (λh c=>h*64+c) 0
def pz(l:List Nat)(c:Nat):hq (l++[c])=hq l*64+c:=by simp[hq]
theorem ad2:∀(n:Nat)(l:List Nat),l.length=n->(∀c∈l,c<64)->hq l<64 ^ n:=by
 intro n
 induction n with
 |zero=>intro l hl _;rw[aC0 hl];decide
 |succ n ih=>
  intro l hl hc;rcases aS6 l with rfl|⟨m,c,rfl⟩
  ·simp at hl
  ·rw[aS7]at *
   rw[pz];have:=ih m (sH hl) (λx hx=>hc x (by simp[hx]));have:=hc c sI;rw[aT7];omega
theorem GH(l:List Nat):∀n,hq (l++List.replicate n 0)=hq l*64 ^ n
 |0=>by simp
 |n+1=>by rw[List.replicate_succ',<-aD0,pz,GH l n,aT7];simp[aH7]
def oJ(l:List Nat):Nat:=hq l*64 ^ (10-l.length)
def JP(l:List Nat):Nat:=oJ (l.take 10)
def KB(l:List Nat):Nat:=oJ (l.drop 10)
def GI(hl:l.length<=10)(hc:∀c∈l,c<64):oJ l<1152921504606846976:=by
 unfold oJ;have:hq l*64 ^ (10-l.length)<64 ^ l.length*64 ^ (10-l.length):=aS1 (ad2 _ l rfl hc) (pow_pos dC);rw[<-Nat.pow_add,show l.length+(10-l.length)=10 by omega]at this;exact this
def xW(hl:l.length<10)(hc:c<64):oJ (l++[c])=oJ l ||| c <<< (6*(9-l.length)):=by
 unfold oJ;rw[pz,aB8,aS8,show 10-(l.length+1)=9-l.length by omega,show 10-l.length=(9-l.length)+1 by omega];generalize 9-l.length=d;rw[Nat.shiftLeft_eq,pow_mul,show(2 ^ 6:Nat)=64 from rfl];have e:hq l*64 ^ (d+1)=2 ^ (6*(d+1))*hq l:=by rw[pow_mul,aF9]
 have lt:c*64 ^ d<2 ^ (6*(d+1)):=by
  rw[pow_mul,show(2 ^ 6:Nat)=64 from rfl,aT7,aF9 _ 64];exact aS1 hc (pow_pos dC)
 rw[e,<-Nat.two_pow_add_eq_or_of_lt lt,pow_mul,show(2 ^ 6:Nat)=64 from rfl,aD6,aT7,aF9 (64 ^ d*64),aH7,aF9 64 (64 ^ d)]
def jX{l:List α}{c:α}(h:l[i]? = some c):l.take (i+1)=l.take i++[c]:=by
 rw[aE3,h];rfl
def Tu(h:l[i]? = some c)(hc:c<64)(hi:i<10):JP (l.take (i+1))=JP (l.take i) ||| c <<< (6*(9-i)):=by
 have:=(d9.1 h).1;unfold JP;rw[aH4,aH4,show min 10 (i+1)=i+1 by omega,show min 10 i=i by omega,jX h,xW sM hc];simp[show min i l.length=i by omega]
def Dq(hi:i<=10):KB (l.take i)=0:=by
 unfold KB;rw[List.drop_eq_nil_of_le sM];rfl
def xX(hi:10<=i):JP (l.take i)=JP l:=by
 unfold JP;rw[aH4,show min 10 i=10 by omega]
def Tv(h:l[i]? = some c)(hc:c<64)(h1:10<=i)(h2:i<20):KB (l.take (i+1))=KB (l.take i) ||| c <<< (6*(19-i)):=by
 have:=(d9.1 h).1;unfold KB;rw[jX h,aR7 sM,xW sM hc];simp[show min i l.length=i by omega,show 9-(i-10)=19-i by omega]
def Tw(hc:∀c∈l,c<64):JP l<1152921504606846976:=GI sM (λc h=>hc c (aI0 h))
def Tx(hl:l.length<=20)(hc:∀c∈l,c<64):KB l<1152921504606846976:=GI sM (λc h=>hc c (aT4 h))
def dY(c:Int):Int:=if c=45 then 1 else if c=46 then 2 else if 48<=c/\c<=57 then c-45 else if c=95 then 13 else if 97<=c/\c<=122 then c-83 else 0
def l8(c:Int):0<=dY c/\dY c<=39:=by unfold dY;(repeat' split)<;>omega
def qJ{c:Int}(h:128<=c):dY c=0:=by unfold dY;(repeat' split)<;>omega
theorem mR(c:Int)(w:World)(h1 : -2147483648<=c)(h2:c<=2147483647) :
 Calls prog 94 #[.int .i32 c] w λe w'=>e=.returned (V6 (dY c))/\w=w':=by
 by_cases a:c=45
 ·subst a
  go_enter func94,ntmps94;go_wp2;go_ret;exact⟨rfl,rfl⟩
 by_cases b:c=46
 ·subst b
  go_enter func94,ntmps94;go_wp2;go_ret;exact⟨rfl,rfl⟩
 have da:(c==45)=false:=sH a
 have db:(c==46)=false:=sH b
 by_cases d:48<=c/\c<=57
 ·have HE:dY c=c-45:=by unfold dY;rw[if_neg a,if_neg b,if_pos d]
  obtain⟨d1,d2⟩:=d;clear a b;go_enter func94,ntmps94;go_wp2;go_ret;exact⟨au (oH HE),rfl⟩
 have hd:decide (48<=c)=false\/(decide (48<=c)=true/\decide (c<=57)=false):=by
  by_cases h:48<=c
  ·exact .inr ⟨sH h,by simp;omega⟩
  ·exact .inl (sH h)
 by_cases f:c=95
 ·subst f
  clear hd da db;go_enter func94,ntmps94;go_wp2;go_ret;exact⟨rfl,rfl⟩
 have:(c==95)=false:=sH f
 by_cases g:97<=c/\c<=122
 ·have HE:dY c=c-83:=by unfold dY;rw[if_neg a,if_neg b,if_neg d,if_neg f,if_pos g]
  obtain⟨d1,d2⟩:=g;clear a b d f;rcases hd with hd|⟨hd,hd'⟩
  all_goals
   go_enter func94,ntmps94;go_wp2;go_ret;exact⟨au (oH HE),rfl⟩
 have hg:decide (97<=c)=false\/(decide (97<=c)=true/\decide (c<=122)=false):=by
  by_cases h:97<=c
  ·exact .inr ⟨sH h,by simp;omega⟩
  ·exact .inl (sH h)
 have HE:dY c=0:=by unfold dY;rw[if_neg a,if_neg b,if_neg d,if_neg f,if_neg g]
 clear a b d f g;rcases hd with hd|⟨hd,hd'⟩<;>rcases hg with hg|⟨hg,hg'⟩
 all_goals
  go_enter func94,ntmps94;go_wp2;go_ret;exact⟨au HE.symm,rfl⟩
def b9(s:ByteArray):List Nat:=s.data.toList.map λb=>(dY (b.toNat:Int)).toNat
def fS(s:ByteArray):(b9 s).length=s.size:=by simp[b9]
def jK(h:k<s.size):(b9 s)[k]? = some (dY ((s[k]'h).toNat:Int)).toNat:=by
 unfold b9;rw[List.getElem?_map,aB3 (sH h)]
 rfl
def l9(s:ByteArray):∀c∈b9 s,c<64:=by
 intro c hc;obtain⟨b,_,rfl⟩:=aF2.1 hc;have:=l8 (b.toNat:Int);omega
def eO(s:ByteArray):Bool:=decide (1<=s.size)&&decide (s.size<=20)&&(b9 s).all λc=>c != 0
def cT(s:ByteArray):Int:=if eO s then 0 else 2
def Yh(h:s.size<1\/20<s.size):eO s=false:=by
 unfold eO;rcases h with h|h
 ·have:decide (1<=s.size)=false:=decide_eq_false oM
  rw[this];rfl
 ·have:decide (s.size<=20)=false:=sH h
  rw[this];simp
def GJ(h:k<s.size)(hz:dY ((s[k]'h).toNat:Int)=0):eO s=false:=by
 unfold eO;have:((b9 s).all λc=>c != 0)=false:=by
  rw[List.all_eq_false];exact⟨_,aC1 (jK h),by rw[hz];simp⟩
 rw[this];simp
def Ty(h1:1<=s.size)(h2:s.size<=20)(h:∀k (hk:k<s.size),dY ((s[k]'hk).toNat:Int)≠0):eO s=true:=by
 unfold eO;have:((b9 s).all λc=>c != 0)=true:=by
  rw[aI7];intro c hc;obtain⟨k,hk⟩:=aD7 hc;have wB:k<s.size:=by have:=(d9.1 hk).1;rw[fS]at this;exact this
  rw[jK wB]at hk;injection hk with hk
  have:=h k wB;have:=l8 ((s[k]'wB).toNat:Int);simp;omega
 rw[this];simp[h1,h2]
def pB(h:eO s=true):(1<=s.size/\s.size<=20)/\∀k (hk:k<s.size),dY ((s[k]'hk).toNat:Int)≠0:=by
 unfold eO at h;simp only[aF5,decide_eq_true_eq,aI7]at h;refine⟨h.1,λk hk hz=>?_⟩;have:=h.2 _ (aC1 (jK hk));rw[hz]at this;simp at this
def qK(s:ByteArray)(k:Nat):Bl w (w.iter s k):=bR.alloc lR _
def Yi(s:ByteArray)(k:Nat):Prop:=∀j (hj:j<s.size),j<k->dY ((s[j]'hj).toNat:Int)≠0
def Yi.next(h:Yi s k)(hk:k<s.size)(hz:dY ((s[k]'hk).toNat:Int)≠0):Yi s (k+1):=by
 intro j hj hlt;rcases aE2 j k with h1|h1
 ·exact h j hj h1
 ·obtain rfl:j=k:=oM
  exact hz
theorem iN(s:ByteArray)(w:World)(hs:s.size<=maxLen) :
 Calls prog 58 #[.string s] w (Rt (I6 (cT s)) (Bl w)):=by
 unfold maxLen at hs
 by_cases hb:s.size<1\/20<s.size
 ·have HE:cT s=2:=by unfold cT;rw[Yh hb];rfl
  go_enter func58,ntmps58;rcases hb with hb|hb
  ·have:decide ((s.size:Int)<1)=true:=by simp;omega
   go_wp2;go_ret;exact⟨au HE.symm,Below.refl _ _⟩
  ·have:decide ((s.size:Int)<1)=false:=by simp;omega
   have:decide ((20:Int)<(s.size:Int))=true:=by simp;omega
   go_wp2;go_ret;exact⟨au HE.symm,Below.refl _ _⟩
 ·have h1:1<=s.size:=oM
  have h2:s.size<=20:=oM
  have:decide ((s.size:Int)<1)=false:=by simp;omega
  have:decide ((20:Int)<(s.size:Int))=false:=by simp;omega
  clear hb;go_enter func58,ntmps58;go_wp2;go_loopw[4] (λc wr=>∃k:Nat,k<=s.size/\wr=w.iter s k/\Yi s k) (λ_ wr=>s.size-wr.iterPos w.heap.size)
  case atStart=>exact⟨0,aB6 _,rfl,λj hj h=>oM⟩
  case round=>
   obtain⟨k,hk,rfl,hlt⟩:=hrel;have HL:=hlt;clear hlt
   by_cases hp:k<s.size
   ·by_cases ha:(s[k]'hp).toNat<128
    ·have: ∀ty,(Instr.next (pt w.heap.size) true ty).run prog (w.iter s k)=_:=λty=>run_next_ascii w s k ty hp ha
     by_cases hz:dY ((s[k]'hp).toNat:Int)=0
     ·have HE:cT s=2:=by unfold cT;rw[GJ hp hz];rfl
      have:(dY ((s[k]'hp).toNat:Int)==0)=true:=by simpa using hz
      clear hz;go_wp2_with(go_at_call 94;refine zN (mR _ _ oM oM) ?_);go_ret;exact⟨au HE.symm,qK _ _⟩
     ·have HN:=HL.next hp hz
      have:(dY ((s[k]'hp).toNat:Int)==0)=false:=by simpa using hz
      clear hz;go_wp2_with(go_at_call 94;refine zN (mR _ _ oM oM) ?_);go_roundw
      case rel=>exact⟨k+1,oM,rfl,HN⟩
      case measure=>simp;omega
    ·have: ∀ty,(Instr.next (pt w.heap.size) true ty).run prog (w.iter s k)=_:=λty=>run_next_any w s k ty hp
     have:=(decode_high s k hp oM).1;have:=decode_le s k;have HE:cT s=2:=by unfold cT;rw[GJ hp (qJ oM)];rfl
     have HZ:=qJ (c:=((Utf8.decode s k).1:Int)) oM;generalize(Utf8.decode s k).1=r at *;go_wp2_with(go_at_call 94;refine zN (mR _ _ oM oM) ?_;rw[HZ]);go_ret;exact⟨au HE.symm,qK _ _⟩
   ·have HE:cT s=0:=by unfold cT;rw[Ty h1 h2 (λj hj=>HL j hj oM)];rfl
    have: ∀ty,(Instr.next (pt w.heap.size) true ty).run prog (w.iter s k)=_:=λty=>run_next_end w s k ty hp
    go_wp2;go_ret;exact⟨au HE.symm,qK _ _⟩
def Tz:List Nat:=[45,46,48,49,50,51,52,53,54,55,56,57,95,97,98,99,100,101,102,103,104,105,106,107,108,109,110,111,112,113,114,115,116,117,118,119,120,121,122]
def PB:∀c:Nat,c<256->dY (c:Int)≠0->(dY (c:Int)).toNat-1<39/\Tz.getD ((dY (c:Int)).toNat-1) 0=c:=by decide +kernel
def aO(s:ByteArray):Nat:=if eO s then JP (b9 s)else 0
def aP(s:ByteArray):Nat:=if eO s then KB (b9 s)else 0
def jY(s:ByteArray):aO s<1152921504606846976:=by
 unfold aO;split
 ·exact Tw (l9 s)
 ·decide
def jZ(s:ByteArray):aP s<1152921504606846976:=by
 unfold aP;cases h:eO s
 ·simp
 ·rw[if_pos rfl];exact Tx (by rw[fS];exact(pB h).1.2) (l9 s)
def iter_set(hn:n<w.heap.size)(u:Value):(w.iter s k).setCell ⟨n,i,none⟩ u=(w.setCell ⟨n,i,none⟩ u).iter s k:=World.setCell_alloc_past _ _ _ _ hn
def mU{W:World}{j:Nat}(hz:W.heap.size=n):(W.iter s j).iterPos n=j:=by subst hz;simp
def Nk{C:Int}{U:Int}(h0:0<=C)(h1:C<=39)(hu:0<=U)(iO:U<=54):IntKind.u64.wrap (C*2 ^ U.toNat)=((C.toNat <<< U.toNat:Nat):Int):=by
 rw[IntKind.wrap_u64,Nat.shiftLeft_eq];obtain⟨c,rfl⟩:=aI3 h0;have hp:2 ^ U.toNat<=2 ^ 54:=Nat.pow_le_pow_right dC oM;have:c*2 ^ U.toNat<=39*2 ^ 54:=aS4 oM hp;simp only[aU4];rw[show((2:Int) ^ U.toNat)=((2 ^ U.toNat:Nat):Int)from sI,<-Int.natCast_mul];omega
def TB{C:Int}{U:Nat}(h1:C<=39)(iO:U<=54):C.toNat <<< U<18446744073709551616:=by
 rw[Nat.shiftLeft_eq];have hp:2 ^ U<=2 ^ 54:=Nat.pow_le_pow_right dC iO;have:C.toNat*2 ^ U<=39*2 ^ 54:=aS4 oM hp;omega
theorem fT(s:ByteArray)(w:World)(hs:s.size<=maxLen) :
 Calls prog 32 #[.string s] w (Rt (.tuple #[.agg #[V6 (aO s:Nat),V6 (aP s:Nat)],I6 (cT s)]) (Bl w)):=by
 have HI:=zD (λW=>iN s W hs);unfold maxLen at hs;have B0:=zD (And.intro (ai.new w 83 #[V6 0,V6 0]) (show Bl w (w.alloc (.cells #[V6 0,V6 0] 83)) by go_grown));cases hi:eO s
 ·have he:cT s=2:=by unfold cT;rw[hi];rfl
  have h1:aO s=0:=by unfold aO;rw[hi];rfl
  have h2:aP s=0:=by unfold aP;rw[hi];rfl
  rw[he]at HI;rw[h1,h2,he];clear hi h1 h2 he;go_enter func32,ntmps32;go_wp2_with(go_at_call 58;refine zM (HI.out _) λw1 hb1=>?_;have D1:=zD (zT B0.out.2 hb1);have B1:=zD (B0.out.1.call hb1);have z1:=B1.out.lt;have c0:=B1.out.z 0 (V6 0);have c1:=B1.out.z 1 (V6 0);have f0:=B1.out.frozen 0;have f1:=B1.out.frozen 1;clear hb1);refine bodyPost_ret (az rfl _ _ w.heap.size _ _ _ rfl ((B1.out.aX 0 _).aX 1 _) underlying83 rfl kZ) rfl ⟨rfl,(D1.out.setCell sI _).setCell sI _⟩
 ·obtain⟨⟨h1,h2⟩,h3⟩:=pB hi
  have eh:aO s=JP ((b9 s).take s.size):=by unfold aO;rw[hi,aB5 (by rw[fS];exact aC2 _)];rfl
  have el:aP s=KB ((b9 s).take s.size):=by unfold aP;rw[hi,aB5 (by rw[fS];exact aC2 _)];rfl
  have he:cT s=0:=by unfold cT;rw[hi];rfl
  rw[he]at HI;rw[eh,el,he];have HN:=zD h3;have HA:=zD (λk (hk:k<s.size)=>(show(s[k]'hk).toNat<128 from Decidable.byContradiction λhn=>h3 k hk (qJ oM)));have HB:=zD (λk (hk:k<s.size) (h10:k<10)=>Tu (jK hk) (by have:=l8 ((s[k]'hk).toNat:Int);omega) h10);have HL:=zD (λk (hk:k<s.size) (h10:10<=k)=>Tv (jK hk) (by have:=l8 ((s[k]'hk).toNat:Int);omega) h10 oM);have HH:=zD (λk (h:10<=k)=>xX (l:=b9 s) (i:=k) h);have HW:=zD (λk (h:k<=10)=>Dq (l:=b9 s) (i:=k) h);have Ag:=zD (λk=>And.intro (Tw (l:=(b9 s).take k) (λc hc=>l9 s c (aI0 hc))) (Tx (l:=(b9 s).take k) (by simp;have:=fS s;omega) (λc hc=>l9 s c (aI0 hc))));have R0:=zD (show JP ((b9 s).take 0)=0 from by simp[JP,oJ,hq]);have R1:=zD (show KB ((b9 s).take 0)=0 from by simp[KB,oJ,hq]);have HHs:=zD (λk (h:10<=k)=>(show JP ((b9 s).take (k+1))=JP ((b9 s).take k)from by rw[xX oM,xX h]));have HWs:=zD (λk (h:k<10)=>(show KB ((b9 s).take (k+1))=KB ((b9 s).take k)from by rw[Dq oM,Dq oM]));obtain⟨rh,hrh⟩:∃rh:Nat->Nat,rh=λk=>JP ((b9 s).take k):=⟨_,rfl⟩
  obtain⟨rl,Nl⟩:∃rl:Nat->Nat,rl=λk=>KB ((b9 s).take k):=⟨_,rfl⟩
  have e1:∀k,JP ((b9 s).take k)=rh k:=λk=>by rw[hrh]
  have e2:∀k,KB ((b9 s).take k)=rl k:=λk=>by rw[Nl]
  simp only[e1,e2]at HB HL Ag R0 R1 HHs HWs |-;clear hi h1 h3 eh el he hrh Nl e1 e2 HH HW;go_enter func32,ntmps32;go_wp2_with(go_at_call 58;refine zM (HI.out _) λw1 hb1=>?_;have D1:=zD (zT B0.out.2 hb1);have B1:=zD (B0.out.1.call hb1);have z1:=B1.out.lt;clear hb1);go_loopw[6] (λi wr=>∃(k:Nat)(W:World),wr=W.iter s k/\k<=s.size/\W.heap.size=w1.heap.size+1/\ai W w1.heap.size 83 #[V6 (rh k:Nat),V6 (rl k:Nat)]/\ai W w.heap.size 83 #[V6 0,V6 0]/\Bl w W) (λ_ wr=>s.size-wr.iterPos (w1.heap.size+1))
  case atStart=>exact⟨0,w1.alloc (.cells #[V6 0,V6 0] 83),rfl,aB6 _,sI,by rw[R0.out,R1.out];exact ai.new _ _ _,B1.out.alloc _,D1.out.alloc D1.out.size _⟩
  case round=>
   obtain⟨k,W,rfl,hk,hWz,hbg,hb0,aT⟩:=hrel;have HZ:=zD hWz;have HBg:=zD hbg;have PD:=zD hb0;have HBe:=zD aT;clear hWz hbg hb0 aT
   by_cases hp:k<s.size
   ·have rk:∀ty,(Instr.next (pt (w1.heap.size+1)) true ty).run prog (W.iter s k)=.ok (.tuple #[.bool true,I6 k,.int .i32 (s[k]'hp).toNat]) (W.iter s (k+1)):=λty=>by
     have:=run_next_ascii (P:=prog) W s k ty hp (HA.out k hp);rw[HZ.out]at this;exact this
    have TC:=zD (show ai (W.iter s (k+1)) w1.heap.size 83 #[V6 (rh k:Nat),V6 (rl k:Nat)]from HBg.out.alloc _);have sf:=HA.out k hp;have HCo:=zD (λW=>mR ((s[k]'hp).toNat:Int) W oM oM);obtain⟨b1,b2⟩:=l8 ((s[k]'hp).toNat:Int);have Fg:k<20:=oM
    have hlt:=Ag.out k;obtain⟨q1,q2⟩:=hlt
    by_cases h10:k<10
    ·have HX:=zD (HB.out k hp h10)
     have HY:=zD (HWs.out k h10);generalize dY ((s[k]'hp).toNat:Int)=C at *;have hm:(k:Int) % 10=(k:Int):=oM
     have d10:decide ((k:Int)<10)=true:=by simp;omega
     have hu:(6*(9-(k:Int))).toNat=6*(9-k):=oM
     have hsh:IntKind.u64.wrap (C*2 ^ (6*(9-(k:Int))).toNat)=((C.toNat <<< (6*(9-k)):Nat):Int):=by
      have:=Nk b1 b2 (U:=6*(9-(k:Int))) oM oM;rw[hu]at this |-;exact this
     have gU:=TB (C:=C) (U:=6*(9-k)) b2 oM;generalize C.toNat <<< (6*(9-k))=SH at *;have hor:=u64_or_nat (rh k) SH oM gU;rw[<-HX.out]at hor;clear hu;go_upto_region 10 with(fail)
     obtain⟨W0,hw0⟩:=zE (W.iter s (k+1));rw[<-hw0]at TC |-;have HQ:=zD hw0;clear hw0;have fz:=TC.out.frozen 0;have cz:=TC.out.z 0 (V6 (rh k:Nat));refine zr (λj=>[8].contains j) (λwS=>Bl W0 wS) ?_;have S0:=(Below.refl W0.heap.size W0).drew;refine zk 5 [0,1,2,4] [_,V6 (rh k:Nat),_,_] (.q zX<|.q (zS λ_ h=>(TC.out.call h).z 0 (V6 (rh k:Nat)))<|.q zX<|.e) S0 ?_;refine zQ 3 ?_;go_wp2_with(go_at_call 94;refine zN (HCo.out _) ?_);refine .i S0 ?_;refine zq 1 [5,6,7] [V6 (SH:Nat),V6 (rh (k+1):Nat),pt w1.heap.size] S0 ?_;refine aq _ _ _ _ kZ ?_;refine zO 8 (λQ2 aI=>?_);go_wp2_with fail;(try refine aI _ _ ?_);(try clear aI Q2)
     refine wpAny_done kZ ?_ _;go_wp2;go_roundw
     case rel=>
      have e0:W0=W.iter s (k+1):=HQ.out;subst e0;have Xj:w1.heap.size<W.heap.size:=by rw[HZ.out];omega
      refine⟨k+1,(W.setCell ⟨w1.heap.size,0,none⟩ (V6 (rh (k+1):Nat))).drew,?_,oM,by simp[HZ.out],?_,?_,?_⟩
      ·rw[iter_set Xj];rfl
      ·rw[HY.out];exact HBg.out.aX 0 _
      ·exact PD.out.far (by show w.heap.size≠w1.heap.size;omega) _
      ·exact(HBe.out.setCell (by show w.heap.size<=w1.heap.size;omega) _).drew
     case measure=>
      have e0:W0=W.iter s (k+1):=HQ.out;subst e0;have Xj:w1.heap.size<W.heap.size:=by rw[HZ.out];omega
      rw[iter_set Xj,mU HZ.out];have:((W.setCell ⟨w1.heap.size,0,none⟩ (V6 (rh (k+1):Nat))).iter s (k+1)).drew.iterPos (w1.heap.size+1)=k+1:=mU (W:=(W.setCell ⟨w1.heap.size,0,none⟩ (V6 (rh (k+1):Nat))).drew) (by simp[HZ.out]);rw[this];omega
    ·have HX:=zD (HL.out k hp oM)
     have HY:=zD (HHs.out k oM);generalize dY ((s[k]'hp).toNat:Int)=C at *;have hm:(k:Int) % 10=(k:Int)-10:=oM
     have d10:decide ((k:Int)<10)=false:=by simp;omega
     have hu:(6*(9-((k:Int)-10))).toNat=6*(19-k):=oM
     have hsh:IntKind.u64.wrap (C*2 ^ (6*(9-((k:Int)-10))).toNat)=((C.toNat <<< (6*(19-k)):Nat):Int):=by
      have:=Nk b1 b2 (U:=6*(9-((k:Int)-10))) oM oM;rw[hu]at this |-;exact this
     have gU:=TB (C:=C) (U:=6*(19-k)) b2 oM;generalize C.toNat <<< (6*(19-k))=SH at *;have hor:=u64_or_nat (rl k) SH oM gU;rw[<-HX.out]at hor;clear hu;go_upto_region 11 with(fail)
     obtain⟨W0,hw0⟩:=zE (W.iter s (k+1));rw[<-hw0]at TC |-;have HQ:=zD hw0;clear hw0;have fz:=TC.out.frozen 1;have cz:=TC.out.z 1 (V6 (rl k:Nat));refine zr (λj=>[8].contains j) (λwS=>Bl W0 wS) ?_;have S0:=(Below.refl W0.heap.size W0).drew;refine zk 5 [0,1,2,4] [_,V6 (rl k:Nat),_,_] (.q zX<|.q (zS λ_ h=>(TC.out.call h).z 1 (V6 (rl k:Nat)))<|.q zX<|.e) S0 ?_;refine zQ 3 ?_;go_wp2_with(go_at_call 94;refine zN (HCo.out _) ?_);refine .i S0 ?_;refine zq 1 [5,6,7] [V6 (SH:Nat),V6 (rl (k+1):Nat),.pointer (some ⟨w1.heap.size,1,none⟩)] S0 ?_;refine aq _ _ _ _ kZ ?_;refine zO 8 (λQ2 aI=>?_);go_wp2_with fail;(try refine aI _ _ ?_);(try clear aI Q2)
     refine wpAny_done kZ ?_ _;go_wp2;go_roundw
     case rel=>
      have e0:W0=W.iter s (k+1):=HQ.out;subst e0;have Xj:w1.heap.size<W.heap.size:=by rw[HZ.out];omega
      refine⟨k+1,(W.setCell ⟨w1.heap.size,1,none⟩ (V6 (rl (k+1):Nat))).drew,?_,oM,by simp[HZ.out],?_,?_,?_⟩
      ·rw[iter_set Xj];rfl
      ·rw[HY.out];exact HBg.out.aX 1 _
      ·exact PD.out.far (by show w.heap.size≠w1.heap.size;omega) _
      ·exact(HBe.out.setCell (by show w.heap.size<=w1.heap.size;omega) _).drew
     case measure=>
      have e0:W0=W.iter s (k+1):=HQ.out;subst e0;have Xj:w1.heap.size<W.heap.size:=by rw[HZ.out];omega
      rw[iter_set Xj,mU HZ.out];have:((W.setCell ⟨w1.heap.size,1,none⟩ (V6 (rl (k+1):Nat))).iter s (k+1)).drew.iterPos (w1.heap.size+1)=k+1:=mU (W:=(W.setCell ⟨w1.heap.size,1,none⟩ (V6 (rl (k+1):Nat))).drew) (by simp[HZ.out]);rw[this];omega
   ·obtain rfl:k=s.size:=oM
    have rk:∀ty,(Instr.next (pt (w1.heap.size+1)) true ty).run prog (W.iter s s.size)=.ok (.tuple #[.bool false]) (W.iter s s.size):=λty=>by
     have:=run_next_end (P:=prog) W s s.size ty oM;rw[HZ.out]at this;exact this
    have TC:=zD (show ai (W.iter s s.size) w1.heap.size 83 #[V6 (rh s.size:Nat),V6 (rl s.size:Nat)]from HBg.out.alloc _);have TD:=zD (show ai (W.iter s s.size) w.heap.size 83 #[V6 0,V6 0]from PD.out.alloc _);have HXe:=zD (show Bl w (W.iter s s.size)from HBe.out.alloc HBe.out.size _);generalize W.iter s s.size=W9 at *;have:=TC.out.z 0 (V6 (rh s.size:Nat));have:=TC.out.z 1 (V6 (rl s.size:Nat));have:=TD.out.z 0 (V6 0);have:=TD.out.z 1 (V6 0);have:=TD.out.frozen 0;have:=TD.out.frozen 1;go_wp2;refine bodyPost_ret (az rfl _ _ w.heap.size _ _ _ rfl ((TD.out.aX 0 _).aX 1 _) underlying83 rfl kZ) rfl ⟨rfl,(HXe.out.setCell sI _).setCell sI _⟩
section
structure Wt where
 task:Int
 write:Bool
deriving DecidableEq
def Wt.cells(x:Wt):List Value:=[I6 x.task,.bool x.write]
structure Lk where
 r:BitVec 32
 w:BitVec 32
 line:List Wt
deriving DecidableEq
def b7(t:Int):BitVec 32:=if t<0\/32<=t then 0#32 else 1#32 <<< t.toNat
def dh(l:Lk)(t:Int):Int:=if b7 t=0#32 then 0 else if l.w &&& b7 t≠0#32 then 2 else if l.r &&& b7 t≠0#32 then 1 else 0
def j0(l:Lk)(wr:Bool):Bool:=decide (l.w=0#32)&&(!wr||decide (l.r=0#32))
abbrev fU(b:BitVec 32):Value:=.int .u32 (b.toNat:Nat)
abbrev Np:TypeId:=282
abbrev AJ:TypeId:=408
def gJ(b:BitVec 32):(((b.toNat:Nat):Int)=0)↔b=0#32:=by
 constructor
 ·intro h
  apply BitVec.eq_of_toNat_eq;simp;omega
 ·intro h;subst h;rfl
def Cn(a b:BitVec 32):bits .and .u32 ((a.toNat:Nat):Int) ((b.toNat:Nat):Int)=(((a &&& b).toNat:Nat):Int):=by
 rw[u32_and_nat _ _ (oH a.isLt) (oH b.isLt),BitVec.toNat_and]
def GU(a b:BitVec 32):bits .or .u32 ((a.toNat:Nat):Int) ((b.toNat:Nat):Int)=(((a ||| b).toNat:Nat):Int):=by
 rw[u32_or_nat _ _ (oH a.isLt) (oH b.isLt),BitVec.toNat_or]
def si(a b:BitVec 32):bits .andNot .u32 ((a.toNat:Nat):Int) ((b.toNat:Nat):Int)=(((a &&& ~~~b).toNat:Nat):Int):=by
 show IntKind.u32.wrap ((BitVec.ofInt 32 ((a.toNat:Nat):Int) &&& ~~~BitVec.ofInt 32 ((b.toNat:Nat):Int)).toNat:Int)=_
 have e:∀c:BitVec 32,BitVec.ofInt 32 ((c.toNat:Nat):Int)=c:=λc=>by
  rw[BitVec.ofInt_natCast];simp
 rw[e,e,IntKind.wrap_u32'];have:=(a &&& ~~~b).isLt;omega
structure mA(w:World)(B o:Nat)(ty:TypeId)(cs:Array Value)(v:Value)(l:Lk):Prop where
 blk:ai w B ty cs
 c0:cs[o]? = some (fU l.r)
 c1:cs[o+1]? = some (fU l.w)
 c2:cs[o+2]? = some v
 own:aK w 0 AJ 2 Wt.cells v l.line
 ne:v.ownBlock≠some B
section
variable{w w' : World}{B o:Nat}{ty:TypeId}{cs:Array Value}{v:Value}{l:Lk}
def mA.call(h:mA w B o ty cs v l)(hb:Bl w w'):mA w' B o ty cs v l:=⟨h.blk.call hb,h.c0,h.c1,h.c2,h.own.call hb,h.ne⟩
def mA.upd{S:Nat->Prop}(h:mA w B o ty cs v l)(hu:ah S w w')(h1:¬S B)(h2:∀k,v.ownBlock=some k->¬S k):mA w' B o ty cs v l:=⟨h.blk.upd hu h1,h.c0,h.c1,h.c2,h.own.upd hu h2,h.ne⟩
def mA.drewN(h:mA w B o ty cs v l)(n:Nat):mA (w.drewN n) B o ty cs v l:=⟨h.blk.drewN n,h.c0,h.c1,h.c2,h.own.cD n,h.ne⟩
end
theorem mV(t:Int)(w:World)(ht:aw t):Calls prog 297 #[I6 t] w λe w'=>e=.returned (fU (b7 t))/\w=w':=by
 by_cases h1:t<0
 ·have HQ:=zD (show b7 t=0#32 from if_pos (.inl h1))
  go_enter func297,ntmps297;go_wp2;go_ret;exact⟨by rw[HQ.out];rfl,rfl⟩
 ·by_cases h2:32<=t
  ·have HQ:=zD (show b7 t=0#32 from if_pos (.inr h2))
   go_enter func297,ntmps297;go_wp2;go_ret;exact⟨by rw[HQ.out];rfl,rfl⟩
  ·have HQ:=zD (show b7 t=1#32 <<< t.toNat from if_neg oM)
   obtain⟨k,rfl⟩:∃k:Nat,t=k:=⟨t.toNat,oM⟩
   have hk:k<32:=oM
   have AK:=zD (show(2 ^ k % 4294967296:Int)=(((1#32 <<< k).toNat:Nat):Int)from by
    have hall:∀i:Fin 32,(2 ^ i.val % 4294967296:Int)=(((1#32 <<< i.val).toNat:Nat):Int):=dC
    exact hall ⟨k,hk⟩)
   go_enter func297,ntmps297;go_wp2;go_ret;exact⟨by show Ending.returned (.int .u32 (2 ^ k % 4294967296))=_;rw[AK.out,HQ.out];rfl,rfl⟩
theorem vn(t:Int)(w:World)(ht:aw t):Calls prog 254 #[.pointer none,I6 t] w λe w'=>e=.returned (I6 0)/\w=w':=by
 generalize b7 t=b at *;go_enter func254,ntmps254;go_wp2_with(go_at_call 297;refine(mV t w ht).mono ?_;rintro e w1 ⟨rfl,rfl⟩);go_ret;exact⟨rfl,rfl⟩
theorem jy(B o:Nat)(ty:TypeId)(cs:Array Value)(v:Value)(l:Lk)(t:Int)(w:World)(h:mA w B o ty cs v l)(ht:aw t) :
 Calls prog 254 #[.pointer (some ⟨B,o,none⟩),I6 t] w λe w'=>e=.returned (I6 (dh l t))/\w=w':=by
 have HB:=mV t w ht;have c0:=h.blk.ar h.c0;have c1:=h.blk.ar h.c1;have hq:dh l t=if b7 t=0#32 then 0 else if l.w &&& b7 t≠0#32 then 2 else if l.r &&& b7 t≠0#32 then 1 else 0:=rfl
 generalize dh l t=Q at *;generalize b7 t=b at *;have:=Cn l.w b;have:=Cn l.r b;have Xl:Q=if((b.toNat:Nat):Int)=0 then 0 else if ¬(((l.w &&& b).toNat:Nat):Int)=0 then 2 else if ¬(((l.r &&& b).toNat:Nat):Int)=0 then 1 else 0:=by
  rw[hq];simp only[(gJ b),(gJ (l.w &&& b)),(gJ (l.r &&& b)),ne_eq]
 clear hq h;generalize(((l.w &&& b).toNat:Nat):Int)=X1 at *;generalize(((l.r &&& b).toNat:Nat):Int)=X0 at *;unfold fU at HB c0 c1;generalize((b.toNat:Nat):Int)=nb at *;generalize((l.r.toNat:Nat):Int)=lr at *;generalize((l.w.toNat:Nat):Int)=lw at *
 by_cases h1:nb=0
 ·rw[if_pos h1]at Xl
  subst Xl;go_enter func254,ntmps254;go_wp2_with(go_at_call 297;refine HB.mono ?_;rintro e w1 ⟨rfl,rfl⟩);go_ret;exact⟨rfl,rfl⟩
 rw[if_neg h1]at Xl
 by_cases h2:X1=0
 ·rw[if_neg (λe=>e h2)]at Xl
  by_cases h3:X0=0
  ·rw[if_neg (λe=>e h3)]at Xl
   subst Xl;go_enter func254,ntmps254;go_wp2_with(go_at_call 297;refine HB.mono ?_;rintro e w1 ⟨rfl,rfl⟩);go_ret;exact⟨rfl,rfl⟩
  ·rw[if_pos h3]at Xl
   subst Xl;go_enter func254,ntmps254;go_wp2_with(go_at_call 297;refine HB.mono ?_;rintro e w1 ⟨rfl,rfl⟩);go_ret;exact⟨rfl,rfl⟩
 ·rw[if_pos h2]at Xl
  subst Xl;go_enter func254,ntmps254;go_wp2_with(go_at_call 297;refine HB.mono ?_;rintro e w1 ⟨rfl,rfl⟩);go_ret;exact⟨rfl,rfl⟩
theorem Ds(B o:Nat)(ty:TypeId)(cs:Array Value)(v:Value)(l:Lk)(wr:Bool)(w:World)(h:mA w B o ty cs v l) :
 Calls prog 356 #[.pointer (some ⟨B,o,none⟩),.bool wr] w λe w'=>e=.returned (.bool (j0 l wr))/\w=w':=by
 have c0:=h.blk.ar h.c0;have c1:=h.blk.ar h.c1;have hq:j0 l wr=(decide (((l.w.toNat:Nat):Int)=0)&&(!wr||decide (((l.r.toNat:Nat):Int)=0))):=by unfold j0;simp only[(gJ l.r),(gJ l.w)]
 rw[hq];unfold fU at c0 c1;clear hq h;generalize((l.r.toNat:Nat):Int)=lr at *;generalize((l.w.toNat:Nat):Int)=lw at *
 by_cases h1:lw=0
 ·cases wr
  ·go_enter func356,ntmps356
   go_wp2;go_ret;exact⟨by simp[h1],rfl⟩
  ·by_cases h2:lr=0
   ·go_enter func356,ntmps356
    go_wp2;go_ret;exact⟨by simp[h1,h2],rfl⟩
   ·go_enter func356,ntmps356
    go_wp2;go_ret;exact⟨by simp[h1,h2],rfl⟩
 ·go_enter func356,ntmps356
  go_wp2;go_ret;exact⟨by simp[h1],rfl⟩
end
def vq(w:World){ops:Array Oper}{rest:List Oper}{o:Oper}{a:Act}{Q:Exit->Act->World->Prop}(hgd:o.guard=none)(s x:Operand)(t:TypeId)(ho:o.op=.call {callee:=.builtin .append,args:=#[s,x],argTypes:=#[t,t]})(base:Nat)(e:TypeId)(z:Value)(size bytes:Nat)(cells:α->List Value)(ht:P.underlying t=some (.slice e))(hi:(P.info? e).map (λi=>(i.zero,i.size,i.bytes))=some (some z,size,bytes))(hzs:z.cells.size=size)(hsz:0<size)(hcs:∀x,(cells x).length=size)(vH:∀x,∀u∈cells x,u.oneCell' = true)(g off n cap:Nat)(l:List α)(hs:a.eval s=.slice (some ⟨g,off,none⟩) n cap)(hown:aK w base e size cells (.slice (some ⟨g,off,none⟩) n cap) l)(ad:Addr)(m c:Nat)(ys:List α)(hx:a.eval x=.slice (some ad) m c)(RM:ag w size cells (some ad) m c ys)(hlen:l.length+m<1000000)(hby:bytes<=100000)(hbase:base<=w.heap.size)(h:∀v' w',aK w' base e size cells v' (l++ys)->ah (λk=>k=g) w w'->(v'.ownBlock=some g\/v'.ownBlock=some w.heap.size)->wpList P ops Q rest (a.put o.dst v') w'):wpList P ops Q (o::rest) a w:=by
 obtain⟨i,h1,h2,h3,h4⟩:=info_parts hi;have Fa:ys.length=m:=RM.1;have hb1:(l.length+m)*bytes<=140737488355328:=by have:=aS4 (show l.length+m<=1000000 by omega) hby;omega
 have hfy:(ys.flatMap cells).length=m*size:=by rw[aZ hcs,Fa]
 have kX:(ys.flatMap cells).length=m*i.size:=by rw[hfy,h3]
 have hm:l.length+m<=maxLen:=by unfold maxLen;omega
 have xB:(l.flatMap cells).length=l.length*size:=aZ hcs l;have Su:((l++ys).flatMap cells)=l.flatMap cells++ys.flatMap cells:=sI
 have ao6:∀u∈ys.flatMap cells,u.oneCell' = true:=λu hu=>by obtain⟨y,_,hy⟩:=aT8.1 hu;exact vH y u hy
 have ag6:=hown.Dc (a:=⟨g,off,none⟩) rfl;rcases hown with⟨hv,_⟩|⟨g',tL,cap',cur,hv,hbg,hg,mF,hcm,hcz,eM⟩
 ·cases hv
 injection hv with e1 e2 e3
 injection e1 with e1
 injection e1 with e1 e4
 subst e1;subst e4;subst e3;subst e2
 by_cases hroom:l.length+m<=cap
 ·have iD:off+l.length*i.size+(ys.flatMap cells).length<=cur.size:=by
   rw[hfy,h3];have:=aE9 size hroom;rw[aD6]at this;omega
  have hr2:=je (P:=P) w t o.type e i ht h1 g off l.length cap cur hg ad m c (ys.flatMap cells) kX (RM.cells hcs) ao6 hroom iD;refine Lib.wpList_append_run w hgd s x t t ho _ _ hs hx _ _ hr2 ?_;rw[h3]at iD |-;refine h _ _ (.inr ⟨g,off,cap,_,by simp[Fa],hbg,setRow_heap w g cur _ e _ hg,by simpa[Fa]using hroom,hcm,?_,?_⟩) ⟨rfl,rfl,rfl,sI,λk _ hk=>setRow_other w g k _ hk⟩ (.inl rfl)
  ·simp only[aF1,aB8,aC3,aD2,aT6]
   omega
  ·rw[Su]
   have e6:(l++ys).length*size=(l.flatMap cells++ys.flatMap cells).length:=by
    rw[aB8,aB8,xB,hfy,aD6,Fa]
   rw[e6];simp only[aD0];have:off<=cur.toList.length:=by simp;omega
   have e7:cur.toList.take (off+l.length*size)=cur.toList.take off++l.flatMap cells:=by
    rw[List.take_add,eM]
   rw[e7,aD0,aR7 (by rw[aC3];omega),aG3 (by rw[aC3];omega),aD4,<-aD0];exact take_left
 ·have hr2:=run_append_grow (P:=P) w t o.type e i z ht h1 h2 ⟨g,off,none⟩ l.length cap (l.flatMap cells) (by rw[xB,h3]) ag6 ad m c (ys.flatMap cells) kX (RM.cells hcs) oM oM (growslice_fits oM (by rw[h4];exact hb1))
  refine Lib.wpList_append_run w hgd s x t t ho _ _ hs hx _ _ hr2 ?_;have hge:=grownCap_ge w (l.length+m) cap e;have aw8:grownCap w (l.length+m) cap e<=maxLen:=grownCap_le_maxLen w (l.length+m) cap e hm;refine h _ _ (.inr ⟨w.heap.size,0,_,_,by simp[Fa],hbase,heap_alloc_new w.drew _,by simpa[Fa]using hge,aw8,?_,?_⟩) ((ah.refl _ w).drew.alloc _) (.inr rfl)
  ·simp only[Array.size_append,aF1,size_zeroCells,hzs,xB,hfy,aR9]
   have:grownCap w (l.length+m) cap e*size=l.length*size+m*size+(grownCap w (l.length+m) cap e-(l.length+m))*size:=by
    conv=>lhs;rw[show grownCap w (l.length+m) cap e=(l.length+m)+(grownCap w (l.length+m) cap e-(l.length+m)) by omega]
    rw[aD6,aD6]
   omega
  ·have e6:(l++ys).length*size=(l.flatMap cells++ys.flatMap cells).length:=by
    rw[aB8,aB8,xB,hfy,aD6,Fa]
   rw[Su,e6,List.drop_zero];simp only[aV1];exact take_left
theorem Cs{α:Type}{cells:α->List Value}{size:Nat}(hsz:∀x,(cells x).length=size):∀(l:List α)(k:Nat),k<=l.length->(l.flatMap cells).take (k*size)=(l.take k).flatMap cells
 |l,0,_=>by simp
 |[],k+1,h=>by simp at h
 |x::l,k+1,h=>by
  rw[aE8,aU9,aE8,aD6,aI4,aS0,aB5 (by rw[hsz];omega),hsz,aT0,Cs hsz l k (by simpa using h)]
def aK.cut{base e:Nat}{cells:α->List Value}{l:List α}(hsz:∀x,(cells x).length=size)(h:aK w base e size cells (.slice (some ⟨g,off,none⟩) n cap) l)(hk:k<=n)(hkc:k<=c)(hc:c<=cap):aK w base e size cells (.slice (some ⟨g,off,none⟩) k c) (l.take k):=by
 rcases h with⟨h,_⟩|⟨g',tL,cap',cur,hv,hb,hg,mF,hcm,hcs,EZ⟩
 ·cases h
 injection hv with e1 e2 e3
 injection e1 with e1
 injection e1 with e1 e4
 subst e1;subst e4;subst e3;subst e2;have zt:(l.take k).length=k:=by rw[aC3];omega
 have:c*size<=cap*size:=aE9 _ hc;refine .inr ⟨g,off,c,cur,by rw[zt],hb,hg,by rw[zt];exact hkc,oM,oM,?_⟩;rw[zt,<-Cs hsz l k hk,<-EZ,aH4,aG5 (aE9 _ hk)]
def La{cells:α->List Value}{A:Option Addr}{len:Nat}{l:List α}(h:ag w size cells A len cap l)(hk:k<=len):ag w size cells A k cap (l.take k):=by
 obtain⟨h1,h2,h3,h4,h5⟩:=h;refine⟨by rw[aC3];omega,oM,h3,(λha=>oH (h4 ha)),λa ha=>?_⟩;obtain⟨k1,k2⟩:=h5 a ha;refine⟨λi x hi j v hj=>?_,λhl=>k2 oM⟩;rw[aE4]at hi
 split at hi
 ·exact k1 i x hi j v hj
 ·cases hi
def yg{cells:α->List Value}{b len:Nat}{l:List α}(h:ag w size cells (some ⟨b,off,none⟩) len cap l)(hk:k<=len):ag w size cells (some ⟨b,off+k*size,none⟩) (len-k) (cap-k) (l.drop k):=by
 obtain⟨h1,h2,h3,h4,h5⟩:=h;refine⟨by rw[aD2];omega,oM,by unfold maxLen at *;omega,(λh=>by cases h),λa ha=>?_⟩;obtain⟨k1,k2⟩:=h5 _ rfl;cases ha;refine⟨λi x hi j v hj=>?_,λhl=>⟨(k2 oM).1,rfl⟩⟩;rw[aE5]at hi;have:=k1 (k+i) x hi j v hj;rw[Addr.add_lit]at this |-;rw[show off+k*size+(i*size+j)=off+((k+i)*size+j) by rw[aD6];omega];exact this
section
theorem su{α:Type}{motive:List α->Prop}(nil:motive [])(snoc:∀l x,motive l->motive (l++[x]))(l:List α):motive l:=by
 have h:∀(n:Nat)(l:List α),l.length=n->motive l:=by
  intro n
  induction n with
  |zero=>intro l hl;rw[aC0 hl];exact nil
  |succ n ih=>
   intro l hl;rcases aS6 l with rfl|⟨m,x,rfl⟩
   ·simp at hl
   ·rw[aS7]at *
    exact snoc m x (ih m (sH hl))
 exact h l.length l rfl
section
variable{α:Type}(le:α->α->Bool)
def mg:List α->List α->List α
 |[],Y=>Y
 |X,[]=>X
 |x::X,y::Y=>if le x y then x::mg X (y::Y)else y::mg (x::X) Y
termination_by X Y=>X.length+Y.length
def j7(X:List α):mg le X []=X:=by cases X<;>simp[mg]
def ir(Y:List α):mg le [] Y=Y:=by simp[mg]
def jB(x y:α)(X Y:List α):mg le (x::X) (y::Y)=if le x y then x::mg le X (y::Y)else y::mg le (x::X) Y:=by rw[mg]
theorem Lc:∀(X Y:List α),(mg le X Y).length=X.length+Y.length
 |[],Y=>by simp[ir]
 |x::X,[]=>by simp[j7]
 |x::X,y::Y=>by
  rw[jB]
  split
  ·rw[aC4,Lc X (y::Y)];simp;omega
  ·rw[aC4,Lc (x::X) Y];simp;omega
termination_by X Y=>X.length+Y.length
theorem DA{z:α} : ∀(X Y:List α),z∈mg le X Y↔z∈X\/z∈Y
 |[],Y=>by simp[ir]
 |x::X,[]=>by simp[j7]
 |x::X,y::Y=>by
  rw[jB]
  split
  ·rw[aE6,DA X (y::Y)];simp[or_assoc]
  ·rw[aE6,DA (x::X) Y];simp only[aE6]
   constructor
   ·rintro(h|h|h)
    ·exact .inr (.inl h)
    ·exact .inl h
    ·exact .inr (.inr h)
   ·rintro(h|h|h)
    ·exact .inr (.inl h)
    ·exact .inl h
    ·exact .inr (.inr h)
termination_by X Y=>X.length+Y.length
theorem gM{X2 Y2:List α} : ∀(X1 Y1:List α),(∀x∈X2,∀y∈Y1,le x y=false)->(∀x∈X1,∀y∈Y2,le x y=true)->mg le (X1++X2) (Y1++Y2)=mg le X1 Y1++mg le X2 Y2
 |[],[],_,_=>by simp[ir]
 |x::X,[],h1,h2=>by
  rw[j7,aD4];cases Y2 with
  |nil=>simp[j7]
  |cons y Y=>
   rw[aE0,jB,if_pos (h2 x sI y sI)];have:=gM X [] (X2:=X2) (Y2:=y::Y) sI (λa ha b hb=>h2 a (by simp[ha]) b hb);rw[aD4,j7]at this;rw[this];rfl
 |[],y::Y,h1,h2=>by
  rw[ir,aD4];cases X2 with
  |nil=>simp[ir]
  |cons x X=>
   rw[aE0,jB,if_neg (by rw[h1 x sI y sI];simp)];have:=gM [] Y (X2:=x::X) (Y2:=Y2) (λa ha b hb=>h1 a ha b (by simp[hb])) sI;rw[aD4,ir]at this;rw[this];rfl
 |x::X,y::Y,h1,h2=>by
  rw[aE0,aE0,jB,jB]
  by_cases h:le x y=true
  ·rw[if_pos h,if_pos h]
   have:=gM X (y::Y) (X2:=X2) (Y2:=Y2) h1 (λa ha b hb=>h2 a (by simp[ha]) b hb);rw[aE0]at this;rw[this];rfl
  ·rw[if_neg h,if_neg h]
   have:=gM (x::X) Y (X2:=X2) (Y2:=Y2) (λa ha b hb=>h1 a ha b (by simp[hb])) h2;rw[aE0]at this;rw[this];rfl
termination_by X1 Y1=>X1.length+Y1.length
theorem ag8{x:α}{Y1 Y2:List α}(h1:∀y∈Y1,le x y=false)(h2:∀y∈Y2,le x y=true):mg le [x] (Y1++Y2)=Y1++x::Y2:=by
 have h:=gM le [] Y1 (X2:=[x]) (Y2:=Y2) (sH h1) sI;rw[aD4,ir]at h;rw[h]
 congr 1
 cases Y2 with
 |nil=>simp[j7]
 |cons y Y=>rw[jB,if_pos (h2 y sI),ir]
theorem YE{y:α}{X1 X2:List α}(h1:∀x∈X1,le x y=true)(h2:∀x∈X2,le x y=false):mg le (X1++X2) [y]=X1++y::X2:=by
 have h:=gM le X1 [] (X2:=X2) (Y2:=[y]) sI (sH h1);rw[aD4,j7]at h;rw[h]
 congr 1
 cases X2 with
 |nil=>simp[ir]
 |cons x X=>rw[jB,if_neg (by rw[h2 x sI];simp),j7]
def nP(x:α)(S:List α):List α:=S.takeWhile (λy=>le y x)++x::S.dropWhile (λy=>le y x)
def bL(l:List α):List α:=l.foldl (λs x=>nP le x s) []
def iu(l:List α)(x:α):bL le (l++[x])=nP le x (bL le l):=by simp[bL]
def ja(l:List α):Prop:=l.Pairwise (λx y=>le x y=true)
variable {le}
variable(nT:∀x y,le x y=true\/le y x=true)(tr:∀x y z,le x y=true->le y z=true->le x z=true)
include nT tr
omit nT tr in
theorem lL {S:List α} (p:α->Bool):∀y∈S.takeWhile p,p y=true:=by
 intro y hy
 induction S with
 |nil=>simp at hy
 |cons a S ih=>
  rw[List.takeWhile_cons]at hy
  split at hy
  ·rcases aE6.1 hy with rfl|h
   ·assumption
   ·exact ih h
  ·simp at hy
omit nT in
theorem sy {x:α} : ∀{S:List α},ja le S->∀y∈S.dropWhile (λy=>le y x),le y x=false
 |[],_,y,hy=>by simp at hy
 |a::S,h,y,hy=>by
  obtain⟨h1,h2⟩:=aI5.1 h;rw[List.dropWhile_cons]at hy
  split at hy
  ·exact sy h2 y hy
  ·rename_i ha
   rcases aE6.1 hy with rfl|hm
   ·simpa using ha
   ·cases hyx:le y x
    ·rfl
    ·exact absurd (tr _ _ _ (h1 y hm) hyx) ha
def Uj{x:α}{S:List α}(h:ja le S):ja le (nP le x S):=by
 unfold nP ja;have e:=aH8 (p:=λy=>le y x) (l:=S);have h':(S.takeWhile (λy=>le y x)++S.dropWhile (λy=>le y x)).Pairwise (λx y=>le x y=true):=by rw[e];exact h
 obtain⟨p1,p2,p3⟩:=aH3.1 h';refine aH3.2 ⟨p1,aI5.2 ⟨λy hy=>?_,p2⟩,λa ha b hb=>?_⟩
 ·have:=sy tr h y hy
  rcases nT x y with h0|h0
  ·exact h0
  ·rw[this]at h0;cases h0
 ·rcases aE6.1 hb with rfl|hb
  ·exact lL (λy=>le y b) a ha
  ·exact p3 a ha b hb
theorem jM(l:List α):ja le (bL le l):=by
 induction l using su with
 |nil=>exact List.Pairwise.nil
 |snoc l x ih=>rw[iu];exact Uj nT tr ih
omit nT tr in
theorem Ny {x:α} {S1 S2:List α} (h1:∀y∈S1,le y x=true) (h2:∀y∈S2,le y x=false):nP le x (S1++S2)=S1++x::S2:=by
 unfold nP;have e1:(S1++S2).takeWhile (λy=>le y x)=S1:=by
  rw[List.takeWhile_append_of_pos h1];cases S2 with
  |nil=>simp
  |cons a S=>rw[List.takeWhile_cons,if_neg (by rw[h2 a sI];simp)];simp
 have e2:(S1++S2).dropWhile (λy=>le y x)=S2:=by
  rw[List.dropWhile_append_of_pos h1];cases S2 with
  |nil=>simp
  |cons a S=>rw[List.dropWhile_cons,if_neg (by rw[h2 a sI];simp)]
 rw[e1,e2]
theorem YF{x:α}{S T:List α}(hS:ja le S)(hT:ja le T):mg le S (nP le x T)=nP le x (mg le S T):=by
 have eS:=aH8 (p:=λy=>le y x) (l:=S);have eT:=aH8 (p:=λy=>le y x) (l:=T);have s1:=lL (S:=S) (λy=>le y x);have s2:=sy tr (x:=x) hS;have t1:=lL (S:=T) (λy=>le y x);have t2:=sy tr (x:=x) hT;unfold nP;generalize S.takeWhile (λy=>le y x)=S1 at *;generalize S.dropWhile (λy=>le y x)=S2 at *;generalize T.takeWhile (λy=>le y x)=T1 at *;generalize T.dropWhile (λy=>le y x)=T2 at *;subst eS;subst eT;have c1:∀a∈S2,∀b∈T1,le a b=false:=λa ha b hb=>by
  cases h:le a b
  ·rfl
  ·have:=tr _ _ _ h (t1 b hb);rw[s2 a ha]at this;cases this
 have c2:∀a∈S1,∀b∈T2,le a b=true:=λa ha b hb=>by
  rcases nT a b with h|h
  ·exact h
  ·have:=tr _ _ _ h (s1 a ha);rw[t2 b hb]at this;cases this
 have c3:∀a∈S1,∀b∈x::T2,le a b=true:=λa ha b hb=>by
  rcases aE6.1 hb with rfl|hb
  ·exact s1 a ha
  ·exact c2 a ha b hb
 rw[gM le S1 T1 c1 c3,gM le S1 T1 c1 c2];have e:mg le S2 (x::T2)=x::mg le S2 T2:=by
  cases S2 with
  |nil=>rw[ir,ir]
  |cons a S2=>rw[jB,if_neg (by rw[s2 a sI];simp)]
 rw[e];have:=Ny (le:=le) (x:=x) (S1:=mg le S1 T1) (S2:=mg le S2 T2) (λy hy=>by
  rcases(DA le _ _).1 hy with h|h
  ·exact s1 y h
  ·exact t1 y h) (λy hy=>by
  rcases(DA le _ _).1 hy with h|h
  ·exact s2 y h
  ·exact t2 y h)
 unfold nP at this;exact this.symm
theorem DB(X Y:List α):bL le (X++Y)=mg le (bL le X) (bL le Y):=by
 induction Y using su with
 |nil=>rw[aW3];exact(j7 le _).symm
 |snoc Y y ih=>rw[<-aD0,iu,iu,YF nT tr (jM nT tr X) (jM nT tr Y),ih]
end
theorem fx{α:Type}(le:α->α->Bool)(l:List α):(bL le l).length=l.length:=by
 induction l using su with
 |nil=>rfl
 |snoc l x ih=>
  rw[iu,nP,aB8,aC4,<-aD9,<-aB8,aH8,ih];simp
end
section
open Go.RowKit Go.Maps
def ah6(v:Value):Option (DataW Value×List MemPlace):=some (.held v,[])
def iB(D:DataW Value)(f:Int->Option Value)(ks:List Int):Prop:=
 Maps.size D=ks.length/\ks.Nodup/\(∀x,x∈ks↔(f x).isSome=true)/\(∀x,f x=none->Maps.has D (.int .i64 x)=false)/\∀x v,f x=some v->∀z,D.atKey (.int .i64 x) z=.held v
def cw(P:Program)(w:World)(k:TypeId)(b:Nat)(f:Int->Option Value)(ks:List Int):Prop:=
 ∃D:DataW Value,w.ownsMap P k ah6 b ks.length D/\iB D f ks
def DK{P:Program}{k:TypeId}(hk:P.underlying k=some (.int .i64))(hx:aw x):keyOf P k (.int .i64 x)=some (.int .i64 x):=keyOf_int_mk hk (WalkArith.wf_i64 hx)
def qi{H:Type}{P:Program}{k:TypeId}{R:Value->Option (DataW H×List MemPlace)}{w:World}{b:Nat}{D:DataW H}(h:w.ownsMap P k R b n D):w.ownsMap P k R b (Maps.size D) D:=by
 obtain⟨es,clock,hb,F,hs,rfl⟩:=h;exact⟨es,clock,hb,F,by show es.size<=List.length _;rw[length_sorted];simp,rfl⟩
section
variable{P:Program}{k:TypeId}{w w' : World}{b:Nat}{f:Int->Option Value}{ks:List Int}
def iB.made:iB (.map []) (λ_=>none) []:=⟨rfl,aV7,sI,λ_ _=>rfl,λx v h=>by cases h⟩
def cw.made(P:Program)(w:World)(k:TypeId):cw P (w.alloc (.map #[] 0)) k w.heap.size (λ_=>none) []:=
 ⟨.map [],World.ownsMap_made w P k ah6,iB.made⟩
def cw.lt(h:cw P w k b f ks):b<w.heap.size:=by obtain⟨D,h,_⟩:=h;exact h.lt
def cw.grown{row:Option Nat}(h:cw P w k b f ks)(hg:w.grownBy w' row)(hne:some b≠row):cw P w' k b f ks:=by
 obtain⟨D,h1,h2⟩:=h;exact⟨D,h1.kept hg hne,h2⟩
def cw.block(h:cw P w k b f ks)(hb:w'.heap[b]? = w.heap[b]?):cw P w' k b f ks:=by
 obtain⟨D,⟨es,clock,h1,h2⟩,h3⟩:=h;exact⟨D,⟨es,clock,hb.trans h1,h2⟩,h3⟩
def cw.below{B:Nat}(h:cw P w k b f ks)(hb:Below B w w')(hB:b<B):cw P w' k b f ks:=h.block (hb.block b hB)
def cw.call(h:cw P w k b f ks)(hb:Bl w w'):cw P w' k b f ks:=h.below hb h.lt
def cw.alloc(h:cw P w k b f ks)(o:Obj):cw P (w.alloc o) k b f ks:=h.grown (World.grownBy_alloc w o none) sI
def cw.far(h:cw P w k b f ks){p:Addr}(hp:b≠p.block)(u:Value):cw P (w.setCell p u) k b f ks:=h.block (Below.heap_setCell w p u b hp)
def cw.len_(h:cw P w k b f ks)(ht:P.underlying t=some (.map k e))(ty:TypeId):(Builtin.len_ #[t] ty #[.map (some b)]).run P w=.ok (I6 (ks.length:Int)) w:=by
 obtain⟨D,h1,h2,_⟩:=h;rw[<-h2];exact h1.len ht ty
theorem cw.look(h:cw P w k b f ks)(hk:P.underlying k=some (.int .i64))(ht:P.underlying t=some (.map k e)){z:Value}(hz:(zeroValue e).run P w=.ok z w)(hx:aw x):
 (Instr.lookup t (.map (some b)) (.int .i64 x) false).run P w=.ok ((f x).getD z) w:=by
 obtain⟨D,h1,_,_,_,h3,h4⟩:=h;obtain⟨v,ps,hrun,hv⟩:=h1.lookup (int_keyed hk) ht hz (zd:=.held z) (zp:=[]) rfl (DK hk hx);rw[hrun];have e:DataW.held v=D.atKey (.int .i64 x) (.held z):=by
  unfold ah6 at hv;injection hv with hv
  exact congrArg Prod.fst hv
 cases hf:f x with
 |none=>rw[atKey_of_not_has (h3 x hf)]at e;injection e with e;rw[e];rfl
 |some u=>rw[h4 x u hf]at e;injection e with e;rw[e];rfl
def oU(ks:List Int)(x:Int):List Int:=if x∈ks then ks else ks++[x]
def Im(f:Int->Option Value)(x:Int)(v:Value):Int->Option Value:=λy=>if y=x then some v else f y
def Io(f:Int->Option Value)(x:Int):Int->Option Value:=λy=>if y=x then none else f y
def DL{y:Int}(h:y≠x):(Lit.int .i64 y)≠.int .i64 x:=λe=>h (by injection e)
theorem iB.put{D:DataW Value}(hT:Maps.Tidy D)(h:iB D f ks)(x:Int)(v:Value):iB (D.put (.int .i64 x) (.held v)) (Im f x v) (oU ks x):=by
 obtain⟨h1,h2,h3,h4,h5⟩:=h;have hx:Maps.has D (.int .i64 x)=decide (x∈ks):=by
  cases hf:f x with
  |none=>
   rw[h4 x hf];have:x ∉ ks:=λhm=>by have:=(h3 x).1 hm;rw[hf]at this;cases this
   simp[this]
  |some u=>
   rw[has_true_of_atKey (h5 x u hf)];have:x∈ks:=(h3 x).2 (by rw[hf];rfl);simp[this]
 refine⟨?_,?_,λy=>?_,λy hy=>?_,λy u hy z=>?_⟩
 ·rw[size_put hT,hx,h1]
  unfold oU
  by_cases hm:x∈ks<;>simp[hm]
 ·unfold oU
  split
  ·exact h2
  ·rename_i hm
   exact aH5.2 ⟨h2,sI,by simp;exact λa ha e=>hm (e ▸ ha)⟩
 ·unfold Im oU
  by_cases e:y=x
  ·subst e
   by_cases hm:y∈ks<;>simp[hm]
  ·rw[if_neg e,<-h3 y]
   by_cases hm:x∈ks<;>simp[hm,e]
 ·unfold Im at hy
  by_cases e:y=x
  ·rw[if_pos e]at hy;cases hy
  ·rw[if_neg e]at hy
   rw[has_put_other (DL e),h4 y hy]
 ·unfold Im at hy
  by_cases e:y=x
  ·rw[if_pos e]at hy
   cases hy;subst e;exact atKey_put_same hT.isMap (show WideAt.IsKeyLit (Lit.int .i64 y)from trivial) _ _
  ·rw[if_neg e]at hy
   rw[atKey_put_other (DL e),h5 y u hy]
theorem iB.del{D:DataW Value}(hT:Maps.Tidy D)(h:iB D f ks)(x:Int):iB (D.del (.int .i64 x)) (Io f x) (ks.filter λy=>decide (y≠x)):=by
 obtain⟨h1,h2,h3,h4,h5⟩:=h;refine⟨?_,h2.filter _,λy=>?_,λy hy=>?_,λy u hy z=>?_⟩
 ·have e:=size_del (k:=.int .i64 x) hT
  rw[h1]at e;cases hf:f x with
  |none=>
   have hm:x ∉ ks:=λhm=>by have:=(h3 x).1 hm;rw[hf]at this;cases this
   rw[h4 x hf]at e;simp at e;rw[e,aS5.2];intro a ha;simp;exact λe=>hm (e ▸ ha)
  |some u=>
   have hm:x∈ks:=(h3 x).2 (by rw[hf];rfl);rw[has_true_of_atKey (h5 x u hf)]at e;simp at e;have hl:(ks.filter λy=>decide (y≠x)).length+1=ks.length:=by
    have:=h2.erase_eq_filter x;have e2:(ks.filter λy=>decide (y≠x))=ks.erase x:=by rw[this];congr 1;funext y;simp[bne,BEq.beq]
    rw[e2,List.length_erase_of_mem hm];have:=List.length_pos_of_mem hm;omega
   omega
 ·unfold Io
  by_cases e:y=x
  ·subst e;simp
  ·rw[if_neg e,<-h3 y];simp[e]
 ·unfold Io at hy
  by_cases e:y=x
  ·subst e;exact has_del_same
  ·rw[if_neg e]at hy
   rw[has_del_other (DL e),h4 y hy]
 ·unfold Io at hy
  by_cases e:y=x
  ·rw[if_pos e]at hy;cases hy
  ·rw[if_neg e]at hy
   rw[atKey_del_other (DL e),h5 y u hy]
def cw.put(h:cw P w k b f ks)(hk:P.underlying k=some (.int .i64))(ht:P.underlying t=some (.map k e))(hn:ks.length<maxLen)(hx:aw x)(v:Value):
 ∃w',(Instr.mapUpdate t (.map (some b)) (.int .i64 x) v).run P w=.ok () w'/\cw P w' k b (Im f x v) (oU ks x)/\w.grownBy w' (some b):=by
 obtain⟨D,h1,h2⟩:=h;obtain⟨w',r1,r2,r3⟩:=h1.update (int_keyed hk) ht hn (DK hk hx) (d:=.held v) (ps:=[]) (val:=v) rfl;have hv:=h2.put (h1.tidy (int_keyed hk)) x v;exact⟨w',r1,⟨_,by have:=qi r2;rw[hv.1]at this;exact this,hv⟩,r3⟩
def cw.del(h:cw P w k b f ks)(hk:P.underlying k=some (.int .i64))(ht:P.underlying t=some (.map k e))(hx:aw x)(ty:TypeId):
 ∃w',(Builtin.delete_ #[t,k] ty #[.map (some b),.int .i64 x]).run P w=.ok (.tuple #[]) w'/\cw P w' k b (Io f x) (ks.filter λy=>decide (y≠x))/\w.grownBy w' (some b):=by
 obtain⟨D,h1,h2⟩:=h;obtain⟨w',r1,r2,r3⟩:=h1.drop (int_keyed hk) ht (DK hk hx) ty;have hv:=h2.del (h1.tidy (int_keyed hk)) x;exact⟨w',r1,⟨_,by have:=qi r2;rw[hv.1]at this;exact this,hv⟩,r3.grown⟩
def cw.tI(h:cw P w k b f ks){f' : Int->Option Value}{ks' : List Int}(hf:f=f')(hk:ks=ks'):cw P w k b f' ks':=by subst hf;subst hk;exact h
end
section
variable{P:Program}(w:World){ops:Array Oper}{rest:List Oper}{o:Oper}{a:Act}{Q:Exit->Act->World->Prop}
def jc(hg:o.guard=none)(m x:Operand)(t:TypeId)(hop:o.op=Op.lookup t m x false)(k e:TypeId)(hk:P.underlying k=some (.int .i64))(ht:P.underlying t=some (.map k e))(z:Value)(hz:(zeroValue e).run P w=.ok z w)
 (b:Nat) (f:Int->Option Value) (ks:List Int) (hm:a.eval m=.map (some b)) (h:cw P w k b f ks) (y:Int) (hx:a.eval x = I6 y) (hy:aw y)
 (hK:wpList P ops Q rest (a.put o.dst ((f y).getD z)) w):wpList P ops Q (o::rest) a w:=by
 refine wpList_plain hg λK' hK'=>?_
 unfold Oper.wp;simp[execOp,hop,hm,hx,(h.look hk ht hz hy),Result.andThen];exact hK' _ _ hK
def yr(hg:o.guard=none)(m x v:Operand)(t:TypeId)(hop:o.op=Op.mapUpdate t m x v)(k e:TypeId)(hk:P.underlying k=some (.int .i64))(ht:P.underlying t=some (.map k e))
 (b:Nat) (f:Int->Option Value) (ks:List Int) (hm:a.eval m=.map (some b)) (h:cw P w k b f ks) (hn:ks.length<maxLen) (y:Int) (hx:a.eval x = I6 y) (hy:aw y) (u:Value) (hv:a.eval v=u)
 (hK:∀w',cw P w' k b (Im f y u) (oU ks y)->w.grownBy w' (some b)->wpList P ops Q rest (a.put o.dst undef) w'):wpList P ops Q (o::rest) a w:=by
 refine wpList_plain hg λK' hK'=>?_
 obtain⟨w',hrun,r1,r2⟩:=h.put hk ht hn hy u;unfold Oper.wp;simp[execOp,hop,hm,hx,hv,hrun,Result.andThen];exact hK' _ _ (hK w' r1 r2)
def yt(hg:o.guard=none)(m x:Operand)(t k:TypeId)(hop:o.op=Op.call {callee:=Callee.builtin Builtin.delete,args:=#[m,x],argTypes:=#[t,k]})(e:TypeId)(hk:P.underlying k=some (.int .i64))(ht:P.underlying t=some (.map k e))
 (b:Nat) (f:Int->Option Value) (ks:List Int) (hm:a.eval m=.map (some b)) (h:cw P w k b f ks) (y:Int) (hx:a.eval x = I6 y) (hy:aw y)
 (hK:∀w',cw P w' k b (Io f y) (ks.filter λz=>decide (z≠y))->w.grownBy w' (some b)->wpList P ops Q rest (a.put o.dst (.tuple #[])) w'):wpList P ops Q (o::rest) a w:=by
 refine wpList_plain hg λK' hK'=>?_
 obtain⟨w',hrun,r1,r2⟩:=h.del hk ht hy o.type;unfold Oper.wp;simp[execOp,hop,resolve,invoke,builtin,hm,hx,hrun,Result.andThen];exact hK' _ _ (hK w' r1 r2)
def oW(hg:o.guard=none)(m:Operand)(t:TypeId)(hop:o.op=Op.call {callee:=Callee.builtin Builtin.len,args:=#[m],argTypes:=#[t]})(k e:TypeId)(ht:P.underlying t=some (.map k e))
 (b:Nat) (f:Int->Option Value) (ks:List Int) (hm:a.eval m=.map (some b)) (h:cw P w k b f ks)
 (hK:wpList P ops Q rest (a.put o.dst (I6 (ks.length:Int))) w):wpList P ops Q (o::rest) a w:=by
 refine wpList_plain hg λK' hK'=>?_
 unfold Oper.wp;simp[execOp,hop,resolve,invoke,builtin,hm,(h.len_ ht o.type),Result.andThen];exact hK' _ _ hK
end
section
variable{P:Program}{k:TypeId}{w w' : World}{b r:Nat}{f:Int->Option Value}{ks:List Int}{lf:Int->Bool}{cnt:Nat}
end
section
variable{P:Program}(w:World){ops:Array Oper}{rest:List Oper}{o:Oper}{a:Act}{Q:Exit->Act->World->Prop}
end
end
def vV(fp:Int->Option Nat):Int->Option Value:=λx=>(fp x).map λg=>pt g
def yu(fp:Int->Option Nat)(x:Int)(g:Nat):Int->Option Nat:=λy=>if y=x then some g else fp y
def Cx(fp:Int->Option Nat)(x:Int):Int->Option Nat:=λy=>if y=x then none else fp y
def UF(fp:Int->Option Nat)(x:Int)(g:Nat):Im (vV fp) x (pt g)=vV (yu fp x g):=by
 funext y;unfold Im vV yu;split<;>rfl
def UH(fp:Int->Option Nat)(x:Int):Io (vV fp) x=vV (Cx fp x):=by
 funext y;unfold Io vV Cx;split<;>rfl
def Cy(h:fp x=some g):(vV fp x).getD (.pointer none) = pt g:=by unfold vV;rw[h];rfl
def Qi(h:fp x=none):(vV fp x).getD (.pointer none)=.pointer none:=by unfold vV;rw[h];rfl
def yv(w:World):(zeroValue 232).run prog w=.ok (.pointer none) w:=kZ
def gQ(w:World)(g b:Nat)(fp:Int->Option Nat)(ks:List Int)(next:Int):Prop:=ai w g 210 #[.map (some b),I6 next]/\cw prog w 3 b (vV fp) ks/\g≠b
def gQ.call{w': World}{b:Nat}{ks:List Int}{next:Int}(h:gQ w g b fp ks next)(hb:Bl w w'):gQ w' g b fp ks next:=⟨h.1.call hb,h.2.1.call hb,h.2.2⟩
theorem Ln(w:World):Calls prog 54 #[] w λe w'=>e=.returned (pt (w.heap.size+1))/\gQ w' (w.heap.size+1) w.heap.size (λ_=>none) [] 1/\Bl w w':=by
 have:=@run_makeMap prog;go_enter func54,ntmps54;go_wp2;go_ret;exact⟨rfl,⟨(ai.dR w (.map #[] 0) 210 #[.map (some w.heap.size),I6 1]),((cw.made prog w 3).alloc (.cells #[.map (some w.heap.size),I6 1] 210)).tI (by funext x;rfl) rfl,oM⟩,gW⟩
def oX(fp:Int->Option Nat)(next n:Int):Int:=if n<1\/next<=n then 5 else if fp n=none then 8 else 0
theorem kQ(g b:Nat)(fp:Int->Option Nat)(ks:List Int)(next n:Int)(w:World)(h:gQ w g b fp ks next)(hn:aw n) :
 Calls prog 192 #[pt g,I6 n] w λe w'=>e=.returned (I6 (oX fp next n))/\w=w':=by
 have:=h.1.z 0 (.map (some b));have:=h.1.z 1 (I6 next);have HM:=h.2.1;clear h
 by_cases h1:n<1
 ·have HE:oX fp next n=5:=if_pos (.inl h1)
  have:decide (n<1)=true:=sH h1
  clear h1;go_enter func192,ntmps192;go_wp2;go_ret;exact⟨au HE.symm,rfl⟩
 have:decide (n<1)=false:=sH h1
 by_cases h2:next<=n
 ·have HE:oX fp next n=5:=if_pos (.inr h2)
  have:decide (next<=n)=true:=sH h2
  clear h1 h2;go_enter func192,ntmps192;go_wp2;go_ret;exact⟨au HE.symm,rfl⟩
 have:decide (next<=n)=false:=sH h2
 cases hf:fp n with
 |none=>
  have HE:oX fp next n=8:=by unfold oX;rw[if_neg oM,if_pos hf]
  have HL:=Qi hf;clear h1 h2 hf;go_enter func192,ntmps192;go_wp2_with(at_lookup;refine jc _ rfl _ _ 208 rfl 3 232 underlying3 underlying208 (.pointer none) (yv _) b _ _ rfl HM n rfl hn ?_;rw[HL]);go_ret;exact⟨au HE.symm,rfl⟩
 |some g1=>
  have HE:oX fp next n=0:=by unfold oX;rw[if_neg oM,if_neg (by rw[hf];simp)]
  have HL:=Cy hf;clear h1 h2 hf;go_enter func192,ntmps192;go_wp2_with(at_lookup;refine jc _ rfl _ _ 208 rfl 3 232 underlying3 underlying208 (.pointer none) (yv _) b _ _ rfl HM n rfl hn ?_;rw[HL]);go_ret;exact⟨au HE.symm,rfl⟩
theorem Bb(g b:Nat)(fp:Int->Option Nat)(ks:List Int)(next n:Int)(w:World)(h:gQ w g b fp ks next)(hn:aw n)(he:oX fp next n≠0) :
 Calls prog 193 #[pt g,I6 n] w λe w'=>e=.returned (.tuple #[.pointer none,I6 (oX fp next n)])/\w=w':=by
 have HF:=kQ g b fp ks next n w h hn;generalize oX fp next n=E at *;have:(E != 0)=true:=sH he
 clear he h;go_enter func193,ntmps193;go_wp2_with(go_at_call 192;refine HF.mono ?_;rintro e w1 ⟨rfl,rfl⟩);go_ret2;exact⟨rfl,rfl⟩
theorem Lp(g b g1:Nat)(fp:Int->Option Nat)(ks:List Int)(next n:Int)(w:World)(h:gQ w g b fp ks next)(hn:aw n)(he:oX fp next n=0)(hf:fp n=some g1) :
 Calls prog 193 #[pt g,I6 n] w λe w'=>e=.returned (.tuple #[pt g1,I6 0])/\w=w':=by
 have HF:=kQ g b fp ks next n w h hn;rw[he]at HF;have HL:=Cy hf;have:=h.1.z 0 (.map (some b));have HM:=h.2.1;clear he h hf;go_enter func193,ntmps193;go_wp2_with(first
  |go_at_call 192;refine HF.mono ?_;rintro e w1 ⟨rfl,rfl⟩
  |(at_lookup;refine jc _ rfl _ _ 208 rfl 3 232 underlying3 underlying208 (.pointer none) (yv _) b _ _ rfl HM n rfl hn ?_;rw[HL]))
 go_ret2;exact⟨rfl,rfl⟩
theorem yw(g b:Nat)(fp:Int->Option Nat)(ks:List Int)(next n:Int)(w:World)(h:gQ w g b fp ks next)(hn:aw n)(he:oX fp next n≠0) :
 Calls prog 142 #[pt g,I6 n] w λe w'=>e=.returned (I6 (oX fp next n))/\w=w':=by
 have HF:=kQ g b fp ks next n w h hn;generalize oX fp next n=E at *;have:(E==0)=false:=sH he
 clear he h;go_enter func142,ntmps142;go_wp2_with(go_at_call 192;refine HF.mono ?_;rintro e w1 ⟨rfl,rfl⟩);go_ret;exact⟨rfl,rfl⟩
def ao8(w:World)(g b:Nat)(fp:Int->Option Nat)(ks:List Int)(next:Int)(e:Ending)(w' : World):Prop:=e=.returned (I6 0)/\gQ w' g b fp ks next/\w.grownBy w' (some b)
theorem Ip(g b:Nat)(fp:Int->Option Nat)(ks:List Int)(next n:Int)(w:World)(h:gQ w g b fp ks next)(hn:aw n)(he:oX fp next n=0) :
 Calls prog 142 #[pt g,I6 n] w (ao8 w g b (Cx fp n) (ks.filter λy=>decide (y≠n)) next):=by
 have HF:=kQ g b fp ks next n w h hn;rw[he]at HF;have:=h.1.z 0 (.map (some b));have HM:=h.2.1;have HT:=h;clear he h;go_enter func142,ntmps142;go_wp2_with(first
  |go_at_call 192;refine HF.mono ?_;rintro e w1 ⟨rfl,rfl⟩
  |(at_delete;refine yt _ rfl _ _ 208 3 rfl 232 underlying3 underlying208 b _ _ rfl HM n rfl hn ?_;intro w5 Ay G5;have M5:=Ay.tI (UH fp n) rfl;clear Ay))
 go_ret;exact⟨rfl,⟨HT.1.grown G5 (λe=>HT.2.2 (by injection e)),M5,HT.2.2⟩,G5⟩
theorem ur(g b g1:Nat)(fp:Int->Option Nat)(ks:List Int)(next:Int)(w:World)(h:gQ w g b fp ks next)(h1:1<=next)(hf:64<=ks.length) :
 Calls prog 190 #[pt g,pt g1] w λe w'=>e=.returned (.tuple #[I6 0,I6 6])/\w=w':=by
 have:=h.1.z 0 (.map (some b));have:=h.1.z 1 (I6 next);have HM:=h.2.1;have:decide (next<1)=false:=by simp;omega
 have:decide ((64:Int)<=(ks.length:Int))=true:=by simp;omega
 clear h hf;go_enter func190,ntmps190;go_wp2_with(at_len;refine oW _ rfl _ 208 rfl 3 232 underlying208 b _ _ rfl HM ?_);go_ret2;exact⟨rfl,rfl⟩
def ao9(w:World)(g b:Nat)(fp:Int->Option Nat)(ks:List Int)(next:Int)(e:Ending)(w' : World):Prop:=e=.returned (.tuple #[I6 next,I6 0])/\gQ w' g b fp ks (next+1)/\ah (λk=>k=g\/k=b) w w'
theorem Iq(g b g1:Nat)(fp:Int->Option Nat)(ks:List Int)(next:Int)(w:World)(h:gQ w g b fp ks next)(h1:1<=next)(h2:next<=100000)(hf:ks.length<64) :
 Calls prog 190 #[pt g,pt g1] w (ao9 w g b (yu fp next g1) (oU ks next) next):=by
 have:=h.1.z 0 (.map (some b));have:=h.1.z 1 (I6 next);have HM:=h.2.1;have HT:=h;have:decide (next<1)=false:=by simp;omega
 have:decide ((64:Int)<=(ks.length:Int))=false:=by simp;omega
 have H64:aw next:=by unfold aw;omega
 clear h;go_enter func190,ntmps190;go_wp2_with(first
  |at_len;refine oW _ rfl _ 208 rfl 3 232 underlying208 b _ _ rfl HM ?_
  |(at_mapUpdate;refine yr _ rfl _ _ _ 208 rfl 3 232 underlying3 underlying208 b _ _ rfl HM (by unfold maxLen;omega) next rfl H64 (pt g1) rfl ?_;intro w5 Ay iK;have M5:=Ay.tI (UF fp next g1) rfl;have B5:=HT.1.grown iK (λe=>HT.2.2 (by injection e));have U5:=(ah.refl (λk=>k=g\/k=b) w).grown iK (λk e=>by cases e;exact .inl (.inr rfl));have:=B5.z 1 (I6 next);have:=B5.frozen 1;clear Ay iK))
 go_ret2;exact⟨rfl,⟨B5.aX 1 _,M5.far (λe=>HT.2.2 e.symm) _,HT.2.2⟩,U5.setCell (.inl (.inl rfl)) _⟩
end Go.Proofs.YtjgmjohiehbgaaaGreat
