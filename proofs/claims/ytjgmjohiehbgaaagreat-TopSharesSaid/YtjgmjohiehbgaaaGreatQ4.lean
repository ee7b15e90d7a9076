/- Part 4. -/
import Derived.Test.YtjgmjohiehbgaaaGreatQ3
import Derived.StillTailTactics
namespace Go.Proofs.YtjgmjohiehbgaaaGreat
open Go.RowKit Go.Proofs.Tryz
set_option maxHeartbeats 20000000
set_option maxRecDepth 100000
set_option linter.all false
variable {c i k n:Nat} {l:List Nat} {s:ByteArray} {x:aD}
open Nat (pow_mul pow_succ)
section
def aK {α:Type} (w:World) (base:Nat) (e:TypeId) (size:Nat) (cells:α->List Value) (v:Value) (l:List α):Prop:=
 (v=.slice none 0 0/\l=[])\/
  ∃g off cap cur,v=.slice (some ⟨g,off,none⟩) l.length cap/\base<=g/\w.heap[g]? = some (.cells cur e (0,0))/\l.length<=cap/\cap<=maxLen/\off+cap*size<=cur.size/\(cur.toList.drop off).take (l.length*size)=l.flatMap cells
section
variable {α:Type} {w w' : World} {base e size:Nat} {cells:α->List Value} {v:Value} {l:List α}
theorem aK.nil (w:World) (base e size:Nat) (cells:α->List Value):aK w base e size cells (.slice none 0 0) ([]:List α):=.inl ⟨rfl,rfl⟩
theorem aK.of (h:Own w base e size cells v l):aK w base e size cells v l:=by
 rcases h.2 with⟨rfl,h0⟩|⟨g,cap,cur,rfl,hb,hg,mF,hcm,hcs,EZ⟩
 ·exact .inl ⟨rfl,aC0 h0⟩
 ·exact .inr ⟨g,0,cap,cur,rfl,hb,hg,mF,hcm,oM,sH EZ⟩
theorem aK.lt (h:aK w base e size cells v l):∀k,v.ownBlock=some k->base<=k/\k<w.heap.size:=by
 intro k hk;rcases h with⟨rfl,_⟩|⟨g,off,cap,cur,rfl,hb,hg,_⟩
 ·simp[Value.ownBlock]at hk
 ·simp[Value.ownBlock]at hk
  subst hk;exact⟨hb,(aG7.1 hg).1⟩
theorem aK.block (h:aK w base e size cells v l) (hb:∀k,v.ownBlock=some k->w'.heap[k]? = w.heap[k]?):aK w' base e size cells v l:=by
 rcases h with hn|⟨g,off,cap,cur,rfl,hbg,hg,rest⟩
 ·exact .inl hn
 ·exact .inr ⟨g,off,cap,cur,rfl,hbg,(hb g rfl).trans hg,rest⟩
theorem aK.below {B:Nat} (h:aK w base e size cells v l) (hb:Below B w w') (hB:∀k,v.ownBlock=some k->k<B):aK w' base e size cells v l:=h.block fun k hk=>hb.block k (hB k hk)
theorem aK.call (h:aK w base e size cells v l) (hb:Bl w w'):aK w' base e size cells v l:=h.below hb fun k hk=>(h.lt k hk).2
theorem aK.alloc (h:aK w base e size cells v l) (o:Obj):aK (w.alloc o) base e size cells v l:=h.block fun k hk=>Below.heap_alloc w o k (h.lt k hk).2
theorem aK.cD (h:aK w base e size cells v l) (n:Nat):aK (w.drewN n) base e size cells v l:=h
theorem aK.upd {S:Nat->Prop} (h:aK w base e size cells v l) (hu:ah S w w') (hne:∀k,v.ownBlock=some k->¬S k):aK w' base e size cells v l:=h.block fun k hk=>hu.block k (h.lt k hk).2 (hne k hk)
theorem aK.far (h:aK w base e size cells v l) {p:Addr} (hp:∀k,v.ownBlock=some k->k≠p.block) (u:Value):aK (w.setCell p u) base e size cells v l:=h.block fun k hk=>Below.heap_setCell w p u k (hp k hk)
theorem aK.mono {base' : Nat} (h:aK w base e size cells v l) (hb:base'<=base):aK w base' e size cells v l:=by
 rcases h with hn|⟨g,off,cap,cur,rfl,hbg,rest⟩
 ·exact .inl hn
 ·exact .inr ⟨g,off,cap,cur,rfl,aB4 hb hbg,rest⟩
theorem aK.Dc (h:aK w base e size cells v l) {a:Addr} (hv:v=.slice (some a) n c): ∀j u,(l.flatMap cells)[j]? = some u->w.cell? (a.add j)=some u:=by
 intro j u hu;rcases h with⟨rfl,_⟩|⟨g,off,cap,cur,rfl,_,hgg,_,_,_,eM⟩
 ·cases hv
 ·injection hv with e1
  injection e1 with e1
  subst e1;rw[Addr.add_lit,cell_of_row w g (off+j) cur e (0,0) hgg];rw[<-eM,aE2]at hu
  split at hu
  ·rw[aE3]at hu
   simpa using hu
  ·cases hu
theorem aK.shape (h:aK w base e size cells v l) (hsz:∀x,(cells x).length=size):∃A n cap,v=.slice A n cap/\n=l.length/\ag w size cells A n cap l:=by
 have h0:=h;rcases h with⟨rfl,rfl⟩|⟨g,off,cap,cur,rfl,hb,hg,mF,hcm,hcs,EZ⟩
 ·exact⟨none,0,0,rfl,rfl,rfl,aC1 _,aB6 _,(fun _=>⟨rfl,rfl⟩),fun a ha=>by cases ha⟩
 ·refine⟨_,_,_,rfl,rfl,rfl,mF,hcm,(fun h=>by cases h),fun a ha=>?_⟩
  cases ha;refine⟨?_,fun _=>⟨(aG7.1 hg).1,rfl⟩⟩;intro i x hi j u hj;have hj' : j<size:=by
   have:=(d9.1 hj).1
   rwa [hsz]at this
  exact h0.Dc rfl _ _ ((ic hsz l i j x hi hj').trans hj)
theorem aK.tail {x:α} {g off cap:Nat} (hsz:∀x,(cells x).length=size) (h:aK w base e size cells (.slice (some ⟨g,off,none⟩) (l.length+1) cap) (x::l)) :
 aK w base e size cells (.slice (some ⟨g,off+size,none⟩) l.length (cap-1)) l/\(cap=1->aK w base e size cells (.slice (some ⟨g,off,none⟩) l.length (cap-1)) l):=by
 rcases h with⟨h,_⟩|⟨g',tL,cap',cur,hv,hb,hg,mF,hcm,hcs,EZ⟩
 ·cases h
 injection hv with e1 e2 e3
 injection e1 with e1
 injection e1 with e1 e4
 subst e1;subst e4;subst e3;have:l.length+1<=cap:=mF;have au9:off+size+(cap-1)*size<=cur.size:=by
  have:cap*size=(cap-1)*size+size:=by
   conv=>lhs;rw[show cap=(cap-1)+1 by omega]
   rw[aD8,aI5]
  omega
 have av0:(cur.toList.drop (off+size)).take (l.length*size)=l.flatMap cells:=by
  have h1:=congrArg (List.drop size) EZ;have h2:List.drop size ((x::l).flatMap cells)=l.flatMap cells:=by
   rw[aE5,List.drop_append_of_le_length (by rw[hsz];exact aC1 _),aG1 (by rw[hsz];exact aC1 _),aD7]
  rw[h2,List.drop_take,List.drop_drop,aC4,aD8,aI5,Nat.add_sub_cancel]at h1;exact h1
 refine⟨.inr ⟨g,off+size,cap-1,cur,rfl,hb,hg,oM,oM,au9,av0⟩,fun hc=>?_⟩;have hl:l=[]:=aC0 oM;subst hl;refine .inr ⟨g,off,cap-1,cur,rfl,hb,hg,oM,oM,?_,sI⟩;subst hc;simp;omega
end
theorem je {P:Program} (w:World) (t ty e:TypeId) (i:TypeInfo) (ht:P.underlying t=some (.slice e)) (hi:P.info? e=some i)
 (g off wZ Sg:Nat) (cur:Array Value) (hg:w.heap[g]? = some (.cells cur e (0,0)))
 (a:Addr) (m c:Nat) (news:List Value) (hl:news.length=m*i.size) (hnews:∀j u,news[j]? = some u->w.cell? (a.add j)=some u) (h1:∀u∈news,u.oneCell' = true)
 (hroom:wZ+m<=Sg) (iD:off+wZ*i.size+news.length<=cur.size) :
 (Builtin.append_ #[t,t] ty #[.slice (some ⟨g,off,none⟩) wZ Sg,.slice (some a) m c]).run P w =
  .ok (.slice (some ⟨g,off,none⟩) (wZ+m) Sg) (w.setRow g (cur.toList.take (off+wZ*i.size)++news++cur.toList.drop (off+wZ*i.size+news.length)).toArray):=by
 have hst:=run_storeCells_at P g (off+wZ*i.size) e news 0 cur w hg (sH iD) h1;simp only[aH5]at hst;simp[Builtin.append_,run_underlying ht,sizeOf,typeInfo,hi,Builtin.lenOf,hroom,(run_firstCells_some (P:=P) w i.size m a m c news hl hnews),Addr.add_lit,hst]
theorem cX {α:Type} {P:Program} (w:World) {ops:Array Oper} {rest:List Oper} {o:Oper} {a:Act} {Q:Exit->Act->World->Prop} (hgd:o.guard=none) (s x:Operand) (t:TypeId)
 (ho:o.op=.call {callee:=.builtin .append,args:=#[s,x],argTypes:=#[t,t]})
 (base:Nat) (e:TypeId) (z:Value) (size bytes:Nat) (cells:α->List Value) (ht:P.underlying t=some (.slice e)) (hi:(P.info? e).map (fun i=>(i.zero,i.size,i.bytes))=some (some z,size,bytes))
 (hzs:z.cells.size=size) (hsz:0<size) (hcs:∀x,(cells x).length=size) (vH:∀x,∀u∈cells x,u.oneCell' = true)
 (v:Value) (l:List α) (hs:a.eval s=v) (hown:aK w base e size cells v l)
 (ad:Addr) (c:Nat) (y:α) (hx:a.eval x=.slice (some ad) 1 c) (hnews:∀j u,(cells y)[j]? = some u->w.cell? (ad.add j)=some u)
 (hlen:l.length<1000000) (hby:bytes<=100000) (hbase:base<=w.heap.size)
 (h:∀v' w',aK w' base e size cells v' (l++[y])->ah (fun k=>v.ownBlock=some k) w w'->(v'.ownBlock=v.ownBlock\/v'.ownBlock=some w.heap.size)->wpList P ops Q rest (a.put o.dst v') w'):wpList P ops Q (o::rest) a w:=by
 obtain⟨i,h1,h2,h3,h4⟩:=info_parts hi;have hb1:(l.length+1)*bytes<=140737488355328:=by have:=Nat.mul_le_mul (show l.length+1<=1000000 by omega) hby;omega
 have kX:(cells y).length=1*i.size:=by rw[hcs,h3,aI5]
 have hm:l.length+1<=maxLen:=by unfold maxLen;omega
 have xB:(l.flatMap cells).length=l.length*size:=aZ hcs l;have Su:((l++[y]).flatMap cells)=l.flatMap cells++cells y:=sI
 have grown:∀(old:Nat),aK (w.drew.alloc (.cells ((l.flatMap cells).toArray++(cells y).toArray++Builtin.zeroCells z.cells (grownCap w (l.length+1) old e-(l.length+1))) e)) base e size cells (.slice (some ⟨w.heap.size,0,none⟩) (l.length+1) (grownCap w (l.length+1) old e)) (l++[y]):=by
  intro old;have hge:=grownCap_ge w (l.length+1) old e;have hcm:grownCap w (l.length+1) old e<=maxLen:=grownCap_le_maxLen w (l.length+1) old e hm;refine .inr ⟨w.heap.size,0,_,_,sI,hbase,heap_alloc_new w.drew _,by simpa using hge,hcm,?_,?_⟩
  ·simp only[Array.size_append,aE9,size_zeroCells,hzs,xB,hcs,Nat.zero_add]
   have h5:grownCap w (l.length+1) old e*size=l.length*size+size+(grownCap w (l.length+1) old e-(l.length+1))*size:=by
    conv=>lhs;rw[show grownCap w (l.length+1) old e=(l.length+1)+(grownCap w (l.length+1) old e-(l.length+1)) by omega]
    rw[aD8,aD8,aI5]
   omega
  ·have e6:(l++[y]).length*size=(l.flatMap cells++cells y).length:=by
    rw[aB9,aB9,xB,hcs,aD8];simp
   rw[Su,e6,List.drop_zero];simp only[Array.toList_append];exact List.take_left
 have am7:∀o:Obj,ah (fun k=>v.ownBlock=some k) w (w.drew.alloc o):=fun o=>(ah.refl _ w).drew.alloc o
 rcases hown with⟨rfl,rfl⟩|⟨g,off,cap,cur,rfl,hbg,hg,mF,hcm,hcz,eM⟩
 ·have hr2:=run_append_nil (P:=P) w t o.type e i z ht h1 h2 ad 1 c (cells y) kX hnews oM oM (by rw[h4];have:=hb1;simp at this;omega)
  refine Lib.wpList_append_run w hgd s x t t ho _ _ hs hx _ _ hr2 ?_;have hg:=grown 0;simp only[aG5,Nat.zero_add,List.flatMap_nil,aD7,Array.empty_append]at hg;exact h _ _ (by simpa using hg) (am7 _) (.inr rfl)
 ·by_cases hroom:l.length+1<=cap
  ·have iD:off+l.length*i.size+(cells y).length<=cur.size:=by
    rw[hcs,h3];have:=aE6 size hroom;rw[aD8,aI5]at this;omega
   have hr2:=je (P:=P) w t o.type e i ht h1 g off l.length cap cur hg ad 1 c (cells y) kX hnews (vH y) hroom iD;refine Lib.wpList_append_run w hgd s x t t ho _ _ hs hx _ _ hr2 ?_;rw[h3]at iD |-;refine h _ _ (.inr ⟨g,off,cap,_,sI,hbg,setRow_heap w g cur _ e _ hg,by simpa using hroom,hcm,?_,?_⟩) ⟨rfl,rfl,rfl,sI,fun k _ hk=>setRow_other w g k _ (fun e=>hk (by simp[Value.ownBlock,e]))⟩ (.inl rfl)
   ·simp only[aE9,aB9,aC3,aD2,Array.length_toList]
    omega
   ·rw[Su]
    have e6:(l++[y]).length*size=(l.flatMap cells++cells y).length:=by
     rw[aB9,aB9,xB,hcs,aD8];simp
    rw[e6];simp only[aC7];have:off<=cur.toList.length:=by simp;omega
    have e7:cur.toList.take (off+l.length*size)=cur.toList.take off++l.flatMap cells:=by
     rw[List.take_add,eM]
    rw[e7,aC7,List.drop_append_of_le_length (by rw[aC3];omega),aG1 (by rw[aC3];omega),aD7,<-aC7];exact List.take_left
  ·have holds:=aK.Dc (w:=w) (base:=base) (e:=e) (size:=size) (cells:=cells) (l:=l) (.inr ⟨g,off,cap,cur,rfl,hbg,hg,mF,hcm,hcz,eM⟩) (a:=⟨g,off,none⟩) rfl
   have hr2:=run_append_grow (P:=P) w t o.type e i z ht h1 h2 ⟨g,off,none⟩ l.length cap (l.flatMap cells) (by rw[xB,h3]) holds ad 1 c (cells y) kX hnews oM oM (growslice_fits oM (by rw[h4];exact hb1));refine Lib.wpList_append_run w hgd s x t t ho _ _ hs hx _ _ hr2 ?_;exact h _ _ (grown cap) (am7 _) (.inr rfl)
end
structure dI where
 min:Int
 max:Int
 target:Int
 lz:Int
 bp:Int
 hold:Int
def dI.fit (p:dI):Prop:=aw p.min/\aw p.max/\aw p.target/\aw p.lz/\aw p.bp/\aw p.hold
def dI.xJ (p:dI):Prop:=0<=p.min/\1<=p.max/\p.min<=p.max/\p.max<=1073741824/\1<=p.target/\0<=p.lz/\p.lz<=999/\1<=p.bp/\0<=p.hold
instance (p:dI):Decidable p.xJ:=by unfold dI.xJ;infer_instance
def dy (p:dI):Int:=if p.xJ then 0 else 7
theorem gj {p:dI} (h:p.xJ):dy p=0:=if_pos h
theorem jI {p:dI} (h:¬p.xJ):dy p=7:=if_neg h
theorem aY (p:dI) (w:World) :
 Calls prog 79 #[(.agg #[I6 p.min,I6 p.max,I6 p.target,I6 p.lz,I6 p.bp,I6 p.hold])] w (Rt (I6 (dy p)) (Bl w)):=by
 go_enter func79,ntmps79;go_wp2
 all_goals
  go_ret;refine⟨au ?_,gW⟩;go_light
  first
   |show(7:Int)=_;rw[jI (by unfold dI.xJ;omega)]
   |(show(0:Int)=_;rw[gj (by unfold dI.xJ;omega)])
def Pm (a b:Nat):Int:=if a<b then -1 else if a=b then 0 else 1
theorem Dh (x:Int) (h0:0<=x) (h1:x<18446744073709551616):bits .and .u64 x 4294967295=x % 4294967296:=by
 obtain⟨n,rfl⟩:=aI3 h0;have e:=u64_and_nat n 4294967295 oM oM;rw[show((4294967295:Nat):Int)=4294967295 from rfl]at e;rw[e,show(4294967295:Nat)=2 ^ 32-1 by decide,Nat.and_two_pow_sub_one_eq_mod];omega
theorem av9 (x y:Int) (h0:0<=x) (h1:x<4294967296) (h2:0<=y) (h3:y<4294967296):bits .or .u64 (x*4294967296) y=x*4294967296+y:=by
 obtain⟨m,rfl⟩:=aI3 h0;obtain⟨n,rfl⟩:=aI3 h2;have e:=u64_or_nat (m*4294967296) n oM oM;have e2:m*4294967296 ||| n=m*4294967296+n:=nat_join 32 _ _ oM oM
 rw[e2]at e;rw[show((m:Int)*4294967296)=((m*4294967296:Nat):Int) by omega,e];omega
theorem mul_lt (a b:Nat) (ha:a<4294967296) (hb:b<4294967296):a*b<=18446744065119617025:=by
 have:=Nat.mul_le_mul (show a<=4294967295 by omega) (show b<=4294967295 by omega);omega
theorem Pn (a b:Nat):a*b=(a / 4294967296)*(b / 4294967296)*18446744073709551616+((a / 4294967296)*(b % 4294967296)+(a % 4294967296)*(b / 4294967296))*4294967296+(a % 4294967296)*(b % 4294967296):=by
 have e1:a=a / 4294967296*4294967296+a % 4294967296:=oM
 have e2:b=b / 4294967296*4294967296+b % 4294967296:=oM
 conv=>lhs;rw[e1,e2]
 rw[aD8,Nat.mul_add,Nat.mul_add];have p1:a / 4294967296*4294967296*(b / 4294967296*4294967296)=a / 4294967296*(b / 4294967296)*18446744073709551616:=by
  rw[Nat.mul_mul_mul_comm]
 have p2:a / 4294967296*4294967296*(b % 4294967296)=a / 4294967296*(b % 4294967296)*4294967296:=Nat.mul_right_comm _ _ _;have p3:a % 4294967296*(b / 4294967296*4294967296)=a % 4294967296*(b / 4294967296)*4294967296:=(aH4 _ _ _).symm;rw[p1,p2,p3,aD8];omega
theorem XT {a b c d:Int} (h:a=b) (h2:c=d):Ending.returned (.agg #[V6 a,V6 c])=.returned (.agg #[V6 b,V6 d]):=by rw[h,h2]
theorem rR {a b c d:Int} {p q:Bool} (h:a=b) (h2:c=d) (h3:p=q):Ending.returned (.tuple #[.agg #[V6 a,V6 c],.bool p])=.returned (.tuple #[.agg #[V6 b,V6 d],.bool q]):=by rw[h,h2,h3]
theorem xP {N h l:Nat} (e:N=h*2 ^ 64+l) (hl:l<2 ^ 64):jg N=h/\kF N=l:=by
 subst e;unfold jg kF;omega
theorem SN (a b:Nat) (w:World) (ha:a<18446744073709551616) (hb:b<18446744073709551616) :
 Calls prog 395 #[V6 a,V6 b] w (Rt (.agg #[V6 ((jg (a*b):Nat):Int),V6 ((kF (a*b):Nat):Int)]) (Bl w)):=by
 have:bits .and .u64 (a:Int) 4294967295=((a % 4294967296:Nat):Int):=by rw[Dh _ oM oM];omega
 have:(a:Int) / 4294967296=((a / 4294967296:Nat):Int):=oM
 have:bits .and .u64 (b:Int) 4294967295=((b % 4294967296:Nat):Int):=by rw[Dh _ oM oM];omega
 have:(b:Int) / 4294967296=((b / 4294967296:Nat):Int):=oM
 have hp:=Pn a b;have l1:a % 4294967296<4294967296:=oM
 have l2:a / 4294967296<4294967296:=oM
 have l3:b % 4294967296<4294967296:=oM
 have l4:b / 4294967296<4294967296:=oM
 generalize a % 4294967296=a0 at *;generalize a / 4294967296=a1 at *;generalize b % 4294967296=b0 at *;generalize b / 4294967296=b1 at *;have:=mul_lt a0 b0 l1 l3;have:=mul_lt a0 b1 l1 l4;have:=mul_lt a1 b0 l2 l3;have:=mul_lt a1 b1 l2 l4;have:IntKind.u64.wrap ((a0:Int)*(b0:Int))=((a0*b0:Nat):Int):=by rw[IntKind.wrap_u64,<-Int.natCast_mul];omega
 have:IntKind.u64.wrap ((a0:Int)*(b1:Int))=((a0*b1:Nat):Int):=by rw[IntKind.wrap_u64,<-Int.natCast_mul];omega
 have:IntKind.u64.wrap ((a1:Int)*(b0:Int))=((a1*b0:Nat):Int):=by rw[IntKind.wrap_u64,<-Int.natCast_mul];omega
 have:IntKind.u64.wrap ((a1:Int)*(b1:Int))=((a1*b1:Nat):Int):=by rw[IntKind.wrap_u64,<-Int.natCast_mul];omega
 generalize a0*b0=Xi at *;generalize a0*b1=p01 at *;generalize a1*b0=p10 at *;generalize a1*b1=p11 at *;have HP:=hp;clear hp l1 l2 l3 l4;have:bits .and .u64 ((p10:Int)+(Xi:Int) / 4294967296) 4294967295=((p10:Int)+(Xi:Int) / 4294967296) % 4294967296:=Dh _ oM oM;have:bits .and .u64 (Xi:Int) 4294967295=(Xi:Int) % 4294967296:=Dh _ oM oM;go_enter func395,ntmps395;go_wp2;go_returns;refine⟨?_,by go_grown⟩;have w1:IntKind.u64.wrap ((((p10:Int)+(Xi:Int) / 4294967296) % 4294967296+(p01:Int))*4294967296)=((((p10:Int)+(Xi:Int) / 4294967296) % 4294967296+(p01:Int)) % 4294967296)*4294967296:=by
  rw[IntKind.wrap_u64];omega
 rw[w1,av9 _ _ oM oM oM oM];have hl:=xP (N:=a*b) (h:=p11+(p10+Xi / 4294967296) / 4294967296+((p10+Xi / 4294967296) % 4294967296+p01) / 4294967296) (l:=(((p10+Xi / 4294967296) % 4294967296+p01) % 4294967296)*4294967296+Xi % 4294967296) (by rw[HP];omega) oM;exact XT (by rw[hl.1];omega) (by rw[hl.2];omega)
theorem SP (x y c:Int) (hx:0<=x) (hy:0<=y) (hc0:0<=c) (hc:c<=1) (w:World):(callFunc 303 #[V6 x,V6 y,V6 c]).run prog w =
 .ok (.value (.tuple #[V6 ((x+y+c) % 18446744073709551616),V6 ((x+y+c) / 18446744073709551616)])) w:=by
 rw[run_callFunc_extern func303 kZ kZ kZ (e:=add64Entry) kZ,run_add64 x y c hx hy hc0 hc]
 rfl
theorem Nf (x y:Int) (hx:0<=x) (hy:0<=y) (w:World):(callFunc 303 #[V6 x,V6 y,V6 0]).run prog w =
 .ok (.value (.tuple #[V6 ((x+y) % 18446744073709551616),V6 ((x+y) / 18446744073709551616)])) w:=by
 simpa using SP x y 0 hx hy (Int.le_refl 0) dC w
def two (h l:Nat):Nat:=h*2 ^ 64+l
def jU (S:Nat):Nat:=if S<2 ^ 128 then S else 0
def mM (S:Nat):Bool:=decide (S<2 ^ 128)
theorem SS (h1 l1 h2 l2:Nat) (w:World) (b1:h1<18446744073709551616) (b2:l1<18446744073709551616) (b3:h2<18446744073709551616) (b4:l2<18446744073709551616) :
 Calls prog 279 #[.agg #[V6 h1,V6 l1],.agg #[V6 h2,V6 l2]] w fun e w'=>
  e=.returned (.tuple #[.agg #[V6 ((jg (jU (two h1 l1+two h2 l2)):Nat):Int),V6 ((kF (jU (two h1 l1+two h2 l2)):Nat):Int)],.bool (mM (two h1 l1+two h2 l2))])/\Bl w w':=by
 have a1:(0:Int)<=(l1:Int):=oM
 have a2:(0:Int)<=(l2:Int):=oM
 have a3:(0:Int)<=(h1:Int):=oM
 have a4:(0:Int)<=(h2:Int):=oM
 have k0:(0:Int)<=((l1:Int)+(l2:Int)) / 18446744073709551616:=oM
 have k1:((l1:Int)+(l2:Int)) / 18446744073709551616<=1:=oM
 by_cases hf:(h1:Int)+(h2:Int)+((l1:Int)+(l2:Int)) / 18446744073709551616<18446744073709551616
 ·have:(((h1:Int)+(h2:Int)+((l1:Int)+(l2:Int)) / 18446744073709551616) / 18446744073709551616 != 0)=false:=by simp;omega
  have HF:=hf;clear hf;go_enter func279,ntmps279;go_wp2_with(first|simp only[Nf l1 l2 a1 a2]|simp only[SP h1 h2 _ a3 a4 k0 k1]);go_returns;refine⟨?_,gW⟩;have hS:two h1 l1+two h2 l2<2 ^ 128:=by have:=HF;unfold two;omega
  have e1:jU (two h1 l1+two h2 l2)=two h1 l1+two h2 l2:=if_pos hS;have e2:mM (two h1 l1+two h2 l2)=true:=decide_eq_true hS;have hl:=xP (N:=two h1 l1+two h2 l2) (h:=h1+h2+(l1+l2) / 18446744073709551616) (l:=(l1+l2) % 18446744073709551616) (by unfold two;omega) oM;have:=HF;rw[e1,e2];exact rR (oH hl.1) (oH hl.2) rfl
 ·have:(((h1:Int)+(h2:Int)+((l1:Int)+(l2:Int)) / 18446744073709551616) / 18446744073709551616 != 0)=true:=by simp;omega
  have HF:=hf;clear hf;go_enter func279,ntmps279;go_wp2_with(first|simp only[Nf l1 l2 a1 a2]|simp only[SP h1 h2 _ a3 a4 k0 k1]);go_returns;refine⟨?_,gW⟩;have hS:¬two h1 l1+two h2 l2<2 ^ 128:=by have:=HF;unfold two;omega
  have e1:jU (two h1 l1+two h2 l2)=0:=if_neg hS;have e2:mM (two h1 l1+two h2 l2)=false:=decide_eq_false hS;rw[e1,e2];exact rR (by simp[jg]) (by simp[kF]) rfl
theorem SV (h1 l1 h2 l2:Nat) (w:World) (b2:l1<18446744073709551616) (b4:l2<18446744073709551616) :
 Calls prog 401 #[.agg #[V6 h1,V6 l1],.agg #[V6 h2,V6 l2]] w fun e w'=>
  e=.returned (I6 (Pm (two h1 l1) (two h2 l2)))/\Bl w w':=by
 by_cases he:h1=h2/\l1=l2
 ·obtain⟨rfl,rfl⟩:=he
  go_enter func401,ntmps401;go_wp2_with fail;go_ret;exact⟨au (by unfold Pm;simp),gW⟩
 ·go_enter func401,ntmps401
  go_wp2_with fail
  all_goals
   go_ret;refine⟨au ?_,gW⟩;go_light;unfold Pm two
   first
    |show(1:Int)=_;rw[if_neg oM,if_neg oM]
    |(show(-1:Int)=_;rw[if_pos oM])
def ow (N:Nat):Nat:=if N<9223372036854775808 then N else 9223372036854775807
theorem Kh (h l:Nat) (w:World) (b1:h<18446744073709551616) (b2:l<18446744073709551616) :
 Calls prog 280 #[.agg #[V6 h,V6 l]] w (Rt (I6 ((ow (two h l):Nat):Int)) (Bl w)):=by
 by_cases h0:h=0
 ·subst h0
  by_cases h1:9223372036854775807<l
  ·go_enter func280,ntmps280
   go_wp2_with fail;go_ret;refine⟨au ?_,by go_grown⟩;unfold ow two;rw[if_neg oM];rfl
  ·go_enter func280,ntmps280
   go_wp2_with fail;go_ret;refine⟨au ?_,by go_grown⟩;unfold ow two;rw[if_pos oM]
   show(l:Int)=_
   omega
 ·have:((h:Int) != 0)=true:=by simp;omega
  have H0:=h0;clear h0;go_enter func280,ntmps280;go_wp2_with fail;go_ret;refine⟨au ?_,by go_grown⟩;have:=H0;unfold ow two;rw[if_neg oM];rfl
theorem tP (a b:Int) (w:World) (ha:MM a) (hb:MM b) :
 Calls prog 395 #[V6 a,V6 b] w (Rt (.agg #[V6 ((jg (a.toNat*b.toNat):Nat):Int),V6 ((kF (a.toNat*b.toNat):Nat):Int)]) (Bl w)):=by
 obtain⟨x,rfl⟩:=aI3 ha.1;obtain⟨y,rfl⟩:=aI3 hb.1;have:=ha.2;have:=hb.2;rw[Int.toNat_natCast,Int.toNat_natCast];exact SN x y w oM oM
theorem tQ (N:Nat):two (jg N) (kF N)=N:=Dg N
theorem af0 {M N:Nat} (h1:jg M=jg N) (h2:kF M=kF N):M=N:=by rw[<-Dg M,<-Dg N,h1,h2]
theorem tR {a b:Nat} (ha:a<2 ^ 64) (hb:b<2 ^ 64):a*b<2 ^ 128:=by
 have:=Nat.mul_le_mul (show a<=2 ^ 64-1 by omega) (show b<=2 ^ 64-1 by omega);omega
theorem px (X Y:Nat) (w:World) (hX:X<2 ^ 128) (hY:Y<2 ^ 128) :
 Calls prog 279 #[.agg #[V6 ((jg X:Nat):Int),V6 ((kF X:Nat):Int)],.agg #[V6 ((jg Y:Nat):Int),V6 ((kF Y:Nat):Int)]] w fun e w'=>
  e=.returned (.tuple #[.agg #[V6 ((jg (jU (X+Y)):Nat):Int),V6 ((kF (jU (X+Y)):Nat):Int)],.bool (mM (X+Y))])/\Bl w w':=by
 have h1:=Df hX;have h2:=tO X;have h3:=Df hY;have h4:=tO Y;have:=SS (jg X) (kF X) (jg Y) (kF Y) w oM oM oM oM;rw[tQ,tQ]at this;exact this
theorem Po (X Y:Nat) (w:World) :
 Calls prog 401 #[.agg #[V6 ((jg X:Nat):Int),V6 ((kF X:Nat):Int)],.agg #[V6 ((jg Y:Nat):Int),V6 ((kF Y:Nat):Int)]] w fun e w'=>
  e=.returned (I6 (Pm X Y))/\Bl w w':=by
 have h2:=tO X;have h4:=tO Y;have:=SV (jg X) (kF X) (jg Y) (kF Y) w oM oM;rw[tQ,tQ]at this;exact this
def uY (n:Int):Int:=if n<0 then 0 else n
theorem Pp {n:Int} (h:aw n):aw (uY n):=by unfold aw at *;unfold uY;omega
def xQ (p:dI) (n:Int):Int:=if p.xJ then MT (uY n) p.target else 0
def eR (p:dI) (n:Int):Int:=if p.xJ then CT n p.min p.max else 0
theorem rS (p:dI) (n:Int) (w:World) (hp:p.fit) (hn:aw n) :
 Calls prog 385 #[(.agg #[I6 p.min,I6 p.max,I6 p.target,I6 p.lz,I6 p.bp,I6 p.hold]),I6 n] w (Rt (I6 (xQ p n)) (Bl w)):=by
 obtain⟨f1,f2,f3,f4,f5,f6⟩:=hp
 have hL:=Pp hn
 by_cases hk:p.xJ
 ·have:=gj hk
  have HK:=zD hk
  clear hk
  go_enter func385,ntmps385
  go_wp2_with(first|(go_at_call 79;refine zC w (aY p _) fun v1 hc1 RN hB1 hz1 hs1=>?_)|(go_at_call 394;rw[show max n 0=uY n by unfold uY;omega];refine(Sd _ _ _ hL f3).mono ?_;rintro e w1 ⟨rfl,rfl⟩))
  all_goals
   go_ret
   exact⟨au (by unfold xQ;rw[if_pos HK.out]),gW⟩
 ·have:=jI hk
  have HK:=zD hk
  clear hk
  go_enter func385,ntmps385
  go_wp2_with(first|(go_at_call 79;refine zC w (aY p _) fun v2 hc2 hf2 hB2 hz2 hs2=>?_))
  go_ret
  exact⟨au (by unfold xQ;rw[if_neg HK.out]),gW⟩
theorem lC (p:dI) (n:Int) (w:World) :
 Calls prog 389 #[(.agg #[I6 p.min,I6 p.max,I6 p.target,I6 p.lz,I6 p.bp,I6 p.hold]),I6 n] w (Rt (I6 (eR p n)) (Bl w)):=by
 by_cases hk:p.xJ
 ·have:=gj hk
  have HK:=hk;clear hk;go_enter func389,ntmps389;go_wp2_with(first|(go_at_call 79;refine zM (aY p _) fun v3 hb3=>?_;obtain⟨hc3,hf3⟩:=nu hb3;have:Bl w v3:=Below.trans gW (hb3.mono (by first|omega|(simp;done)|(simp;omega)));have hs3:=hb3.size;(try simp only[World.size_alloc,World.size_setCell,World.size_drew]at hs3);clear hb3)|(go_at_call 398;refine zN (OJ _ _ _ _) ?_));go_ret;exact⟨au (by unfold eR;rw[if_pos HK]),by go_grown⟩
 ·have:=jI hk
  have HK:=hk;clear hk;go_enter func389,ntmps389;go_wp2_with(first|(go_at_call 79;refine zM (aY p _) fun v4 hb4=>?_;obtain⟨Gj,hf4⟩:=nu hb4;have:Bl w v4:=Below.trans gW (hb4.mono (by first|omega|(simp;done)|(simp;omega)));have hs4:=hb4.size;(try simp only[World.size_alloc,World.size_setCell,World.size_drew]at hs4);clear hb4))
  go_ret;exact⟨au (by unfold eR;rw[if_neg HK]),by go_grown⟩
theorem XU (X Y:Nat):decide (Pm X Y<=0)=decide (X<=Y):=by
 rw[Bool.eq_iff_iff,decide_eq_true_iff,decide_eq_true_iff];unfold Pm
 split
 ·omega
 ·split<;>omega
theorem ox (X Y Z:Nat) (w:World) (hX:X<2 ^ 128) (hY:Y<2 ^ 128) (hZ:Z<2 ^ 128) :
 Calls prog 396 #[.agg #[V6 ((jg X:Nat):Int),V6 ((kF X:Nat):Int)],.agg #[V6 ((jg Y:Nat):Int),V6 ((kF Y:Nat):Int)],.agg #[V6 ((jg Z:Nat):Int),V6 ((kF Z:Nat):Int)]] w fun e w'=>
  e=.returned (.bool (decide (X<=Y+Z)))/\Bl w w':=by
 have HY:=hY;have HZ:=hZ
 by_cases hf:Y+Z<2 ^ 128
 ·have:jU (Y+Z)=Y+Z:=if_pos hf
  have:mM (Y+Z)=true:=decide_eq_true hf;clear hX hY hZ hf;go_enter func396,ntmps396;go_wp2_with(first|(go_at_call 279;refine zC w (px Y Z _ HY HZ) fun v5 hc5 hf5 hB5 hz5 hs5=>?_)|(go_at_call 401;refine zM (Po _ _ _) fun v6 dJ=>?_;obtain⟨hc6,hf6⟩:=nu dJ;have:Bl w v6:=Below.trans gW (dJ.mono (by first|omega|(simp;done)|(simp;omega)));have uZ:=dJ.size;(try simp only[World.size_alloc,World.size_setCell,World.size_drew]at uZ);clear dJ))
  go_ret;exact⟨dQ (by rw[<-XU]),by go_grown⟩
 ·have:mM (Y+Z)=false:=decide_eq_false hf
  have HF:=(show X<=Y+Z by omega);clear hX hY hZ hf;go_enter func396,ntmps396;go_wp2_with(first|(go_at_call 279;refine zM (px Y Z _ HY HZ) fun v7 lV=>?_;obtain⟨hc7,hf7⟩:=nu lV;have:Bl w v7:=Below.trans gW (lV.mono (by first|omega|(simp;done)|(simp;omega)));have hs7:=lV.size;(try simp only[World.size_alloc,World.size_setCell,World.size_drew]at hs7);clear lV))
  go_ret;exact⟨dQ (by rw[decide_eq_true HF]),by go_grown⟩
def Ki (load:Int):Nat:=(uY load).toNat*1000
def mN (p:dI) (now:Int):Nat:=(now*1000).toNat*p.target.toNat
def qH (p:dI) (now:Int):Nat:=(now*p.lz).toNat*p.target.toNat
def oy (p:dI) (load now:Int):Bool:=
 if p.xJ/\1<=now/\now<=1073741824 then decide (Ki load<=mN p now+qH p now)&&decide (mN p now<=Ki load+qH p now)else false
theorem SY (H T K:Nat) (h:H=T):(decide (H<=T+K)&&decide (T<=H+K))=true:=by subst h;simp
theorem vN (p:dI) (load now L:Int) (w:World) (hp:p.fit) (hn:aw load) (hk:p.xJ) (h1:1<=now) (h2:now<=1073741824) (hL:(load<0/\L=0)\/(0<=load/\L=load)) :
 Calls prog 386 #[(.agg #[I6 p.min,I6 p.max,I6 p.target,I6 p.lz,I6 p.bp,I6 p.hold]),I6 load,I6 now] w (Rt (.bool (oy p load now)) (Bl w)):=by
 obtain⟨f1,f2,f3,f4,f5,f6⟩:=hp;have:max load 0=L:=oM;have hLq:uY load=L:=by unfold uY;omega
 have:load<=9223372036854775807:=hn.2;have:=gj hk;have HK:=hk;obtain⟨k1,k2,k3,k4,k5,k6,k7,k8,k9⟩:=hk;have hL0:0<=L/\L<=9223372036854775807:=oM
 have u1:MM L:=by unfold MM;omega
 have u2:MM 1000:=by unfold MM;omega
 have u3:MM (now*1000):=by unfold MM;omega
 have u4:MM p.target:=by unfold aw at f3;unfold MM;omega
 have hm:0<=now*p.lz/\now*p.lz<=1072668082176:=by
  have:=Int.mul_nonneg (show 0<=now by omega) k6;have:=Int.mul_le_mul h2 k7 k6 oM;omega
 have:=hm.1;have:=hm.2;have u5:MM (now*p.lz):=by unfold MM;omega
 have:p.target<=9223372036854775807:=f3.2;have z1:Ki load<2 ^ 128:=tR (by rw[hLq];omega) oM;have z2:mN p now<2 ^ 128:=tR oM oM;have z3:qH p now<2 ^ 128:=tR oM oM;have c1:L.toNat*(1000:Int).toNat=Ki load:=by rw[<-hLq];rfl
 have c2:(now*1000).toNat*p.target.toNat=mN p now:=rfl;have c3:(now*p.lz).toNat*p.target.toNat=qH p now:=rfl;have M1:=fun W=>tP L 1000 W u1 u2
 have M2:=fun W=>tP (now*1000) p.target W u3 u4
 have M3:=fun W=>tP (now*p.lz) p.target W u5 u4
 rw[c1]at M1;rw[c2]at M2;rw[c3]at M3;have xR:oy p load now=(decide (Ki load<=mN p now+qH p now)&&decide (mN p now<=Ki load+qH p now)):=if_pos ⟨HK,h1,h2⟩;rw[xR];clear xR c1 c2 c3 hm hL0 hLq;have XV:=M1;have HM2:=M2;have HM3:=M3;have Z1:=z1;have Z2:=z2;have Z3:=z3;clear M1 M2 M3 z1 z2 z3 u1 u2 u3 u4 u5 f1 f2 f3 f4 f5 f6 hn;generalize Ki load=H at *;generalize mN p now=T at *;generalize qH p now=K at *;have:decide (H<=T+K)=(decide (H<=T+K)):=rfl
 by_cases hHT:H=T
 ·have HE:=SY H T K hHT
  subst hHT;rcases hL with⟨hl,rfl⟩|⟨hl,rfl⟩
  all_goals
   go_enter func386,ntmps386;go_wp2_with(first|(go_at_call 79;refine zC w (aY p _) fun va hca hfa hBa hza hsa=>?_));refine zC w (XV _) fun vb hcb hfb hBb hzb SZ=>?_
   go_wp2_with fail;refine zC w (HM2 _) fun vc hcc hfc hBc hzc hsc=>?_
   have:vb.heap.size<vc.heap.size:=oM
   go_wp2_with fail;refine zC w (HM3 _) fun vd hcd XP hBd hzd hsd=>?_
   have:vb.heap.size<vd.heap.size:=oM
   have:vc.heap.size<vd.heap.size:=oM
   go_wp2_with fail;go_ret;exact⟨dQ HE.symm,by go_grown⟩
 ·have Pq:=fun W=>ox H T K W Z1 Z2 Z3
  have CW2:=fun W=>ox T H K W Z2 Z1 Z3
  have M1:=XV;clear XV;have af1:¬((jg H:Nat):Int)=((jg T:Nat):Int)\/(jg H=jg T/\¬((kF H:Nat):Int)=((kF T:Nat):Int)):=by
   by_cases e1:jg H=jg T
   ·exact .inr ⟨e1,fun e2=>hHT (af0 e1 oM)⟩
   ·exact .inl oM
  clear hHT;rcases af1 with hne|⟨heq,hne⟩
  ·have XV:=M1
   by_cases hle:H<=T+K
   ·rw[decide_eq_true hle]
    rw[decide_eq_true hle]at Pq;have JN:=Pq;have tT:=CW2;clear M1 Pq CW2 hle;rcases hL with⟨hl,rfl⟩|⟨hl,rfl⟩
    all_goals
     go_enter func386,ntmps386;go_wp2_with(first|(go_at_call 79;refine zC w (aY p _) fun va hca hfa hBa hza hsa=>?_));refine zC w (XV _) fun vb hcb hfb hBb hzb SZ=>?_
     go_wp2_with fail;refine zC w (HM2 _) fun vc hcc hfc hBc hzc hsc=>?_
     have:vb.heap.size<vc.heap.size:=oM
     go_wp2_with fail;refine zC w (HM3 _) fun vd hcd XP hBd hzd hsd=>?_
     have:vb.heap.size<vd.heap.size:=oM
     have:vc.heap.size<vd.heap.size:=oM
     go_wp2_with fail;refine zC w (JN _) fun ve hce hfe hBe hze hse=>?_
     have:vb.heap.size<ve.heap.size:=oM
     have:vc.heap.size<ve.heap.size:=oM
     have:vd.heap.size<ve.heap.size:=oM
     go_wp2_with fail;refine zC w (tT _) fun vf zv hff hBf hzf hsf=>?_
     go_wp2_with fail;go_ret;exact⟨dQ sI,by go_grown⟩
   ·rw[decide_eq_false hle]
    rw[decide_eq_false hle]at Pq;have JN:=Pq;clear M1 Pq CW2 hle;rcases hL with⟨hl,rfl⟩|⟨hl,rfl⟩
    all_goals
     go_enter func386,ntmps386;go_wp2_with(first|(go_at_call 79;refine zC w (aY p _) fun va hca hfa hBa hza hsa=>?_));refine zC w (XV _) fun vb hcb hfb hBb hzb SZ=>?_
     go_wp2_with fail;refine zC w (HM2 _) fun vc hcc hfc hBc hzc hsc=>?_
     have:vb.heap.size<vc.heap.size:=oM
     go_wp2_with fail;refine zC w (HM3 _) fun vd hcd XP hBd hzd hsd=>?_
     have:vb.heap.size<vd.heap.size:=oM
     have:vc.heap.size<vd.heap.size:=oM
     go_wp2_with fail;refine zC w (JN _) fun ve hce hfe hBe hze hse=>?_
     have:vb.heap.size<ve.heap.size:=oM
     have:vc.heap.size<ve.heap.size:=oM
     have:vd.heap.size<ve.heap.size:=oM
     go_wp2_with fail;go_ret;exact⟨dQ sI,by go_grown⟩
  ·rw[heq]at M1 Pq CW2
   clear heq;have XV:=M1
   by_cases hle:H<=T+K
   ·rw[decide_eq_true hle]
    rw[decide_eq_true hle]at Pq;have JN:=Pq;have tT:=CW2;clear M1 Pq CW2 hle;rcases hL with⟨hl,rfl⟩|⟨hl,rfl⟩
    all_goals
     go_enter func386,ntmps386;go_wp2_with(first|(go_at_call 79;refine zC w (aY p _) fun va hca hfa hBa hza hsa=>?_));refine zC w (XV _) fun vb hcb hfb hBb hzb SZ=>?_
     go_wp2_with fail;refine zC w (HM2 _) fun vc hcc hfc hBc hzc hsc=>?_
     have:vb.heap.size<vc.heap.size:=oM
     go_wp2_with fail;refine zC w (HM3 _) fun vd hcd XP hBd hzd hsd=>?_
     have:vb.heap.size<vd.heap.size:=oM
     have:vc.heap.size<vd.heap.size:=oM
     go_wp2_with fail;refine zC w (JN _) fun ve hce hfe hBe hze hse=>?_
     have:vb.heap.size<ve.heap.size:=oM
     have:vc.heap.size<ve.heap.size:=oM
     have:vd.heap.size<ve.heap.size:=oM
     go_wp2_with fail;refine zC w (tT _) fun vf zv hff hBf hzf hsf=>?_
     go_wp2_with fail;go_ret;exact⟨dQ sI,by go_grown⟩
   ·rw[decide_eq_false hle]
    rw[decide_eq_false hle]at Pq;have JN:=Pq;clear M1 Pq CW2 hle;rcases hL with⟨hl,rfl⟩|⟨hl,rfl⟩
    all_goals
     go_enter func386,ntmps386;go_wp2_with(first|(go_at_call 79;refine zC w (aY p _) fun va hca hfa hBa hza hsa=>?_));refine zC w (XV _) fun vb hcb hfb hBb hzb SZ=>?_
     go_wp2_with fail;refine zC w (HM2 _) fun vc hcc hfc hBc hzc hsc=>?_
     have:vb.heap.size<vc.heap.size:=oM
     go_wp2_with fail;refine zC w (HM3 _) fun vd hcd XP hBd hzd hsd=>?_
     have:vb.heap.size<vd.heap.size:=oM
     have:vc.heap.size<vd.heap.size:=oM
     go_wp2_with fail;refine zC w (JN _) fun ve hce hfe hBe hze hse=>?_
     have:vb.heap.size<ve.heap.size:=oM
     have:vc.heap.size<ve.heap.size:=oM
     have:vd.heap.size<ve.heap.size:=oM
     go_wp2_with fail;go_ret;exact⟨dQ sI,by go_grown⟩
theorem mO (p:dI) (load now:Int) (w:World) (hp:p.fit) (hn:aw load) :
 Calls prog 386 #[(.agg #[I6 p.min,I6 p.max,I6 p.target,I6 p.lz,I6 p.bp,I6 p.hold]),I6 load,I6 now] w (Rt (.bool (oy p load now)) (Bl w)):=by
 by_cases hk:p.xJ
 ·by_cases h1:now<1
  ·have:=gj hk
   have xR:oy p load now=false:=if_neg oM;have HF:=xR;clear hk xR;go_enter func386,ntmps386;go_wp2_with(first|(go_at_call 79;refine zM (aY p _) fun v1 hb1=>?_;obtain⟨hc1,RN⟩:=nu hb1;have:Bl w v1:=Below.trans gW (hb1.mono (by first|omega|(simp;done)|(simp;omega)));have hs1:=hb1.size;(try simp only[World.size_alloc,World.size_setCell,World.size_drew]at hs1);clear hb1))
   go_ret;exact⟨dQ HF.symm,by go_grown⟩
  ·by_cases h2:1073741824<now
   ·have:=gj hk
    have xR:oy p load now=false:=if_neg oM;have HF:=xR;clear hk xR;go_enter func386,ntmps386;go_wp2_with(first|(go_at_call 79;refine zM (aY p _) fun v2 hb2=>?_;obtain⟨hc2,hf2⟩:=nu hb2;have:Bl w v2:=Below.trans gW (hb2.mono (by first|omega|(simp;done)|(simp;omega)));have hs2:=hb2.size;(try simp only[World.size_alloc,World.size_setCell,World.size_drew]at hs2);clear hb2))
    go_ret;exact⟨dQ HF.symm,by go_grown⟩
   ·exact vN p load now (uY load) w hp hn hk oM oM (by unfold uY;omega)
 ·have:=jI hk
  have xR:oy p load now=false:=if_neg (fun h=>hk h.1);have HF:=xR;clear hk xR;go_enter func386,ntmps386;go_wp2_with(first|(go_at_call 79;refine zM (aY p _) fun v3 hb3=>?_;obtain⟨hc3,hf3⟩:=nu hb3;have:Bl w v3:=Below.trans gW (hb3.mono (by first|omega|(simp;done)|(simp;omega)));have hs3:=hb3.size;(try simp only[World.size_alloc,World.size_setCell,World.size_drew]at hs3);clear hb3))
  go_ret;exact⟨dQ HF.symm,by go_grown⟩
def Kj (p:dI) (load now:Int):Int:=if oy p load now then eR p now else eR p (xQ p load)
theorem Gl (p:dI) (load now:Int) (w:World) (hp:p.fit) (hn:aw load) :
 Calls prog 387 #[(.agg #[I6 p.min,I6 p.max,I6 p.target,I6 p.lz,I6 p.bp,I6 p.hold]),I6 load,I6 now] w (Rt (I6 (Kj p load now)) (Bl w)):=by
 cases h:oy p load now
 ·have HF:=(show Kj p load now=eR p (xQ p load) by unfold Kj;rw[h];rfl)
  go_enter func387,ntmps387;go_wp2_with(first|(go_at_call 386;refine zC w (mO p load now _ hp hn) fun va hca hfa hBa hza hsa=>?_));have HS:va.cell? ⟨w.heap.size,0,none⟩=some (I6 p.min)/\va.cell? ⟨w.heap.size,1,none⟩=some (I6 p.max)/\va.cell? ⟨w.heap.size,2,none⟩=some (I6 p.target)/\va.cell? ⟨w.heap.size,3,none⟩=some (I6 p.lz)/\va.cell? ⟨w.heap.size,4,none⟩=some (I6 p.bp)/\va.cell? ⟨w.heap.size,5,none⟩=some (I6 p.hold)/\w.heap.size<va.heap.size/\Bl w va:=(by refine⟨?_,?_,?_,?_,?_,?_,?_,?_⟩<;>first|assumption|go_simp);clear hca hfa hBa hza hsa;go_region_held3(fun w'=>w'.cell? ⟨w.heap.size,0,none⟩=some (I6 p.min)/\w'.cell? ⟨w.heap.size,1,none⟩=some (I6 p.max)/\w'.cell? ⟨w.heap.size,2,none⟩=some (I6 p.target)/\w'.cell? ⟨w.heap.size,3,none⟩=some (I6 p.lz)/\w'.cell? ⟨w.heap.size,4,none⟩=some (I6 p.bp)/\w'.cell? ⟨w.heap.size,5,none⟩=some (I6 p.hold)/\w.heap.size<w'.heap.size/\Bl w w') (first|(go_split_ands;refine am1 (by assumption) ?_ ?_ ?_ ?_ ?_ ?_ ?_ ?_<;>assumption)|exact J4 HS|(go_split_ands;refine⟨?_,?_,?_,?_,?_,?_,?_,?_⟩<;>assumption))
   (first
    |go_at_call 385;refine zM (rS p load _ hp hn) fun w1 hb=>?_
    |(go_at_call 389;refine zM (lC p _ _) fun w1 hb=>?_))
  have hz:=OH (by assumption);go_wp2;go_ret;exact⟨au HF.symm,hz⟩
 ·have HF:=(show Kj p load now=eR p now by unfold Kj;rw[h];rfl)
  go_enter func387,ntmps387;go_wp2_with(first|(go_at_call 386;refine zC w (mO p load now _ hp hn) fun v4 Gj hf4 hB4 hz4 hs4=>?_)|(go_at_call 389;refine zM (lC p _ _) fun v5 dx=>?_;obtain⟨hc5,hf5⟩:=nu dx;have:Bl w v5:=Below.trans gW (dx.mono (by first|omega|(simp;done)|(simp;omega)));have hs5:=dx.size;(try simp only[World.size_alloc,World.size_setCell,World.size_drew]at hs5);clear dx))
  go_ret;exact⟨au HF.symm,gW⟩
structure iM where
 kind:Int
 lock:Int
deriving DecidableEq
def l7 (n:Nat) (k:Int):List iM:=(List.range n).map fun(i:Nat)=>⟨k,(i:Int)⟩
theorem jW (n:Nat) (k:Int):(l7 n k).length=n:=by simp[l7]
theorem PA (n:Nat) (k:Int):l7 (n+1) k=l7 n k++[⟨k,(n:Int)⟩]:=by simp[l7,List.range_succ]
def lI (k h:Int):List iM:=[⟨k,h⟩,⟨4,0⟩,⟨5,h⟩]
def gI (home:Int) (s:Nat) (kind:Int):List iM:=
 if kind=1\/kind=6 then lI 3 home++[⟨3,(s:Int)+1⟩,⟨6,0⟩,⟨5,(s:Int)+1⟩]
 else if kind=2 then l7 s 3++[⟨4,0⟩]++l7 s 5
 else if kind=3 then l7 s 2++lI 3 s++l7 s 5
 else if kind=4 then lI 3 s
 else if kind=5 then lI 2 s
 else if kind=7 then lI 2 home
 else lI 3 ((s:Int)+1)
theorem GG (home:Int) (s:Nat) (kind:Int):(gI home s kind).length<=2*s+6:=by
 unfold gI lI
 split
 ·simp
 split
 ·simp[jW];omega
 split
 ·simp[jW];omega
 split
 ·simp
 split
 ·simp
 split<;>simp
def ay (a n:Nat):List Int:=(List.range' a n).map fun(i:Nat)=>(i:Int)
def vR (ok:Bool) (err home:Int) (s:Nat) (kind:Int):List iM:=
 if ok then[⟨1,0⟩]++(if err=0 then gI home s kind else[])++[⟨7,0⟩]else[]
theorem Tt (ok:Bool) (err home:Int) (s:Nat) (kind:Int):(vR ok err home s kind).length<=2*s+8:=by
 unfold vR;have:=GG home s kind
 split
 ·split<;>simp<;>omega
 ·simp
def hq (l:List Nat):Nat:=l.foldl (fun h c=>h*64+c) 0
theorem pz (l:List Nat) (c:Nat):hq (l++[c])=hq l*64+c:=by simp[hq]
theorem ad2:∀(n:Nat) (l:List Nat),l.length=n->(∀c∈l,c<64)->hq l<64 ^ n:=by
 intro n
 induction n with
 |zero=>intro l hl _;rw[aC0 hl];decide
 |succ n ih=>
  intro l hl hc;rcases List.eq_nil_or_concat l with rfl|⟨m,c,rfl⟩
  ·simp at hl
  ·rw[List.concat_eq_append]at *
   rw[pz];have:=ih m (sH hl) (fun x hx=>hc x (by simp[hx]));have:=hc c sI;rw[pow_succ];omega
theorem GH (l:List Nat):∀n,hq (l++List.replicate n 0)=hq l*64 ^ n
 |0=>by simp
 |n+1=>by rw[List.replicate_succ',<-aC7,pz,GH l n,pow_succ];simp[aH4]
def oJ (l:List Nat):Nat:=hq l*64 ^ (10-l.length)
def JP (l:List Nat):Nat:=oJ (l.take 10)
def KB (l:List Nat):Nat:=oJ (l.drop 10)
theorem GI (hl:l.length<=10) (hc:∀c∈l,c<64):oJ l<1152921504606846976:=by
 unfold oJ;have:hq l*64 ^ (10-l.length)<64 ^ l.length*64 ^ (10-l.length):=Nat.mul_lt_mul_of_pos_right (ad2 _ l rfl hc) (Nat.pow_pos dC);rw[<-Nat.pow_add,show l.length+(10-l.length)=10 by omega]at this;exact this
theorem xW (hl:l.length<10) (hc:c<64):oJ (l++[c])=oJ l ||| c <<< (6*(9-l.length)):=by
 unfold oJ;rw[pz,aB9,List.length_singleton,show 10-(l.length+1)=9-l.length by omega,show 10-l.length=(9-l.length)+1 by omega];generalize 9-l.length=d;rw[Nat.shiftLeft_eq,pow_mul,show(2 ^ 6:Nat)=64 from rfl];have e:hq l*64 ^ (d+1)=2 ^ (6*(d+1))*hq l:=by rw[pow_mul,aF5]
 have lt:c*64 ^ d<2 ^ (6*(d+1)):=by
  rw[pow_mul,show(2 ^ 6:Nat)=64 from rfl,pow_succ,aF5 _ 64];exact Nat.mul_lt_mul_of_pos_right hc (Nat.pow_pos dC)
 rw[e,<-Nat.two_pow_add_eq_or_of_lt lt,pow_mul,show(2 ^ 6:Nat)=64 from rfl,aD8,pow_succ,aF5 (64 ^ d*64),aH4,aF5 64 (64 ^ d)]
theorem jX {α:Type} {l:List α} {c:α} (h:l[i]? = some c):l.take (i+1)=l.take i++[c]:=by
 rw[aD4,h];rfl
theorem Tu (h:l[i]? = some c) (hc:c<64) (hi:i<10):JP (l.take (i+1))=JP (l.take i) ||| c <<< (6*(9-i)):=by
 have:=(d9.1 h).1;unfold JP;rw[aH6,aH6,show min 10 (i+1)=i+1 by omega,show min 10 i=i by omega,jX h,xW sM hc];simp[show min i l.length=i by omega]
theorem Dq (hi:i<=10):KB (l.take i)=0:=by
 unfold KB;rw[List.drop_eq_nil_of_le sM];rfl
theorem xX (hi:10<=i):JP (l.take i)=JP l:=by
 unfold JP;rw[aH6,show min 10 i=10 by omega]
theorem Tv (h:l[i]? = some c) (hc:c<64) (h1:10<=i) (h2:i<20):KB (l.take (i+1))=KB (l.take i) ||| c <<< (6*(19-i)):=by
 have:=(d9.1 h).1;unfold KB;rw[jX h,List.drop_append_of_le_length sM,xW sM hc];simp[show min i l.length=i by omega,show 9-(i-10)=19-i by omega]
theorem Tw (hc:∀c∈l,c<64):JP l<1152921504606846976:=GI sM (fun c h=>hc c (aG4 h))
theorem Tx (hl:l.length<=20) (hc:∀c∈l,c<64):KB l<1152921504606846976:=GI sM (fun c h=>hc c (aI7 h))
def dY (c:Int):Int:=if c=45 then 1 else if c=46 then 2 else if 48<=c/\c<=57 then c-45 else if c=95 then 13 else if 97<=c/\c<=122 then c-83 else 0
theorem l8 (c:Int):0<=dY c/\dY c<=39:=by unfold dY;(repeat' split)<;>omega
theorem qJ {c:Int} (h:128<=c):dY c=0:=by unfold dY;(repeat' split)<;>omega
theorem mR (c:Int) (w:World) (h1 : -2147483648<=c) (h2:c<=2147483647) :
 Calls prog 94 #[.int .i32 c] w fun e w'=>e=.returned (V6 (dY c))/\w=w':=by
 by_cases a:c=45
 ·subst a
  go_enter func94,ntmps94;go_wp2;go_ret;exact⟨rfl,rfl⟩
 by_cases b:c=46
 ·subst b
  go_enter func94,ntmps94;go_wp2;go_ret;exact⟨rfl,rfl⟩
 have da:(c==45)=false:=sH a
 have db:(c==46)=false:=sH b
 by_cases d:48<=c/\c<=57
 ·have HE:dY c=c-45:=by unfold dY;rw[if_neg a,if_neg b,if_pos d]
  obtain⟨d1,d2⟩:=d;clear a b;go_enter func94,ntmps94;go_wp2;go_ret;exact⟨au (oH HE),rfl⟩
 have hd:decide (48<=c)=false\/(decide (48<=c)=true/\decide (c<=57)=false):=by
  by_cases h:48<=c
  ·exact .inr ⟨sH h,by simp;omega⟩
  ·exact .inl (sH h)
 by_cases f:c=95
 ·subst f
  clear hd da db;go_enter func94,ntmps94;go_wp2;go_ret;exact⟨rfl,rfl⟩
 have:(c==95)=false:=sH f
 by_cases g:97<=c/\c<=122
 ·have HE:dY c=c-83:=by unfold dY;rw[if_neg a,if_neg b,if_neg d,if_neg f,if_pos g]
  obtain⟨d1,d2⟩:=g;clear a b d f;rcases hd with hd|⟨hd,hd'⟩
  all_goals
   go_enter func94,ntmps94;go_wp2;go_ret;exact⟨au (oH HE),rfl⟩
 have hg:decide (97<=c)=false\/(decide (97<=c)=true/\decide (c<=122)=false):=by
  by_cases h:97<=c
  ·exact .inr ⟨sH h,by simp;omega⟩
  ·exact .inl (sH h)
 have HE:dY c=0:=by unfold dY;rw[if_neg a,if_neg b,if_neg d,if_neg f,if_neg g]
 clear a b d f g;rcases hd with hd|⟨hd,hd'⟩<;>rcases hg with hg|⟨hg,hg'⟩
 all_goals
  go_enter func94,ntmps94;go_wp2;go_ret;exact⟨au HE.symm,rfl⟩
def b9 (s:ByteArray):List Nat:=s.data.toList.map fun b=>(dY (b.toNat:Int)).toNat
theorem fS (s:ByteArray):(b9 s).length=s.size:=by simp[b9]
theorem jK (h:k<s.size):(b9 s)[k]? = some (dY ((s[k]'h).toNat:Int)).toNat:=by
 unfold b9;rw[List.getElem?_map,aB3 (sH h)]
 rfl
theorem l9 (s:ByteArray):∀c∈b9 s,c<64:=by
 intro c hc;obtain⟨b,_,rfl⟩:=aG9.1 hc;have:=l8 (b.toNat:Int);omega
def eO (s:ByteArray):Bool:=decide (1<=s.size)&&decide (s.size<=20)&&(b9 s).all fun c=>c != 0
def cT (s:ByteArray):Int:=if eO s then 0 else 2
theorem Yh (h:s.size<1\/20<s.size):eO s=false:=by
 unfold eO;rcases h with h|h
 ·have:decide (1<=s.size)=false:=decide_eq_false oM
  rw[this];rfl
 ·have:decide (s.size<=20)=false:=sH h
  rw[this];simp
theorem GJ (h:k<s.size) (hz:dY ((s[k]'h).toNat:Int)=0):eO s=false:=by
 unfold eO;have:((b9 s).all fun c=>c != 0)=false:=by
  rw[List.all_eq_false];exact⟨_,aB7 (jK h),by rw[hz];simp⟩
 rw[this];simp
theorem Ty (h1:1<=s.size) (h2:s.size<=20) (h:∀k (hk:k<s.size),dY ((s[k]'hk).toNat:Int)≠0):eO s=true:=by
 unfold eO;have:((b9 s).all fun c=>c != 0)=true:=by
  rw[aI0];intro c hc;obtain⟨k,hk⟩:=aD1 hc;have wB:k<s.size:=by have:=(d9.1 hk).1;rw[fS]at this;exact this
  rw[jK wB]at hk;injection hk with hk
  have:=h k wB;have:=l8 ((s[k]'wB).toNat:Int);simp;omega
 rw[this];simp[h1,h2]
theorem pB (h:eO s=true):(1<=s.size/\s.size<=20)/\∀k (hk:k<s.size),dY ((s[k]'hk).toNat:Int)≠0:=by
 unfold eO at h;simp only[aF0,decide_eq_true_eq,aI0]at h;refine⟨h.1,fun k hk hz=>?_⟩;have:=h.2 _ (aB7 (jK hk));rw[hz]at this;simp at this
theorem qK {w:World} (s:ByteArray) (k:Nat):Bl w (w.iter s k):=bR.alloc lR _
def Yi (s:ByteArray) (k:Nat):Prop:=∀j (hj:j<s.size),j<k->dY ((s[j]'hj).toNat:Int)≠0
theorem Yi.next (h:Yi s k) (hk:k<s.size) (hz:dY ((s[k]'hk).toNat:Int)≠0):Yi s (k+1):=by
 intro j hj hlt;rcases aE4 j k with h1|h1
 ·exact h j hj h1
 ·obtain rfl:j=k:=oM
  exact hz
theorem iN (s:ByteArray) (w:World) (hs:s.size<=maxLen) :
 Calls prog 58 #[.string s] w (Rt (I6 (cT s)) (Bl w)):=by
 unfold maxLen at hs
 by_cases hb:s.size<1\/20<s.size
 ·have HE:cT s=2:=by unfold cT;rw[Yh hb];rfl
  go_enter func58,ntmps58;rcases hb with hb|hb
  ·have:decide ((s.size:Int)<1)=true:=by simp;omega
   go_wp2;go_ret;exact⟨au HE.symm,Below.refl _ _⟩
  ·have:decide ((s.size:Int)<1)=false:=by simp;omega
   have:decide ((20:Int)<(s.size:Int))=true:=by simp;omega
   go_wp2;go_ret;exact⟨au HE.symm,Below.refl _ _⟩
 ·have h1:1<=s.size:=oM
  have h2:s.size<=20:=oM
  have:decide ((s.size:Int)<1)=false:=by simp;omega
  have:decide ((20:Int)<(s.size:Int))=false:=by simp;omega
  clear hb;go_enter func58,ntmps58;go_wp2;go_loopw[4] (fun c wr=>∃k:Nat,k<=s.size/\wr=w.iter s k/\Yi s k) (fun _ wr=>s.size-wr.iterPos w.heap.size)
  case atStart=>exact⟨0,aB6 _,rfl,fun j hj h=>oM⟩
  case round=>
   obtain⟨k,hk,rfl,hlt⟩:=hrel;have HL:=hlt;clear hlt
   by_cases hp:k<s.size
   ·by_cases ha:(s[k]'hp).toNat<128
    ·have: ∀ty,(Instr.next (pt w.heap.size) true ty).run prog (w.iter s k)=_:=fun ty=>run_next_ascii w s k ty hp ha
     by_cases hz:dY ((s[k]'hp).toNat:Int)=0
     ·have HE:cT s=2:=by unfold cT;rw[GJ hp hz];rfl
      have:(dY ((s[k]'hp).toNat:Int)==0)=true:=by simpa using hz
      clear hz;go_wp2_with(go_at_call 94;refine zN (mR _ _ oM oM) ?_);go_ret;exact⟨au HE.symm,qK _ _⟩
     ·have HN:=HL.next hp hz
      have:(dY ((s[k]'hp).toNat:Int)==0)=false:=by simpa using hz
      clear hz;go_wp2_with(go_at_call 94;refine zN (mR _ _ oM oM) ?_);go_roundw
      case rel=>exact⟨k+1,oM,rfl,HN⟩
      case measure=>simp;omega
    ·have: ∀ty,(Instr.next (pt w.heap.size) true ty).run prog (w.iter s k)=_:=fun ty=>run_next_any w s k ty hp
     have:=(decode_high s k hp oM).1;have:=decode_le s k;have HE:cT s=2:=by unfold cT;rw[GJ hp (qJ oM)];rfl
     have HZ:=qJ (c:=((Utf8.decode s k).1:Int)) oM;generalize(Utf8.decode s k).1=r at *;go_wp2_with(go_at_call 94;refine zN (mR _ _ oM oM) ?_;rw[HZ]);go_ret;exact⟨au HE.symm,qK _ _⟩
   ·have HE:cT s=0:=by unfold cT;rw[Ty h1 h2 (fun j hj=>HL j hj oM)];rfl
    have: ∀ty,(Instr.next (pt w.heap.size) true ty).run prog (w.iter s k)=_:=fun ty=>run_next_end w s k ty hp
    go_wp2;go_ret;exact⟨au HE.symm,qK _ _⟩
def Tz:List Nat:=[45,46,48,49,50,51,52,53,54,55,56,57,95,97,98,99,100,101,102,103,104,105,106,107,108,109,110,111,112,113,114,115,116,117,118,119,120,121,122]
theorem PB:∀c:Nat,c<256->dY (c:Int)≠0->(dY (c:Int)).toNat-1<39/\Tz.getD ((dY (c:Int)).toNat-1) 0=c:=by decide +kernel
def aO (s:ByteArray):Nat:=if eO s then JP (b9 s)else 0
def aP (s:ByteArray):Nat:=if eO s then KB (b9 s)else 0
theorem jY (s:ByteArray):aO s<1152921504606846976:=by
 unfold aO;split
 ·exact Tw (l9 s)
 ·decide
theorem jZ (s:ByteArray):aP s<1152921504606846976:=by
 unfold aP;cases h:eO s
 ·simp
 ·rw[if_pos rfl];exact Tx (by rw[fS];exact(pB h).1.2) (l9 s)
theorem iter_set {w:World} (hn:n<w.heap.size) (u:Value):(w.iter s k).setCell ⟨n,i,none⟩ u=(w.setCell ⟨n,i,none⟩ u).iter s k:=World.setCell_alloc_past _ _ _ _ hn
theorem mU {W:World} {j:Nat} (hz:W.heap.size=n):(W.iter s j).iterPos n=j:=by subst hz;simp
theorem Nk {C:Int} {U:Int} (h0:0<=C) (h1:C<=39) (hu:0<=U) (iO:U<=54):IntKind.u64.wrap (C*2 ^ U.toNat)=((C.toNat <<< U.toNat:Nat):Int):=by
 rw[IntKind.wrap_u64,Nat.shiftLeft_eq];obtain⟨c,rfl⟩:=aI3 h0;have hp:2 ^ U.toNat<=2 ^ 54:=Nat.pow_le_pow_right dC oM;have:c*2 ^ U.toNat<=39*2 ^ 54:=Nat.mul_le_mul oM hp;simp only[Int.toNat_natCast];rw[show((2:Int) ^ U.toNat)=((2 ^ U.toNat:Nat):Int)from sI,<-Int.natCast_mul];omega
theorem TB {C:Int} {U:Nat} (h1:C<=39) (iO:U<=54):C.toNat <<< U<18446744073709551616:=by
 rw[Nat.shiftLeft_eq];have hp:2 ^ U<=2 ^ 54:=Nat.pow_le_pow_right dC iO;have:C.toNat*2 ^ U<=39*2 ^ 54:=Nat.mul_le_mul oM hp;omega
theorem fT (s:ByteArray) (w:World) (hs:s.size<=maxLen) :
 Calls prog 32 #[.string s] w (Rt (.tuple #[.agg #[V6 (aO s:Nat),V6 (aP s:Nat)],I6 (cT s)]) (Bl w)):=by
 have HI:=zD (fun W=>iN s W hs);unfold maxLen at hs;have B0:=zD (And.intro (ai.new w 83 #[V6 0,V6 0]) (show Bl w (w.alloc (.cells #[V6 0,V6 0] 83)) by go_grown));cases hi:eO s
 ·have he:cT s=2:=by unfold cT;rw[hi];rfl
  have h1:aO s=0:=by unfold aO;rw[hi];rfl
  have h2:aP s=0:=by unfold aP;rw[hi];rfl
  rw[he]at HI;rw[h1,h2,he];clear hi h1 h2 he;go_enter func32,ntmps32;go_wp2_with(go_at_call 58;refine zM (HI.out _) fun w1 hb1=>?_;have D1:=zD (zT B0.out.2 hb1);have B1:=zD (B0.out.1.call hb1);have z1:=B1.out.lt;have c0:=B1.out.z 0 (V6 0);have c1:=B1.out.z 1 (V6 0);have f0:=B1.out.frozen 0;have f1:=B1.out.frozen 1;clear hb1);refine bodyPost_ret (az rfl _ _ w.heap.size _ _ _ rfl ((B1.out.aX 0 _).aX 1 _) underlying83 rfl kZ) rfl ⟨rfl,(D1.out.setCell sI _).setCell sI _⟩
 ·obtain⟨⟨h1,h2⟩,h3⟩:=pB hi
  have eh:aO s=JP ((b9 s).take s.size):=by unfold aO;rw[hi,aB5 (by rw[fS];exact aC1 _)];rfl
  have el:aP s=KB ((b9 s).take s.size):=by unfold aP;rw[hi,aB5 (by rw[fS];exact aC1 _)];rfl
  have he:cT s=0:=by unfold cT;rw[hi];rfl
  rw[he]at HI;rw[eh,el,he];have HN:=zD h3;have HA:=zD (fun k (hk:k<s.size)=>(show(s[k]'hk).toNat<128 from Decidable.byContradiction fun hn=>h3 k hk (qJ oM)));have HB:=zD (fun k (hk:k<s.size) (h10:k<10)=>Tu (jK hk) (by have:=l8 ((s[k]'hk).toNat:Int);omega) h10);have HL:=zD (fun k (hk:k<s.size) (h10:10<=k)=>Tv (jK hk) (by have:=l8 ((s[k]'hk).toNat:Int);omega) h10 oM);have HH:=zD (fun k (h:10<=k)=>xX (l:=b9 s) (i:=k) h);have HW:=zD (fun k (h:k<=10)=>Dq (l:=b9 s) (i:=k) h);have Ag:=zD (fun k=>And.intro (Tw (l:=(b9 s).take k) (fun c hc=>l9 s c (aG4 hc))) (Tx (l:=(b9 s).take k) (by simp;have:=fS s;omega) (fun c hc=>l9 s c (aG4 hc))));have R0:=zD (show JP ((b9 s).take 0)=0 from by simp[JP,oJ,hq]);have R1:=zD (show KB ((b9 s).take 0)=0 from by simp[KB,oJ,hq]);have HHs:=zD (fun k (h:10<=k)=>(show JP ((b9 s).take (k+1))=JP ((b9 s).take k)from by rw[xX oM,xX h]));have HWs:=zD (fun k (h:k<10)=>(show KB ((b9 s).take (k+1))=KB ((b9 s).take k)from by rw[Dq oM,Dq oM]));obtain⟨rh,hrh⟩:∃rh:Nat->Nat,rh=fun k=>JP ((b9 s).take k):=⟨_,rfl⟩
  obtain⟨rl,Nl⟩:∃rl:Nat->Nat,rl=fun k=>KB ((b9 s).take k):=⟨_,rfl⟩
  have e1:∀k,JP ((b9 s).take k)=rh k:=fun k=>by rw[hrh]
  have e2:∀k,KB ((b9 s).take k)=rl k:=fun k=>by rw[Nl]
  simp only[e1,e2]at HB HL Ag R0 R1 HHs HWs |-;clear hi h1 h3 eh el he hrh Nl e1 e2 HH HW;go_enter func32,ntmps32;go_wp2_with(go_at_call 58;refine zM (HI.out _) fun w1 hb1=>?_;have D1:=zD (zT B0.out.2 hb1);have B1:=zD (B0.out.1.call hb1);have z1:=B1.out.lt;clear hb1);go_loopw[6] (fun i wr=>∃(k:Nat) (W:World),wr=W.iter s k/\k<=s.size/\W.heap.size=w1.heap.size+1/\ai W w1.heap.size 83 #[V6 (rh k:Nat),V6 (rl k:Nat)]/\ai W w.heap.size 83 #[V6 0,V6 0]/\Bl w W) (fun _ wr=>s.size-wr.iterPos (w1.heap.size+1))
  case atStart=>exact⟨0,w1.alloc (.cells #[V6 0,V6 0] 83),rfl,aB6 _,sI,by rw[R0.out,R1.out];exact ai.new _ _ _,B1.out.alloc _,D1.out.alloc D1.out.size _⟩
  case round=>
   obtain⟨k,W,rfl,hk,hWz,hbg,hb0,aT⟩:=hrel;have HZ:=zD hWz;have HBg:=zD hbg;have PD:=zD hb0;have HBe:=zD aT;clear hWz hbg hb0 aT
   by_cases hp:k<s.size
   ·have rk:∀ty,(Instr.next (pt (w1.heap.size+1)) true ty).run prog (W.iter s k)=.ok (.tuple #[.bool true,I6 k,.int .i32 (s[k]'hp).toNat]) (W.iter s (k+1)):=fun ty=>by
     have:=run_next_ascii (P:=prog) W s k ty hp (HA.out k hp);rw[HZ.out]at this;exact this
    have TC:=zD (show ai (W.iter s (k+1)) w1.heap.size 83 #[V6 (rh k:Nat),V6 (rl k:Nat)]from HBg.out.alloc _);have sf:=HA.out k hp;have HCo:=zD (fun W=>mR ((s[k]'hp).toNat:Int) W oM oM);obtain⟨b1,b2⟩:=l8 ((s[k]'hp).toNat:Int);have Fg:k<20:=oM
    have hlt:=Ag.out k;obtain⟨q1,q2⟩:=hlt
    by_cases h10:k<10
    ·have HX:=zD (HB.out k hp h10)
     have HY:=zD (HWs.out k h10);generalize dY ((s[k]'hp).toNat:Int)=C at *;have hm:(k:Int) % 10=(k:Int):=oM
     have d10:decide ((k:Int)<10)=true:=by simp;omega
     have hu:(6*(9-(k:Int))).toNat=6*(9-k):=oM
     have hsh:IntKind.u64.wrap (C*2 ^ (6*(9-(k:Int))).toNat)=((C.toNat <<< (6*(9-k)):Nat):Int):=by
      have:=Nk b1 b2 (U:=6*(9-(k:Int))) oM oM;rw[hu]at this |-;exact this
     have gU:=TB (C:=C) (U:=6*(9-k)) b2 oM;generalize C.toNat <<< (6*(9-k))=SH at *;have hor:=u64_or_nat (rh k) SH oM gU;rw[<-HX.out]at hor;clear hu;go_upto_region 10 with(fail)
     obtain⟨W0,hw0⟩:=zE (W.iter s (k+1));rw[<-hw0]at TC |-;have HQ:=zD hw0;clear hw0;have fz:=TC.out.frozen 0;have cz:=TC.out.z 0 (V6 (rh k:Nat));refine zr (fun j=>[8].contains j) (fun wS=>Bl W0 wS) ?_;have S0:=(Below.refl W0.heap.size W0).drew;refine zk 5 [0,1,2,4] [_,V6 (rh k:Nat),_,_] (.q zX<|.q (zS fun _ h=>(TC.out.call h).z 0 (V6 (rh k:Nat)))<|.q zX<|.e) S0 ?_;refine zQ 3 ?_;go_wp2_with(go_at_call 94;refine zN (HCo.out _) ?_);refine .i S0 ?_;refine zq 1 [5,6,7] [V6 (SH:Nat),V6 (rh (k+1):Nat),pt w1.heap.size] S0 ?_;refine aq _ _ _ _ kZ ?_;refine zO 8 (fun Q2 aI=>?_);go_wp2_with fail;(try refine aI _ _ ?_);(try clear aI Q2)
     refine wpAny_done kZ ?_ _;go_wp2;go_roundw
     case rel=>
      have e0:W0=W.iter s (k+1):=HQ.out;subst e0;have Xj:w1.heap.size<W.heap.size:=by rw[HZ.out];omega
      refine⟨k+1,(W.setCell ⟨w1.heap.size,0,none⟩ (V6 (rh (k+1):Nat))).drew,?_,oM,by simp[HZ.out],?_,?_,?_⟩
      ·rw[iter_set Xj];rfl
      ·rw[HY.out];exact HBg.out.aX 0 _
      ·exact PD.out.far (by show w.heap.size≠w1.heap.size;omega) _
      ·exact(HBe.out.setCell (by show w.heap.size<=w1.heap.size;omega) _).drew
     case measure=>
      have e0:W0=W.iter s (k+1):=HQ.out;subst e0;have Xj:w1.heap.size<W.heap.size:=by rw[HZ.out];omega
      rw[iter_set Xj,mU HZ.out];have:((W.setCell ⟨w1.heap.size,0,none⟩ (V6 (rh (k+1):Nat))).iter s (k+1)).drew.iterPos (w1.heap.size+1)=k+1:=mU (W:=(W.setCell ⟨w1.heap.size,0,none⟩ (V6 (rh (k+1):Nat))).drew) (by simp[HZ.out]);rw[this];omega
    ·have HX:=zD (HL.out k hp oM)
     have HY:=zD (HHs.out k oM);generalize dY ((s[k]'hp).toNat:Int)=C at *;have hm:(k:Int) % 10=(k:Int)-10:=oM
     have d10:decide ((k:Int)<10)=false:=by simp;omega
     have hu:(6*(9-((k:Int)-10))).toNat=6*(19-k):=oM
     have hsh:IntKind.u64.wrap (C*2 ^ (6*(9-((k:Int)-10))).toNat)=((C.toNat <<< (6*(19-k)):Nat):Int):=by
      have:=Nk b1 b2 (U:=6*(9-((k:Int)-10))) oM oM;rw[hu]at this |-;exact this
     have gU:=TB (C:=C) (U:=6*(19-k)) b2 oM;generalize C.toNat <<< (6*(19-k))=SH at *;have hor:=u64_or_nat (rl k) SH oM gU;rw[<-HX.out]at hor;clear hu;go_upto_region 11 with(fail)
     obtain⟨W0,hw0⟩:=zE (W.iter s (k+1));rw[<-hw0]at TC |-;have HQ:=zD hw0;clear hw0;have fz:=TC.out.frozen 1;have cz:=TC.out.z 1 (V6 (rl k:Nat));refine zr (fun j=>[8].contains j) (fun wS=>Bl W0 wS) ?_;have S0:=(Below.refl W0.heap.size W0).drew;refine zk 5 [0,1,2,4] [_,V6 (rl k:Nat),_,_] (.q zX<|.q (zS fun _ h=>(TC.out.call h).z 1 (V6 (rl k:Nat)))<|.q zX<|.e) S0 ?_;refine zQ 3 ?_;go_wp2_with(go_at_call 94;refine zN (HCo.out _) ?_);refine .i S0 ?_;refine zq 1 [5,6,7] [V6 (SH:Nat),V6 (rl (k+1):Nat),.pointer (some ⟨w1.heap.size,1,none⟩)] S0 ?_;refine aq _ _ _ _ kZ ?_;refine zO 8 (fun Q2 aI=>?_);go_wp2_with fail;(try refine aI _ _ ?_);(try clear aI Q2)
     refine wpAny_done kZ ?_ _;go_wp2;go_roundw
     case rel=>
      have e0:W0=W.iter s (k+1):=HQ.out;subst e0;have Xj:w1.heap.size<W.heap.size:=by rw[HZ.out];omega
      refine⟨k+1,(W.setCell ⟨w1.heap.size,1,none⟩ (V6 (rl (k+1):Nat))).drew,?_,oM,by simp[HZ.out],?_,?_,?_⟩
      ·rw[iter_set Xj];rfl
      ·rw[HY.out];exact HBg.out.aX 1 _
      ·exact PD.out.far (by show w.heap.size≠w1.heap.size;omega) _
      ·exact(HBe.out.setCell (by show w.heap.size<=w1.heap.size;omega) _).drew
     case measure=>
      have e0:W0=W.iter s (k+1):=HQ.out;subst e0;have Xj:w1.heap.size<W.heap.size:=by rw[HZ.out];omega
      rw[iter_set Xj,mU HZ.out];have:((W.setCell ⟨w1.heap.size,1,none⟩ (V6 (rl (k+1):Nat))).iter s (k+1)).drew.iterPos (w1.heap.size+1)=k+1:=mU (W:=(W.setCell ⟨w1.heap.size,1,none⟩ (V6 (rl (k+1):Nat))).drew) (by simp[HZ.out]);rw[this];omega
   ·obtain rfl:k=s.size:=oM
    have rk:∀ty,(Instr.next (pt (w1.heap.size+1)) true ty).run prog (W.iter s s.size)=.ok (.tuple #[.bool false]) (W.iter s s.size):=fun ty=>by
     have:=run_next_end (P:=prog) W s s.size ty oM;rw[HZ.out]at this;exact this
    have TC:=zD (show ai (W.iter s s.size) w1.heap.size 83 #[V6 (rh s.size:Nat),V6 (rl s.size:Nat)]from HBg.out.alloc _);have TD:=zD (show ai (W.iter s s.size) w.heap.size 83 #[V6 0,V6 0]from PD.out.alloc _);have HXe:=zD (show Bl w (W.iter s s.size)from HBe.out.alloc HBe.out.size _);generalize W.iter s s.size=W9 at *;have:=TC.out.z 0 (V6 (rh s.size:Nat));have:=TC.out.z 1 (V6 (rl s.size:Nat));have:=TD.out.z 0 (V6 0);have:=TD.out.z 1 (V6 0);have:=TD.out.frozen 0;have:=TD.out.frozen 1;go_wp2;refine bodyPost_ret (az rfl _ _ w.heap.size _ _ _ rfl ((TD.out.aX 0 _).aX 1 _) underlying83 rfl kZ) rfl ⟨rfl,(HXe.out.setCell sI _).setCell sI _⟩
def inq (f t:Int) (x:aD):Bool:=decide (f<=x.tick)&&decide (x.tick<=t)
def iQ (l:List aD) (f t:Int):List aD:=l.filter (inq f t)
theorem Hl (l:List aD) (f t:Int):(iQ l f t).length<=l.length:=aF1 _ _
theorem TQ {l:List aD} {f t:Int} (h:l[k]? = some x) (h1:f<=x.tick) (h2:x.tick<=t):iQ (l.take (k+1)) f t=iQ (l.take k) f t++[x]:=by
 rw[dP h];unfold iQ;rw[List.filter_append];congr 1
 simp[inq,h1,h2]
theorem Nt {l:List aD} {f t:Int} (h:l[k]? = some x) (h1:¬(f<=x.tick/\x.tick<=t)):iQ (l.take (k+1)) f t=iQ (l.take k) f t:=by
 rw[dP h];unfold iQ;rw[List.filter_append];have:inq f t x=false:=by
  unfold inq;rcases Int.lt_or_le x.tick f with h2|h2
  ·simp;omega
  ·simp;omega
 simp[this]
theorem KN (A:Option Addr) (len cap:Nat) (l:List aD) (f t:Int) (w:World) (hs:cH w A len cap l) (hn:len<=1000) :
 Calls prog 182 #[.slice A len cap,I6 f,I6 t] w fun e w'=>∃v,e=.returned v/\kH w' w.heap.size v (iQ l f t)/\Bl w w':=by
 have HS:=hs;have HL:=hs.1;clear hs;go_enter func182,ntmps182;go_wp2;go_loopw[7,12] (fun v i wr=>∃k:Nat,k<=len/\i = I6 k/\kH wr w.heap.size v (iQ (l.take k) f t)/\Bl w wr) (fun _ i _=>len-(intOf i).toNat)
 case atStart=>exact⟨0,aB6 _,rfl,Own.nil _ _ _ _ _,Below.refl _ _⟩
 case round=>
  obtain⟨k,hk,rfl,hown,aT⟩:=hrel
  by_cases hlt:k<len
  ·obtain⟨b,off,x,rfl,hx,hb,t0,t1⟩:=HS.at_ hlt
   have:=(aT.cell (p:=⟨b,off+k*2,none⟩) hb).trans t0;have:=(aT.cell (p:=⟨b,off+k*2+1,none⟩) hb).trans t1;have hle:(iQ (l.take k) f t).length<1000000:=by
    have h1:=Hl (l.take k) f t;have h2:(l.take k).length<=l.length:=by rw[aC3];omega
    have:=HL;omega
   have:(k:Int)<(len:Int):=oM
   have HX:=hx;have HB:=aT;clear hx hb t0 t1
   by_cases h1:f<=x.tick
   ·by_cases h2:x.tick<=t
    ·have HN:=TQ HX h1 h2
     have:=aT.size;clear aT;go_wp2_with(at_builtin;refine wY _ rfl _ _ rfl w.heap.size _ _ rfl ((hown.alloc _).alloc _) (wr.heap.size+1) _ 1 x rfl (ai.dR wr _ _ _) hle sM ?_;intro v2 w2 mv hb2 hg2);go_roundw
     case rel=>exact⟨k+1,oM,by go_num,HN▸mv,((HB.alloc HB.size _).alloc sM _).trans hb2⟩
     case measure=>simp[intOf];omega
    ·have HN:=Nt (f:=f) (t:=t) HX (fun h=>h2 h.2)
     clear aT;go_wp2;go_roundw
     case rel=>exact⟨k+1,oM,by go_num,HN▸hown.alloc _,HB.alloc HB.size _⟩
     case measure=>simp[intOf];omega
   ·have HN:=Nt (f:=f) (t:=t) HX (fun h=>h1 h.1)
    clear aT;go_wp2;go_roundw
    case rel=>exact⟨k+1,oM,by go_num,HN▸hown.alloc _,HB.alloc HB.size _⟩
    case measure=>simp[intOf];omega
  ·have hE:l.take k=l:=aB5 (oH HL)
   rw[hE]at hown;clear hE;go_wp2;go_ret;exact⟨_,rfl,hown,aT⟩
def kI (l:List aD):List Int:=l.map fun x=>max x.value 0
theorem Hm (l:List aD):(kI l).length=l.length:=aD5 _
theorem PQ {l:List aD} (h:l[k]? = some x):kI (l.take (k+1))=kI (l.take k)++[max x.value 0]:=by
 rw[dP h];unfold kI;simp
theorem Dy {l:List aD} (hg:∀x∈l,x.good):∀y∈kI l,0<=y/\y<=9223372036854775807:=by
 intro y hy;obtain⟨x,hx,rfl⟩:=aG9.1 hy;have:=(hg x hx).2;unfold aw at this;omega
theorem AP (A:Option Addr) (len cap:Nat) (l:List aD) (w:World) (hs:cH w A len cap l) (hn:len<=1000) :
 Calls prog 232 #[.slice A len cap] w fun e w'=>∃v,e=.returned v/\Xz w' w.heap.size v (kI l)/\Bl w w':=by
 have HS:=hs;have HL:=hs.1;clear hs;go_enter func232,ntmps232;go_wp2;go_loopw[3,8] (fun v i wr=>∃k:Nat,k<=len/\i = I6 k/\Xz wr w.heap.size v (kI (l.take k))/\Bl w wr) (fun _ i _=>len-(intOf i).toNat)
 case atStart=>exact⟨0,aB6 _,rfl,Own.nil _ _ _ _ _,Below.refl _ _⟩
 case round=>
  obtain⟨k,hk,rfl,hown,aT⟩:=hrel
  by_cases hlt:k<len
  ·obtain⟨b,off,x,rfl,hx,hb,t0,t1⟩:=HS.at_ hlt
   have:=(aT.cell (p:=⟨b,off+k*2,none⟩) hb).trans t0;have:=(aT.cell (p:=⟨b,off+k*2+1,none⟩) hb).trans t1;have hle:(kI (l.take k)).length<1000000:=by
    rw[Hm];have h2:(l.take k).length<=l.length:=by rw[aC3];omega
    have:=HL;omega
   have:(k:Int)<(len:Int):=oM
   have HN:=PQ hx;have HB:=aT;have:=aT.size;clear hx hb t0 t1 aT
   by_cases h1:x.value<0
   ·have HM:=(show max x.value 0=0 by omega)
    have d1:decide (0<x.value)=false:=by simp;omega
    go_wp2_with(at_builtin;refine wX _ rfl _ _ rfl w.heap.size _ _ rfl ((hown.alloc _).alloc _) ⟨wr.heap.size+1,0,none⟩ 1 0 rfl sI hle sM ?_;intro v2 w2 mv hb2);go_roundw
    case rel=>exact⟨k+1,oM,by go_num,by rw[HN,HM];exact mv,((HB.alloc HB.size _).alloc sM _).trans hb2⟩
    case measure=>simp[intOf];omega
   ·by_cases h2:x.value=0
    ·have HM:=(show max x.value 0=0 by omega)
     have d1:decide (x.value<0)=false:=by simp;omega
     have d2:decide (0<x.value)=false:=by simp;omega
     clear h2;go_wp2_with(at_builtin;refine wX _ rfl _ _ rfl w.heap.size _ _ rfl ((hown.alloc _).alloc _) ⟨wr.heap.size+1,0,none⟩ 1 _ rfl (by simp;rfl) hle sM ?_;intro v2 w2 mv hb2);go_roundw
     case rel=>
      refine⟨k+1,oM,by go_num,?_,((HB.alloc HB.size _).alloc sM _).trans hb2⟩;rw[HN,HM];have hz:x.value=0:=by simp at d1 d2;omega
      first|exact mv|(rw[hz]at mv;exact mv)
     case measure=>simp[intOf];omega
    ·have HM:=(show max x.value 0=x.value by omega)
     have:decide (x.value<0)=false:=by simp;omega
     have:decide (0<x.value)=true:=by simp;omega
     clear h2;go_wp2_with(at_builtin;refine wX _ rfl _ _ rfl w.heap.size _ _ rfl ((hown.alloc _).alloc _) ⟨wr.heap.size+1,0,none⟩ 1 x.value rfl sI hle sM ?_;intro v2 w2 mv hb2);go_roundw
     case rel=>exact⟨k+1,oM,by go_num,by rw[HN,HM];exact mv,((HB.alloc HB.size _).alloc sM _).trans hb2⟩
     case measure=>simp[intOf];omega
  ·have hE:l.take k=l:=aB5 (oH HL)
   rw[hE]at hown;clear hE;go_wp2;go_ret;exact⟨_,rfl,hown,aT⟩
structure o9 where
 mn:Int
 wa:Int
def o9.cells (x:o9):List Value:=[I6 x.mn,I6 x.wa]
def o9.good (x:o9):Prop:=aw x.mn/\aw x.wa
abbrev OC:TypeId:=106
def mr (l:List o9):Int:=(l.map o9.mn).sum
theorem uS {l:List o9} {x:o9} (h:l[k]? = some x):mr (l.take (k+1))=mr (l.take k)+x.mn:=by
 unfold mr;rw[aD4,h,aE8,List.sum_append];simp
theorem wV {l:List o9} (h:∀x∈l,0<=x.mn):0<=mr l:=by
 unfold mr
 induction l with
 |nil=>simp
 |cons x l ih=>
  have:=h x sI;have:=ih (fun y hy=>h y (by simp[hy]));rw[aG2,aI1];omega
structure az8 (total:Int) (l:List o9):Prop where
 nT:0<=total/\total<=4096
 len:l.length<=64
 each:∀x∈l,0<=x.mn/\x.mn<=x.wa
 sum:mr l<=total
def az9 (total:Int) (l:List o9) (w:World) (e:Ending) (w' : World):Prop:=∃E:Int,e=.returned (I6 E)/\(E=0->az8 total l)/\Bl w w'
theorem Ry (total:Int) (A:Option Addr) (n c:Nat) (l:List o9) (w:World) (hs:ag w 2 o9.cells A n c l) (hg:∀x∈l,x.good) (ht:aw total) :
 Calls prog 108 #[I6 total,.slice A n c] w (az9 total l w):=by
 have HS:=zD hs;have fJ:=zD (show l.length=n from hs.1);have HG:=zD hg;have:=hs.2.1;have hcm:=hs.2.2.1;unfold maxLen at hcm;clear hs hg
 by_cases h0:total<0
 ·have:decide (total<0)=true:=decide_eq_true h0
  go_enter func108,ntmps108;go_wp2;go_ret;exact⟨1,rfl,fun h=>(by cases h),Below.refl _ _⟩
 by_cases h1:4096<total
 ·have:decide (total<0)=false:=decide_eq_false h0
  have:decide (4096<total)=true:=decide_eq_true h1;go_enter func108,ntmps108;go_wp2;go_ret;exact⟨1,rfl,fun h=>(by cases h),Below.refl _ _⟩
 by_cases h2:64<n
 ·have:decide (total<0)=false:=decide_eq_false h0
  have:decide (4096<total)=false:=decide_eq_false h1;have:decide ((64:Int)<(n:Int))=true:=decide_eq_true oM;go_enter func108,ntmps108;go_wp2;go_ret;exact⟨1,rfl,fun h=>(by cases h),Below.refl _ _⟩
 have:decide (total<0)=false:=decide_eq_false h0;have:decide (4096<total)=false:=decide_eq_false h1;have:decide ((64:Int)<(n:Int))=false:=decide_eq_false oM;have HAdd:=zD (fun(a b:Int) W (ha:aw a) (hb:aw b)=>pd a b W ha hb);go_enter func108,ntmps108;go_wp2;go_loopw[5,21] (fun ns is wr=>∃(k:Nat) (S:Int),k<=n/\is = I6 (k:Int)/\ns = I6 S/\S=nN (mr (l.take k))/\(∀x∈l.take k,0<=x.mn/\x.mn<=x.wa)/\Bl w wr) (fun _ is _=>n-(intOf is).toNat)
 case atStart=>exact⟨0,0,aB6 _,rfl,rfl,rfl,fun x hx=>by simp at hx,Below.refl _ _⟩
 case round=>
  obtain⟨k,S,hk,rfl,rfl,hS,hp,hb⟩:=hrel;have HP:=zD hp;have HB:=zD hb;have vY:=zD hS;clear hp hb hS
  by_cases hlt:k<n
  ·obtain⟨b,off,x,rfl,hx,fH,hcl⟩:=ag.at_ (af HS.out HB.out) hlt
   have mC:=zD (show wr.rangeAt b (off+k*2) [I6 x.mn,I6 x.wa]from fun j v hv=>by have h9:=hcl j v hv;rw[<-aD0]at h9;exact h9);have HX:=zD hx;have mL:=zD (HG.out x (aB7 hx));have:(k:Int)<(n:Int):=oM
   clear hx fH hcl
   by_cases m0:x.mn<0
   ·have:decide (x.mn<0)=true:=decide_eq_true m0
    go_wp2_with(refine wpList_load_mid rfl OC (.tmp 23) rfl b (off+k*2) rfl [I6 x.mn,I6 x.wa] _ mC.out underlying106 rfl kZ ?_);go_ret;exact⟨4,rfl,fun h=>(by cases h),HB.out.alloc HB.out.size _⟩
   by_cases m1:x.wa<x.mn
   ·have:decide (x.mn<0)=false:=decide_eq_false m0
    have:decide (x.wa<x.mn)=true:=decide_eq_true m1;go_wp2_with(refine wpList_load_mid rfl OC (.tmp 23) rfl b (off+k*2) rfl [I6 x.mn,I6 x.wa] _ mC.out underlying106 rfl kZ ?_);go_ret;exact⟨4,rfl,fun h=>(by cases h),HB.out.alloc HB.out.size _⟩
   ·have:decide (x.mn<0)=false:=decide_eq_false m0
    have:decide (x.wa<x.mn)=false:=decide_eq_false m1;have HI:=zD (show aw S from by rw[vY.out];exact nW _);go_wp2_with(first
     |refine wpList_load_mid rfl OC (.tmp 23) rfl b (off+k*2) rfl [I6 x.mn,I6 x.wa] _ mC.out underlying106 rfl kZ ?_
     |(go_at_call 170;refine zN (HAdd.out _ _ _ HI.out mL.out.1) ?_))
    go_roundw
    case rel=>
     refine⟨k+1,_,oM,by go_num,rfl,?_,fun y hy=>?_,HB.out.alloc HB.out.size _⟩
     ·have h9:=wV (l:=l.take k) (fun y hy=>(HP.out y hy).1)
      rw[uS HX.out,vY.out];unfold nN;omega
     ·rw[aD4,HX.out,aC9]at hy
      rcases hy with hy|hy
      ·exact HP.out y hy
      ·simp at hy;subst hy;exact⟨oM,oM⟩
    case measure=>simp[intOf];omega
  ·have: ¬(k:Int)<(n:Int):=oM
   have DJ:l.take k=l:=aB5 (oH fJ.out);have HKn:=zD DJ;clear DJ
   by_cases hT:total<S
   ·go_wp2
    go_ret;exact⟨12,rfl,fun h=>(by cases h),HB.out⟩
   ·have: ¬total<S:=hT
    go_wp2;go_ret;refine⟨0,rfl,fun _=>⟨⟨oM,oM⟩,oH fJ.out,by have h9:=HP.out;rw[HKn.out]at h9;exact h9,?_⟩,HB.out⟩;have h9:=vY.out;rw[HKn.out]at h9;unfold nN at h9;omega
def MJ (x:Int):List Value:=[I6 x]
theorem Rz (l:List Int):l.flatMap MJ=l.map fun x=>I6 x:=by
 induction l with
 |nil=>rfl
 |cons x l ih=>rw[aE5,ih];rfl
def Nd (l:List o9) (hs:List Int) (E:Int):Prop:=E = -1\/∃(k:Nat) (x:o9) (h:Int),E=(k:Int)/\l[k]? = some x/\hs[k]? = some h/\h<x.wa
def NdR (l:List o9) (hs:List Int) (w:World) (e:Ending) (w' : World):Prop:=∃E:Int,e=.returned (I6 E)/\Nd l hs E/\Bl w w'
theorem EP (A:Option Addr) (n c:Nat) (l:List o9) (B:Option Addr) (d:Nat) (hs:List Int) (w:World) (h1:ag w 2 o9.cells A n c l) (h2:ag w 1 MJ B n d hs) (hg:∀x∈l,0<=x.wa/\aw x.wa) (hh:∀x∈hs,0<=x/\aw x) :
 Calls prog 110 #[.slice A n c,.slice B n d] w (NdR l hs w):=by
 have H1:=h1;have H2:=h2;have HG:=hg;have HH:=hh;have:=h1.2.1;have hcm:=h1.2.2.1;unfold maxLen at hcm;clear h1 h2 hg hh;go_enter func110,ntmps110;go_wp2;go_loopw[5,6,12] (fun bs ms is wr=>∃(k:Nat) (E M:Int),k<=n/\is = I6 (k:Int)/\bs = I6 E/\ms = I6 M/\0<=M/\Nd l hs E/\Bl w wr) (fun _ _ is _=>n-(intOf is).toNat)
 case atStart=>exact⟨0,-1,0,aB6 _,rfl,rfl,rfl,Int.le_refl _,.inl rfl,Below.refl _ _⟩
 case round=>
  obtain⟨k,E,M,hk,rfl,rfl,rfl,hM,hN,hb⟩:=hrel;have HN:=hN;have HB:=hb;clear hN hb
  by_cases hlt:k<n
  ·obtain⟨b,off,x,rfl,hx,fH,hcl⟩:=ag.at_ (af H1 HB) hlt
   obtain⟨b2,gY,y,rfl,hy,yP,JF⟩:=ag.at_ (af H2 HB) hlt;have mC:wr.rangeAt b (off+k*2) [I6 x.mn,I6 x.wa]:=fun j v hv=>by have h9:=hcl j v hv;rw[<-aD0]at h9;exact h9
   have q0:wr.cell? ⟨b2,gY+k,none⟩=some (I6 y):=by have h9:=JF 0 _ rfl;simpa[MJ]using h9
   have hgx:=HG x (aB7 hx);have Ai:=HH y (aB7 hy);have HX:=And.intro hx hy;have:(k:Int)<(n:Int):=oM
   have:wrap64 (x.wa-y)=x.wa-y:=IntWalk.wrap64_in _ (by unfold aw at hgx Ai;omega);have E1:=HB.alloc HB.size (.cells #[I6 x.mn,I6 x.wa] OC);have q1:=zW wr (.cells #[I6 x.mn,I6 x.wa] OC) |>.cell (p:=⟨b2,gY+k,none⟩) yP |>.trans q0
   clear hx hy fH hcl JF yP q0;go_upto_region 5 with(refine wpList_load_mid rfl OC (.tmp 15) rfl b (off+k*2) rfl [I6 x.mn,I6 x.wa] _ mC underlying106 rfl kZ ?_)
   obtain⟨W1,hW1⟩:=zE (wr.alloc (.cells #[I6 x.mn,I6 x.wa] OC));rw[<-hW1]at q1 E1 |-;have x1:W1.cell? ⟨wr.heap.size,1,none⟩=some (I6 x.wa):=by rw[hW1];exact(ai.new wr _ _).ar (i:=1) rfl
   clear hW1;go_quiet(fail);have E2:Bl w (W1.drewN nq):=below_drewN E1 nq;clear x1 q1
   by_cases hl:M<x.wa-y
   ·go_wp2
    go_roundw
    case rel=>exact⟨k+1,k,x.wa-y,oM,by go_num,rfl,by go_num,oM,.inr ⟨k,x,y,rfl,HX.1,HX.2,oM⟩,E2⟩
    case measure=>simp[intOf];omega
   ·go_wp2
    go_roundw
    case rel=>exact⟨k+1,E,M,oM,by go_num,rfl,rfl,hM,HN,E2⟩
    case measure=>simp[intOf];omega
  ·have: ¬(k:Int)<(n:Int):=oM
   go_wp2;go_ret;exact⟨E,rfl,HN,HB⟩
end Go.Proofs.YtjgmjohiehbgaaaGreat
