/- Part 7. -/
import Derived.Test.YtjgmjohiehbgaaaGreatQ1
import Derived.Test.YtjgmjohiehbgaaaGreatQ4
namespace Go.Proofs.YtjgmjohiehbgaaaGreat
open Go.RowKit Go.Proofs.Tryz
set_option maxHeartbeats 20000000
set_option maxRecDepth 100000
set_option linter.all false
variable {A:Option Addr} {B Q X cap d k len o r size x:Nat} {cs:Array Value} {n p t:Int} {ty:TypeId} {v:Value} {w w':World} {α:Type}
open Nat (mod_lt pow_add pow_pos pow_succ)
def step (h c:Nat):Nat:=((h ^^^ c)*1099511628211) % 18446744073709551616
def qG (l:List Nat):Nat:=l.foldl step 14695981039346656037
def uV (l:List UInt8):List Nat:=l.map (·.toNat)
theorem xK {β:Type} (f:β->α->β) (b:β) (l:List α) (c:α):(l++[c]).foldl f b=f (l.foldl f b) c:=sI
theorem SF {β:Type} (f:β->α->β) (b:β) (p:β->Prop) (hb:p b) (hf:∀h c,p (f h c)) (l:List α):p (l.foldl f b):=by
 rcases List.eq_nil_or_concat l with rfl|⟨l,n,rfl⟩
 ·exact hb
 ·rw[List.concat_eq_append,xK];exact hf _ _
theorem XR (h c:Nat):step h c<18446744073709551616:=by unfold step;omega
theorem Ke (l:List Nat) (c:Nat):qG (l++[c])=step (qG l) c:=xK _ _ _ _
theorem Gh (l:List Nat):qG l<18446744073709551616:=SF _ _ (· < 18446744073709551616) oM XR l
theorem Kf (s:ByteArray) (k:Nat) (h:k<s.size):uV (s.data.toList.take (k+1))=uV (s.data.toList.take k)++[s[k].toNat]:=by
 rw[List.take_succ_eq_append_getElem (sH h)];simp[uV];rfl
theorem Pe (h c:Nat) (hh:h<18446744073709551616) (hc:c<256):IntKind.u64.wrap (bits .xor .u64 (h:Int) (IntKind.u64.wrap (c:Int))*1099511628211)=((step h c:Nat):Int):=by
 rw[IntKind.wrap_u64 c,show(c:Int) % 18446744073709551616=(c:Int) by omega,u64_xor_nat h c hh oM,IntKind.wrap_u64];unfold step;omega
def nA (h:Nat) (b:Int):Nat:=if b<1\/32<b then 0 else(h ^^^ h / 2 ^ b.toNat) % 2 ^ b.toNat
theorem am9 (b:Nat) (h:b<=32):2 ^ b<=4294967296:=Nat.pow_le_pow_right (n:=2) dC h
theorem uW (b:Nat):0<2 ^ b:=pow_pos dC
theorem Gi (b:Nat):(2:Int) ^ b=((2 ^ b:Nat):Int):=sI
theorem Pf (h:Nat) (b:Int) (h1:1<=b) (h2:b<=32) (hh:h<18446744073709551616) :
 bits .and .u64 (bits .xor .u64 (h:Int) ((h:Int) / 2 ^ b.toNat)) (IntKind.u64.wrap (IntKind.u64.wrap (2 ^ b.toNat)-1))=((nA h b:Nat):Int):=by
 have:=uW b.toNat;have:=am9 b.toNat oM;have:h / 2 ^ b.toNat<=h:=Nat.div_le_self _ _;have e1:(h:Int) / 2 ^ b.toNat=((h / 2 ^ b.toNat:Nat):Int):=by rw[Gi];exact(Int.natCast_ediv _ _).symm
 have e2:IntKind.u64.wrap (IntKind.u64.wrap (2 ^ b.toNat)-1)=((2 ^ b.toNat-1:Nat):Int):=by
  rw[Gi,IntKind.wrap_u64,IntKind.wrap_u64];omega
 have x:h ^^^ h / 2 ^ b.toNat<2 ^ 64:=Nat.xor_lt_two_pow oM oM;rw[e1,e2,u64_xor_nat _ _ hh oM,u64_and_nat _ _ x oM,Nat.and_two_pow_sub_one_eq_mod];unfold nA;rw[if_neg oM]
theorem an0 (s:ByteArray) (k:Nat) (h:k<s.size):s[k].toNat<256:=s[k].toNat_lt
theorem Pg (s:ByteArray) (w:World) (hs:s.size<=maxLen) :
 Calls prog 239 #[.string s] w fun e w'=>e=.returned (V6 ((qG (uV s.data.toList):Nat):Int))/\w=w':=by
 unfold maxLen at hs;go_enter func239,ntmps239;go_wp2;go_loop[3,4,7] (fun h _ i=>∃k a:Nat,k<=s.size/\i = I6 k/\h = V6 a/\a=qG (uV (s.data.toList.take k))) (fun _ _ i=>s.size-(intOf i).toNat)
 case atStart=>exact⟨0,_,aB6 _,rfl,rfl,rfl⟩
 case round=>
  obtain⟨k,a,hk,rfl,rfl,ha⟩:=hrel;have HA:=zD ha;clear ha
  by_cases hlt:k<s.size
  ·go_wp2
   go_round
   case rel=>
    refine⟨k+1,step a s[k].toNat,by omega,by go_num,?_,?_⟩
    ·rw[Pe a _ (by rw[HA.out];exact Gh _) (an0 s k hlt)]
    ·rw[Kf s k hlt,Ke,HA.out]
   case measure=>simp[intOf];omega
  ·go_wp2
   go_ret;refine⟨au ?_,rfl⟩
   show(a:Int)=_
   rw[HA.out,aB5 sM]
theorem SI (h:Nat) (b:Int) (w:World) (hh:h<18446744073709551616) :
 Calls prog 184 #[V6 h,I6 b] w fun e w'=>e=.returned (V6 ((nA h b:Nat):Int))/\w=w':=by
 by_cases h1:b<1
 ·go_enter func184,ntmps184
  go_wp2;go_ret;exact⟨au (by unfold nA;rw[if_pos (.inl h1)];rfl),rfl⟩
 ·by_cases h2:32<b
  ·go_enter func184,ntmps184
   go_wp2;go_ret;exact⟨au (by unfold nA;rw[if_pos (.inr h2)];rfl),rfl⟩
  ·have h3:1<=b:=oM
   have h4:b<=32:=oM
   clear h1 h2;go_enter func184,ntmps184;go_wp2;go_ret;exact⟨au (Pf h b h3 h4 hh),rfl⟩
theorem SK (h:Nat) (b:Int) (h1:1<=b) (h2:b<=32):nA h b<2 ^ b.toNat:=by
 unfold nA;rw[if_neg oM];exact mod_lt _ (uW _)
def bytesOf (x k:Nat):List Nat:=(List.range k).map fun i=>x / 2 ^ (56-8*i) % 256
def xL (hi lo:Nat):Nat:=qG (bytesOf hi 8++bytesOf lo 8)
theorem Ph (hi lo:Nat):xL hi lo<18446744073709551616:=Gh _
theorem xM (x:Nat) (h:x<18446744073709551616):bytesOf x 8=[x / 72057594037927936,x / 281474976710656 % 256,x / 1099511627776 % 256,x / 4294967296 % 256,x / 16777216 % 256,x / 65536 % 256,x / 256 % 256,x % 256]:=by
 have e:x / 72057594037927936=x / 72057594037927936 % 256:=oM
 rw[e];simp[bytesOf,List.range_succ]
theorem Pj (hi lo:Nat) (w:World) (h1:hi<18446744073709551616) (h2:lo<18446744073709551616) :
 Calls prog 238 #[.agg #[V6 hi,V6 lo]] w fun e w'=>∃c0 c1 c2 c3 c4 c5 c6 c7 c8 c9 c10 c11 c12 c13 c14 c15:Nat,e=.returned (.agg #[.int .u8 (c0:Int),.int .u8 (c1:Int),.int .u8 (c2:Int),.int .u8 (c3:Int),.int .u8 (c4:Int),.int .u8 (c5:Int),.int .u8 (c6:Int),.int .u8 (c7:Int),.int .u8 (c8:Int),.int .u8 (c9:Int),.int .u8 (c10:Int),.int .u8 (c11:Int),.int .u8 (c12:Int),.int .u8 (c13:Int),.int .u8 (c14:Int),.int .u8 (c15:Int)])/\(c0<256/\c1<256/\c2<256/\c3<256/\c4<256/\c5<256/\c6<256/\c7<256/\c8<256/\c9<256/\c10<256/\c11<256/\c12<256/\c13<256/\c14<256/\c15<256)/\bytesOf hi 8++bytesOf lo 8=[c0,c1,c2,c3,c4,c5,c6,c7,c8,c9,c10,c11,c12,c13,c14,c15]/\Bl w w':=by
 go_enter func238,ntmps238;go_wp2;refine wp_loop_rounds 9 ?_
 iterate 9 (rw[rounds_succ];go_wp2)
 refine bodyPost_ret (v:=.agg #[.int .u8 (((hi / 72057594037927936:Nat)):Int),.int .u8 (((hi / 281474976710656 % 256:Nat)):Int),.int .u8 (((hi / 1099511627776 % 256:Nat)):Int),.int .u8 (((hi / 4294967296 % 256:Nat)):Int),.int .u8 (((hi / 16777216 % 256:Nat)):Int),.int .u8 (((hi / 65536 % 256:Nat)):Int),.int .u8 (((hi / 256 % 256:Nat)):Int),.int .u8 (((hi % 256:Nat)):Int),.int .u8 (((lo / 72057594037927936:Nat)):Int),.int .u8 (((lo / 281474976710656 % 256:Nat)):Int),.int .u8 (((lo / 1099511627776 % 256:Nat)):Int),.int .u8 (((lo / 4294967296 % 256:Nat)):Int),.int .u8 (((lo / 16777216 % 256:Nat)):Int),.int .u8 (((lo / 65536 % 256:Nat)):Int),.int .u8 (((lo / 256 % 256:Nat)):Int),.int .u8 (((lo % 256:Nat)):Int)]) (by simp[results,results238,go_sem]) rfl ⟨_,_,_,_,_,_,_,_,_,_,_,_,_,_,_,_,rfl,by omega,?_,by go_grown⟩;rw[xM hi h1,xM lo h2]
 rfl
theorem Au {P:Program} (w:World) (src e t:TypeId) (hs:P.underlying src=some (.slice e)) (he:P.underlying e=some (.int .u8)) (cap:Nat) (ns:List Nat)
 (dst:TypeId) (hd:P.underlying dst=some .string) (cs:Array Value) (hcs:cs=(ns.map fun n:Nat=>Value.int .u8 (n:Int)).toArray) (len:Nat) (hlen:ns.length=len) :
 (convert src dst (.slice (some ⟨w.heap.size,0,none⟩) len cap)).run P (w.alloc (.cells cs t))=.ok (.string (strOfNums (ns.map fun n:Nat=>(n:Int)))) (w.alloc (.cells cs t)):=by
 subst hcs;refine run_convert_bytes_arg _ src e hs he w.heap.size 0 len cap _ (sH hlen) (fun i hi=>?_) dst hd;rw[cell_of_row _ _ _ _ t (0,0) (heap_alloc_new w _)];simp[List.getD,hlen,hi]
theorem vM (ns:List Nat) (h:∀n∈ns,n<256):uV (strOfNums (ns.map fun n:Nat=>(n:Int))).data.toList=ns:=by
 rw[strOfNums_data];unfold uV;rw[List.map_map,List.map_map]
 conv=>rhs;rw[<-List.map_id ns]
 refine List.map_congr_left fun n hn=>?_
 have:=h n hn;simp;omega
theorem XS (hi lo:Nat) (w:World) (h1:hi<18446744073709551616) (h2:lo<18446744073709551616) :
 Calls prog 185 #[.agg #[V6 hi,V6 lo]] w (Rt (V6 ((xL hi lo:Nat):Int)) (Bl w)):=by
 go_enter func185,ntmps185;go_wp2_with fail;refine(Pj hi lo _ h1 h2).mono ?_;rintro e w1 ⟨c0,c1,c2,c3,c4,c5,c6,c7,c8,c9,c10,c11,c12,c13,c14,c15,rfl,⟨k0,k1,k2,k3,k4,k5,k6,k7,k8,k9,k10,k11,k12,k13,k14,k15⟩,hb,aT⟩;have HB:=hb;clear hb;go_wp2_with fail;rw[Au w1 202 5 _ underlying202 underlying5 16 [c0,c1,c2,c3,c4,c5,c6,c7,c8,c9,c10,c11,c12,c13,c14,c15] 9 underlying9 #[.int .u8 (c0:Int),.int .u8 (c1:Int),.int .u8 (c2:Int),.int .u8 (c3:Int),.int .u8 (c4:Int),.int .u8 (c5:Int),.int .u8 (c6:Int),.int .u8 (c7:Int),.int .u8 (c8:Int),.int .u8 (c9:Int),.int .u8 (c10:Int),.int .u8 (c11:Int),.int .u8 (c12:Int),.int .u8 (c13:Int),.int .u8 (c14:Int),.int .u8 (c15:Int)] rfl 16 rfl];go_wp2_with fail;refine(Pg _ _ (by rw[strOfNums_size];unfold maxLen;simp)).mono ?_;rintro e w2 ⟨rfl,rfl⟩;go_wp2;go_ret;refine⟨au ?_,?_⟩
 ·show((qG (uV (strOfNums ([c0,c1,c2,c3,c4,c5,c6,c7,c8,c9,c10,c11,c12,c13,c14,c15].map fun n:Nat=>(n:Int))).data.toList):Nat):Int)=_
  rw[vM _ sM,<-HB];rfl
 ·exact((bR.alloc lR _).trans (aT.mono sI)).alloc (by have:=aT.size;simp at this;omega) _
def dD (n:Int):Bool:=n==1||n==2||n==4||n==8||n==16||n==32||n==64
def jT (n:Int):Int:=if n=2 then 1 else if n=4 then 2 else if n=8 then 3 else if n=16 then 4 else if n=32 then 5 else if n=64 then 6 else 0
theorem a7 (h:dD n=true):n=1\/n=2\/n=4\/n=8\/n=16\/n=32\/n=64:=by
 unfold dD at h;simp at h;omega
theorem Pk (n:Int) (h1:1<=n) (h2:n<=64):(bits .and .i64 n (n-1)==0)=dD n:=by
 obtain⟨m,rfl⟩:=aI3 (show 0<=n by omega);have h:∀m:Nat,m<65->1<=m->(bits .and .i64 (m:Int) ((m:Int)-1)==0)=dD (m:Int):=by decide +kernel
 exact h m oM oM
theorem Cc (h:n<1\/64<n):dD n=false:=by
 unfold dD;simp;omega
theorem gm (n:Int) (w:World) (hn:aw n) :
 Calls prog 123 #[I6 n] w fun e w'=>e=.returned (.bool (dD n))/\w=w':=by
 by_cases h1:n<1
 ·go_enter func123,ntmps123
  go_wp2;go_ret;exact⟨dQ (by rw[Cc (.inl h1)]),rfl⟩
 ·by_cases h2:64<n
  ·go_enter func123,ntmps123
   go_wp2;go_ret;exact⟨dQ (by rw[Cc (.inr h2)]),rfl⟩
  ·have h3:1<=n:=oM
   have h4:n<=64:=oM
   clear h1 h2;go_enter func123,ntmps123;go_wp2;go_ret;exact⟨dQ (Pk n h3 h4),rfl⟩
theorem Kg (n:Int) (w:World) (hn:aw n) :
 Calls prog 186 #[I6 n] w fun e w'=>e=.returned (I6 (jT n))/\w=w':=by
 by_cases h:dD n=true
 ·have hr:=a7 h
  rcases hr with rfl|rfl|rfl|rfl|rfl|rfl|rfl
  all_goals
   go_enter func186,ntmps186;go_wp2_with(go_at_call 123;refine zN (gm _ _ hn) ?_);refine wp_loop_rounds 8 ?_
   repeat (rw[rounds_succ];go_wp2)
   go_ret;exact⟨rfl,rfl⟩
 ·have h' : dD n=false:=sH h
  have e:jT n=0:=by
   unfold dD at h';simp at h';unfold jT;simp[h']
  clear h;go_enter func186,ntmps186;go_wp2_with(go_at_call 123;refine zN (gm _ _ hn) ?_);go_ret;exact⟨au e.symm,rfl⟩
def Fe (hi lo:Nat) (n:Int):Int:=if dD n then((nA (xL hi lo) (jT n):Nat):Int)else -1
theorem SM (n:Int):0<=jT n/\jT n<=6:=by unfold jT;omega
theorem uX (h:Nat) (n:Int):nA h (jT n)<64/\(dD n=true->(nA h (jT n):Int)<n):=by
 have:=SM n
 by_cases h0:jT n<1
 ·have e:nA h (jT n)=0:=by unfold nA;rw[if_pos (.inl h0)]
  rw[e];exact⟨oM,fun hr=>oH (a7 hr)⟩
 ·have f:=SK h (jT n) oM oM
  have:2 ^ (jT n).toNat<=2 ^ 6:=Nat.pow_le_pow_right dC oM;refine⟨oM,fun hr=>?_⟩;rcases a7 hr with rfl|rfl|rfl|rfl|rfl|rfl|rfl<;>simp[jT]at f |-<;>first|omega|(simp[jT]at h0)
theorem xN (hi lo:Nat) (n:Int) : -1<=Fe hi lo n/\Fe hi lo n<64/\(dD n=true->0<=Fe hi lo n/\Fe hi lo n<n):=by
 unfold Fe;have f:=uX (xL hi lo) n
 split
 ·rename_i h;exact⟨oM,oM,fun _=>⟨oM,f.2 h⟩⟩
 ·rename_i h;exact⟨oM,oM,fun h2=>absurd h2 h⟩
theorem xO (hi lo:Nat) (n:Int) (w:World) (hn:aw n) (h1:hi<18446744073709551616) (h2:lo<18446744073709551616) :
 Calls prog 134 #[.agg #[V6 hi,V6 lo],I6 n] w (Rt (I6 (Fe hi lo n)) (Bl w)):=by
 have:=(uX (xL hi lo) n).1;cases h:dD n
 ·go_enter func134,ntmps134
  go_wp2_with(go_at_call 123;refine zN (gm _ _ hn) ?_);go_ret;exact⟨au (by unfold Fe;rw[h];rfl),gW⟩
 ·go_enter func134,ntmps134
  go_wp2_with(first|(go_at_call 123;refine zN (gm _ _ hn) ?_)|(go_at_call 186;refine zN (Kg _ _ hn) ?_)|(go_at_call 184;refine zN (SI _ _ _ (Ph hi lo)) ?_)|(go_at_call 185;refine zM (XS _ _ _ h1 h2) fun w1 hb=>?_));go_ret;refine⟨au (by unfold Fe;rw[h];simp),?_⟩;exact(bR.alloc lR _).trans (hb.mono sI)
structure jh (X d k Q r x:Nat):Prop where
 eq:X*2 ^ k=(Q*d+r)*2 ^ 128+x
 rest:r<d
 low:x<2 ^ 128
theorem jh.start (hX:X<2 ^ 128) (hd:0<d):jh X d 0 0 0 X:=⟨oM,hd,hX⟩
theorem jh.step0 (h:jh X d k Q r x) (hlt:2*r+x / 2 ^ 127<d):jh X d (k+1) (2*Q) (2*r+x / 2 ^ 127) (2*x % 2 ^ 128):=by
 obtain⟨e,hr,hx⟩:=h;refine⟨?_,hlt,mod_lt _ dC⟩;rw[pow_succ,<-aH4,e,aH4 2 Q d];generalize Q*d=P;omega
theorem jh.an1 (h:jh X d k Q r x) (hge:d<=2*r+x / 2 ^ 127):jh X d (k+1) (2*Q+1) (2*r+x / 2 ^ 127-d) (2*x % 2 ^ 128):=by
 obtain⟨e,hr,hx⟩:=h;refine⟨?_,oM,mod_lt _ dC⟩;rw[pow_succ,<-aH4,e,aD8 (2*Q) 1 d,aI5,aH4 2 Q d];generalize Q*d=P;omega
theorem jh.done (h:jh X d 128 Q r x):Q=X / d/\r=X % d:=by
 obtain⟨e,hr,hx⟩:=h;have e2:X=Q*d+r:=by
  generalize Q*d+r=S at *;omega
 subst e2;rw[aF5 Q d,Nat.mul_add_div oM,Nat.div_eq_of_lt hr,Nat.mul_add_mod,Nat.mod_eq_of_lt hr];exact⟨oM,rfl⟩
theorem jh.small (h:jh X d k Q r x) (hX:X<2 ^ 128) (hk:k<=128):Q<2 ^ k:=by
 obtain⟨e,hr,hx⟩:=h;have hd:0<d:=oM
 have:Q<=Q*d:=Nat.le_mul_of_pos_right Q hd;have:X*2 ^ k<2 ^ 128*2 ^ k:=Nat.mul_lt_mul_of_pos_right hX (pow_pos dC);have:Q*2 ^ 128<=(Q*d+r)*2 ^ 128:=aE6 _ oM;have h4:2 ^ 128*Q<2 ^ 128*2 ^ k:=by rw[aF5 (2 ^ 128) Q];omega
 exact Nat.lt_of_mul_lt_mul_left h4
theorem Ta (hk:k<128):2*Q*2 ^ (128-(k+1))=Q*2 ^ (128-k):=by
 rw[show 128-k=(128-(k+1))+1 by omega,pow_succ,aF5 2 Q,aH4,aF5 2]
theorem Tb {qh ql:Nat} (hk:k<64) (hQ:Q<2 ^ k) (hl:ql<2 ^ 64) (h:qh*2 ^ 64+ql=Q*2 ^ (128-k)):
 (qh ||| 2 ^ (63-k))*2 ^ 64+ql=(2*Q+1)*2 ^ (128-(k+1))/\ql=0/\qh<2 ^ 64/\(qh ||| 2 ^ (63-k))<2 ^ 64:=by
 have e1:Q*2 ^ (128-k)=Q*2 ^ (64-k)*2 ^ 64:=by rw[aH4,<-pow_add];congr 2;omega
 rw[e1]at h;have hql:ql=0:=by
  generalize Q*2 ^ (64-k)=S at h;omega
 have hqh:qh=Q*2 ^ (64-k):=by
  generalize Q*2 ^ (64-k)=S at h;omega
 have hlt:qh<2 ^ 64:=by
  rw[hqh,show(64:Nat)=k+(64-k) by omega];rw[show k+(64-k)-k=64-k by omega,pow_add];exact Nat.mul_lt_mul_of_pos_right hQ (pow_pos dC)
 have hm:qh % 2 ^ (64-k)=0:=by rw[hqh];exact Nat.mul_mod_left _ _
 have hor:qh ||| 2 ^ (63-k)=qh+2 ^ (63-k):=nat_join (64-k) _ _ hm (Nat.pow_lt_pow_right dC oM)
 refine⟨?_,hql,hlt,Nat.or_lt_two_pow hlt (Nat.pow_lt_pow_right dC oM)⟩;rw[hor,hql,hqh,show 64-k=(63-k)+1 by omega,pow_succ,show 128-(k+1)=(63-k)+64 by omega,pow_add (m:=63-k) (n:=64)];generalize 2 ^ (63-k)=p;rw[<-aH4,<-aH4,aD8 (2*Q) 1 p,aI5,aH4 2 Q p];rw[aH5,aF5 2 (Q*p)]
theorem XW {qh ql:Nat} (hk:k<128) (hk2:64<=k) (hQ:Q<2 ^ k) (hl:ql<2 ^ 64) (h:qh*2 ^ 64+ql=Q*2 ^ (128-k)):
 qh*2 ^ 64+(ql ||| 2 ^ (127-k))=(2*Q+1)*2 ^ (128-(k+1))/\qh<2 ^ 64/\(ql ||| 2 ^ (127-k))<2 ^ 64:=by
 have hm:ql % 2 ^ (128-k)=0:=by
  have e:(2:Nat) ^ 64=2 ^ (128-k)*2 ^ (k-64):=by rw[<-pow_add];congr 1;omega
  have h2:ql % 2 ^ (128-k)=(qh*2 ^ 64+ql) % 2 ^ (128-k):=by
   rw[e,<-aH4,aF5 qh,aH4,Nat.mul_add_mod]
  rw[h2,h];exact Nat.mul_mod_left _ _
 have hor:ql ||| 2 ^ (127-k)=ql+2 ^ (127-k):=nat_join (128-k) _ _ hm (Nat.pow_lt_pow_right dC oM)
 have hlt:qh*2 ^ 64<2 ^ 128:=by
  have:Q*2 ^ (128-k)<2 ^ k*2 ^ (128-k):=Nat.mul_lt_mul_of_pos_right hQ (pow_pos dC);rw[<-pow_add,show k+(128-k)=128 by omega]at this;omega
 refine⟨?_,oM,Nat.or_lt_two_pow hl (Nat.pow_lt_pow_right dC oM)⟩;rw[hor,<-aD0,h,show 128-k=(127-k)+1 by omega,pow_succ,show 128-(k+1)=127-k by omega];generalize 2 ^ (127-k)=p;rw[aD8,aI5,aF5 2 Q,aH4,aF5 2 p]
def Ng (n d:Nat):Nat:=(n+d-1) / d
theorem rT {n q:Nat} (hd:0<d):(n<=q*d/\(q=0\/(q-1)*d<n))↔q=Ng n d:=by
 unfold Ng;have hdm:=Nat.div_add_mod (n+d-1) d;have hlt:=mod_lt (n+d-1) hd;generalize(n+d-1) / d=c at *;generalize(n+d-1) % d=r at *
 constructor
 ·rintro⟨h1,h2⟩
  rcases Nat.lt_trichotomy q c with h|h|h
  ·exfalso
   have:=aE6 d (show q+1<=c from h);rw[aD8,aF5 c d]at this;omega
  ·exact h
  ·exfalso
   rcases h2 with h2|h2
   ·omega
   ·have:=aE6 d (show c<=q-1 by omega)
    rw[aF5 c d]at this;omega
 ·rintro rfl
  rw[aF5];refine⟨oM,?_⟩;rcases Nat.eq_zero_or_pos q with h|h
  ·exact .inl h
  ·right
   obtain⟨m,rfl⟩:∃m,q=m+1:=⟨q-1,oM⟩
   rw[Nat.add_sub_cancel,aF5 m];rw[Nat.mul_add]at hdm;omega
theorem ai.an2 (w:World) (o:Obj) (t:TypeId) (cs:Array Value):ai ((w.alloc o).alloc (.cells cs t)) (w.heap.size+1) t cs:=by
 have:=ai.new (w.alloc o) t cs
 simpa using this
theorem ai.an3 (w:World) (o o2:Obj) (t:TypeId) (cs:Array Value):ai (((w.alloc o).alloc o2).alloc (.cells cs t)) (w.heap.size+1+1) t cs:=by
 have:=ai.new ((w.alloc o).alloc o2) t cs
 simpa using this
def gZ (l:List Int):Nat:=(l.map Int.toNat).sum
theorem Pr (l:List Int) (x:Int):gZ (l++[x])=gZ l+x.toNat:=by simp[gZ]
theorem Di (l:List Int) (hg:∀x∈l,aw x):gZ l<=l.length*9223372036854775807:=by
 induction l with
 |nil=>simp[gZ]
 |cons x l ih=>
  have:=ih (fun y hy=>hg y (by simp[hy]));have h2:=hg x sI;unfold aw at h2;simp only[gZ,aG2,aI1,aC4]at *;omega
theorem Tc {l:List Int} (hg:∀x∈l,aw x) (k:Nat):∀x∈l.take k,aw x:=fun x hx=>hg x (aG4 hx)
abbrev dI.row (p:dI):Array Value:=#[I6 p.min,I6 p.max,I6 p.target,I6 p.lz,I6 p.bp,I6 p.hold]
structure aM where
 str:Int
 dE:Int
 lW:Int
 iI:Int
abbrev aM.row (c:aM):Array Value:=#[I6 c.str,I6 c.dE,I6 c.lW,I6 c.iI]
def aM.fit (c:aM):Prop:=aw c.str/\aw c.dE/\aw c.lW/\aw c.iI
def aM.gV (c:aM):Prop:=dD c.str=true/\1<=c.dE/\c.dE<=256/\1<=c.lW/\c.lW<=256/\1<=c.iI/\c.iI<=64
instance (c:aM):Decidable c.gV:=by unfold aM.gV;infer_instance
def im (c:aM):Int:=if c.gV then 0 else 1
theorem fQ (c:aM) (w:World) (hc:c.fit) :
 Calls prog 53 #[.agg c.row] w (Rt (I6 (im c)) (Bl w)):=by
 cases hr:dD c.str
 ·have HE:=zD (show im c=1 from if_neg (by unfold aM.gV;rw[hr];simp))
  have HC:=zD (fun W=>gm c.str W hc.1);rw[hr]at HC;clear hr;go_enter func53,ntmps53;go_wp2_with(go_at_call 123;refine zN (HC.out _) ?_);go_ret;exact⟨au HE.out.symm,by go_grown⟩
 ·have HC:=zD (fun W=>gm c.str W hc.1)
  rw[hr]at HC;have HE1:=zD (fun(h:c.dE<1\/256<c.dE\/c.lW<1\/256<c.lW\/c.iI<1\/64<c.iI)=>(show im c=1 from if_neg (by unfold aM.gV;omega)));have HE0:=zD (fun(h:1<=c.dE/\c.dE<=256/\1<=c.lW/\c.lW<=256/\1<=c.iI/\c.iI<=64)=>(show im c=0 from if_pos ⟨hr,h⟩));clear hr;go_enter func53,ntmps53;go_wp2_with(go_at_call 123;refine zN (HC.out _) ?_)
  all_goals
   go_ret;refine⟨au ?_,by go_grown⟩
   first
    |exact(HE1.out oM).symm
    |exact(HE0.out oM).symm
def xY (tick value:Int):Int:=if tick<0 then 3 else if value<0 then 4 else 0
theorem PC {v:Int} (h:t<0):xY t v=3:=if_pos h
theorem KC {v:Int} (h:¬t<0) (h2:v<0):xY t v=4:=by unfold xY;rw[if_neg h,if_pos h2]
theorem Yj {v:Int} (h:¬t<0) (h2:¬v<0):xY t v=0:=by unfold xY;rw[if_neg h,if_neg h2]
theorem Cj (tick value:Int) (w:World) :
 Calls prog 78 #[I6 tick,I6 value] w fun e w'=>e=.returned (I6 (xY tick value))/\w=w':=by
 by_cases h1:tick<0
 ·rw[PC h1]
  go_enter func78,ntmps78;go_wp2;go_ret;exact⟨rfl,rfl⟩
 ·by_cases h2:value<0
  ·rw[KC oM h2]
   go_enter func78,ntmps78;go_wp2;go_ret;exact⟨rfl,rfl⟩
  ·rw[Yj oM oM]
   go_enter func78,ntmps78;go_wp2;go_ret;exact⟨rfl,rfl⟩
abbrev aj (k:Int) (s:ByteArray) (t v h:Int) (p:dI):Array Value:=#[I6 k,.string s,I6 t,I6 v,I6 h,I6 p.min,I6 p.max,I6 p.target,I6 p.lz,I6 p.bp,I6 p.hold]
def bJ (k:Int) (s:ByteArray) (t v:Int) (p:dI):Int:=
 if k<1\/8<k then 14 else if(k=1\/k=5\/k=6\/k=7)/\eO s=false then 2 else if k=1 then xY t v else if k=2/\t<0 then 3 else if k=6 then dy p else 0
theorem TA {g:Nat} {t:TypeId} {k:Int} {s:ByteArray} {t1 v h:Int} {p:dI} (hb:ai w g t (aj k s t1 v h p)):
 w.cell? ⟨g,0,none⟩=some (I6 k)/\w.cell? ⟨g,1,none⟩=some (.string s)/\w.cell? ⟨g,2,none⟩=some (I6 t1)/\w.cell? ⟨g,3,none⟩=some (I6 v)/\w.cell? ⟨g,5,none⟩=some (I6 p.min)/\w.cell? ⟨g,6,none⟩=some (I6 p.max)/\w.cell? ⟨g,7,none⟩=some (I6 p.target)/\w.cell? ⟨g,8,none⟩=some (I6 p.lz)/\w.cell? ⟨g,9,none⟩=some (I6 p.bp)/\w.cell? ⟨g,10,none⟩=some (I6 p.hold):=
 ⟨hb.ar rfl,hb.ar rfl,hb.ar rfl,hb.ar rfl,hb.ar rfl,hb.ar rfl,hb.ar rfl,hb.ar rfl,hb.ar rfl,hb.ar rfl⟩
section
def iM.cells (o:iM):List Value:=[I6 o.kind,I6 o.lock]
abbrev iM.row (o:iM):Array Value:=#[I6 o.kind,I6 o.lock]
abbrev Yk (w:World) (A:Option Addr) (len cap:Nat) (l:List iM):Prop:=ag w 2 iM.cells A len cap l
theorem bK:∀x:iM,x.cells.length=2:=fun _=>rfl
theorem Nj:∀x:iM,∀u∈x.cells,u.oneCell' = true:=by
 intro x u hu;simp[iM.cells]at hu;rcases hu with rfl|rfl<;>rfl
abbrev qL (w:World) (base:Nat) (v:Value) (l:List iM):Prop:=Own w base 334 2 iM.cells v l
theorem GK:(prog.info? 334).map (fun i=>(i.zero,i.size,i.bytes))=some (some (.agg #[I6 0,I6 0]),2,16):=kZ
section
variable {ops:Array Oper} {rest:List Oper} {o:Oper} {a:Act} {Q:Exit->Act->World->Prop}
theorem xZ (w:World) (hgd:o.guard=none) (s x:Operand) (ho:o.op=.call {callee:=.builtin .append,args:=#[s,x],argTypes:=#[271,271]}) (base:Nat) (v:Value) (l:List iM) (hs:a.eval s=v) (hown:qL w base v l)
 (g:Nat) (t:TypeId) (c:Nat) (y:iM) (hx:a.eval x=.slice (some ⟨g,0,none⟩) 1 c) (hnews:ai w g t #[I6 y.kind,I6 y.lock]) (hlen:l.length<1000000) (hbase:base<=w.heap.size)
 (h:∀v' w',qL w' base v' (l++[y])->Below base w w'->w.grownBy w' v.ownBlock->wpList prog ops Q rest (a.put o.dst v') w'):wpList prog ops Q (o::rest) a w:=
 iC w hgd s x _ ho base 334 _ 2 16 _ underlying271 GK rF dC (fun _=>rfl) Nj v l hs hown ⟨g,0,none⟩ c y hx (br (α:=iM) hnews rfl) hlen dC hbase h
theorem x4 (w:World) (hgd:o.guard=none) (s x:Operand) (ho:o.op=.call {callee:=.builtin .append,args:=#[s,x],argTypes:=#[271,271]}) (base:Nat) (v:Value) (l:List iM) (hs:a.eval s=v) (hown:qL w base v l)
 (A:Option Addr) (m c:Nat) (ys:List iM) (hx:a.eval x=.slice A m c) (RM:Yk w A m c ys) (hlen:l.length+m<1000000) (hbase:base<=w.heap.size)
 (h:∀v' w',qL w' base v' (l++ys)->Below base w w'->w.grownBy w' v.ownBlock->wpList prog ops Q rest (a.put o.dst v') w'):wpList prog ops Q (o::rest) a w:=
 fP w hgd s x _ ho base 334 _ 2 16 _ underlying271 GK rF dC (fun _=>rfl) Nj v l hs hown A m c ys hx RM hlen dC hbase h
end
theorem Dr {g base:Nat} {t:TypeId} {cells:α->List Value} {l:List α} (hsz:∀x,(cells x).length=size) (h:ai w g t cs) (hc:cs=(l.flatMap cells).toArray) (hm:l.length<=maxLen) (hb:base<=g):
 Own w base t size cells (.slice (some ⟨g,0,none⟩) l.length l.length) l:=by
 have hl:=aZ hsz l;refine⟨hl,.inr ⟨g,l.length,cs,rfl,hb,h,aC1 _,hm,by rw[hc];simpa using hl,?_⟩⟩;rw[hc];simp[aB5,hl]
theorem Own.se {base e:Nat} {cells:α->List Value} {l:List α} (h:Own w base e size cells v l): ∀k,v.ownBlock=some k->base<=k/\k<w.heap.size:=fun k hk=>World.ownsRow.lt h k hk
def mS (w:World) (l:List iM) (e:Ending) (w' : World):Prop:=∃v,e=.returned v/\qL w' w.heap.size v l/\Bl w w'
theorem pC (k h:Int) (w:World):Calls prog 262 #[I6 k,I6 h] w (mS w (lI k h)):=by
 have HO:=Dr (base:=w.heap.size) (l:=lI k h) bK (ai.new w 334 #[I6 k,I6 h,I6 4,I6 0,I6 5,I6 h]) rfl (by unfold lI maxLen;simp) lR;go_enter func262,ntmps262;go_wp2;go_ret;exact⟨_,rfl,HO,gW⟩
theorem qM (c:aM) (w:World):Calls prog 265 #[.agg c.row] w (Rt (I6 c.str) (Bl w)):=by
 go_enter func265,ntmps265;go_wp2;go_ret;exact⟨rfl,gW⟩
theorem iq (c:aM) (w:World) (h:c.str<=64) (h0 : -1<=c.str):Calls prog 171 #[.agg c.row] w (Rt (I6 (c.str+1)) (Bl w)):=by
 go_enter func171,ntmps171;go_wp2;go_ret;exact⟨rfl,gW⟩
theorem pD (c:aM) (k:Int) (s:Nat) (w:World) (hs:c.str=s) (qd:s<=64):Calls prog 264 #[.agg c.row,I6 k] w (mS w (l7 s k)):=by
 obtain⟨str,dE,lW,iI⟩:=c;simp only at hs;subst hs;have X:=And.intro (ai.new w 23 (aM.row ⟨s,dE,lW,iI⟩)) (show Bl w (w.alloc (.cells (aM.row ⟨s,dE,lW,iI⟩) 23)) by go_grown);go_enter func264,ntmps264;go_wp2;go_loopw[5,9] (fun v i wr=>∃j:Nat,j<=s/\i = I6 j/\(∃A n c,v=.slice A n c)/\qL wr w.heap.size v (l7 j k)/\Bl w wr) (fun _ i _=>s-(intOf i).toNat)
 case atStart=>exact⟨0,aB6 _,rfl,⟨_,_,_,rfl⟩,Own.nil _ _ _ _ _,X.2⟩
 case round=>
  obtain⟨j,hj,rfl,⟨A,n,c,rfl⟩,ho,hb⟩:=hrel;have HO:=ho;have HB:=hb;have:=hb.size;clear ho hb
  by_cases hlt:j<s
  ·have:(j:Int)<(s:Int):=oM
   have fJ:=(show(l7 j k).length<1000000 by rw[jW];omega);go_wp2_with(at_builtin;refine xZ _ rfl (.tmp 12) (.tmp 16) rfl w.heap.size (.slice A n c) _ rfl (HO.alloc _) wr.heap.size 334 1 ⟨k,(j:Int)⟩ rfl (ai.new _ _ _) fJ sM ?_;intro v' w1 ho hb2 hg2;obtain⟨A2,n2,c2,rfl,-,-⟩:=ho.shape bK;have O2:=ho;have B2:=(HB.alloc HB.size _).trans hb2;clear ho hb2 hg2);go_roundw
   case rel=>exact⟨j+1,oM,by go_num,⟨_,_,_,rfl⟩,(PA j k)▸O2,B2⟩
   case measure=>simp[intOf];omega
  ·obtain rfl:j=s:=oM
   go_wp2;go_ret;exact⟨_,rfl,HO,HB⟩
end
section
structure Wt where
 task:Int
 write:Bool
deriving DecidableEq
def Wt.cells (x:Wt):List Value:=[I6 x.task,.bool x.write]
structure Lk where
 r:BitVec 32
 w:BitVec 32
 line:List Wt
deriving DecidableEq
def b7 (t:Int):BitVec 32:=if t<0\/32<=t then 0#32 else 1#32 <<< t.toNat
def dh (l:Lk) (t:Int):Int:=if b7 t=0#32 then 0 else if l.w &&& b7 t≠0#32 then 2 else if l.r &&& b7 t≠0#32 then 1 else 0
def j0 (l:Lk) (wr:Bool):Bool:=decide (l.w=0#32)&&(!wr||decide (l.r=0#32))
abbrev fU (b:BitVec 32):Value:=.int .u32 (b.toNat:Nat)
abbrev Np:TypeId:=282
abbrev AJ:TypeId:=408
theorem gJ (b:BitVec 32):(((b.toNat:Nat):Int)=0)↔b=0#32:=by
 constructor
 ·intro h
  apply BitVec.eq_of_toNat_eq;simp;omega
 ·intro h;subst h;rfl
theorem Cn (a b:BitVec 32):bits .and .u32 ((a.toNat:Nat):Int) ((b.toNat:Nat):Int)=(((a &&& b).toNat:Nat):Int):=by
 rw[u32_and_nat _ _ (oH a.isLt) (oH b.isLt),BitVec.toNat_and]
theorem GU (a b:BitVec 32):bits .or .u32 ((a.toNat:Nat):Int) ((b.toNat:Nat):Int)=(((a ||| b).toNat:Nat):Int):=by
 rw[u32_or_nat _ _ (oH a.isLt) (oH b.isLt),BitVec.toNat_or]
theorem si (a b:BitVec 32):bits .andNot .u32 ((a.toNat:Nat):Int) ((b.toNat:Nat):Int)=(((a &&& ~~~b).toNat:Nat):Int):=by
 show IntKind.u32.wrap ((BitVec.ofInt 32 ((a.toNat:Nat):Int) &&& ~~~BitVec.ofInt 32 ((b.toNat:Nat):Int)).toNat:Int)=_
 have e:∀c:BitVec 32,BitVec.ofInt 32 ((c.toNat:Nat):Int)=c:=fun c=>by
  rw[BitVec.ofInt_natCast];simp
 rw[e,e,IntKind.wrap_u32'];have:=(a &&& ~~~b).isLt;omega
structure mA (w:World) (B o:Nat) (ty:TypeId) (cs:Array Value) (v:Value) (l:Lk):Prop where
 blk:ai w B ty cs
 c0:cs[o]? = some (fU l.r)
 c1:cs[o+1]? = some (fU l.w)
 c2:cs[o+2]? = some v
 own:aK w 0 AJ 2 Wt.cells v l.line
 ne:v.ownBlock≠some B
section
variable {w w' : World} {B o:Nat} {ty:TypeId} {cs:Array Value} {v:Value} {l:Lk}
theorem mA.call (h:mA w B o ty cs v l) (hb:Bl w w'):mA w' B o ty cs v l:=⟨h.blk.call hb,h.c0,h.c1,h.c2,h.own.call hb,h.ne⟩
theorem mA.upd {S:Nat->Prop} (h:mA w B o ty cs v l) (hu:ah S w w') (h1:¬S B) (h2:∀k,v.ownBlock=some k->¬S k):mA w' B o ty cs v l:=⟨h.blk.upd hu h1,h.c0,h.c1,h.c2,h.own.upd hu h2,h.ne⟩
theorem mA.drewN (h:mA w B o ty cs v l) (n:Nat):mA (w.drewN n) B o ty cs v l:=⟨h.blk.drewN n,h.c0,h.c1,h.c2,h.own.cD n,h.ne⟩
end
theorem mV (t:Int) (w:World) (ht:aw t):Calls prog 297 #[I6 t] w fun e w'=>e=.returned (fU (b7 t))/\w=w':=by
 by_cases h1:t<0
 ·have HQ:=zD (show b7 t=0#32 from if_pos (.inl h1))
  go_enter func297,ntmps297;go_wp2;go_ret;exact⟨by rw[HQ.out];rfl,rfl⟩
 ·by_cases h2:32<=t
  ·have HQ:=zD (show b7 t=0#32 from if_pos (.inr h2))
   go_enter func297,ntmps297;go_wp2;go_ret;exact⟨by rw[HQ.out];rfl,rfl⟩
  ·have HQ:=zD (show b7 t=1#32 <<< t.toNat from if_neg oM)
   obtain⟨k,rfl⟩:∃k:Nat,t=k:=⟨t.toNat,oM⟩
   have hk:k<32:=oM
   have AK:=zD (show(2 ^ k % 4294967296:Int)=(((1#32 <<< k).toNat:Nat):Int)from by
    have hall:∀i:Fin 32,(2 ^ i.val % 4294967296:Int)=(((1#32 <<< i.val).toNat:Nat):Int):=dC
    exact hall ⟨k,hk⟩)
   go_enter func297,ntmps297;go_wp2;go_ret;exact⟨by show Ending.returned (.int .u32 (2 ^ k % 4294967296))=_;rw[AK.out,HQ.out];rfl,rfl⟩
theorem vn (t:Int) (w:World) (ht:aw t):Calls prog 254 #[.pointer none,I6 t] w fun e w'=>e=.returned (I6 0)/\w=w':=by
 generalize b7 t=b at *;go_enter func254,ntmps254;go_wp2_with(go_at_call 297;refine(mV t w ht).mono ?_;rintro e w1 ⟨rfl,rfl⟩);go_ret;exact⟨rfl,rfl⟩
theorem jy (B o:Nat) (ty:TypeId) (cs:Array Value) (v:Value) (l:Lk) (t:Int) (w:World) (h:mA w B o ty cs v l) (ht:aw t) :
 Calls prog 254 #[.pointer (some ⟨B,o,none⟩),I6 t] w fun e w'=>e=.returned (I6 (dh l t))/\w=w':=by
 have HB:=mV t w ht;have c0:=h.blk.ar h.c0;have c1:=h.blk.ar h.c1;have hq:dh l t=if b7 t=0#32 then 0 else if l.w &&& b7 t≠0#32 then 2 else if l.r &&& b7 t≠0#32 then 1 else 0:=rfl
 generalize dh l t=Q at *;generalize b7 t=b at *;have:=Cn l.w b;have:=Cn l.r b;have Xl:Q=if((b.toNat:Nat):Int)=0 then 0 else if ¬(((l.w &&& b).toNat:Nat):Int)=0 then 2 else if ¬(((l.r &&& b).toNat:Nat):Int)=0 then 1 else 0:=by
  rw[hq];simp only[(gJ b),(gJ (l.w &&& b)),(gJ (l.r &&& b)),ne_eq]
 clear hq h;generalize(((l.w &&& b).toNat:Nat):Int)=X1 at *;generalize(((l.r &&& b).toNat:Nat):Int)=X0 at *;unfold fU at HB c0 c1;generalize((b.toNat:Nat):Int)=nb at *;generalize((l.r.toNat:Nat):Int)=lr at *;generalize((l.w.toNat:Nat):Int)=lw at *
 by_cases h1:nb=0
 ·rw[if_pos h1]at Xl
  subst Xl;go_enter func254,ntmps254;go_wp2_with(go_at_call 297;refine HB.mono ?_;rintro e w1 ⟨rfl,rfl⟩);go_ret;exact⟨rfl,rfl⟩
 rw[if_neg h1]at Xl
 by_cases h2:X1=0
 ·rw[if_neg (fun e=>e h2)]at Xl
  by_cases h3:X0=0
  ·rw[if_neg (fun e=>e h3)]at Xl
   subst Xl;go_enter func254,ntmps254;go_wp2_with(go_at_call 297;refine HB.mono ?_;rintro e w1 ⟨rfl,rfl⟩);go_ret;exact⟨rfl,rfl⟩
  ·rw[if_pos h3]at Xl
   subst Xl;go_enter func254,ntmps254;go_wp2_with(go_at_call 297;refine HB.mono ?_;rintro e w1 ⟨rfl,rfl⟩);go_ret;exact⟨rfl,rfl⟩
 ·rw[if_pos h2]at Xl
  subst Xl;go_enter func254,ntmps254;go_wp2_with(go_at_call 297;refine HB.mono ?_;rintro e w1 ⟨rfl,rfl⟩);go_ret;exact⟨rfl,rfl⟩
theorem Ds (B o:Nat) (ty:TypeId) (cs:Array Value) (v:Value) (l:Lk) (wr:Bool) (w:World) (h:mA w B o ty cs v l) :
 Calls prog 356 #[.pointer (some ⟨B,o,none⟩),.bool wr] w fun e w'=>e=.returned (.bool (j0 l wr))/\w=w':=by
 have c0:=h.blk.ar h.c0;have c1:=h.blk.ar h.c1;have hq:j0 l wr=(decide (((l.w.toNat:Nat):Int)=0)&&(!wr||decide (((l.r.toNat:Nat):Int)=0))):=by unfold j0;simp only[(gJ l.r),(gJ l.w)]
 rw[hq];unfold fU at c0 c1;clear hq h;generalize((l.r.toNat:Nat):Int)=lr at *;generalize((l.w.toNat:Nat):Int)=lw at *
 by_cases h1:lw=0
 ·cases wr
  ·go_enter func356,ntmps356
   go_wp2;go_ret;exact⟨by simp[h1],rfl⟩
  ·by_cases h2:lr=0
   ·go_enter func356,ntmps356
    go_wp2;go_ret;exact⟨by simp[h1,h2],rfl⟩
   ·go_enter func356,ntmps356
    go_wp2;go_ret;exact⟨by simp[h1,h2],rfl⟩
 ·go_enter func356,ntmps356
  go_wp2;go_ret;exact⟨by simp[h1],rfl⟩
end
abbrev gv (n:Int):List Value:=[I6 n]
abbrev tX (w:World) (base:Nat) (v:Value) (l:List Int):Prop:=Own w base 3 1 gv v l
abbrev dt (w:World) (A:Option Addr) (len cap:Nat) (l:List Int):Prop:=ag w 1 gv A len cap l
theorem jL:(prog.info? 3).map (fun i=>(i.zero,i.size,i.bytes))=some (some (I6 0),1,8):=kZ
theorem ma:∀x:Int,∀u∈gv x,u.oneCell' = true:=fun _ u hu=>by simp at hu;subst hu;rfl
theorem Nq:(prog.info? 408).map (fun i=>(i.zero,i.size,i.bytes))=some (some (.agg #[I6 0,.bool false]),2,16):=kZ
theorem TI:∀x:Wt,∀u∈x.cells,u.oneCell' = true:=by
 intro x u hu;simp[Wt.cells]at hu;rcases hu with rfl|rfl<;>rfl
theorem pF {ops:Array Oper} {rest:List Oper} {o:Oper} {a:Act} {Q:Exit->Act->World->Prop} (w:World) (hgd:o.guard=none) (s x:Operand)
 (ho:o.op=.call {callee:=.builtin .append,args:=#[s,x],argTypes:=#[25,25]}) (base:Nat) (v:Value) (l:List Int) (hs:a.eval s=v) (hown:tX w base v l)
 (g:Nat) (t:TypeId) (c:Nat) (y:Int) (hx:a.eval x=.slice (some ⟨g,0,none⟩) 1 c) (hnews:ai w g t #[I6 y]) (hlen:l.length<1000000) (hbase:base<=w.heap.size)
 (h:∀v' w',tX w' base v' (l++[y])->Below base w w'->w.grownBy w' v.ownBlock->wpList prog ops Q rest (a.put o.dst v') w'):wpList prog ops Q (o::rest) a w:=
 iC w hgd s x 25 ho base 3 _ 1 8 _ underlying25 jL rF dC (fun _=>rfl) ma v l hs hown ⟨g,0,none⟩ c y hx (br (α:=Int) (vs:=[I6 y]) hnews rfl) hlen dC hbase h
theorem qQ (A:Option Addr) (n c:Nat) (l:List Int) (x:Int) (w:World) (hs:dt w A n c l):Calls prog 49 #[.slice A n c,I6 x] w fun e w'=>e=.returned (.bool (l.contains x))/\w=w':=by
 obtain⟨h1,h2,h3,h4,h5⟩:=hs
 by_cases h0:n=0
 ·subst h0
  have:l=[]:=aC0 h1;subst this;exact(shq19 A c x w).mono fun e w' h=>⟨h.1,h.2.symm⟩
 ·cases A with
  |none=>exact absurd (h4 rfl).1 h0
  |some a=>
   obtain⟨k1,k2⟩:=h5 a rfl;obtain⟨b,off,q⟩:=a;have hq:q=none:=(k2 oM).2;subst hq;have hc:∀j,j<l.length->w.cell? ⟨b,off+j,none⟩=some (I6 (l.getD j 0)):=fun j hj=>by
    have:=k1 j (l[j]) (aB3 hj) 0 _ rfl;rw[Addr.add_lit]at this;rw[aC2,aB3 hj]
    simpa using this
   refine(shq18 b off n c l x w oM (by unfold maxLen at h3;omega) hc).mono ?_;rintro e w' ⟨rfl,rfl⟩;exact⟨by rw[aB5 oM],rfl⟩
theorem qR:∀x:Wt,x.cells.length=2:=fun _=>rfl
def GV (l:Lk) (w:World) (e:Ending) (w' : World):Prop:=∃A n c,e=.returned (.slice A n c)/\dt w' A n c (l.line.map Wt.task)/\tX w' w.heap.size (.slice A n c) (l.line.map Wt.task)/\Bl w w'
theorem Yv {L:List Wt} {x:Wt} (h:L[k]? = some x):(L.take (k+1)).map Wt.task=(L.take k).map Wt.task++[x.task]:=by
 rw[aD4,h,aE8];rfl
theorem Wts.at_ {l:List Wt} (h:ag w 2 Wt.cells A len cap l) (hk:k<len):
 ∃(b off:Nat) (x:Wt),A=some ⟨b,off,none⟩/\l[k]? = some x/\b<w.heap.size/\w.cell? ⟨b,off+k*2,none⟩=some (I6 x.task)/\w.cell? ⟨b,off+k*2+1,none⟩=some (.bool x.write):=by
 obtain⟨b,off,x,h1,h2,h3,h4⟩:=ag.at_ h hk;exact⟨b,off,x,h1,h2,h3,sH (h4 0 _ rfl),by have:=h4 1 _ rfl;simpa[aD0]using this⟩
theorem qT (B o:Nat) (ty:TypeId) (cs:Array Value) (v:Value) (l:Lk) (w:World) (h:mA w B o ty cs v l) (hl:l.line.length<=1000) :
 Calls prog 253 #[.pointer (some ⟨B,o,none⟩)] w (GV l w):=by
 obtain⟨A,n,c,rfl,hn,hs⟩:=h.own.shape qR;have c2:=h.blk.ar h.c2;have HS:=hs;have HN:=hn;have:n<=1000:=oM
 have HP:=(fun(e:Ending) (w' : World) (h:∃A n c,e=.returned (.slice A n c)/\tX w' w.heap.size (.slice A n c) (l.line.map Wt.task)/\Bl w w')=>(show GV l w e w' from by
  obtain⟨A,n,c,rfl,ho,hb⟩:=h;obtain⟨A',n',c',he,-,hs⟩:=ho.shape (fun _=>rfl);injection he with e1 e2 e3
  subst e1;subst e2;subst e3;exact⟨A,n,c,rfl,hs,ho,hb⟩))
 generalize l.line=L at *;clear h hs hl hn;go_enter func253,ntmps253;go_wp2;go_loopw[3,13] (fun o i wr=>∃(k no co:Nat) (Ao:Option Addr),k<=n/\i = I6 k/\o=.slice Ao no co/\tX wr w.heap.size (.slice Ao no co) ((L.take k).map Wt.task)/\Bl w wr) (fun _ i _=>n-(intOf i).toNat)
 case atStart=>exact⟨0,0,0,none,aB6 _,rfl,rfl,Own.nil _ _ _ _ _,Below.refl _ _⟩
 case round=>
  obtain⟨k,no,co,Ao,hk,rfl,rfl,hown,aT⟩:=hrel;have HO:=hown;have HB:=aT
  by_cases hlt:k<n
  ·obtain⟨bb,off,x,rfl,hx,hb,d0,d1⟩:=Wts.at_ (af HS aT) hlt
   have:(k:Int)<(n:Int):=oM
   have fG:=Yv hx;have fJ:((L.take k).map Wt.task).length<1000000:=by rw[aD5,aC3];omega
   obtain⟨xt,xw⟩:=x;dsimp only at d0 d1 fG;clear hx hb hown aT c2;go_wp2_with(at_builtin;refine pF _ rfl (.tmp 17) (.tmp 20) rfl w.heap.size (.slice Ao no co) _ rfl ((HO.alloc _).alloc _) (wr.heap.size+1) 3 1 xt rfl (ai.dR wr _ _ _) fJ (by have:=HB.size;simp;omega) ?_;intro v' w5 kG dx iK;obtain⟨A5,n5,c5,rfl,-,-⟩:=kG.shape (fun _=>rfl);have O5:=kG;have B5:=((HB.alloc HB.size _).alloc (by have:=HB.size;simp;omega) _).trans dx;clear kG dx iK);go_roundw
   case rel=>exact⟨k+1,n5,c5,A5,oM,by go_num,rfl,fG▸O5,B5⟩
   case measure=>simp[intOf];omega
  ·have hE:L.take k=L:=aB5 (oH HN)
   rw[hE]at HO;have:(n:Int)<=(k:Int):=oM
   clear hE hown aT c2;go_wp2;go_ret;exact HP _ _ ⟨_,_,_,rfl,HO,HB⟩
structure bW (w w' : World) (B o:Nat) (ty:TypeId) (cs:Array Value) (v:Value) (cs' : Array Value) (v' : Value) (l' : Lk):Prop where
 lk:mA w' B o ty cs' v' l'
 upd:ah (fun k=>k=B\/v.ownBlock=some k) w w'
 own:v'.ownBlock=v.ownBlock\/∃g,v'.ownBlock=some g/\w.heap.size<=g
 size:cs'.size=cs.size
 rest:∀i,i≠o->i≠o+1->i≠o+2->cs'[i]? = cs[i]?
theorem Dt {i:Nat} {u u0:Value} (h:cs[i]? = some u0):(cs.setIfInBounds i u)[i]? = some u:=by
 obtain⟨hi,-⟩:=aG7.1 h;simp[hi]
theorem fw {i j:Nat} {u:Value} (h:i≠j):(cs.setIfInBounds i u)[j]? = cs[j]?:=by
 rw[Array.getElem?_setIfInBounds_ne h]
def eP (l:Lk) (x:Wt):Lk:=if x.write then {l with w:=l.w ||| b7 x.task} else {l with r:=l.r ||| b7 x.task}
theorem bW.pre {w0: World} {cs': Array Value} {v': Value} {l' : Lk} (h:bW w w' B o ty cs v cs' v' l') (hb:Bl w0 w):bW w0 w' B o ty cs v cs' v' l':=
 ⟨h.lk,(ah.aa hb:ah _ w0 w).trans h.upd iL,h.own.imp id (fun⟨g,h1,h2⟩=>⟨g,h1,aB4 hb.size h2⟩),h.size,h.rest⟩
theorem mA.ao3 {l:Lk} (h:mA w B o ty cs v l) (b:BitVec 32):
 bW w (w.setCell ⟨B,o+1,none⟩ (fU b)) B o ty cs v (cs.setIfInBounds (o+1) (fU b)) v {l with w:=b}:=
 ⟨⟨h.blk.aX _ _,(fw oM).trans h.c0,Dt h.c1,(fw oM).trans h.c2,h.own.far (fun k hk e=>h.ne (by rw[hk,e])) _,h.ne⟩,
  (ah.refl (fun k=>k=B\/v.ownBlock=some k) w).setCell (.inl (.inl rfl)) _,.inl rfl,sI,fun i h0 h1 h2=>fw (Ne.symm h1)⟩
theorem mA.ao4 {l:Lk} (h:mA w B o ty cs v l) (b:BitVec 32):
 bW w (w.setCell ⟨B,o,none⟩ (fU b)) B o ty cs v (cs.setIfInBounds o (fU b)) v {l with r:=b}:=
 ⟨⟨h.blk.aX _ _,Dt h.c0,(fw oM).trans h.c1,(fw oM).trans h.c2,h.own.far (fun k hk e=>h.ne (by rw[hk,e])) _,h.ne⟩,
  (ah.refl (fun k=>k=B\/v.ownBlock=some k) w).setCell (.inl (.inl rfl)) _,.inl rfl,sI,fun i h0 h1 h2=>fw (Ne.symm h0)⟩
theorem bW.drewN {cs': Array Value} {v': Value} {l' : Lk} (h:bW w w' B o ty cs v cs' v' l') (n:Nat):bW w (w'.drewN n) B o ty cs v cs' v' l':=
 ⟨h.lk.drewN n,h.upd.cD n,h.own,h.size,h.rest⟩
theorem Nr (B o:Nat) (ty:TypeId) (cs:Array Value) (v:Value) (l:Lk) (t:Int) (wr:Bool) (w:World) (h:mA w B o ty cs v l) (ht:aw t) :
 Calls prog 357 #[.pointer (some ⟨B,o,none⟩),.agg #[I6 t,.bool wr]] w fun e w'=>e=.returned (.tuple #[])/\∃cs',bW w w' B o ty cs v cs' v (eP l ⟨t,wr⟩):=by
 have HB:=(fun W=>mV t W ht);have BX:=ai.new w AJ #[I6 t,.bool wr];have EX:=zW w (.cells #[I6 t,.bool wr] AJ);have H0:=h.call EX;have Ap:=(fun w' cs' v' l' (h:bW (w.alloc (.cells #[I6 t,.bool wr] AJ)) w' B o ty cs v cs' v' l')=>h.pre EX);clear h EX;cases wr
 ·have HQ:eP l ⟨t,false⟩ = {l with r:=l.r ||| b7 t}:=rfl
  have:=GU l.r (b7 t);have HS:=(fun(b:BitVec 32) (n:Nat)=>Ap _ _ _ _ ((H0.ao4 b).drewN n));clear Ap;generalize b7 t=b at *;go_enter func357,ntmps357;go_upto_region 3 with fail
  generalize w.alloc (.cells #[I6 t,.bool false] AJ)=W0 at *;generalize w.heap.size=gx at *;have:=H0.blk.frozen (o);have:=H0.blk.ar H0.c0;refine zr (fun j=>[10].contains j) (fun wS=>Bl W0 wS) ?_;have S0:=(Below.refl W0.heap.size W0).drew;refine zk 6 [0,1,2,3,4] [_,.pointer (some ⟨B,o,none⟩),.pointer (some ⟨B,o,none⟩),fU l.r,pt gx] (.q zX<|.q zX<|.q zX<|.q (zS fun _ h=>(H0.blk.call h).ar H0.c0)<|.e) S0 ?_;refine zk 5 [5] [I6 t] (.q (zS fun _ h=>(BX.call h).z 0 (I6 t)) .nil) S0 ?_;refine zQ 6 ?_;go_wp2_with(go_at_call 297;refine zN (HB _) ?_);refine .i S0 ?_;refine zq 3 [7] [fU (l.r ||| b)] S0 ?_;refine zQ 8 ?_;go_wp2_with fail;refine .i S0 ?_;refine zq 1 [9] [.pointer (some ⟨B,o,none⟩)] S0 ?_;refine aq _ _ _ _ kZ ?_;refine zO 10 (fun Q2 aI=>?_);go_wp2_with fail;(try refine aI _ _ ?_);(try clear aI Q2)
  refine wpAny_done kZ ?_ _;have P1:∃cs',bW w (W0.setCell ⟨B,o,none⟩ (.int .u32 ↑(l.r.toNat ||| b.toNat))).drew B o ty cs v cs' v (eP l ⟨t,false⟩):=⟨_,by
   have h5:=HS (l.r ||| b) 1;rw[HQ];simp only[fU,BitVec.toNat_or]at h5;exact h5⟩
  go_wp2
  first|(refine bodyPost_ret (results_none rfl _ _ _) rfl ?_)|go_end0
  exact⟨rfl,P1⟩
 ·have HQ:eP l ⟨t,true⟩ = {l with w:=l.w ||| b7 t}:=rfl
  have:=GU l.w (b7 t);have HS:=(fun(b:BitVec 32) (n:Nat)=>Ap _ _ _ _ ((H0.ao3 b).drewN n));clear Ap;generalize b7 t=b at *;go_enter func357,ntmps357;go_upto_region 2 with fail
  generalize w.alloc (.cells #[I6 t,.bool true] AJ)=W0 at *;generalize w.heap.size=gx at *;have:=H0.blk.frozen (o+1);have:=H0.blk.ar H0.c1;refine zr (fun j=>[10].contains j) (fun wS=>Bl W0 wS) ?_;have S0:=(Below.refl W0.heap.size W0).drew;refine zk 6 [0,1,2,3,4] [_,.pointer (some ⟨B,o,none⟩),.pointer (some ⟨B,o+1,none⟩),fU l.w,pt gx] (.q zX<|.q zX<|.q zX<|.q (zS fun _ h=>(H0.blk.call h).ar H0.c1)<|.e) S0 ?_;refine zk 5 [5] [I6 t] (.q (zS fun _ h=>(BX.call h).z 0 (I6 t)) .nil) S0 ?_;refine zQ 6 ?_;go_wp2_with(go_at_call 297;refine zN (HB _) ?_);refine .i S0 ?_;refine zq 3 [7] [fU (l.w ||| b)] S0 ?_;refine zQ 8 ?_;go_wp2_with fail;refine .i S0 ?_;refine zq 1 [9] [.pointer (some ⟨B,o+1,none⟩)] S0 ?_;refine aq _ _ _ _ kZ ?_;refine zO 10 (fun Q2 aI=>?_);go_wp2_with fail;(try refine aI _ _ ?_);(try clear aI Q2)
  refine wpAny_done kZ ?_ _;have P1:∃cs',bW w (W0.setCell ⟨B,o+1,none⟩ (.int .u32 ↑(l.w.toNat ||| b.toNat))).drew B o ty cs v cs' v (eP l ⟨t,true⟩):=⟨_,by
   have h5:=HS (l.w ||| b) 1;rw[HQ];simp only[fU,BitVec.toNat_or]at h5;exact h5⟩
  go_wp2
  first|(refine bodyPost_ret (results_none rfl _ _ _) rfl ?_)|go_end0
  exact⟨rfl,P1⟩
def j6 (p:dI) (load now:Int):Int:=if oy p load now then now else xQ p load
def cO (p n:Int):Int:=if n<1 then -1 else p % n
theorem pG (h:¬n<1):0<=cO p n/\cO p n<n:=by
 unfold cO;rw[if_neg h];exact⟨Int.emod_nonneg _ oM,Int.emod_lt_of_pos _ oM⟩
theorem tmod_neg (h:1<=n) (h2:p.tmod n<0):p.tmod n+n=p % n:=by
 rw[Int.tmod_eq_emod]at h2 |-;have:=Int.emod_nonneg p (show n≠0 by omega)
 split at h2
 ·omega
 ·rename_i h4
  rw[if_neg h4];have:(n.natAbs:Int)=n:=oM
  omega
theorem Hr (h:1<=n) (h2:¬p.tmod n<0):p.tmod n=p % n:=by
 rw[Int.tmod_eq_emod]at h2 |-;have:=Int.emod_lt_of_pos p (show 0<n by omega)
 split
 ·omega
 ·rename_i h4
  rw[if_neg h4]at h2;have:(n.natAbs:Int)=n:=oM
  omega
theorem oN (p n:Int) (w:World) (hp:aw p) (hn:aw n):Calls prog 91 #[I6 p,I6 n] w fun e w'=>e=.returned (I6 (cO p n))/\w=w':=by
 by_cases h1:n<1
 ·have HQ:=zD (show cO p n = -1 from if_pos h1)
  go_enter func91,ntmps91;go_wp2;go_ret;exact⟨by rw[HQ.out];rfl,rfl⟩
 ·have: ¬n=0:=oM
  have hq:cO p n=p % n:=if_neg h1;have: -n<=p.tmod n/\p.tmod n<n:=by
   have:=Int.emod_nonneg p (show n≠0 by omega);have:=Int.emod_lt_of_pos p (show 0<n by omega)
   by_cases h2:p.tmod n<0
   ·have:=tmod_neg oM h2;omega
   ·have:=Hr oM h2;omega
  unfold aw at hn hp
  by_cases h2:p.tmod n<0
  ·have HQ:=zD (hq.trans (tmod_neg oM h2).symm)
   clear hq;go_enter func91,ntmps91;go_wp2;go_ret;exact⟨by rw[HQ.out];rfl,rfl⟩
  ·have HQ:=zD (hq.trans (Hr oM h2).symm)
   clear hq;go_enter func91,ntmps91;go_wp2;go_ret;exact⟨by rw[HQ.out];rfl,rfl⟩
def sr (long:Int):Nat:=(min long 1048576).toNat
def mX (n long:Int):List Int:=(List.range (sr long)).map fun i:Nat=>cO (i:Int) n
theorem Hs (n:Int) (k:Nat):((List.range (k+1)).map fun i:Nat=>cO i n)=((List.range k).map fun i:Nat=>cO i n)++[cO k n]:=by simp[List.range_succ]
def KZ (w:World) (l:List Int) (e:Ending) (w' : World):Prop:=∃A n c,e=.returned (.slice A n c)/\tX w' w.heap.size (.slice A n c) l/\Bl w w'
theorem Ht (n long:Int) (w:World) (hn:aw n) (hl:long<=1000) (hl2:aw long):Calls prog 90 #[I6 n,I6 long] w (KZ w (mX n long)):=by
 have HF:=(fun(k:Nat) W (hk:k<=1000)=>oN (k:Int) n W (by unfold aw;omega) hn);have ag5:min long 1048576=long:=oM
 have HQ:mX n long=(List.range long.toNat).map fun i:Nat=>cO i n:=by unfold mX sr;rw[ag5]
 obtain⟨N,hN⟩:∃N:Nat,long.toNat=N:=⟨_,rfl⟩
 have HN:=zD hN;have:N<=1000:=oM
 unfold aw at hl2;rw[HQ,hN];clear hN hn;go_enter func90,ntmps90;go_wp2;go_loopw[5,9] (fun o i wr=>∃(k no co:Nat) (Ao:Option Addr),k<=N/\i = I6 k/\o=.slice Ao no co/\tX wr w.heap.size (.slice Ao no co) ((List.range k).map fun i:Nat=>cO i n)/\Bl w wr) (fun _ i _=>N-(intOf i).toNat)
 case atStart=>exact⟨0,0,0,none,aB6 _,rfl,rfl,Own.nil _ _ _ _ _,Below.refl _ _⟩
 case round=>
  obtain⟨k,no,co,Ao,hk,rfl,rfl,hown,aT⟩:=hrel;have HO:=hown;have HB:=aT;clear hown aT
  by_cases hlt:k<N
  ·have:(k:Int)<long:=by have:=HN.out;omega
   have Xo:=(fun W=>HF k W oM);have fG:=Hs n k;have fJ:((List.range k).map fun i:Nat=>cO i n).length<1000000:=by simp;omega
   generalize cO (k:Int) n=FK at *;generalize((List.range k).map fun i:Nat=>cO i n)=LK at *;go_wp2_with(first
    |go_at_call 91;refine zN (Xo _) ?_
    |(at_builtin;refine pF _ rfl (.tmp 12) (.tmp 16) rfl w.heap.size (.slice Ao no co) LK rfl (HO.alloc _) wr.heap.size 3 1 FK rfl (ai.new wr _ _) fJ (by have:=HB.size;simp;omega) ?_;intro v' w5 kG dx iK;obtain⟨A5,n5,c5,rfl,-,-⟩:=kG.shape (fun _=>rfl);have O5:=kG;have B5:=(HB.alloc HB.size _).trans dx;clear kG dx iK))
   go_roundw
   case rel=>exact⟨k+1,n5,c5,A5,oM,by go_num,rfl,by rw[fG];exact O5,B5⟩
   case measure=>simp[intOf];omega
  ·obtain rfl:k=N:=oM
   have:long<=(k:Int):=by have:=HN.out;omega
   go_wp2;go_ret;exact⟨_,_,_,rfl,HO,HB⟩
section
open Go.ChangeShapes Go.WideShapes Go.ChangeAt Go.RowKit
structure bq (α:Type) where
 A:Option Addr
 n:Nat
 c:Nat
 l:List α
def bq.hdr {α:Type} (r:bq α):List Value:=[.slice r.A r.n r.c]
def dK {α:Type} (w:World) (size:Nat) (cells:α->List Value) (A:Option Addr) (len cap:Nat) (rows:List (bq α)):Prop:=
 ag w 1 bq.hdr A len cap rows/\∀r∈rows,ag w size cells r.A r.n r.c r.l
theorem dK.keep {w: World} {cells:α->List Value} {rows:List (bq α)} (h:dK w size cells A len cap rows) (hb:Bl w w'):dK w' size cells A len cap rows:=
 ⟨af h.1 hb,fun r hr=>af (h.2 r hr) hb⟩
section
variable {H:Type} {enc:TypeId×Value->H} {P:Program} {w:World} {base:Nat} {spare:Nat->Bool} {held:Bool}
theorem Ui {t u e:TypeId} {n:Nat} {ks:List Kd} {d:DataW H} {p:List MemPlace} (cells:α->List Value) (good:α->Prop) (zP:0<ks.length) (hdec:∀vs,lQ ks vs->∃x:α,cells x=vs/\good x) (ht:P.underlying t=some (.slice u)) (hu:P.underlying u=some (.slice e)) (hcu:P.cellsOf u=1) (hk:ib P n e=some ks) (h:DataW.Trod enc P w base spare held t (.slice A len cap) d p): ∃rows:List (bq α),dK w ks.length cells A len cap rows/\∀r∈rows,∀x∈r.l,good x:=by
 obtain⟨fuel,hf⟩:=h;rcases Deep.open_slice1 ht hcu hf with⟨hcs,_⟩|⟨a,len',cap',m,n',V,D,Pl,hcs,_,hl,hm,Xy,_,hi⟩
 ·simp[Value.cells]at hcs
  obtain⟨rfl,rfl,rfl⟩:=hcs;exact⟨[],⟨⟨rfl,aC1 _,aB6 _,fun _=>⟨rfl,rfl⟩,fun a ha=>by cases ha⟩,fun r hr=>by simp at hr⟩,fun r hr=>by simp at hr⟩
 ·simp[Value.cells]at hcs
  obtain⟨rfl,rfl,rfl⟩:=hcs;have hlm:len<=m:=by rw[Xy];split<;>omega
  obtain⟨l,OG,hp⟩:=wW (n:=len) (p:=fun i (r:bq α)=>(w.cell? (a.add i)=some (.slice r.A r.n r.c))/\ag w ks.length cells r.A r.n r.c r.l/\∀x∈r.l,good x) (fun i hin=>by
   obtain⟨hc,Fx⟩:=hi i oM;have hV:∃A2 n2 c2,V i=.slice A2 n2 c2:=by
    rcases Deep.open_slice hu Fx with⟨h0,_⟩|⟨a2,n2,c2,_,_,_,_,h0,_⟩
    ·injection h0 with h0;exact⟨_,_,_,h0⟩
    ·injection h0 with h0;exact⟨_,_,_,h0⟩
   obtain⟨A2,n2,c2,hV⟩:=hV;rw[hV]at hc Fx;obtain⟨l2,s2,g2⟩:=vG cells good zP hdec hu hk (A:=A2) (len:=n2) (cap:=c2) (d:=D i) (p:=Pl i) ⟨n',by simpa[Value.cells]using Fx⟩;exact⟨⟨A2,n2,c2,l2⟩,hc,s2,g2⟩)
  refine⟨l,⟨⟨OG,hl,hm,fun h=>(by cases h),fun a' ha=>?_⟩,fun r hr=>?_⟩,fun r hr=>?_⟩
  ·cases ha
   refine⟨fun i x hx j v hv=>?_,fun h0=>?_⟩
   ·have:=(hp i x hx).1
    unfold bq.hdr at hv;cases j with
    |zero=>simp at hv;subst hv;simpa using this
    |succ j=>simp at hv
   ·obtain⟨x,hx⟩:∃x,l[0]? = some x:=⟨_,aB3 oM⟩
    have h1:=(hp 0 x hx).1;have e:a.add 0=a:=by unfold Addr.add;split<;>simp_all
    rw[e]at h1;exact⟨MO h1,World.cell?_spot h1⟩
  ·obtain⟨i,hi2⟩:=aD1 hr
   exact(hp i r hi2).2.1
  ·obtain⟨i,hi2⟩:=aD1 hr
   exact(hp i r hi2).2.2
end
structure ak where
 k:Int
 s:ByteArray
 t:Int
 v:Int
 h:Int
 p:dI
def ak.cells (x:ak):List Value:=(aj x.k x.s x.t x.v x.h x.p).toList
def ak.good (x:ak):Prop:=x.s.size<=maxLen
theorem Qc:∀x:ak,x.cells.length=11:=fun _=>rfl
end
abbrev VF (v:Value):List Value:=[v]
abbrev LU (w:World) (A:Option Addr) (n c:Nat) (vs:List Value):Prop:=ag w 1 VF A n c vs
def sQ (n:Nat) (can:Nat->Bool) (p:Int):Option Nat:=((List.range n).map fun(i:Nat)=>((cO p n).toNat+i) % n).find? can
def I4 (o:Option Nat):Int:=match o with|some i=>(i:Int)|none=>-1
theorem yL {n:Nat} {can:Nat->Bool} (h:∀j,j<n->can (((cO p n).toNat+j) % n)=false):sQ n can p=none:=by
 unfold sQ;rw[List.find?_eq_none];intro x hx;simp only[aG9,List.mem_range]at hx;obtain⟨j,hj,rfl⟩:=hx;rw[h j hj];decide
theorem LW {n:Nat} {can:Nat->Bool} (hk:k<n) (h:∀j,j<k->can (((cO p n).toNat+j) % n)=false) (h2:can (((cO p n).toNat+k) % n)=true):sQ n can p=some (((cO p n).toNat+k) % n):=by
 unfold sQ;have e:List.range n=List.range k++(k::(List.range' (k+1) (n-k-1))):=by
  rw[List.range_eq_range',List.range_eq_range',<-List.range'_succ];have h9:=List.range'_append_1 (s:=0) (m:=k) (n:=n-k-1+1);rw[Nat.zero_add]at h9;rw[h9]
  congr 1;omega
 rw[e,aE8,aG2,List.find?_append,List.find?_eq_none.2,Option.none_or,List.find?_cons,h2];intro x hx;simp only[aG9,List.mem_range]at hx;obtain⟨j,hj,rfl⟩:=hx;rw[h j hj];decide
theorem yM (A:Option Addr) (n c:Nat) (vs:List Value) (can:Nat->Bool) (p:Int) (w:World) (hs:LU w A n c vs) (hn:n<=64) (hp:aw p)
 (hc:∀i v,vs[i]? = some v->∀W,Bl w W->Calls prog 211 #[v] W (Rt (.bool (can i)) (Bl W))) :
 Calls prog 161 #[.slice A n c,I6 p] w (Rt (I6 (I4 (sQ n can p))) (Bl w)):=by
 have HS:=zD hs;have HC:=zD hc;have HF:=zD (oN p n w hp (by unfold aw;omega));have hm:c<=9223372036854775807:=by have:=hs.2.2.1;unfold maxLen at this;omega
 have hle:n<=c:=hs.2.1;have HLv:=zD hs.1;clear hs hc
 by_cases h0:n=0
 ·subst h0
  have HQ:=zD (show sQ 0 can p=none from yL (fun j hj=>absurd hj oM));rw[HQ.out];go_enter func161,ntmps161;go_wp2_with(go_at_call 91;refine HF.out.mono ?_;rintro e w1 ⟨rfl,rfl⟩);go_loopw[14] (fun i wr=>i = I6 0/\wr=w) (fun i _=>0)
  case atStart=>exact⟨rfl,rfl⟩
  case round=>
   obtain⟨rfl,rfl⟩:=hrel;go_wp2;go_ret;exact⟨rfl,Below.refl _ _⟩
 ·have hfb:=pG (p:=p) (n:=(n:Int)) oM
  have HFn:=zD (show cO p n=((cO p n).toNat:Nat)from oM);have hFl:(cO p n).toNat<n:=oM
  have tB:=zD (fun(hk:∀j,j<n->can (((cO p n).toNat+j) % n)=false)=>yL (n:=n) (p:=p) hk);have HNs:=zD (fun k (hk:k<n) (h:∀j,j<k->can (((cO p n).toNat+j) % n)=false) (h2:can (((cO p n).toNat+k) % n)=true)=>LW (n:=n) (p:=p) hk h h2);obtain⟨R,hR⟩:=zE (sQ n can p);rw[<-hR]at tB HNs |-;rw[HFn.out]at HF;clear hfb HFn hR;generalize(cO p n).toNat=F at *;go_enter func161,ntmps161;go_wp2_with(go_at_call 91;refine HF.out.mono ?_;rintro e w1 ⟨rfl,rfl⟩);go_loopw[14] (fun i wr=>∃k:Nat,k<=n/\i = I6 k/\(∀j,j<k->can ((F+j) % n)=false)/\Bl w wr) (fun i _=>n-(intOf i).toNat)
  case atStart=>exact⟨0,aB6 _,rfl,fun j hj=>absurd hj oM,Below.refl _ _⟩
  case round=>
   obtain⟨k,hk,rfl,Eo,aT⟩:=hrel;have HCn:=zD Eo;have qg:=zD aT;clear Eo aT
   by_cases hlt:k<n
   ·have Fb:(k:Int)<(n:Int):=oM
    have RY:(F+k) % n<n:=mod_lt _ oM;obtain⟨b,off,v,rfl,hv,hb,hcl⟩:=ag.at_ (af HS.out qg.out) RY;have t0:wr.cell? ⟨b,off+(F+k) % n,none⟩=some v:=by have:=hcl 0 v rfl;simpa using this
    have HCa:=zD (HC.out _ v hv wr qg.out);have hrm:((F:Int)+(k:Int)).tmod (n:Int)=(((F+k) % n:Nat):Int):=by
     rw[Int.tmod_eq_emod_of_nonneg oM];simp
    have HR1:=zD (HNs.out k hlt HCn.out);have fG:=zD (fun(h:can ((F+k) % n)=false)=>(show ∀j,j<k+1->can ((F+j) % n)=false from fun j hj=>by
     rcases aE4 j k with h2|h2
     ·exact HCn.out j h2
     ·have:j=k:=oM
      subst this;exact h))
    clear hcl hv hb;generalize(F+k) % n=m at *;cases hcm:can m
    ·rw[hcm]at HCa
     go_wp2_with(go_at_call 211;refine HCa.out.mono ?_;rintro e w4 ⟨rfl,hb4⟩);go_roundw
     case rel=>exact⟨k+1,by omega,by go_num,fG.out hcm,zT qg.out hb4⟩
     case measure=>simp[intOf];omega
    ·rw[hcm]at HCa
     go_wp2_with(go_at_call 211;refine HCa.out.mono ?_;rintro e w4 ⟨rfl,hb4⟩);go_ret;exact⟨by rw[HR1.out hcm];rfl,zT qg.out hb4⟩
   ·have: ¬(k:Int)<(n:Int):=oM
    have HR1:=zD (tB.out (fun j hj=>HCn.out j oM));go_wp2;go_ret;exact⟨by rw[HR1.out];rfl,qg.out⟩
end Go.Proofs.YtjgmjohiehbgaaaGreat
