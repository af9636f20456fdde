/- Contracts of functions. No condition. -/
import Derived.Test.YtdakkaapokhnnaaGreatDoorZ08
import Derived.Test.YtdakkaapokhnnaaGreatDoorZ09
namespace Go.Proofs.YtdakkaapokhnnaaGreatDoor
open Go.RowKit Go.Proofs.Tryz
set_option maxRecDepth 100000
set_option maxHeartbeats 6400000
set_option linter.all false
def CO(bs:List UInt8):Nat:=bs.foldl (λn c=>n*256+c.toNat) 0
def aP(n:Nat):Nat:=if n=0 then 1 else(n-1) /52+1
def kD(s:List UInt8)(number place:Int):Option (List UInt8×Nat):=
 match A.kr (s.take 63)with
 |some t=>if s[63]? =some 1∧((CO (t.take 4):Nat):Int)=number∧((t.getD 4 0).toNat:Int)=place∧place< (t.getD 5 0).toNat∧(t.getD 6 0).toNat<=52 then some ((t.drop 7).take (t.getD 6 0).toNat,(t.getD 5 0).toNat)else none
 |none=>none
theorem wO(n)(h:-9223372036854775808<=n∧n<=9223372036854775807):wrap64 n=n:=by unfold wrap64;omega
theorem acR(bs v):CO (bs++[v])=CO bs*256+v.toNat:=by simp[CO]
theorem Yn(bs:List UInt8):∀acc,bs.foldl (λn c=>n*256+c.toNat) acc< (acc+1)*256^bs.length:=by
 induction bs with
 |nil=>grind
 |cons v bs ih=>
  intro acc;have hv:=v.toNat_lt;rw[List.foldl_cons,List.length_cons,Nat.pow_succ];refine Nat.lt_of_lt_of_le (ih _) ?_;rw[Nat.mul_comm (256^bs.length),<-Nat.mul_assoc];exact Nat.mul_le_mul_right _ OM
theorem agf(bs n)(h:bs.length<=n):CO bs<256^n:=by
 have:=Yn bs 0;rw[Nat.zero_add,Nat.one_mul]at this;exact Nat.lt_of_lt_of_le this (Nat.pow_le_pow_right DC h)
theorem Yo(bs:List UInt8)(k v)(hv:bs[k]? =some v)(h4:bs.length<=4):bits BinOp.or IntKind.i64 (wrap64 (((CO (bs.take k):Nat):Int)*256)) (wrap64 (v.toNat:Int))=((CO (bs.take (k+1)):Nat):Int):=by
 have h1:CO (bs.take k) <256^3:=agf _ 3 (by grind);have h2:=v.toNat_lt;rw[wO _ OM,wO (v.toNat:Int) OM,show((CO (bs.take k):Nat):Int)*256=((CO (bs.take k)*256:Nat):Int)from by omega,Eg _ _ OM OM];have:=Nat.two_pow_add_eq_or_of_lt (i:=8) (b:=v.toNat) OM (CO (bs.take k))
 grind[List.take_add_one,acR]
theorem sN{T w0 w m}{b e n:Nat}{s:List UInt8}(hI:Inv T w0 w m)(hm:blk b e (s.map bv)∈m):Rd w (some ⟨b,0,none⟩) ((s.take n).map bv):=by
 intro j u hj;have hb:=hI.blk hm;refine⟨b,0,rfl,?_⟩;rw[List.getElem?_map,List.getElem?_take]at hj
 split at hj
 ·simp[World.cell?,hb,hj]
 grind
theorem ED{T w0 w m}{e size n n' c:Nat}{a' xs}(h:Inv T w0 w m)(hm:bD e size (.slice a' n' c) n xs∈m):n<=c:=by
 exact W79
theorem Mk{T w0 w m}{e g n c k q:Nat}{xs}(h:Inv T w0 w (bD e 1 (.slice (some ⟨g,0,none⟩) n c) n xs::m))(hk:k+q<=n):
  Inv T w0 w (J5 e (.slice (some ⟨g,k,none⟩) q (c-k)) ((xs.drop k).take q)::m):=
 h.turn (λhs y hy=>by
  rcases List.mem_cons.1 hy with rfl|hy
  ·obtain⟨_,_,cur,hg,h1,h2,h3,h4,h5⟩:=pg (hs (bD e 1 (.slice (some ⟨g,0,none⟩) n c) n xs) SI)
   have hq:((xs.drop k).take q).length=q:=by grind
   refine .inr ⟨g,k,c-k,cur,by rw[hq],hg,by omega,by omega,by omega,?_⟩
   grind[List.drop_take]
  grind) (by simp[owned,J5,bD,Value.ownBlock])
theorem results_tmp3{fn:Func}{t u v}(h:fn.results=#[.tmp t,.tmp u,.tmp v])(tmps P w):(results fn tmps).run P w=.ok (.tuple #[tmps.getD t undef,tmps.getD u undef,tmps.getD v undef]) w:=by
 unfold results
 simp_all
section
variable (w0:World)(s:List UInt8)(hs:s.length=64)(number place:Int)
include hs
theorem Ib(h:A.kr (s.take 63)=none∨s[63]? ≠some 1):
  Calls prog 134 #[vg s,.int .i64 number,.int .i64 place] w0 λe w'=>e=.returned (.tuple #[.slice none 0 0,.int .i64 0,.bool false])∧Below w0.heap.size w0 w':=by
 have hI:=Inv.start w0;have acS:(s.take 63).length=63:=by simp;omega
 cases ht:A.kr (s.take 63)with
 |none=>
  clear h;replace ht:=HD ht;go_enter func134,ntmps134;go_wp2_with(first|(with_reducible refine Sl hI (k:=?_);intro bx w hI)|go_at_call 152;refine(A.H_ (s.take 63) _ _ _ acS ht.out (sN hI aC) OM OM).mono ?_;rintro e w3 ⟨rfl,hw3⟩;replace hI:=hI.call hw3;clear hw3);exact bodyPost_ret (results_tmp3 rfl _ _ _) rfl ⟨rfl,hI.below⟩
 |some t=>
  have PN:t.length=59:=by have:=A.uu ht;have:=congrArg List.length this;rw[A.lD]at this;omega
  match t,ht,PN with
  |t0::t1::t2::t3::t4::t5::t6::r,ht,PN=>
   have agh:r.length=52:=by simp at PN;omega
   obtain⟨u,hu⟩:∃u,s[63]? =some u:=⟨s[63],List.getElem?_eq_getElem OM⟩;have hne:((u.toNat:Int)==1)=false:=by
    rcases h with h|h
    ·rw[h]at ht;cases ht
    ·rw[hu]at h
     simp only[beq_eq_false_iff_ne];intro h2;exact h (by rw[show u=1 from by apply UInt8.toNat_inj.1;simp;omega])
   have hL:Hid ((t0::t1::t2::t3::t4::t5::t6::r).length=59):=HD PN;have hlb:(s.map bv)[63]? =some (.int .u8 (u.toNat:Int)):=by rw[List.getElem?_map,hu];rfl
   clear h hu PN;replace ht:=HD ht;go_enter func134,ntmps134;go_wp2_with(first|(with_reducible refine Sl hI (k:=?_);intro bx w hI)|(go_at_call 152;refine KO hI (A.q8 (s.take 63) (t0::t1::t2::t3::t4::t5::t6::r) _ _ _ acS ht.out (sN hI aC) OM OM) ?_;intro a2 c2 w3 hI;obtain⟨gq,hgq⟩:=gZ (a':=a2) hI aC SI;subst hgq;have hc2:=ED hI aC;have k0:=A.o7 (hI.rd (a':=some ⟨gq,0,none⟩) aC) 0 t0 rfl;have k1:=A.o7 (hI.rd (a':=some ⟨gq,0,none⟩) aC) 1 t1 rfl;have k2:=A.o7 (hI.rd (a':=some ⟨gq,0,none⟩) aC) 2 t2 rfl;have k3:=A.o7 (hI.rd (a':=some ⟨gq,0,none⟩) aC) 3 t3 rfl;have k4:=A.o7 (hI.rd (a':=some ⟨gq,0,none⟩) aC) 4 t4 rfl;have k5:=A.o7 (hI.rd (a':=some ⟨gq,0,none⟩) aC) 5 t5 rfl;have k6:=A.o7 (hI.rd (a':=some ⟨gq,0,none⟩) aC) 6 t6 rfl;rw[hL.out]at hc2 hI|-)|with_reducible refine aW hI RF aM (aQ.out (t:=5)) hlb ?_|refine YL ?_);exact bodyPost_ret (results_tmp3 rfl _ _ _) rfl ⟨rfl,hI.below⟩
end
section
variable (w0:World)(s:List UInt8)(hs:s.length=64)(number place:Int)(t0 t1 t2 t3 t4 t5 t6:UInt8)(r:List UInt8)(ht:A.kr (s.take 63)=some (t0::t1::t2::t3::t4::t5::t6::r))(hu:s[63]? =some 1)
include hs ht hu
theorem SE:
  Calls prog 134 #[vg s,.int .i64 number,.int .i64 place] w0 λe w'=>
   if((CO [t0,t1,t2,t3]:Nat):Int)=number∧(t4.toNat:Int)=place∧place<t5.toNat∧t6.toNat<=52 then
   ∃a c,e=.returned (.tuple #[.slice a t6.toNat c,.int .i64 t5.toNat,.bool true])∧Inv [] w0 w' [J5 5 (.slice a t6.toNat c) ((r.take t6.toNat).map bv)]
   else e=.returned (.tuple #[.slice none 0 0,.int .i64 0,.bool false])∧Below w0.heap.size w0 w':=by
 have hI:=Inv.start w0;have acS:(s.take 63).length=63:=by simp;omega
 have agh:r.length=52:=by have:=A.uu ht;have:=congrArg List.length this;rw[A.lD]at this;simp at this;omega
 have hL:Hid ((t0::t1::t2::t3::t4::t5::t6::r).length=59):=HD (by simp[agh]);have hlb:(s.map bv)[63]? =some (.int .u8 1):=by rw[List.getElem?_map,hu];rfl
 clear hu;replace ht:=HD ht;go_enter func134,ntmps134;go_upto_region 6 with(first|(with_reducible refine Sl hI (k:=?_);intro bx w hI)|(go_at_call 152;refine KO hI (A.q8 (s.take 63) (t0::t1::t2::t3::t4::t5::t6::r) _ _ _ acS ht.out (sN hI aC) OM OM) ?_;intro a2 c2 w3 hI;obtain⟨gq,hgq⟩:=gZ (a':=a2) hI aC SI;subst hgq;have hc2:=ED hI aC;have k0:=A.o7 (hI.rd (a':=some ⟨gq,0,none⟩) aC) 0 t0 rfl;have k1:=A.o7 (hI.rd (a':=some ⟨gq,0,none⟩) aC) 1 t1 rfl;have k2:=A.o7 (hI.rd (a':=some ⟨gq,0,none⟩) aC) 2 t2 rfl;have k3:=A.o7 (hI.rd (a':=some ⟨gq,0,none⟩) aC) 3 t3 rfl;have k4:=A.o7 (hI.rd (a':=some ⟨gq,0,none⟩) aC) 4 t4 rfl;have k5:=A.o7 (hI.rd (a':=some ⟨gq,0,none⟩) aC) 5 t5 rfl;have k6:=A.o7 (hI.rd (a':=some ⟨gq,0,none⟩) aC) 6 t6 rfl;rw[hL.out]at hc2 hI|-)|with_reducible refine aW hI RF aM (aQ.out (t:=5)) hlb ?_|refine YL ?_)
 go_loopg [11,31] 4 (λkk s11 s31 wr=>∃(k:Nat),kk=4-k∧k<=4∧s31=.int .i64 (k:Int)∧s11=.int .i64 ((CO ([t0,t1,t2,t3].take k):Nat):Int)∧Inv [] w0 wr [bD 5 1 (.slice (some ⟨gq,0,none⟩) 59 c2) 59 ((t0::t1::t2::t3::t4::t5::t6::r).map bv)])
 case atStart=>exact⟨0,rfl,by omega,rfl,rfl,hI.sub (.cons_cons _ (List.nil_sublist _))⟩
 case round=>
  clear hI;obtain⟨k,rfl,hk,rfl,rfl,hI⟩:=hrel;by_cases h4:k=4
  ·subst h4
   have k4:((t0::t1::t2::t3::t4::t5::t6::r).map bv)[4]? =some (.int .u8 (t4.toNat:Int)):=rfl;have k5:((t0::t1::t2::t3::t4::t5::t6::r).map bv)[5]? =some (.int .u8 (t5.toNat:Int)):=rfl;have k6:((t0::t1::t2::t3::t4::t5::t6::r).map bv)[6]? =some (.int .u8 (t6.toNat:Int)):=rfl;go_upto_region 10 with(fail)
   refine ZT [9] 10 hI ?_;intro wd hI
   (repeat(refine ZQ ?_;go_wp2_with(first|with_reducible refine aK hI RF aC (aQ.out (t:=5)) k5 ?_|with_reducible refine aK hI RF aC (aQ.out (t:=5)) k6 ?_);refine ZP ?_))
   have b4:=t4.toNat_lt;have b5:=t5.toNat_lt;have b6:=t6.toNat_lt;have w5:=HD (wO (t5.toNat:Int) OM);have w6:=HD (wO (t6.toNat:Int) OM);have w4:=wO (t4.toNat:Int) OM;have w7:=wO (7+(t6.toNat:Int)) OM;rw[w5.out,w6.out];by_cases c1:((CO [t0,t1,t2,t3]:Nat):Int)=number
   ·have d1:(((CO [t0,t1,t2,t3]:Nat):Int)==number)=true:=by simpa using c1
    by_cases c2':(t4.toNat:Int)=place
    ·have d2:((t4.toNat:Int)==place)=true:=by simpa using c2'
     by_cases c3:place< (t5.toNat:Int)
     ·have d3:decide ((t5.toNat:Int)<=place)=false:=by simp;omega
      by_cases c4:t6.toNat<=52
      ·have d4:decide (52< (t6.toNat:Int))=false:=by simp;omega
       replace c1:=HD c1;replace c2':=HD c2';go_wp2_with(first|with_reducible refine aK hI RF aC (aQ.out (t:=5)) k4 ?_|refine YL ?_);have e6:(7+(t6.toNat:Int)).toNat -7=t6.toNat:=by omega
       refine bodyPost_ret (results_tmp3 rfl _ _ _) rfl ?_;have hP:=Mk hI (k:=7) (q:=t6.toNat) OM;exact⟨_,_,rfl,by simpa[List.map_take]using hP⟩
      ·have d4:decide (52< (t6.toNat:Int))=true:=by simp;omega
       replace c1:=HD c1;replace c2':=HD c2';go_wp2_with(first|with_reducible refine aK hI RF aC (aQ.out (t:=5)) k4 ?_|refine YL ?_);exact bodyPost_ret (results_tmp3 rfl _ _ _) rfl (by exact⟨rfl,hI.below⟩)
     ·have d3:decide ((t5.toNat:Int)<=place)=true:=by simp;omega
      replace c1:=HD c1;replace c2':=HD c2';go_wp2_with(first|with_reducible refine aK hI RF aC (aQ.out (t:=5)) k4 ?_|refine YL ?_);exact bodyPost_ret (results_tmp3 rfl _ _ _) rfl (by exact⟨rfl,hI.below⟩)
    ·have d2:((t4.toNat:Int)==place)=false:=by simpa using c2'
     replace c1:=HD c1;replace c2':=HD c2';go_wp2_with(first|with_reducible refine aK hI RF aC (aQ.out (t:=5)) k4 ?_|refine YL ?_);exact bodyPost_ret (results_tmp3 rfl _ _ _) rfl (by exact⟨rfl,hI.below⟩)
   ·have d1:(((CO [t0,t1,t2,t3]:Nat):Int)==number)=false:=by simpa using c1
    replace c1:=HD c1;go_wp2_with(fail);exact bodyPost_ret (results_tmp3 rfl _ _ _) rfl (by exact⟨rfl,hI.below⟩)
  ·have hk4:k<4:=by omega
   obtain⟨v,hv⟩:∃v,[t0,t1,t2,t3][k]? =some v:=⟨_,List.getElem?_eq_getElem hk4⟩;have hk:(t0::t1::t2::t3::t4::t5::t6::r)[k]? =some v:=by
    rw[show t0::t1::t2::t3::t4::t5::t6::r=[t0,t1,t2,t3]++(t4::t5::t6::r)from rfl,List.getElem?_append_left hk4,hv]
   have k5:((t0::t1::t2::t3::t4::t5::t6::r).map bv)[k]? =some (.int .u8 (v.toNat:Int)):=by rw[List.getElem?_map,hk];rfl
   have hdk:decide ((k:Int) <4)=true:=by simp;omega
   go_wp2_with(with_reducible refine aK hI RF aC (aQ.out (t:=5)) k5 ?_);have hst:=HD (Yo [t0,t1,t2,t3] k v hv (by rw[List.length_cons];simp only[List.length_cons,List.length_nil];omega));rw[hst.out];go_roundg (4- (k+1))
   case measure=>omega
   case rel=>exact⟨k+1,rfl,by omega,rfl,rfl,hI⟩
end
theorem SF{s:List UInt8}(hs:s.length=64){t}(h:A.kr (s.take 63)=some t):∃t0 t1 t2 t3 t4 t5 t6 r,t=t0::t1::t2::t3::t4::t5::t6::r:=by
 have PN:t.length=59:=by have:=A.uu h;grind[A.lD]
 match t,PN with
 |t0::t1::t2::t3::t4::t5::t6::r,_=>grind
section
variable (w0:World)(s:List UInt8)(hs:s.length=64)(number place:Int)
include hs
theorem uw{p n}(h:kD s number place=some (p,n)):
  Calls prog 134 #[vg s,.int .i64 number,.int .i64 place] w0 λe w'=>∃a c,e=.returned (.tuple #[.slice a p.length c,.int .i64 n,.bool true])∧Inv [] w0 w' [J5 5 (.slice a p.length c) (p.map bv)]:=by
 unfold kD at h
 split at h
 ·rename_i t ht
  split at h
  ·rename_i hc
   obtain⟨t0,t1,t2,t3,t4,t5,t6,r,rfl⟩:=SF hs ht;have agh:r.length=52:=by have:=A.uu ht;grind[A.lD]
   refine(SE w0 s hs number place t0 t1 t2 t3 t4 t5 t6 r ht hc.1).mono λe w' h=>?_
   grind
  grind
 grind
theorem Ml(h:kD s number place=none):
  Calls prog 134 #[vg s,.int .i64 number,.int .i64 place] w0 λe w'=>e=.returned (.tuple #[.slice none 0 0,.int .i64 0,.bool false])∧Below w0.heap.size w0 w':=by
 unfold kD at h
 split at h
 ·rename_i t ht
  split at h
  ·cases h
  ·by_cases h1:s[63]? =some 1
   ·obtain⟨t0,t1,t2,t3,t4,t5,t6,r,rfl⟩:=SF hs ht
    refine(SE w0 s hs number place t0 t1 t2 t3 t4 t5 t6 r ht h1).mono λe w' h=>?_
    grind
   grind[Ib]
 grind[Ib]
end
theorem q9{s number place p n}(h:kD s number place=some (p,n)):p.length<=52∧place<n∧n<256:=by
 grind[kD,UInt8.toNat_lt]
theorem y7(w0)(n:Nat)(hn:n<=100000):Calls prog 168 #[.int .i64 n] w0 λe w'=>e=.returned (.int .i64 (aP n))∧Below w0.heap.size w0 w':=by
 have hI:=Inv.start w0;rcases n with _|k
 ·go_enter func168,ntmps168
  exact W97
 ·have h1:((k+1:Nat):Int) -1=(k:Int):=by omega
  have h2:decide (((k+1:Nat):Int)<=0)=false:=by simp
  have h3:((aP (k+1):Nat):Int)=(k:Int) /52+1:=by simp[aP]
  rw[h3];clear h3;obtain⟨z,hz⟩:=EQ (((k+1:Nat):Int):Int);rw[hz]at h1 h2|-;go_enter func168,ntmps168;exact W97
def iw(rd:Int->List UInt8)(number at_:Int)(all:Nat):Nat->Nat->Option (List UInt8)
 |0,_=>some []
 |n+1,k=>match kD (rd (at_+k)) number k with
  |some (p,a)=>if a=all then(iw rd number at_ all n (k+1)).map (p++ ·)else none
  |none=>none
def jG(rd:Int->List UInt8)(number at_:Int):Option (List UInt8×Nat):=
 match kD (rd at_) number 0 with
 |some (b,all)=>(iw rd number at_ all (all-1) 1).map λr=>(b++r,all)
 |none=>none
section
variable (w0:World)(d mr:Nat)(wb:Option Nat)(D:DS)(hI:Inv (fB d mr wb D).own w0 w0 [fB d mr wb D])(hD:xJ D)(hwl:D.waits.length<=200000)(number at_:Int)(h0:0<=at_)(h1:at_<=100000)
include hI hD hwl h0 h1
theorem PO{B all}(h:jG (dU D) number at_=some (B,all)):
  Calls prog 97 #[.pointer (some ⟨d,0,none⟩),.int .i64 number,.int .i64 at_] w0 λe w'=>∃a c,e=.returned (.tuple #[.slice a B.length c,.int .i64 all,.bool true])∧Inv (fB d mr wb D).own w0 w' [J5 5 (.slice a B.length c) (B.map bv),fB d mr wb D]:=by
 unfold jG at h
 split at h
 ·rename_i b n hp
  obtain⟨r,hr,hB⟩:=Option.map_eq_some_iff.1 h;simp only[Prod.mk.injEq]at hB;obtain⟨hB,rfl⟩:=hB;obtain⟨l1,l2,l3⟩:=q9 hp;have l2n:1<=n:=by omega
  replace hp:=HD hp;replace hr:=HD hr;replace hB:=HD hB;clear h l2;go_enter func97,ntmps97;go_upto_region 5 with(first|go_at_call 98;refine KC jR hI (kS _ d mr wb D (hI.at_ aC) hD hwl _) ?_;intro w1 hI|go_at_call 134;(with_reducible refine(uw _ _ (lG hD _) _ _ hp.out).mono ?_);rintro e w2 ⟨pa,pc,rfl,hJ⟩;replace hI:=hI.seq hJ;simp only[List.cons_append,List.nil_append,List.append_nil]at hI;clear hJ)
  go_loopg [9,12] (n-1) (λkk s9 s12 wr=>∃(k:Nat) (cur r':List UInt8) (a:Option Addr) (c:Nat),kk=n-k∧1<=k∧k<=n∧s12=.int .i64 (k:Int)∧s9=.slice a cur.length c∧cur.length<=52*k∧Hid (iw (dU D) number at_ n (n-k) k=some r')∧Hid (cur++r'=B)∧Inv (fB d mr wb D).own w0 wr [J5 5 (.slice a cur.length c) (cur.map bv),fB d mr wb D])
  case atStart=>exact⟨1,b,r,_,_,rfl,by omega,by omega,rfl,rfl,by omega,hr,hB,hI⟩
  case round=>
   clear hI hp hr hB;obtain⟨k,cur,r',a,c,rfl,hk1,hkn,rfl,rfl,hcl,hr,hB,hI⟩:=hrel;by_cases hkk:k=n
   ·subst hkk
    go_wp2_with(fail);have hBB:cur=B:=by
     have h1:=hr.out;rw[Nat.sub_self,iw]at h1;cases h1;rw[<-hB.out,List.append_nil]
    subst hBB;exact bodyPost_ret (results_tmp3 rfl _ _ _) rfl ⟨_,_,rfl,hI⟩
   ·have hk2:k<n:=by omega
    have hd:decide ((k:Int) < (n:Int))=true:=by simp;omega
    have hr2:=hr.out;rw[show n-k=(n- (k+1))+1 from by omega,iw]at hr2
    split at hr2
    ·rename_i p2 a2 hp
     split at hr2
     ·rename_i hae
      subst hae;obtain⟨r2,hr3,hr4⟩:=Option.map_eq_some_iff.1 hr2;have hp2:=(q9 hp).1;replace hp:=HD hp;clear hr2 hr;replace hr3:=HD hr3;replace hr4:=HD hr4;go_wp2_with(first|go_at_call 98;refine KC jo hI (kS _ d mr wb D (hI.at_ aM) hD hwl _) ?_;intro w1 hI|go_at_call 134;(with_reducible refine(uw _ _ (lG hD _) _ _ hp.out).mono ?_);rintro e w2 ⟨pa,pc,rfl,hJ⟩;replace hI:=hI.seq hJ;simp only[List.cons_append,List.nil_append,List.append_nil]at hI;clear hJ|(with_reducible refine sM hI RF RF (uQ.out (t:=63)) (by intro r';exact aU.there aU.here) (EB (hI.sat _ aC)) (by rw[List.length_map]) (sH _) MX OM ?_;intro a' c' w hI)|refine YL ?_);go_roundg (a2- (k+1))
      case measure=>omega
      case rel=>exact⟨k+1,cur++p2,r2,_,_,rfl,by omega,by omega,rfl,by rw[List.length_append],by rw[List.length_append];omega,hr3,HD (by rw[List.append_assoc,hr4.out,hB.out]),by rw[List.map_append,List.length_append];exact hI.tl⟩
     ·cases hr2
    ·cases hr2
 ·cases h
theorem U0(h:jG (dU D) number at_=none):
  Calls prog 97 #[.pointer (some ⟨d,0,none⟩),.int .i64 number,.int .i64 at_] w0 λe w'=>e=.returned (.tuple #[.slice none 0 0,.int .i64 0,.bool false])∧Inv (fB d mr wb D).own w0 w' [fB d mr wb D]:=by
 unfold jG at h
 split at h
 ·rename_i b n hp
  have hr:=Option.map_eq_none_iff.1 h;obtain⟨l1,l2,l3⟩:=q9 hp;have l2n:1<=n:=by omega
  replace hp:=HD hp;replace hr:=HD hr;clear h l2;go_enter func97,ntmps97;go_upto_region 5 with(first|go_at_call 98;refine KC jR hI (kS _ d mr wb D (hI.at_ aC) hD hwl _) ?_;intro w1 hI|go_at_call 134;(with_reducible refine(uw _ _ (lG hD _) _ _ hp.out).mono ?_);rintro e w2 ⟨pa,pc,rfl,hJ⟩;replace hI:=hI.seq hJ;simp only[List.cons_append,List.nil_append,List.append_nil]at hI;clear hJ)
  go_loopg [9,12] (n-1) (λkk s9 s12 wr=>∃(k:Nat) (cur:List UInt8) (a:Option Addr) (c:Nat),kk=n-k∧1<=k∧k<=n∧s12=.int .i64 (k:Int)∧s9=.slice a cur.length c∧cur.length<=52*k∧Hid (iw (dU D) number at_ n (n-k) k=none)∧Inv (fB d mr wb D).own w0 wr [J5 5 (.slice a cur.length c) (cur.map bv),fB d mr wb D])
  case atStart=>exact⟨1,b,_,_,rfl,by omega,by omega,rfl,rfl,by omega,hr,hI⟩
  case round=>
   clear hI hp hr;obtain⟨k,cur,a,c,rfl,hk1,hkn,rfl,rfl,hcl,hr,hI⟩:=hrel;by_cases hkk:k=n
   ·subst hkk
    have h1:=hr.out;rw[Nat.sub_self,iw]at h1;cases h1
   ·have hk2:k<n:=by omega
    have hd:decide ((k:Int) < (n:Int))=true:=by simp;omega
    have hr2:=hr.out;rw[show n-k=(n- (k+1))+1 from by omega,iw]at hr2
    split at hr2
    ·rename_i p2 a2 hp
     have hp2:=(q9 hp).1;replace hp:=HD hp
     split at hr2
     ·rename_i hae
      subst hae;have hr3:=HD (Option.map_eq_none_iff.1 hr2);clear hr2 hr;go_wp2_with(first|go_at_call 98;refine KC jo hI (kS _ d mr wb D (hI.at_ aM) hD hwl _) ?_;intro w1 hI|go_at_call 134;(with_reducible refine(uw _ _ (lG hD _) _ _ hp.out).mono ?_);rintro e w2 ⟨pa,pc,rfl,hJ⟩;replace hI:=hI.seq hJ;simp only[List.cons_append,List.nil_append,List.append_nil]at hI;clear hJ|(with_reducible refine sM hI RF RF (uQ.out (t:=63)) (by intro r';exact aU.there aU.here) (EB (hI.sat _ aC)) (by rw[List.length_map]) (sH _) MX OM ?_;intro a' c' w hI)|refine YL ?_);go_roundg (a2- (k+1))
      case measure=>omega
      case rel=>exact⟨k+1,cur++p2,_,_,rfl,by omega,by omega,rfl,by rw[List.length_append],by rw[List.length_append];omega,hr3,by rw[List.map_append,List.length_append];exact hI.tl⟩
     ·rename_i hae
      have hde:((a2:Int)==(n:Int))=false:=by simp;omega
      clear hr2 hr hae;go_wp2_with(first|go_at_call 98;refine KC jo hI (kS _ d mr wb D (hI.at_ aM) hD hwl _) ?_;intro w1 hI|go_at_call 134;(with_reducible refine(uw _ _ (lG hD _) _ _ hp.out).mono ?_);rintro e w2 ⟨pa,pc,rfl,hJ⟩;replace hI:=hI.seq hJ;simp only[List.cons_append,List.nil_append,List.append_nil]at hI;clear hJ|refine YL ?_);exact bodyPost_ret (results_tmp3 rfl _ _ _) rfl ⟨rfl,hI.sub (.cons _ (.cons _ (.refl _)))⟩
    ·rename_i hp
     replace hp:=HD hp;clear hr2 hr;go_wp2_with(first|go_at_call 98;refine KC jo hI (kS _ d mr wb D (hI.at_ aM) hD hwl _) ?_;intro w1 hI|go_at_call 134;(with_reducible refine(Ml _ _ (lG hD _) _ _ hp.out).mono ?_);rintro e w2 ⟨rfl,hJ⟩;replace hI:=hI.call hJ;clear hJ);exact bodyPost_ret (results_tmp3 rfl _ _ _) rfl ⟨rfl,hI.tl⟩
 ·rename_i hp
  replace hp:=HD hp;clear h;go_enter func97,ntmps97;go_wp2_with(first|go_at_call 98;refine KC jR hI (kS _ d mr wb D (hI.at_ aC) hD hwl _) ?_;intro w1 hI|go_at_call 134;(with_reducible refine(Ml _ _ (lG hD _) _ _ hp.out).mono ?_);rintro e w2 ⟨rfl,hJ⟩;replace hI:=hI.call hJ;clear hJ);exact bodyPost_ret (results_tmp3 rfl _ _ _) rfl ⟨rfl,hI⟩
end
def uy(n:Nat):List UInt8:=[UInt8.ofNat (n/16777216),UInt8.ofNat (n/65536),UInt8.ofNat (n/256),UInt8.ofNat n]
def jr(b:List UInt8)(place:Nat):List UInt8:=(b.drop (place*52)).take 52
def uk(number all place:Nat)(part:List UInt8):List UInt8:=uy number++([UInt8.ofNat place,UInt8.ofNat all,UInt8.ofNat part.length]++(part++gW (52-part.length)))
def sJ(number all place:Nat)(part:List UInt8):List UInt8:=A.ui (uk number all place part)++[1]
def dB(number:Nat)(b:List UInt8)(n:Nat):List (List UInt8):=(List.range n).map λp=>sJ number (aP b.length) p (jr b p)
def oQ(rs:List bT):bT:=⟨owned rs,λw=>∀r∈rs,r.sat w,λw w' h hs r hr=>r.loc w w' (λk hk=>h k (List.mem_flatMap.2 ⟨r,hr,hk⟩)) (hs r hr)⟩
abbrev El:=Option Addr×Nat×List UInt8
def sv(p:El):Value:=.slice p.1 p.2.2.length p.2.1
def eo(p:El):bT:=J5 5 (sv p) (p.2.2.map bv)
def bss(a:Option Addr)(c:Nat)(els:List El):bT:=oQ (bD 63 1 (.slice a els.length c) els.length (els.map sv)::els.map eo)
def PQ(els:List El):List (List UInt8):=els.map λp=>p.2.2
theorem Inv.perm{T w0 w m m'}(h:Inv T w0 w m)(hp:m'.Perm m):Inv T w0 w m':=h.turn (λhs y hy=>hs y (hp.subset hy)) (hp.flatMap_right _)
theorem Bo{T w0 w a c els m}(h:Inv T w0 w (bss a c els::m)):Inv T w0 w (bD 63 1 (.slice a els.length c) els.length (els.map sv)::oQ (els.map eo)::m):=
 h.turn (λhs y hy=>by
  have h1:=hs (bss a c els) SI;simp only[List.mem_cons]at hy;rcases hy with rfl|rfl|hy
  ·exact h1 _ SI
  ·exact λr hr=>h1 r (by grind)
  grind) (by simp[owned,oQ,bss])
theorem Mm{T w0 w a c els m}(h:Inv T w0 w (bD 63 1 (.slice a els.length c) els.length (els.map sv)::oQ (els.map eo)::m)):Inv T w0 w (bss a c els::m):=
 h.turn (λhs y hy=>by
  rcases List.mem_cons.1 hy with rfl|hy
  ·intro r hr
   rcases List.mem_cons.1 hr with rfl|hr
   ·grind
   ·exact hs (oQ (els.map eo)) SI r hr
  grind) (by simp[owned,oQ,bss])
theorem Ic{T w0 w rs m r}(h:Inv T w0 w (oQ rs::r::m)):Inv T w0 w (oQ (rs++[r])::m):=
 h.turn (λhs y hy=>by
  rcases List.mem_cons.1 hy with rfl|hy
  ·intro x hx
   rcases List.mem_append.1 hx with hx|hx
   all_goals simp_all[oQ]
  grind) (by simp[owned,oQ])
theorem acT{T w0 w a a2 c c2}{els:List El}{bs n n2 m}(hn:n=els.length+1)(hn2:n2=bs.length)(h2:0<n2)(h:Inv T w0 w (bD 5 1 (.slice a2 n2 c2) n2 (bs.map bv)::bD 63 1 (.slice a n c) n (els.map sv++[.slice a2 n2 c2])::oQ (els.map eo)::m)):Inv T w0 w (bss a c (els++[(a2,c2,bs)])::m):=by
 subst hn hn2;obtain⟨g,rfl⟩:=gZ h aC (by grind);have h3:=Mk h (k:=0) (q:=bs.length) OM;refine Mm ?_;rw[List.length_append,List.map_append,List.map_append];have hb:((bs.map bv).drop 0).take bs.length=bs.map bv:=by grind[List.take_of_length_le]
 rw[hb]at h3;have h4:=Ic (h3.perm ((List.Perm.swap _ _ _).trans (.cons _ (List.Perm.swap _ _ _))));exact h4.jS
theorem Inv.acU{T w0 w m}(h:Inv T w0 w m):Inv T w0 w (bss none 0 []::m):=
 h.turn (λhs y hy=>by
  rcases List.mem_cons.1 hy with rfl|hy
  ·intro r hr
   simp only[List.map_nil,List.mem_singleton]at hr;subst hr;exact⟨rfl,.inl ⟨rfl,rfl⟩⟩
  grind) (by simp[owned,bss,oQ,bD,Value.ownBlock])
theorem EE{T w0 w m}{b e:Nat}{s:List UInt8}(hI:Inv T w0 w m)(hm:blk b e (s.map bv)∈m):Rd w (some ⟨b,0,none⟩) (s.map bv):=by
 have:=sN (n:=s.length) hI hm
 grind
theorem ajt(w0 a n k)(hk:n+4=k)(c bs)(hn:bs.length=n)(hr:Rd w0 a (bs.map bv))(hl:n<=100000):
  Calls prog 187 #[.slice a n c] w0 λe w'=>∃g c',e=.returned (.slice (some ⟨g,0,none⟩) k c')∧Inv [] w0 w' [bD 5 1 (.slice (some ⟨g,0,none⟩) k c') k ((A.ui bs).map bv)]:=by
 grind[A.acN]
instance:uQ prog 138 63 1 24 (.slice none 0 0):=⟨⟨by kernel_rfl,by kernel_rfl,by kernel_rfl,by decide⟩⟩
section
variable {P:Program}{ops:Array Oper}{Q:Exit->Act->World->Prop}{a:Act}{rest:List Oper}{T:List Nat}{w0 w:World}{m m':List bT}{dst:Option Tmp}{ty:TypeId}{pos:String}{af:Array Edge}
theorem nE{b off e:Nat}{cs x y z u}(hI:Inv T w0 w m)(hx:a.eval x=.pointer (some ⟨b,off,none⟩))(hv:a.eval y=.int .u8 z)(hz:z=(u.toNat:Int))(hm:blk b e cs∈m)(hu:aU (blk b e cs) (blk b e (cs.set off (bv u))) m m')(hl:off<cs.length)(k:∀w',Inv T w0 w' m'->wpList prog ops Q rest (a.put dst undef) w'):wpList prog ops Q (⟨dst,.store 5 x y,ty,pos,af,none⟩::rest) a w:=
 aR hI hx (cs:=cs) (vs:=[bv u]) (by rw[hv,hz];rfl) (by rw[show splice cs off [bv u]=cs.set off (bv u)from by simp_all[List.set_eq_take_append_cons_drop,splice]];exact hu) A.ajr rfl hl (by simp[bv,Value.oneCell']) k
theorem G5{x y}(hI:Inv T w0 w m)(hx:a.eval x=.int .i64 59)(hy:a.eval y=.int .i64 59)(k:∀b w',Inv T w0 w' (blk b 5 ((gW 59).map bv)::m)->wpList prog ops Q rest (a.put dst (.slice (some ⟨b,0,none⟩) 59 59)) w'):
  wpList prog ops Q (⟨dst,.makeSlice 63 x y,ty,pos,af,none⟩::rest) a w:=
 wpList_plain rfl λK hK=>by
  have hT:wy prog 63 5 1 1 (.int .u8 0):=uQ.out;obtain⟨i,hi,hz,h1,h2⟩:=hT.info;have hr:=run_make (P:=prog) w 63 5 i _ hT.und hi hz .i64 .i64 59 59 OM (Int.le_refl _) OM OM;have hmd:madeCells (Value.int .u8 0).cells ((59:Int).toNat*i.size)=((gW 59).map bv).toArray:=by
   rw[h1];apply Array.ext
   ·simp[madeCells,gW]
   ·intro i _ _
    simp only[madeCells,gW,List.getElem_toArray,List.getElem_map,List.getElem_replicate,Array.getElem_map];show(#[Value.int IntKind.u8 0]:Array Value)[(Array.range (Int.toNat 59*1))[i] %1]! =bv 0;rw[Nat.mod_one];rfl
  rw[hmd]at hr;unfold Oper.wp execOp;simp only[hx,hy,Sem.run_bind,hr,Result.andThen_ok,Sem.run_pure];refine hK _ _ (k w.heap.size (w.alloc (.cells ((gW 59).map bv).toArray 5)) ?_);have hsz:(w.alloc (.cells ((gW 59).map bv).toArray 5)).heap.size=w.heap.size+1:=by simp_all
  exact hI.new ⟨rfl,rfl,rfl,by omega,λj hj _=>(MapKept.heap_alloc w _).2 j hj⟩ (MapKept.heap_alloc w _).1 (by grind[blk]) (by simp[blk])
end
section
variable {P:Program}{ops:Array Oper}{Q:Exit->Act->World->Prop}{ac:Act}{rest:List Oper}{w:World}{dst:Option Tmp}{ty:TypeId}{pos:String}{af:Array Edge}
theorem Mo{x y u v z t1 t2}(hx:ac.eval x=.int .i64 u)(hy:ac.eval y=.int .i64 v)(hz:(if v<u then v else u)=z)(k:wpList P ops Q rest (ac.put dst (.int .i64 z)) w):
  wpList P ops Q (⟨dst,.call {callee:=.builtin .min,args:= #[x,y],argTypes:= #[t1,t2]},ty,pos,af,none⟩::rest) ac w:=
 wpList_plain rfl λK hK=>by
  unfold Oper.wp execOp;simp only[resolve,invoke,builtin,Sem.run_bind,Sem.run_pure,Result.andThen_ok,List.map_toArray,List.map_cons,List.map_nil,hx,hy,run_min_int2,hz];exact hK _ _ k
end
theorem Ab(n i u)(hu:(uy n)[i]? =some u):(((uy n).take i++gW (59-i)).map bv).set i (bv u)=((uy n).take (i+1)++gW (59- (i+1))).map bv:=by
 match i,hu with
 |0,hu=>cases hu;rfl
 |1,hu=>cases hu;rfl
 |2,hu=>cases hu;rfl
 |3,hu=>cases hu;rfl
theorem acV{w g off k q xs}(h:Rd w (some ⟨g,off,none⟩) xs):Rd w (some ⟨g,off+k,none⟩) ((xs.drop k).take q):=by
 intro j u hj;rw[List.getElem?_take]at hj
 split at hj
 ·rw[List.getElem?_drop]at hj
  obtain⟨b,o,hab,hc⟩:=h _ _ hj
  grind
 grind
theorem Yq(number all place:Nat)(part)(h:part.length<=52):splice (bv (UInt8.ofNat (number/16777216))::bv (UInt8.ofNat (number/65536))::bv (UInt8.ofNat (number/256))::bv (UInt8.ofNat number)::bv (UInt8.ofNat place)::bv (UInt8.ofNat all)::bv (UInt8.ofNat part.length)::(gW 52).map bv) 7 (part.map bv)=(uk number all place part).map bv:=by
 simp only[splice,uk,uy,List.map_append,List.map_cons,List.map_nil,List.length_map,List.take_succ_cons,List.take_zero,List.cons_append,List.nil_append]
 grind[gW,List.map_replicate]
theorem Ef(number all place part)(h:part.length<=52):(uk number all place part).length=59:=by
 grind[uk,uy,gW]
theorem y8(number all place part)(h:part.length<=52):(sJ number all place part).length=64:=by
 grind[sJ.eq_1,A.lD,Ef]
theorem J6(number b k):dB number b (k+1)=dB number b k++[sJ number (aP b.length) k (jr b k)]:=by
 grind[dB.eq_1,List.range_succ]
section
variable (w0:World)(number:Nat)(agi:number<=100000)(g off c:Nat)(b:List UInt8)(hr:Rd w0 (some ⟨g,off,none⟩) (b.map bv))(hc:b.length<=c)(hl:b.length<=3000)(hl1:1<=b.length)
include agi hr hc hl hl1
theorem Mq:Calls prog 170 #[.int .i64 number,.slice (some ⟨g,off,none⟩) b.length c] w0 λe w'=>∃a' c' els,e=.returned (.slice a' els.length c')∧PQ els=dB number b (aP b.length)∧Inv [] w0 w' [bss a' c' els]:=by
 have hI:=Inv.start w0;obtain⟨N,hN⟩:=EH (aP b.length);obtain⟨L,hL⟩:=EQ b.length;have hN1:1<=N∧(N-1)*52<L∧L<=N*52:=by
  rw[<-hN.out,hL,aP];split<;>omega
 obtain⟨hN1,hN2,hN3⟩:=hN1;have hN':Hid (aP L=N):=by rw[<-hL];exact hN
 go_enter func170,ntmps170;go_upto_region 4 with(go_at_call 168;go_loud (refine KD hI (y7 _ _ OM) ?_;intro w1 hI;(rw[hN'.out])))
 go_loopg [15,6] N (λkk s15 s6 wr=>∃(k:Nat) (a':Option Addr) (c':Nat) (els:List El),kk=N-k∧k<=N∧s15=.int .i64 (k:Int)∧s6=.slice a' els.length c'∧els.length=k∧Hid (PQ els=dB number b k)∧Inv [] w0 wr [bss a' c' els])
 case atStart=>exact⟨0,none,0,[],rfl,by omega,rfl,rfl,rfl,HD rfl,hI.acU⟩
 case round=>
  clear hI;obtain⟨k,a',c',els,rfl,hk,rfl,rfl,hel,hB,hI⟩:=hrel;by_cases hkN:k=N
  ·subst hkN
   go_wp2_with(fail);go_ret;exact⟨_,_,els,rfl,by rw[hB.out,hN.out],hI⟩
  ·have hd:decide ((k:Int) < (N:Int))=true:=by simp;omega
   obtain⟨q,hq⟩:=EQ ((jr b k).length);have hq2:q=min 52 (L-k*52):=by rw[<-hq,jr,List.length_take,List.length_drop,hL]
   have hz:∀u:Int,u=((k:Int)+1)*52->(if(L:Int) <u then(L:Int)else u)=(k:Int)*52+(q:Int):=by intro u hu;split<;>omega
   have agj:q<=52:=by omega
   have hqL:k*52+q<=L:=by omega
   have amk:¬(c=k*52):=by have:k<=N-1:=(by omega);omega
   have U1:=acV (k:=k*52) (q:=52) hr;rw[<-List.map_drop,<-List.map_take]at U1;replace hq2:=HD hq2;replace hq:=HD hq;go_upto_region 9 with(first|with_reducible refine Mo RF RF (hz _ OM) ?_|(with_reducible refine G5 hI RF RF ?_;intro bs w hI))
   go_loopg [29] 4 (λkk s29 wr=>∃(i:Nat),kk=4-i∧i<=4∧s29=.int .i64 (i:Int)∧Inv [] w0 wr [blk bs 5 (((uy number).take i++gW (59-i)).map bv),bss a' c' els])
   case atStart=>exact⟨0,rfl,by omega,rfl,hI⟩
   case round=>
    clear hI;obtain⟨i,rfl,hi,rfl,hI⟩:=hrel;have hRl:((gW 52).map bv).length=52:=by simp[gW]
    match i,hi with
    |4,_=>
     have hcs:((uy number).take 4++gW (59-4)).map bv=bv (UInt8.ofNat (number/16777216))::bv (UInt8.ofNat (number/65536))::bv (UInt8.ofNat (number/256))::bv (UInt8.ofNat number)::bv 0::bv 0::bv 0::(gW 52).map bv:=rfl;rw[hcs]at hI;have hfin:=HD (Yq number N k (jr b k) (by rw[hq.out];exact agj));rw[hq.out]at hfin;clear hcs;go_upto_region 15 with(first|(with_reducible refine nE (u:=UInt8.ofNat k) hI RF RF (by rw[UInt8.toNat_ofNat'];omega) aC jR (by(simp only[List.length_cons,hRl];omega)) ?_;intro w hI;(try simp only[QS]at hI))|(with_reducible refine nE (u:=UInt8.ofNat N) hI RF RF (by rw[UInt8.toNat_ofNat'];omega) aC jR (by(simp only[List.length_cons,hRl];omega)) ?_;intro w hI;(try simp only[QS]at hI))|(with_reducible refine nE (u:=UInt8.ofNat q) hI RF RF (by rw[UInt8.toNat_ofNat'];omega) aC jR (by(simp only[List.length_cons,hRl];omega)) ?_;intro w hI;(try simp only[QS]at hI))|(with_reducible refine sG (xs:=(jr b k).map bv) (ys:=(jr b k).map bv) hI (uQ.out (t:=63)) RF RF (hI.LV U1) (by rw[List.length_map,hq.out]) jR (by rw[List.take_of_length_le];rw[List.length_map,hq.out];omega) (by simp only[List.length_cons,hRl];omega) (sH _) ?_;intro w hI;rw[hfin.out]at hI))
     have htl:=HD (Ef number N k (jr b k) (by rw[hq.out];exact agj));replace hI:=Bo hI.jS;rw[hel]at hI;go_upto_region 16 with(first|go_at_call 187;refine KO hI (ajt _ _ 59 63 rfl 59 _ htl.out (EE hI a_) OM) ?_;intro gp cp w1 hI|(with_reducible refine kJ (v0:=.int .u8 1) hI (uQ.out (t:=63)) RF RF ?_;intro b1 w hI)|(with_reducible refine aA (q:=1) hI RF RF (uQ.out (t:=63)) (by intro r';exact aU.there aU.here) (hI.rd aC) RF (by intro u hu;cases List.mem_singleton.1 hu;with_unfolding_all rfl) MX OM ?_;intro a2 c2 w hI;(try simp only[Nat.reduceAdd]at hI))|(with_reducible refine kK hI (uQ.out (t:=138)) RF ?_;intro b2 w hI;(try simp only[Nat.reduceAdd]at hI))|(with_reducible refine aA (q:=1) hI RF RF (uQ.out (t:=138)) (by intro r';exact aU.there (aU.there (aU.there aU.here))) (hI.rd aC) RF (by intro u hu;cases List.mem_singleton.1 hu;with_unfolding_all rfl) MX OM ?_;intro a3 c3 w hI))
     go_wp2_with(fail);rw[show(A.ui (uk number N k (jr b k))).map bv++[Value.int .u8 1]=(sJ number N k (jr b k)).map bv from by rw[sJ,List.map_append];rfl]at hI;have hnew:=acT (n:=k+1) (n2:=64) OM (y8 number N k (jr b k) (by rw[hq.out];exact agj)).symm OM (hI.sub (.cons _ (.cons _ (.cons_cons _ (.cons_cons _ (.cons_cons _ (List.nil_sublist _)))))));go_roundg (N- (k+1))
     case measure=>omega
     case rel=>exact⟨k+1,_,_,_,rfl,by omega,rfl,by rw[List.length_append,hel];rfl,by rw[List.length_append,hel];rfl,HD (by rw[J6,<-hB.out,hN.out,PQ,List.map_append];rfl),hnew⟩
    |3,_=>
     have hns:=HD (Ab number 3 _ rfl);go_wp2_with((with_reducible refine nE (u:=UInt8.ofNat number) hI RF RF (by rw[UInt8.toNat_ofNat'];omega) aC jR (by(simp[gW,uy];done)) ?_;intro w hI;(try simp only[QS]at hI)));rw[hns.out]at hI;go_roundg (4-4)
     case measure=>omega
     case rel=>exact⟨4,rfl,by omega,rfl,hI⟩
    |2,_=>
     have hns:=HD (Ab number 2 _ rfl);go_wp2_with((with_reducible refine nE (u:=UInt8.ofNat (number/256)) hI RF RF (by rw[UInt8.toNat_ofNat'];omega) aC jR (by(simp[gW,uy];done)) ?_;intro w hI;(try simp only[QS]at hI)));rw[hns.out]at hI;go_roundg (4-3)
     case measure=>omega
     case rel=>exact⟨3,rfl,by omega,rfl,hI⟩
    |1,_=>
     have hns:=HD (Ab number 1 _ rfl);go_wp2_with((with_reducible refine nE (u:=UInt8.ofNat (number/65536)) hI RF RF (by rw[UInt8.toNat_ofNat'];omega) aC jR (by(simp[gW,uy];done)) ?_;intro w hI;(try simp only[QS]at hI)));rw[hns.out]at hI;go_roundg (4-2)
     case measure=>omega
     case rel=>exact⟨2,rfl,by omega,rfl,hI⟩
    |0,_=>
     have hns:=HD (Ab number 0 _ rfl);go_wp2_with((with_reducible refine nE (u:=UInt8.ofNat (number/16777216)) hI RF RF (by rw[UInt8.toNat_ofNat'];omega) aC jR (by(simp[gW,uy];done)) ?_;intro w hI;(try simp only[QS]at hI)));rw[hns.out]at hI;go_roundg (4-1)
     case measure=>omega
     case rel=>exact⟨1,rfl,by omega,rfl,hI⟩
end
def lcs(d cnt used:Nat):List Value:=[.pointer (some ⟨d,0,none⟩),.int .i64 (cnt:Int),.int .i64 (used:Int)]
def lg(l d mr:Nat)(wb:Option Nat)(D:DS)(cnt used:Nat):bT:=two (blk l 185 (lcs d cnt used)) (fB d mr wb D)
def fU(D:DS)(at_:Int):List (List UInt8)->DS×Int
 | []=>(D,0)
 |s::r=>if(bA D at_ s).2=0 then fU (bA D at_ s).1 (at_+1) r else bA D at_ s
def bW(D:DS)(cnt used:Nat)(b:List UInt8):DS×Nat×Nat×Int:=
 if 3000<b.length then(D,cnt,used,2)
 else if 2048- (used:Int) <aP b.length then(D,cnt,used,3)
 else
  let r:=fU D used (dB (cnt+1) b (aP b.length))
  if r.2=0 then
   let q:=cZ r.1
   if q.2=0 then(q.1,cnt+1,used+aP b.length,0)else(q.1,cnt,used,q.2)
  else(r.1,cnt,used,r.2)
theorem xK{D}(h:xJ D)(at_){bs}:xJ (bA D at_ bs).1:=by
 unfold bA
 split
 ·exact h
 ·split
  ·exact⟨h.Yg,h.Yh,h.l0⟩
  ·refine⟨λp hp=>?_,h.Yh,?_⟩
   ·grind[xJ.Yg,Sy]
   ·have:=h.l0
    grind
theorem Yt{S ws}(h1:∀k,(S k).length=64)(h2:∀p∈ws,p.2.length=64):∀k,(lF S ws k).length=64:=by
 unfold lF
 induction ws generalizing S with
 |nil=>exact h1
 |cons p ws ih=>
  rw[List.foldl_cons]
  grind[oh]
theorem EF{D}(h:xJ D):xJ (cZ D).1:=by
 unfold cZ
 split
 ·exact h
 ·refine⟨λp hp=>by grind,λk=>?_,h.l0⟩
  exact Yt h.Yh h.Yg k
theorem Ac(D at_ bs):(bA D at_ bs).1.waits.length<=D.waits.length+1:=by
 grind[bA]
theorem Mr(w0 l d cnt used)(hu:used<=100000)(hI:Inv (blk l 185 (lcs d cnt used)).own w0 w0 [blk l 185 (lcs d cnt used)]):
  Calls prog 169 #[.pointer (some ⟨l,0,none⟩)] w0 λe w'=>e=.returned (.int .i64 (2048- (used:Int)))∧Inv (blk l 185 (lcs d cnt used)).own w0 w' [blk l 185 (lcs d cnt used)]:=by
 unfold lcs at hI|-;go_enter func169,ntmps169;go_wp2_with(refine YL ?_);go_ret;exact⟨rfl,hI⟩
theorem uz{T w0 w l d mr wb D cnt used y}(h:Inv T w0 w [blk l 185 (lcs d cnt used),fB d mr wb D,y]):Inv T w0 w [two (lg l d mr wb D cnt used) y]:=
 Inv.eX (Inv.eX h)
theorem U2(w0)(number:Nat)(z)(hz:z=(number:Int))(agi:number<=100000)(g off c b)(hr:Rd w0 (some ⟨g,off,none⟩) (b.map bv))(hc:b.length<=c)(hl:b.length<=3000)(hl1:1<=b.length){N}(hN:Hid (aP b.length=N)):
  Calls prog 170 #[.int .i64 z,.slice (some ⟨g,off,none⟩) b.length c] w0 λe w'=>∃a' c' els,e=.returned (.slice a' els.length c')∧PQ els=dB number b N∧Inv [] w0 w' [bss a' c' els]:=by
 grind[Go.RowKit.Hid.out,Mq]
theorem Ad(number b){N}:(dB number b N).length=N∧∀s∈dB number b N,s.length=64:=by
 grind[dB,y8,jr.eq_1]
section
variable (w0:World)(l d mr:Nat)(wb:Option Nat)(D:DS)(cnt used:Nat)(y:bT)(hI:Inv (two (lg l d mr wb D cnt used) y).own w0 w0 [two (lg l d mr wb D cnt used) y])(hD:xJ D)(hwl:D.waits.length<=90000)(hcnt:cnt<=90000)(aju:used<=2048)
variable (g off cp:Nat)(b:List UInt8)(hry:∀w,y.sat w->Rd w (some ⟨g,off,none⟩) (b.map bv))(hc:b.length<=cp)(hl1:1<=b.length)
include hI hD hwl hcnt aju hry hc hl1
theorem acW:Calls prog 150 #[.pointer (some ⟨l,0,none⟩),.slice (some ⟨g,off,none⟩) b.length cp] w0 λe w'=>∃nu,e=.returned (.int .i64 (bW D cnt used b).2.2.2)∧
  Inv (two (lg l d mr wb D cnt used) y).own w0 w' [two (lg l d mr nu (bW D cnt used b).1 (bW D cnt used b).2.1 (bW D cnt used b).2.2.1) y]:=by
 replace hI:=hI.dR.dR;by_cases h3:3000<b.length
 ·have hF:Hid (bW D cnt used b=(D,cnt,used,2)):=HD (by rw[bW,if_pos h3])
  have hd:decide ((3000:Int) < (b.length:Int))=true:=by simp;omega
  rw[hF.out];go_enter func150,ntmps150;go_wp2_with(fail);go_ret;exact⟨_,rfl,uz hI⟩
 ·have hd:decide ((3000:Int) < (b.length:Int))=false:=by simp;omega
  obtain⟨N,hN⟩:=EH (aP b.length);have aml:N<=60:=by rw[<-hN.out,aP];split<;>omega
  by_cases hr:2048- (used:Int) < (N:Int)
  ·have hF:Hid (bW D cnt used b=(D,cnt,used,3)):=HD (by rw[bW,if_neg h3,hN.out,if_pos hr])
   have hd2:decide (2048- (used:Int) < (N:Int))=true:=by simp;omega
   rw[hF.out];go_enter func150,ntmps150;go_wp2_with(first|go_at_call 168;refine KD hI (y7 _ _ OM) ?_;intro w1 hI;(rw[hN.out])|go_at_call 169;refine KC jR hI (Mr _ l d cnt used OM (hI.at_ aC)) ?_;intro w1 hI);go_ret;exact⟨_,rfl,uz hI⟩
  ·have hd2:decide (2048- (used:Int) < (N:Int))=false:=by simp;omega
   obtain⟨F,hF⟩:=EH (bW D cnt used b);rw[hF.out];have hF2:Hid ((let r:=fU D used (dB (cnt+1) b N);if r.2=0 then(let q:=cZ r.1;if q.2=0 then(q.1,cnt+1,used+N,0)else(q.1,cnt,used,q.2))else(r.1,cnt,used,r.2))=F):=HD (by rw[<-hF.out,bW,if_neg h3,hN.out,if_neg hr]);clear hF;go_enter func150,ntmps150;go_upto_region 7 with(first|go_at_call 168;refine KD hI (y7 _ _ OM) ?_;intro w1 hI;(rw[hN.out])|go_at_call 169;refine KC jR hI (Mr _ l d cnt used OM (hI.at_ aC)) ?_;intro w1 hI|go_at_call 170;(with_reducible refine(U2 _ (cnt+1) _ OM OM g off cp b (hry _ (hI.sat y a_)) OM OM OM hN).mono ?_);rintro e w1 ⟨a',c',els,rfl,hB,hJ⟩;replace hI:=hI.seq hJ;simp only[List.cons_append,List.nil_append]at hI;clear hJ|refine YL ?_)
   obtain⟨hS1,hS2⟩:=Ad (cnt+1) b (N:=N);obtain⟨ss,hss⟩:=EQ (dB (cnt+1) b N);rw[hss]at hS1 hS2 hF2 hB;have hel:els.length=N:=by rw[<-hS1,<-hB,PQ,List.length_map]
   rw[hel];replace hI:=Bo hI;rw[hel]at hI;replace hI:=Inv.eX (hI.perm (m':=[fB d mr wb D,oQ (els.map eo),bD 63 1 (.slice a' N c') N (els.map sv),blk l 185 (lcs d cnt used),y]) (by
    refine List.Perm.trans ?_ (List.Perm.swap _ _ _);exact(List.perm_middle (l₁:=[oQ (els.map eo),bD 63 1 (.slice a' N c') N (els.map sv),blk l 185 (lcs d cnt used)]) (a:=fB d mr wb D) (l₂:=[y])).symm))
   go_loopg [28] N (λkk s28 wr=>∃(k:Nat) (nu:Option Nat) (D':DS),kk=N-k∧k<=N∧s28=.int .i64 (k:Int)∧xJ D'∧D'.waits.length<=D.waits.length+k∧Hid (fU D used ss=fU D' ((used:Int)+k) (ss.drop k))∧Inv (two (lg l d mr wb D cnt used) y).own w0 wr [two (fB d mr nu D') (oQ (els.map eo)),bD 63 1 (.slice a' N c') N (els.map sv),blk l 185 (lcs d cnt used),y])
   case atStart=>exact⟨0,wb,D,rfl,by omega,rfl,hD,by omega,HD SI,hI⟩
   case round=>
    clear hI;obtain⟨k,nu,D',rfl,hk,rfl,hD',alb,hP,hI⟩:=hrel;by_cases hkN:k=N
    ·subst hkN
     have hPv:fU D used ss=(D',0):=by rw[hP.out,List.drop_of_length_le OM];rfl
     replace hI:Inv (two (lg l d mr wb D cnt used) y).own w0 wr [fB d mr nu D',blk l 185 (lcs d cnt used),y]:=hI.dR.sub (.cons_cons _ (.cons _ (.cons _ (.refl _))));obtain⟨D3,e3,hs⟩:∃D3 e3,Hid (cZ D'=(D3,e3)):=⟨_,_,HD rfl⟩;unfold lcs at hI;by_cases he:e3=0
     ·subst he
      have Yu:Hid (F=(D3,cnt+1,used+k,0)):=HD (by rw[<-hF2.out];simp[hPv,hs.out]);clear hPv hF2;go_wp2_with(first|go_at_call 96;refine KG hI (qZ _ d mr nu D' (hI.at_ aC) hD' OM) ?_;intro OX w1 hI;(rw[hs.out]at hI|-);(simp only at hI|-)|refine YL ?_|refine YT ?_;intro w hI;(try simp only[QS]at hI));go_ret;rw[Yu.out];exact⟨_,rfl,uz hI.jS⟩
     ·have hde:(e3==0)=false:=by simpa using he
      have Yu:Hid (F=(D3,cnt,used,e3)):=HD (by rw[<-hF2.out];simp[hPv,hs.out,he]);clear hPv hF2 he;go_wp2_with(first|go_at_call 96;refine KG hI (qZ _ d mr nu D' (hI.at_ aC) hD' OM) ?_;intro OX w1 hI;(rw[hs.out]at hI|-);(simp only at hI|-)|refine YL ?_);go_ret;rw[Yu.out];exact⟨_,rfl,uz hI.jS⟩
    ·have hkl:k<N:=by omega
     have hd3:decide ((k:Int) < (N:Int))=true:=by simp;omega
     obtain⟨⟨pa,pc,pb⟩,hp⟩:∃p,els[k]? =some p:=⟨_,List.getElem?_eq_getElem OM⟩;have hsk:ss[k]? =some pb:=by rw[<-hB,PQ,List.getElem?_map,hp];rfl
     have hpl:=HD (hS2 pb (List.mem_of_getElem? hsk));have hld:(els.map sv)[k]? =some (.slice pa 64 pc):=by rw[List.getElem?_map,hp,<-hpl.out];rfl
     have hpb:∀w,(oQ (els.map eo)).sat w->Rd w pa (pb.map bv):=λw h=>EB (h (eo (pa,pc,pb)) (List.mem_map.2 ⟨_,List.mem_of_getElem? hp,rfl⟩))
     have hdr:ss.drop k=pb::ss.drop (k+1):=by
      obtain⟨h1,h2⟩:=List.getElem?_eq_some_iff.1 hsk;rw[List.drop_eq_getElem_cons h1,h2]
     obtain⟨D2,e2,hw⟩:∃D2 e2,Hid (bA D' ((used:Int)+(k:Int)) pb=(D2,e2)):=⟨_,_,HD rfl⟩;have hD2:xJ D2:=by have:=xK hD' ((used:Int)+(k:Int)) (bs:=pb);rwa [hw.out]at this
     have hw2:=Ac D' ((used:Int)+(k:Int)) pb;rw[hw.out]at hw2;simp only at hw2;have hPn:fU D used ss=if e2=0 then fU D2 ((used:Int)+(k:Int)+1) (ss.drop (k+1))else(D2,e2):=by rw[hP.out,hdr,fU,hw.out]
     obtain⟨ga,rfl⟩:∃ga,a'=some ⟨ga,0,none⟩:=gZ hI aM (by rw[List.length_map];omega);unfold lcs at hI;clear hdr hsk hp hP;by_cases he:e2=0
     ·subst he
      rw[if_pos rfl]at hPn;replace hPn:=HD hPn;go_upto_region 9 with(with_reducible refine aK hI RF aM (aQ.out (t:=63)) hld ?_)
      refine ZT [11,12] 13 hI ?_;intro wd hI
      (repeat(refine ZQ ?_;go_wp2_with(first|go_at_call 95;refine KG hI (rG _ d mr nu D' (oQ (els.map eo)) (hI.at_ aC) hD' OM _ pa pc 64 pb hpl.out hpb OM) ?_;intro OX w1 hI;(rw[hw.out]at hI|-);(simp only at hI|-)|refine YL ?_);refine ZP ?_))
      go_wp2_with(fail);go_roundg (N- (k+1))
      case measure=>omega
      case rel=>exact⟨k+1,OX,D2,rfl,by omega,rfl,hD2,by omega,HD (by rw[hPn.out];congr 1),hI⟩
     ·have hde:(e2==0)=false:=by simpa using he
      rw[if_neg he]at hPn;have Yu:Hid (F=(D2,cnt,used,e2)):=HD (by rw[<-hF2.out];simp[hPn,he]);clear hPn hF2 he;go_upto_region 9 with(with_reducible refine aK hI RF aM (aQ.out (t:=63)) hld ?_)
      refine ZT [11,12] 13 hI ?_;intro wd hI
      (repeat(refine ZQ ?_;go_wp2_with(first|go_at_call 95;refine KG hI (rG _ d mr nu D' (oQ (els.map eo)) (hI.at_ aC) hD' OM _ pa pc 64 pb hpl.out hpb OM) ?_;intro OX w1 hI;(rw[hw.out]at hI|-);(simp only at hI|-)|refine YL ?_);refine ZP ?_))
      go_wp2_with(fail);go_ret;rw[Yu.out];exact⟨_,rfl,uz (Inv.jS (hI.dR.sub (.cons_cons _ (.cons _ (.cons _ (.refl _))))))⟩
end
def kL(rd:Int->List UInt8):Nat->Nat->Nat->List (List UInt8)×Nat×Nat
 |0,cnt,used=>([],cnt,used)
 |f+1,cnt,used=>match jG rd ((cnt:Int)+1) used with
  |some (b,all)=>(b::(kL rd f (cnt+1) (used+all)).1,(kL rd f (cnt+1) (used+all)).2)
  |none=>([],cnt,used)
def ek(D:DS)(at_:Nat):Nat->DS×Int
 |0=>(D,0)
 |n+1=>if dU D at_=gW 64 then ek D (at_+1) n else if(bA D at_ []).2=0 then ek (bA D at_ []).1 (at_+1) n else bA D at_ []
def dJ(D:DS):Option (List (List UInt8)×Nat×Nat)×DS×Int:=
 let r:=kL (dU D) 2049 0 0
 let v:=ek D r.2.2 (2048-r.2.2)
 if v.2=0 then
  let q:=cZ v.1
  if q.2=0 then(some r,q.1,0)else(none,q.1,q.2)
 else(none,v.1,v.2)
def Ae(rd:Int->List UInt8):Prop:=∀k:Int,2048<=k->(rd k)[63]? ≠some 1
theorem vv{s number place x}(h:kD s number place=some x):s[63]? =some 1:=by
 grind[kD]
theorem Ie{rd}(he:Ae rd){number at_ all}:∀n k r,iw rd number at_ all n k=some r->n=0∨at_+k+n<=2048
 |0,_,_,_=> .inl rfl
 |n+1,k,r,h=>by
  unfold iw at h
  split at h
  ·rename_i p a hp
   split at h
   ·obtain⟨r2,h2,_⟩:=Option.map_eq_some_iff.1 h
    have h1:at_+k<2048:=by
     apply Int.not_le.1;intro hc;exact he _ hc (vv hp)
    rcases Ie he n (k+1) r2 h2 with h3|h3<;>right<;>omega
   grind
  grind
theorem Ig{rd number at_ all}:∀n k r,iw rd number at_ all n k=some r->r.length<=52*n
 |0,_,r,h=>by cases h;simp
 |n+1,k,r,h=>by
  unfold iw at h
  split at h
  ·rename_i p a hp
   split at h
   ·obtain⟨r2,h2,rfl⟩:=Option.map_eq_some_iff.1 h
    have:=Ig n (k+1) r2 h2;have:=(q9 hp).1
    grind
   grind
  grind
theorem Ce{rd}(he:Ae rd){number}{used all:Nat}{b}(h:jG rd number used=some (b,all)):1<=all∧used+all<=2048∧all<256∧b.length<=52*all:=by
 unfold jG at h
 split at h
 ·rename_i b0 n hp
  obtain⟨r,hr,hB⟩:=Option.map_eq_some_iff.1 h;obtain⟨l1,l2,l3⟩:=q9 hp;have h1:(used:Int) <2048:=by
   apply Int.not_le.1;intro hc;exact he _ hc (vv hp)
  have hm:=Ie he _ _ _ hr;have hl:=Ig _ _ _ hr
  grind
 grind
section
variable {P:Program}{ops:Array Oper}{Q:Exit->Act->World->Prop}{a:Act}{rest:List Oper}{T:List Nat}{w0 w:World}{m m':List bT}{dst:Option Tmp}{ty:TypeId}{pos:String}{af:Array Edge}
theorem acX:(prog.info? 185).map (·.zero)=some (some (.agg [.pointer none,.int .i64 0,.int .i64 0].toArray)):=by kernel_rfl
theorem agm:JK prog 185:=⟨_,underlying185,by kernel_rfl⟩
theorem agn:GU prog 185 0 0 1:=⟨_,underlying185,by kernel_rfl⟩
theorem Yw{x y}{t':Nat}{xs ys v}(hv:decide (xs=ys)=v)(hx:a.eval x=vg xs:=by exact RF)(hy:a.eval y=vg ys:=by exact RF)(h1:xs.length=64)(h2:ys.length=64)
  (k:wpList prog ops Q rest (a.put dst (.bool v)) w):wpList prog ops Q (⟨dst,.binOp .eql 169 x y t',ty,pos,af,none⟩::rest) a w:=by
 grind[ald]
theorem ajv{x d}(h0:a.eval x=.pointer (some ⟨d,0,none⟩):=by exact RF)(k:wpList prog ops Q rest (a.put dst (.agg (lcs d 0 0).toArray)) w):wpList prog ops Q (⟨dst,.build 185 #[(0,x)],ty,pos,af,none⟩::rest) a w:=
 jO (ps:=[(0,x)]) (n:=3) [(0,[.pointer (some ⟨d,0,none⟩)])] acX rfl (by rfl) agm ⟨by rw[h0];rfl,agn,Nat.le_of_ble_eq_true rfl,trivial⟩ k
theorem agp{x d}(hI:Inv T w0 w m)(hv:a.eval x=.agg (lcs d 0 0).toArray:=by exact RF)
  (k:∀b w',Inv T w0 w' (blk b 185 (lcs d 0 0)::m)->wpList prog ops Q rest (a.put dst (.pointer (some ⟨b,0,none⟩))) w'):wpList prog ops Q (⟨dst,.box 185 x,ty,pos,af,none⟩::rest) a w:=bX hI (by rw[hv];rfl) k
end
section
variable {T:List Nat}{w0 w:World}{m:List bT}{x a b c:bT}
theorem Inv.fr2(h:Inv T w0 w (a::b::x::m)):Inv T w0 w (x::a::b::m):=h.perm (List.perm_middle (l₁:=[a,b]) (a:=x) (l₂:=m)).symm
theorem Inv.fr3(h:Inv T w0 w (a::b::c::x::m)):Inv T w0 w (x::a::b::c::m):=h.perm (List.perm_middle (l₁:=[a,b,c]) (a:=x) (l₂:=m)).symm
end
theorem Yx(y:bT):∀w,y.sat w->Rd w none (([]:List UInt8).map bv):=λw _ j u hj=>by grind
theorem Inv.Yy{T w0 w A B}(h:Inv T w0 w [A,B]):Inv T w0 w [B,A,oQ (([]:List El).map eo),bD 63 1 (.slice none 0 0) 0 (([]:List El).map sv)]:=
 h.turn (λhs y hy=>by
  simp only[List.mem_cons,List.not_mem_nil,or_false]at hy;rcases hy with rfl|rfl|rfl|rfl
  ·grind
  ·grind
  ·intro r hr;grind
  ·exact⟨rfl,.inl ⟨rfl,rfl⟩⟩) (by simp[owned,oQ,bD,Value.ownBlock];grind)
section
variable (w0:World)(d mr:Nat)(wb:Option Nat)(D:DS)(hI:Inv (fB d mr wb D).own w0 w0 [fB d mr wb D])(hD:xJ D)(hwl:D.waits.length<=50000)(hE:Ae (dU D))
include hI hD hwl hE
theorem Ms:Calls prog 63 #[.pointer (some ⟨d,0,none⟩)] w0 λe w'=>∃nu,
  (∃l a c els cnt used,dJ D=(some (PQ els,cnt,used),(dJ D).2.1,0)∧e=.returned (.tuple #[.pointer (some ⟨l,0,none⟩),.slice a els.length c,.int .i64 0])∧Inv (fB d mr wb D).own w0 w' [fB d mr nu (dJ D).2.1,bss a c els,blk l 185 (lcs d cnt used)])∨
  ((dJ D).1=none∧e=.returned (.tuple #[.pointer none,.slice none 0 0,.int .i64 (dJ D).2.2])∧Inv (fB d mr wb D).own w0 w' [fB d mr nu (dJ D).2.1]):=by
 obtain⟨F,hF⟩:=EH (dJ D);rw[hF.out];obtain⟨R,hR0⟩:=EH (kL (dU D) 2049 0 0);go_enter func63,ntmps63;go_upto_region 5 with(first|with_reducible refine ajv (k:=?_)|(with_reducible refine agp hI (k:=?_);intro l w hI))
 go_loopg [6] 2049 (λkk s6 wr=>∃(cnt used:Nat) (a:Option Addr) (c:Nat) (els:List El),kk=2049-used∧cnt<=used∧used<=2048∧els.length=cnt∧s6=.slice a cnt c∧Hid (R=(PQ els++(kL (dU D) (2049-cnt) cnt used).1,(kL (dU D) (2049-cnt) cnt used).2))∧Inv (fB d mr wb D).own w0 wr [fB d mr wb D,blk l 185 (lcs d cnt used),oQ (els.map eo),bD 63 1 (.slice a cnt c) cnt (els.map sv)])
 case atStart=>exact⟨0,0,none,0,[],rfl,by omega,by omega,rfl,rfl,HD (by rw[<-hR0.out];rfl),hI.Yy⟩
 case round=>
  clear hI;obtain⟨cnt,used,a,c,els,rfl,hcu,hu,hel,rfl,hR,hI⟩:=hrel;unfold lcs at hI;cases hst:jG (dU D) ((cnt:Int)+1) used with
  |some x=>
   obtain⟨b,all⟩:=x;obtain⟨e1,e2,e3,e4⟩:=Ce hE hst;replace hst:=HD hst;go_upto_region 5 with(fail)
   refine ZT [10,11,17] 18 hI ?_;intro wd hI
   (repeat(refine ZQ ?_;go_wp2_with(first|go_at_call 97;refine KK hI (PO _ d mr wb D (hI.at_ aC) hD OM _ _ OM OM hst.out) ?_;intro sa sc w1 hI|refine YL ?_);refine ZP ?_))
   go_wp2_with(first|(with_reducible refine kK hI (uQ.out (t:=138)) RF ?_;intro b2 w hI)|(with_reducible refine aA (q:=1) hI RF RF (uQ.out (t:=138)) (by intro r';exact aU.there (aU.there (aU.there (aU.there (aU.there aU.here))))) (hI.rd aC) RF (by intro u hu;cases List.mem_singleton.1 hu;with_unfolding_all rfl) MX OM ?_;intro a3 c3 w hI)|refine YL ?_|refine YT ?_;intro w hI;(try simp only[QS]at hI));have hnx:Inv (fB d mr wb D).own w0 w [fB d mr wb D,blk l 185 (lcs d (cnt+1) (used+all)),oQ ((els++[(sa,sc,b)]).map eo),bD 63 1 (.slice a3 (cnt+1) c3) (cnt+1) ((els++[(sa,sc,b)]).map sv)]:=by
    rw[List.map_append,List.map_append];exact Inv.fr2 (Inv.fr2 (Ic (Inv.fr3 (hI.tl))))
   go_roundg (2049- (used+all))
   case measure=>omega
   case rel=>exact⟨cnt+1,used+all,a3,c3,els++[(sa,sc,b)],rfl,by omega,by omega,by rw[List.length_append,hel];rfl,rfl,HD (by rw[hR.out,show 2049-cnt=(2049- (cnt+1))+1 from by omega,kL,hst.out];simp[PQ]),hnx⟩
  |none=>
   replace hst:=HD hst;go_upto_region 5 with(fail)
   refine ZT [10,11,17] 18 hI ?_;intro wd hI
   (repeat(refine ZQ ?_;go_wp2_with(first|go_at_call 97;refine KC jR hI (U0 _ d mr wb D (hI.at_ aC) hD OM _ _ OM OM hst.out) ?_;intro w1 hI|refine YL ?_);refine ZP ?_))
   have hRv:Hid (R=(PQ els,cnt,used)):=HD (by rw[hR.out,show 2049-cnt=(2048-cnt)+1 from by omega,kL,hst.out];simp);replace hI:Inv (fB d mr wb D).own w0 _ [fB d mr wb D,bss a c els,blk l 185 [.pointer (some ⟨d,0,none⟩),.int .i64 cnt,.int .i64 used]]:=Inv.jS (Mm (Inv.jS (Inv.fr3 (Inv.fr3 (by rw[hel];exact hI)))));go_upto_region 11 with(refine YL ?_)
   have hF2:Hid ((if(ek D used (2048-used)).2=0 then(if(cZ (ek D used (2048-used)).1).2=0 then(some (PQ els,cnt,used),(cZ (ek D used (2048-used)).1).1,0)else(none,(cZ (ek D used (2048-used)).1).1,(cZ (ek D used (2048-used)).1).2))else(none,(ek D used (2048-used)).1,(ek D used (2048-used)).2))=F):=HD (by rw[<-hF.out,dJ];simp only[hR0.out,hRv.out]);clear hF hR0 hRv hR hst hE
   go_loopg [10] (2048-used) (λkk s10 wr=>∃(p:Nat) (nu:Option Nat) (D':DS),kk=2048-p∧used<=p∧p<=2048∧s10=.int .i64 (p:Int)∧xJ D'∧D'.waits.length<=D.waits.length+(p-used)∧Hid (ek D used (2048-used)=ek D' p (2048-p))∧Inv (fB d mr wb D).own w0 wr [fB d mr nu D',bss a c els,blk l 185 [.pointer (some ⟨d,0,none⟩),.int .i64 cnt,.int .i64 used]])
   case atStart=>exact⟨used,wb,D,rfl,by omega,by omega,rfl,hD,by omega,HD rfl,hI⟩
   case round=>
    clear hI;obtain⟨p,nu,D',rfl,hup,hp,rfl,hD',alb,hW,hI⟩:=hrel;by_cases hpe:p=2048
    ·subst hpe
     have hWv:ek D used (2048-used)=(D',0):=hW.out;obtain⟨D3,e3,hs⟩:∃D3 e3,Hid (cZ D'=(D3,e3)):=⟨_,_,HD rfl⟩;by_cases he:e3=0
     ·subst he
      have Yu:Hid (F=(some (PQ els,cnt,used),D3,0)):=HD (by rw[<-hF2.out];simp[hWv,hs.out]);clear hWv hF2;go_wp2_with(go_at_call 96;refine KG hI (qZ _ d mr nu D' (hI.at_ aC) hD' OM) ?_;intro OX w1 hI;(rw[hs.out]at hI|-);(simp only at hI|-));refine bodyPost_ret (results_tmp3 rfl _ _ _) rfl ?_;rw[Yu.out];exact⟨_,.inl ⟨l,a,c,els,cnt,used,rfl,by rw[hel];rfl,hI⟩⟩
     ·have hde:(e3==0)=false:=by simpa using he
      have Yu:Hid (F=(none,D3,e3)):=HD (by rw[<-hF2.out];simp[hWv,hs.out,he]);clear hWv hF2 he;go_wp2_with(go_at_call 96;refine KG hI (qZ _ d mr nu D' (hI.at_ aC) hD' OM) ?_;intro OX w1 hI;(rw[hs.out]at hI|-);(simp only at hI|-));refine bodyPost_ret (results_tmp3 rfl _ _ _) rfl ?_;rw[Yu.out];exact⟨_,.inr ⟨rfl,rfl,hI.sub (.cons_cons _ (List.nil_sublist _))⟩⟩
    ·have hpl:p<2048:=by omega
     have hd3:decide ((p:Int) <2048)=true:=by simp;omega
     have SH:ek D used (2048-used)=if dU D' p=gW 64 then ek D' (p+1) (2048- (p+1))else if(bA D' p []).2=0 then ek (bA D' p []).1 (p+1) (2048- (p+1))else bA D' p []:=by
      rw[hW.out,show 2048-p=(2048- (p+1))+1 from by omega,ek]
     by_cases hz:dU D' (p:Int)=gW 64
     ·rw[if_pos hz]at SH
      have hdz:decide (dU D' (p:Int)=gW 64)=true:=by simpa using hz
      replace SH:=HD SH;clear hz;go_wp2_with(first|go_at_call 98;refine KC jR hI (kS _ d mr nu D' (hI.at_ aC) hD' OM _) ?_;intro w1 hI|with_reducible refine EI ?_|with_reducible refine Yw hdz (h1:=lG hD' _) (h2:=k_ 64) (k:=?_));go_roundg (2048- (p+1))
      case measure=>omega
      case rel=>exact⟨p+1,nu,D',rfl,by omega,by omega,rfl,hD',by omega,SH,hI⟩
     ·rw[if_neg hz]at SH
      have hdz:decide (dU D' (p:Int)=gW 64)=false:=by simpa using hz
      obtain⟨D2,e2,hw⟩:∃D2 e2,Hid (bA D' (p:Int) []=(D2,e2)):=⟨_,_,HD rfl⟩;have hD2:xJ D2:=by have:=xK hD' (p:Int) (bs:=[]);rwa [hw.out]at this
      have hw2:=Ac D' (p:Int) [];rw[hw.out]at hw2 SH;simp only at hw2 SH;clear hz;by_cases he:e2=0
      ·subst he
       rw[if_pos rfl]at SH;replace SH:=HD SH;go_wp2_with(first|go_at_call 98;refine KC jR hI (kS _ d mr nu D' (hI.at_ aC) hD' OM _) ?_;intro w1 hI|with_reducible refine EI ?_|with_reducible refine Yw hdz (h1:=lG hD' _) (h2:=k_ 64) (k:=?_)|go_at_call 95;replace hI:=hI.eX;(with_reducible refine(rG _ d mr nu D' (bss a c els) (hI.at_ aC) hD' OM _ none 0 0 [] List.length_nil (Yx _) OM).mono ?_);rintro e w1 ⟨OX,rfl,hJ⟩;replace hI:=hI.on hJ jR;clear hJ;replace hI:=hI.dR;(rw[hw.out]at hI|-);(simp only at hI|-));go_roundg (2048- (p+1))
       case measure=>omega
       case rel=>exact⟨p+1,OX,D2,rfl,by omega,by omega,rfl,hD2,by omega,SH,hI⟩
      ·have hde:(e2==0)=false:=by simpa using he
       rw[if_neg he]at SH;have Yu:Hid (F=(none,D2,e2)):=HD (by rw[<-hF2.out];simp[SH,he]);clear SH hF2 he;go_wp2_with(first|go_at_call 98;refine KC jR hI (kS _ d mr nu D' (hI.at_ aC) hD' OM _) ?_;intro w1 hI|with_reducible refine EI ?_|with_reducible refine Yw hdz (h1:=lG hD' _) (h2:=k_ 64) (k:=?_)|go_at_call 95;replace hI:=hI.eX;(with_reducible refine(rG _ d mr nu D' (bss a c els) (hI.at_ aC) hD' OM _ none 0 0 [] List.length_nil (Yx _) OM).mono ?_);rintro e w1 ⟨OX,rfl,hJ⟩;replace hI:=hI.on hJ jR;clear hJ;replace hI:=hI.dR;(rw[hw.out]at hI|-);(simp only at hI|-));refine bodyPost_ret (results_tmp3 rfl _ _ _) rfl ?_;rw[Yu.out];exact⟨_,.inr ⟨rfl,rfl,hI.sub (.cons_cons _ (List.nil_sublist _))⟩⟩
end
abbrev sw(n:Nat)(R:List UInt8)(p:Nat):List UInt8:=sJ n (aP R.length) p (jr R p)
theorem JS(R p):(jr R p).length<=52:=by
 grind[jr]
theorem J7(n R p):(sw n R p).length=64:=y8 _ _ _ _ (JS R p)
theorem y9(n):0<aP n:=by grind[aP]
theorem U3{n}(h:n<=3000):aP n<=58:=by grind[aP]
theorem PR(n):n<=aP n*52:=by grind[aP]
theorem SK{n}(h:n<4294967296):CO (uy n)=n:=by
 grind[CO,uy,UInt8.toNat_ofNat']
theorem Yz(n R p):(sw n R p).take 63=A.ui (uk n (aP R.length) p (jr R p)):=by
 exact W82
theorem YA(n R p):(sw n R p)[63]? =some 1:=by
 exact W82
theorem Bp{n R p}(hn:n<4294967296)(hR:R.length<=3000)(hp:p<aP R.length):kD (sw n R p) n p=some (jr R p,aP R.length):=by
 have h58:=U3 hR;have hl:=JS R p;have e4:(uk n (aP R.length) p (jr R p)).take 4=uy n:=rfl;have g4:(uk n (aP R.length) p (jr R p)).getD 4 0=UInt8.ofNat p:=rfl;have g5:(uk n (aP R.length) p (jr R p)).getD 5 0=UInt8.ofNat (aP R.length):=rfl;have g6:(uk n (aP R.length) p (jr R p)).getD 6 0=UInt8.ofNat (jr R p).length:=rfl;have d7:(uk n (aP R.length) p (jr R p)).drop 7=jr R p++gW (52- (jr R p).length):=rfl;have t4:(UInt8.ofNat p).toNat=p:=by grind[UInt8.toNat_ofNat']
 have t5:(UInt8.ofNat (aP R.length)).toNat=aP R.length:=by grind[UInt8.toNat_ofNat']
 have t6:(UInt8.ofNat (jr R p).length).toNat=(jr R p).length:=by grind[UInt8.toNat_ofNat']
 unfold kD;rw[Yz,A.Mi];dsimp only;rw[e4,g4,g5,g6,d7,SK hn,t4,t5,t6,if_pos ⟨YA n R p,rfl,rfl,by omega,hl⟩,List.take_left]
theorem acY:∀ {a b},a.length=4->b.length=4->CO a=CO b->a=b
 | [a0,a1,a2,a3],[b0,b1,b2,b3],_,_,h=>by
  grind[CO,UInt8.toNat_lt,UInt8.toNat_inj]
def Mid(s c:List UInt8):Prop:=c.length=64∧∃a b,∀i,i<64->c.getD i 0=if a<=i∧i<b then s.getD i 0 else 0
def J8(s c:List UInt8):Prop:=c.length=64∧∃b,∀i,i<64->c.getD i 0=if i<b then s.getD i 0 else 0
theorem J8.mid{s c}(h:J8 s c):Mid s c:=by
 obtain⟨hc,b,hb⟩:=h;exact⟨hc,0,b,λi hi=>by grind⟩
theorem Mt(n i):(gW n).getD i 0=0:=by
 grind[gW]
theorem YB{x y:List UInt8}{q i}(hx:q<=x.length):(x.take q++y.drop q).getD i 0=if i<q then x.getD i 0 else y.getD i 0:=by grind
theorem EJ(s):J8 s (gW 64):=⟨by simp[gW],0,λi _=>by rw[Mt];rfl⟩
theorem YC{s c}(hs:s.length=64)(h:J8 s c){q}(hq:q<=64):J8 s (s.take q++c.drop q):=by
 obtain⟨hc,b,hb⟩:=h;refine⟨by grind,max q b,λi hi=>?_⟩
 grind
theorem U4{s}(hs:s.length=64):J8 s s:=⟨hs,64,λi hi=>by grind⟩
theorem acZ{s c}(h:Mid s c){q}(hq:q<=64):Mid s ((gW 64).take q++c.drop q):=by
 obtain⟨hc,a,b,hb⟩:=h;refine⟨by grind[gW],max q a,b,λi hi=>?_⟩;rw[YB (by grind[gW]),hb i hi,Mt]
 grind
theorem YD{x y:List UInt8}(hx:x.length=64)(hy:y.length=64)(h:∀i,i<64->x.getD i 0=y.getD i 0):x=y:=by
 apply List.ext_getElem OM;intro i h1 h2;have:=h i OM
 grind
theorem PS{s}(hs:s.length=64){number place x}(h:kD s number place=some x):((CO (s.take 4):Nat):Int)=number:=by
 grind[kD,A.kr]
theorem U5{n R c p}(hn:n<4294967296)(h1:1<=n){x}(h:Mid (sw n R p) c)(hp:kD c n p=some x):c=sw n R p:=by
 obtain⟨hc,a,b,hb⟩:=h;have hl:=vv hp;have amm:=hb 63 OM;have agi:=PS hc hp;have hbe:CO (c.take 4)=CO (uy n):=by grind[SK]
 have h4:c.take 4=uy n:=acY (by grind) rfl hbe;have hs4:(sw n R p).take 4=uy n:=rfl;have e4:∀i,i<4->c.getD i 0=(sw n R p).getD i 0:=λi hi=>by
  have e:(c.take 4).getD i 0=((sw n R p).take 4).getD i 0:=by grind
  grind
 refine YD hc (J7 n R p) λi hi=>?_
 by_cases ha:a<=4
 ·grind
 ·have hz:uy n=gW 4:=by
   apply List.ext_getElem (by grind[gW]);intro i h1' h2';have hi4:i<4:=by grind
   grind[gW]
  have:CO (uy n)=0:=by rw[hz];rfl
  omega
theorem U6(number place):kD (gW 64) number place=none:=by
 grind[kD,gW]
theorem Mw{S n R u}(hn:n<4294967296)(hR:R.length<=3000)(hS:∀p,p<aP R.length->S (u+p)=sw n R p):∀m k,k+m=aP R.length->iw S n u (aP R.length) m k=some ((R.drop (k*52)).take (m*52))
 |0,k,_=>by simp[iw]
 |m+1,k,h=>by
  have ih:=Mw hn hR hS m (k+1) OM;rw[iw,hS k OM,Bp hn hR OM];dsimp only;rw[if_pos rfl,ih];simp only[Option.map_some,jr];rw[show(k+1)*52=k*52+52 by omega,show(m+1)*52=52+m*52 by omega,List.take_add,List.drop_drop]
theorem PT{S n R u}(hn:n<4294967296)(hR:R.length<=3000)(hS:∀p,p<aP R.length->S (u+p)=sw n R p):jG S n u=some (R,aP R.length):=by
 have hp:=y9 R.length;have h0:=hS 0 hp;rw[Int.natCast_zero,Int.add_zero]at h0;have h1:=Bp (p:=0) hn hR hp;rw[Int.natCast_zero]at h1;unfold jG;rw[h0,h1];dsimp only;rw[Mw hn hR hS (aP R.length-1) 1 OM];simp only[Option.map_some,jr,Nat.zero_mul,List.drop_zero,Nat.one_mul];have ha:=PR R.length;rw[List.take_of_length_le (l:=R.drop 52) (by grind),List.take_append_drop]
theorem Ih{S number u}{all j:Nat}(hj:kD (S (u+j)) number j=none):∀m k,k<=j->j<k+m->iw S number u all m k=none
 |0,k,_,h=>by omega
 |m+1,k,h1,h2=>by
  rw[iw];by_cases e:k=j
  ·grind
  ·have ih:=Ih hj (all:=all) m (k+1) OM OM
   grind
theorem Mx{S n R u k}(hn:n<4294967296)(h1:1<=n)(hR:R.length<=3000)(hk:k<aP R.length)(hm:∀p,p<k->Mid (sw n R p) (S (u+p)))(hz:S (u+k)=gW 64):jG S n u=none:=by
 unfold jG;cases h:kD (S u) n 0 with
 |none=>rfl
 |some x=>
  grind[U5,Bp,Ih,U6]
def oH(b:Nat)(e:TypeId)(A B:List Value)(zs:List Int)(bs:List Bool):bT:=blk b e (A++(mix zs bs++B))
theorem SL{A B zs bs o j n}(ho:A.length=o)(h:j+n<=zs.length):((A++(mix zs bs++B)).drop (o+j)).take n=(sub zs j n).map (Value.int .i64):=by
 subst ho;rw[<-List.drop_drop,List.drop_left,mix,List.append_assoc,List.drop_append_of_le_length (by grind),List.take_append_of_le_length (by grind)]
 simp_all[sub]
theorem YK{A B zs bs o j v}(ho:A.length=o)(hj:j<bs.length)(hv:gb bs j=v):(A++(mix zs bs++B))[o+zs.length+j]? =some (.bool v):=by
 grind[mix.eq_1,gb.eq_1]
theorem J9(A B zs bs):(A++(mix zs bs++B)).length=A.length+zs.length+bs.length+B.length:=by
 grind[Af]
theorem SN{A B zs ws bs o j}(ho:A.length=o)(h:j+ws.length<=zs.length):splice (A++(mix zs bs++B)) (o+j) (ws.map (Value.int .i64))=A++(mix (dK zs j ws) bs++B):=by
 subst ho;have e3:A.length+j+(ws.map (Value.int .i64)).length=A.length+(j+ws.length):=by grind
 unfold splice;rw[e3,<-List.drop_drop,List.drop_left,List.take_append,List.take_of_length_le OM,Nat.add_sub_cancel_left]
 grind[mix,dK,List.map_take,List.map_drop]
theorem YM{A B zs bs o j v}(ho:A.length=o)(h:j<bs.length):(A++(mix zs bs++B)).set (o+zs.length+j) (.bool v)=A++(mix zs (bs.set j v)++B):=by
 grind[mix.eq_1,List.map_set]
section
variable {P:Program}{ops:Array Oper}{Q:Exit->Act->World->Prop}{a:Act}{rest:List Oper}{T:List Nat}{w0 w:World}{m m':List bT}{dst:Option Tmp}{ty:TypeId}{pos:String}{af:Array Edge}
variable {x y:Operand}{b off o j n:Nat}{t e:TypeId}{A B:List Value}{zs ws:List Int}{bs:List Bool}{v:Bool}
theorem U8(hI:Inv T w0 w m)(hx:a.eval x=.pointer (some ⟨b,off,none⟩))(hm:oH b e A B zs bs∈m)[hT:bP P t n](ho:A.length=o)(hoff:off=o+j)(hl:j+n<=zs.length)
  (k:wpList P ops Q rest (a.put dst (ia (sub zs j n))) w):wpList P ops Q (⟨dst,.load t x,ty,pos,af,none⟩::rest) a w:=by
 subst hoff;exact dh hI hx hm hT.out (by grind[J9]) (by rw[SL ho hl];exact k)
theorem ac4(hI:Inv T w0 w m)(hx:a.eval x=.pointer (some ⟨b,off,none⟩))(hm:oH b e A B zs bs∈m)[hT:aQ P t](ho:A.length=o)(hoff:off=o+zs.length+j)(hj:j<bs.length)(hv:gb bs j=v)
  (k:wpList P ops Q rest (a.put dst (.bool v)) w):wpList P ops Q (⟨dst,.load t x,ty,pos,af,none⟩::rest) a w:=by
 subst hoff;exact aW hI hx hm hT.out (YK ho hj hv) k
theorem SQ{A B zs bs o j}(ho:A.length=o)(h:j<zs.length):(A++(mix zs bs++B))[o+j]? =some (.int .i64 (gi zs j)):=by
 grind[mix.eq_1,gi]
theorem agt(hI:Inv T w0 w m)(hx:a.eval x=.pointer (some ⟨b,off,none⟩))(hm:oH b e A B zs bs∈m)[hT:aQ P t](ho:A.length=o)(hoff:off=o+j)(hl:j<zs.length)
  (k:wpList P ops Q rest (a.put dst (.int .i64 (gi zs j))) w):wpList P ops Q (⟨dst,.load t x,ty,pos,af,none⟩::rest) a w:=by
 subst hoff;exact aW hI hx hm hT.out (SQ ho hl) k
theorem ajw(hI:Inv T w0 w m)(hx:a.eval x=.pointer (some ⟨b,off,none⟩))(hv:a.eval y=ia ws)(hu:aU (oH b e A B zs bs) (oH b e A B (dK zs j ws) bs) m m')[hT:bP P t n](ho:A.length=o)(hoff:off=o+j)(hl2:ws.length=n)(hl:j+n<=zs.length)
  (k:∀w',Inv T w0 w' m'->wpList P ops Q rest (a.put dst undef) w'):wpList P ops Q (⟨dst,.store t x y,ty,pos,af,none⟩::rest) a w:=by
 subst hoff;refine aR hI hx (cs:=A++(mix zs bs++B)) (vs:=ws.map (Value.int .i64)) (by rw[hv];rfl) (by rw[SN ho OM];exact hu) hT.out.size (by grind) (by grind[J9]) ?_ k;intro u hu;obtain⟨z,_,rfl⟩:=List.mem_map.1 hu;rfl
theorem ale{u}(hI:Inv T w0 w m)(hx:a.eval x=.pointer (some ⟨b,off,none⟩))(hv:a.eval y=.bool u)(hu:aU (oH b e A B zs bs) (oH b e A B zs (bs.set j u)) m m')(hT:(P.info? t).map (·.size)=some 1)(ho:A.length=o)(hoff:off=o+zs.length+j)(hj:j<bs.length)(k:∀w',Inv T w0 w' m'->wpList P ops Q rest (a.put dst undef) w'):wpList P ops Q (⟨dst,.store t x y,ty,pos,af,none⟩::rest) a w:=by
 subst hoff;have hlt:o+zs.length+j+1<=(A++(mix zs bs++B)).length:=by grind[J9]
 refine aR (e:=e) hI hx (cs:=A++(mix zs bs++B)) (vs:=[.bool u]) (by rw[hv];rfl) ?_ hT rfl hlt (by simp[Value.oneCell']) k;rw[show splice (A++(mix zs bs++B)) (o+zs.length+j) [.bool u]=(A++(mix zs bs++B)).set (o+zs.length+j) (.bool u)from by rw[List.set_eq_take_append_cons_drop,if_pos OM];simp[splice],YM ho hj];exact hu
end
theorem agu:(prog.info? 4).map (·.size)=some 1:=by kernel_rfl
section
variable (w0:World)(b o:Nat)(e0:TypeId)(A B:List Value)(zs:List Int)(bs:List Bool)(hzl:zs.length=870)(hbl:bs.length=5)(ho:A.length=o)(hI:Inv (oH b e0 A B zs bs).own w0 w0 [oH b e0 A B zs bs])
include hzl hbl ho hI
theorem agv(who):Calls prog 46 #[.pointer (some ⟨b,o,none⟩),.int .i64 who] w0 λe w'=>e=.returned (ia (C.rowOf zs who))∧Inv (oH b e0 A B zs bs).own w0 w' [oH b e0 A B zs bs]:=by
 have hn:=ag 174;cases hm:C.aL who
 ·rw[show C.rowOf zs who=au 174 from by simp[C.rowOf,hm]]
  go_enter func46,ntmps46;go_wp2_with(first|go_at_call 89;refine KR (C.jP _ _) ?_;(try rw[hm])|refine YS ?_;intro w hI|refine YX ?_;intro bx w hI|refine YL ?_);exact bodyPost_ret (dY hI rfl rfl aC (bP.out (t:=41)) hn) rfl ⟨rfl,hI.tl⟩
 ·obtain⟨h0,h5⟩:=C.dV hm
  rw[show C.rowOf zs who=sub zs (who.toNat*174) 174 from by simp[C.rowOf,hm]];have hsl:(sub zs (who.toNat*174) 174).length=174:=by rw[az];omega
  go_enter func46,ntmps46;go_wp2_with(first|go_at_call 89;refine KR (C.jP _ _) ?_;(try rw[hm])|with_reducible refine U8 (j:=who.toNat*174) hI RF aM ho rfl OM ?_|refine YS ?_;intro w hI|refine YX ?_;intro bx w hI);exact bodyPost_ret (dY hI rfl rfl aC (bP.out (t:=41)) hsl) rfl ⟨rfl,hI.tl⟩
theorem U9(who):Calls prog 47 #[.pointer (some ⟨b,o,none⟩),.int .i64 who] w0 λe w'=>e=.returned (.bool (C.fG bs who))∧Inv (oH b e0 A B zs bs).own w0 w' [oH b e0 A B zs bs]:=by
 cases hm:C.aL who
 ·rw[show C.fG bs who=false from by simp[C.fG,hm]]
  go_enter func47,ntmps47;go_wp2_with(go_at_call 89;refine KR (C.jP _ _) ?_;(try rw[hm]));go_ret;exact⟨rfl,hI⟩
 ·obtain⟨h0,h5⟩:=C.dV hm
  rw[show C.fG bs who=gb bs who.toNat from by simp[C.fG,hm]];go_enter func47,ntmps47;go_wp2_with(first|go_at_call 89;refine KR (C.jP _ _) ?_;(try rw[hm])|with_reducible refine ac4 (j:=who.toNat) hI RF aC ho OM OM rfl ?_|refine YL ?_);go_ret;exact⟨rfl,hI⟩
theorem ac5(who):Calls prog 103 #[.pointer (some ⟨b,o,none⟩),.int .i64 who] w0 λe w'=>e=.returned (.tuple #[ia (C.rowOf zs who),.bool (C.aL who)])∧Inv (oH b e0 A B zs bs).own w0 w' [oH b e0 A B zs (C.ku bs who)]:=by
 have hn:=ag 174;cases hm:C.aL who
 ·rw[show C.rowOf zs who=au 174 from by simp[C.rowOf,hm],show C.ku bs who=bs from by simp[C.ku,hm]]
  go_enter func103,ntmps103;go_wp2_with(first|go_at_call 89;refine KR (C.jP _ _) ?_;(try rw[hm])|refine YS ?_;intro w hI|refine YX ?_;intro bx w hI|refine YL ?_);exact bodyPost_ret (aH hI rfl rfl aC (bP.out (t:=41)) hn) rfl ⟨rfl,hI.tl⟩
 ·obtain⟨h0,h5⟩:=C.dV hm
  rw[show C.rowOf zs who=sub zs (who.toNat*174) 174 from by simp[C.rowOf,hm],show C.ku bs who=bs.set who.toNat true from by simp[C.ku,hm]];have hsl:(sub zs (who.toNat*174) 174).length=174:=by rw[az];omega
  go_enter func103,ntmps103;go_wp2_with(first|go_at_call 89;refine KR (C.jP _ _) ?_;(try rw[hm])|with_reducible refine U8 (j:=who.toNat*174) hI RF aM ho rfl OM ?_|(with_reducible refine ale (j:=who.toNat) hI RF RF jo agu ho OM OM ?_;intro w hI)|refine YS ?_;intro w hI|refine YX ?_;intro bx w hI);exact bodyPost_ret (aH hI rfl rfl aC (bP.out (t:=41)) hsl) rfl ⟨rfl,hI.tl⟩
theorem EM(who x)(hx:x.length=174):Calls prog 143 #[.pointer (some ⟨b,o,none⟩),.int .i64 who,ia x] w0 λe w'=>e=.returned (.bool (C.mG zs bs who x))∧Inv (oH b e0 A B zs bs).own w0 w' [oH b e0 A B zs bs]:=by
 cases hm:C.aL who
 ·rw[show C.mG zs bs who x=false from by simp[C.mG,hm]]
  go_enter func143,ntmps143;go_upto_region 1 with(refine YX ?_;intro bx w hI)
  refine ZT [0,1,2,7,8,9,10,11,12,13,14,15,25,26,27] 28 hI ?_;intro wd hI
  (repeat(first|refine ZS ?_|refine ZQ ?_;go_wp2_with(go_at_call 89;refine KR (C.jP _ _) ?_;(try rw[hm]));refine ZP ?_))
  exact W55
 ·obtain⟨h0,h5⟩:=C.dV hm
  cases hs:gb bs who.toNat
  ·cases hr:C.jm x
   ·rw[show C.mG zs bs who x=false from by simp[C.mG,hr]]
    go_enter func143,ntmps143;go_upto_region 1 with(refine YX ?_;intro bx w hI)
    refine ZT [0,1,2,7,8,9,10,11,12,13,14,15,25,26,27] 28 hI ?_;intro wd hI
    (repeat(first|refine ZS ?_|refine ZQ ?_;go_wp2_with(first|refine YL ?_|go_at_call 89;refine KR (C.jP _ _) ?_;(try rw[hm])|go_at_call 90;refine KD hI (C.jE _ _ hx) ?_;intro w1 hI;(try rw[hr])|with_reducible refine ac4 (j:=who.toNat) hI RF aM ho OM OM hs ?_);refine ZP ?_))
    exact W55
   ·rw[show C.mG zs bs who x=decide (gi zs (who.toNat*174) <gi x 0)from by simp[C.mG,hm,hs,hr]]
    go_enter func143,ntmps143;go_upto_region 1 with(refine YX ?_;intro bx w hI)
    refine ZT [0,1,2,7,8,9,10,11,12,13,14,15,25,26,27] 28 hI ?_;intro wd hI
    (repeat(refine ZQ ?_;go_wp2_with(first|refine YL ?_|go_at_call 89;refine KR (C.jP _ _) ?_;(try rw[hm])|go_at_call 90;refine KD hI (C.jE _ _ hx) ?_;intro w1 hI;(try rw[hr])|with_reducible refine ac4 (j:=who.toNat) hI RF aM ho OM OM hs ?_|with_reducible refine agt (j:=who.toNat*174) hI RF aM ho OM OM ?_);refine ZP ?_))
    exact W55
  ·rw[show C.mG zs bs who x=false from by simp[C.mG,hs]]
   go_enter func143,ntmps143;go_upto_region 1 with(refine YX ?_;intro bx w hI)
   refine ZT [0,1,2,7,8,9,10,11,12,13,14,15,25,26,27] 28 hI ?_;intro wd hI
   (repeat(first|refine ZS ?_|refine ZQ ?_;go_wp2_with(first|go_at_call 89;refine KR (C.jP _ _) ?_;(try rw[hm])|with_reducible refine ac4 (j:=who.toNat) hI RF aM ho OM OM hs ?_);refine ZP ?_))
   exact W55
theorem ac6(who x)(hx:x.length=174):Calls prog 102 #[.pointer (some ⟨b,o,none⟩),.int .i64 who,ia x] w0 λe w'=>e=.returned (.bool (C.mG zs bs who x))∧Inv (oH b e0 A B zs bs).own w0 w' [oH b e0 A B (C.gM zs bs who x) bs]:=by
 cases hk:C.mG zs bs who x
 ·rw[show C.gM zs bs who x=zs from by simp[C.gM,hk]]
  go_enter func102,ntmps102;go_wp2_with(first|go_at_call 143;refine KC jo hI (EM _ b o e0 A B zs bs hzl hbl ho (hI.at_ aM) who x hx) ?_;intro w1 hI;(rw[hk])|refine YL ?_|refine YX ?_;intro bx w hI);go_ret;exact⟨rfl,hI.tl⟩
 ·obtain⟨h0,h5⟩:=C.dV (C.y_ hk)
  rw[show C.gM zs bs who x=dK zs (who.toNat*174) x from by simp[C.gM,hk]];go_enter func102,ntmps102;go_upto_region 3 with(first|go_at_call 143;refine KC jo hI (EM _ b o e0 A B zs bs hzl hbl ho (hI.at_ aM) who x hx) ?_;intro w1 hI;(rw[hk])|refine YL ?_|refine YX ?_;intro bx w hI)
  refine ZT [5,6] 7 hI ?_;intro wd hI
  (repeat(refine ZQ ?_;go_wp2_with(first|(with_reducible refine ajw (j:=who.toNat*174) hI RF RF jo ho OM hx OM ?_;intro w hI)|refine YL ?_);refine ZP ?_))
  exact W55
end
namespace C
theorem ag5(w0 b o e0 A B m)(Dj:m.length=870)(ho:A.length=o)(hI:Inv (oH b e0 A B m []).own w0 w0 [oH b e0 A B m []])(who):Calls prog 23 #[.pointer (some ⟨b,o,none⟩),.int .i64 who] w0 λe w'=>e=.returned (ia (rowOf m who))∧Inv (oH b e0 A B m []).own w0 w' [oH b e0 A B m []]:=by
 have hn:=ag 174;cases hm:aL who
 ·rw[show rowOf m who=au 174 from by simp[rowOf,hm]]
  go_enter func23,ntmps23;go_wp2_with(first|go_at_call 50;refine KR (lK _ _) ?_;(try rw[hm])|refine YS ?_;intro w hI|refine YX ?_;intro bx w hI|refine YL ?_);exact bodyPost_ret (dY hI rfl rfl aC yx hn) rfl ⟨rfl,hI.sub SB⟩
 ·obtain⟨h0,h5⟩:=dV hm
  rw[show rowOf m who=sub m (who.toNat*174) 174 from by simp[rowOf,hm]];have hsl:(sub m (who.toNat*174) 174).length=174:=by rw[az];omega
  go_enter func23,ntmps23;go_wp2_with(first|go_at_call 50;refine KR (lK _ _) ?_;(try rw[hm])|with_reducible refine U8 (j:=who.toNat*174) hI RF aM ho rfl OM ?_|refine YS ?_;intro w hI|refine YX ?_;intro bx w hI);exact bodyPost_ret (dY hI rfl rfl aC yx hsl) rfl ⟨rfl,hI.sub SB⟩
theorem Tp(w0 b o e0 A B m)(Dj:m.length=870)(ho:A.length=o)(hI:Inv (oH b e0 A B m []).own w0 w0 [oH b e0 A B m []])(who x)(hx:x.length=174):Calls prog 48 #[.pointer (some ⟨b,o,none⟩),.int .i64 who,ia x] w0 λe w'=>e=.returned (.bool (oL m who x))∧Inv (oH b e0 A B m []).own w0 w' [oH b e0 A B (iV m who x) []]:=by
 cases hm:aL who
 ·have hf:oL m who x=false:=by simp[oL,hm]
  rw[show iV m who x=m from by simp[iV,hf],hf];clear hf;go_enter func48,ntmps48;go_upto_region 1 with(refine YX ?_;intro bx w hI)
  refine ZT [0,1,2,3,4,5,6,7,8,18,19] 20 hI ?_;intro wd hI
  (repeat(first|refine ZS ?_|refine ZQ ?_;go_wp2_with(go_at_call 50;refine KR (lK _ _) ?_;(try rw[hm]));refine ZP ?_))
  exact W81
 ·obtain⟨h0,h5⟩:=dV hm
  cases hr:jm x
  ·have hf:oL m who x=false:=by simp[oL,hr]
   rw[show iV m who x=m from by simp[iV,hf],hf];clear hf;go_enter func48,ntmps48;go_upto_region 1 with(refine YX ?_;intro bx w hI)
   refine ZT [0,1,2,3,4,5,6,7,8,18,19] 20 hI ?_;intro wd hI
   (repeat(first|refine ZS ?_|refine ZQ ?_;go_wp2_with(first|refine YL ?_|go_at_call 50;refine KR (lK _ _) ?_;(try rw[hm])|go_at_call 90;refine KD hI (jE _ _ hx) ?_;intro w1 hI;(try rw[hr]));refine ZP ?_))
   exact W81
  ·by_cases hv:gi x 0<=gi m (who.toNat*174)
   ·have hf:oL m who x=false:=by unfold oL;rw[hm,hr,show decide (gi m (who.toNat*174) <gi x 0)=false from by simpa using hv];rfl
    have hv2:decide (gi x 0<=gi m (who.toNat*174))=true:=by simpa using hv
    rw[show iV m who x=m from by simp[iV,hf],hf];clear hf hv;go_enter func48,ntmps48;go_upto_region 1 with(refine YX ?_;intro bx w hI)
    refine ZT [0,1,2,3,4,5,6,7,8,18,19] 20 hI ?_;intro wd hI
    (repeat(refine ZQ ?_;go_wp2_with(first|refine YL ?_|go_at_call 50;refine KR (lK _ _) ?_;(try rw[hm])|go_at_call 90;refine KD hI (jE _ _ hx) ?_;intro w1 hI;(try rw[hr])|with_reducible refine agt (j:=who.toNat*174) hI RF aM ho OM OM ?_);refine ZP ?_))
    exact W81
   ·have hf:oL m who x=true:=by unfold oL;rw[hm,hr,show decide (gi m (who.toNat*174) <gi x 0)=true from by simp;omega];rfl
    have hv2:decide (gi x 0<=gi m (who.toNat*174))=false:=by simpa using hv
    rw[show iV m who x=dK m (who.toNat*174) x from by simp[iV,hf],hf];clear hf hv;go_enter func48,ntmps48;go_upto_region 1 with(refine YX ?_;intro bx w hI)
    refine ZT [0,1,2,3,4,5,6,7,8,18,19] 20 hI ?_;intro wd hI
    (repeat(refine ZQ ?_;go_wp2_with(first|refine YL ?_|go_at_call 50;refine KR (lK _ _) ?_;(try rw[hm])|go_at_call 90;refine KD hI (jE _ _ hx) ?_;intro w1 hI;(try rw[hr])|with_reducible refine agt (j:=who.toNat*174) hI RF aM ho OM OM ?_);refine ZP ?_))
    go_upto_region 3 with(fail)
    refine ZT [5,6] 7 hI ?_;intro wd hI
    (repeat(refine ZQ ?_;go_wp2_with(first|(with_reducible refine ajw (j:=who.toNat*174) hI RF RF jo ho OM hx OM ?_;intro w hI)|refine YL ?_);refine ZP ?_))
    exact W81
theorem Kq(w0 b o e0 A B m)(hk:Bk m)(ho:A.length=o)(hI0:Inv (oH b e0 A B m []).own w0 w0 [oH b e0 A B m []])(jL key):
  Calls prog 56 #[.pointer (some ⟨b,o,none⟩),.int .i64 jL,.int .i64 key] w0 λe w'=>e=.returned (ia (uH m jL key))∧Inv (oH b e0 A B m []).own w0 w' [oH b e0 A B m []]:=by
 have hI:=hI0;clear hI0;have Dj:=hk.len;have hn:=ag 7;have hlen:=λj h=>Tj m jL key Dj j h
 replace hlen:=HD hlen;replace hk:=HD hk;go_enter func56,ntmps56;go_upto_region 3 with(refine YX ?_;intro bx w hI)
 (try simp only[QN])
 obtain⟨b7,b6,e7,e6⟩:=nmk hI;subst e7 e6;go_wp2_with fail
 go_loopg [8,9,10,11,12] 5 (λkk s8 s9 s10 s11 i wr=>∃j:Nat,kk=5-j∧j<=5∧i=.int .i64 j∧s8=.int .i64 (M8 m jL key j).2∧Inv (oH b e0 A B m []).own w0 wr [ib b7 37 (M8 m jL key j).1,ib b6 37 (au 7),oH b e0 A B m []])
 case atStart=>exact⟨0,rfl,by omega,rfl,rfl,hI⟩
 case round=>
  clear hI;obtain⟨j,rfl,hj,rfl,rfl,hI⟩:=hrel;have hcl:=hlen.out j hj;by_cases GV:j<5
  ·have wL:(j:Int).toNat=j:=by simp
   have hxl:(sub m (j*174) 174).length=174:=by rw[az];omega
   have hwx:=HD (hk.out.row j GV).2;have hs:Hid (M8 m jL key (j+1)=if(M8 m jL key j).2< (rM (sub m (j*174) 174) j jL key).2 then rM (sub m (j*174) 174) j jL key else M8 m jL key j):=HD rfl;have hfl:=Il (sub m (j*174) 174) j jL key hxl;obtain⟨r,hr⟩:=EZ (rM (sub m (j*174) 174) j jL key);rw[<-hr]at hs hfl;have hcv:=HD hr.symm;clear hr;generalize M8 m jL key j=q at*;by_cases hq:q.2<r.2
   ·have hs2:Hid (M8 m jL key (j+1)=r):=HD (by rw[hs.out,if_pos hq])
    go_wp2_with(first|refine YL ?_|with_reducible refine U8 (j:=j*174) hI RF a_ ho rfl OM ?_|refine YX ?_;intro bx w hI|refine YS ?_;intro w hI|go_at_call 92;refine KD hI (Fu _ (sub m (j*174) 174) _ _ _ _ hcv hxl hwx) ?_;intro w1 hI);go_roundg (5- (j+1))
    case measure=>omega
    case rel=>exact⟨j+1,rfl,by omega,by go_num,by rw[hs2.out],by rw[hs2.out];exact hI.tl⟩
   ·have hs2:Hid (M8 m jL key (j+1)=q):=HD (by rw[hs.out,if_neg hq])
    go_wp2_with(first|with_reducible refine U8 (j:=j*174) hI RF a_ ho rfl OM ?_|refine YX ?_;intro bx w hI|refine YS ?_;intro w hI|go_at_call 92;refine KD hI (Fu _ (sub m (j*174) 174) _ _ _ _ hcv hxl hwx) ?_;intro w1 hI);go_roundg (5- (j+1))
    case measure=>omega
    case rel=>exact⟨j+1,rfl,by omega,by go_num,by rw[hs2.out],by rw[hs2.out];exact hI.tl⟩
  ·obtain rfl:j=5:=by omega
   have alB:Hid (uH m jL key=(M8 m jL key 5).1):=HD rfl;generalize(M8 m jL key 5).1=q at*;go_wp2_with(first|refine YL ?_|refine YS ?_;intro w hI);exact bodyPost_ret (dY hI rfl rfl aM Hz hcl) rfl ⟨by rw[alB.out],hI.sub SB⟩
theorem Tq(w0 b o e0 A B m)(hk0:Bk m)(ho:A.length=o)(hI0:Inv (oH b e0 A B m []).own w0 w0 [oH b e0 A B m []])(key):
  Calls prog 29 #[.pointer (some ⟨b,o,none⟩),.int .i64 key] w0 λe w'=>e=.returned (.int .i64 (zH m key 5))∧Inv (oH b e0 A B m []).own w0 w' [oH b e0 A B m []]:=by
 have hI:=hI0;clear hI0;have hk:=HD hk0;clear hk0;go_enter func29,ntmps29;go_wp2_with fail
 go_loopg [5,6,7,8] 5 (λkk s5 s6 s7 i wr=>∃j:Nat,kk=5-j∧j<=5∧i=.int .i64 j∧s5=.int .i64 (zH m key j)∧Inv (oH b e0 A B m []).own w0 wr [oH b e0 A B m []])
 case atStart=>exact⟨0,rfl,by omega,rfl,rfl,hI⟩
 case round=>
  clear hI;obtain⟨j,rfl,hj,rfl,rfl,hI⟩:=hrel;by_cases GV:j<5
  ·have hs:Hid (zH m key (j+1)=zH m key j+(gi (uH m j key) 0-gi (uH m j key) 1)):=HD rfl
   obtain⟨cl,cn⟩:=pM hk.out j key;obtain⟨v0,v1⟩:=xR hk.out key j;have hv0:-5497558138880<=zH m key j:=by omega
   have hv1:zH m key j<=5497558138880:=by omega
   clear v0 v1;obtain⟨c,hc⟩:=EZ (uH m j key);rw[<-hc]at hs cl cn;have hcv:=HD hc.symm;clear hc;obtain⟨a0,a1⟩:=cn 0;obtain⟨a2,a3⟩:=cn 1;clear cn;generalize zH m key j=s at*;go_wp2_with(first|refine YX ?_;intro bx w hI|refine YS ?_;intro w hI|refine YL ?_|go_at_call 56;(with_reducible refine(Kq _ b o e0 A B m hk.out ho (hI.at_ aC) _ _).mono ?_);rw[hcv.out];rintro e w1 ⟨rfl,hJ⟩;replace hI:=hI.on hJ jR;clear hJ);go_roundg (5- (j+1))
   case measure=>omega
   case rel=>exact⟨j+1,rfl,by omega,by go_num,by rw[hs.out],hI.tl⟩
  ·obtain rfl:j=5:=by omega
   go_wp2_with fail;go_ret;exact⟨rfl,hI.sub SB⟩
theorem ZG(w0 b o e0 A B m)(hk0:Bk m)(ho:A.length=o)(hI0:Inv (oH b e0 A B m []).own w0 w0 [oH b e0 A B m []])(who key):
  Calls prog 107 #[.pointer (some ⟨b,o,none⟩),.int .i64 who,.int .i64 key] w0 λe w'=>e=.returned (.int .i64 (lh m who key))∧Inv (oH b e0 A B m []).own w0 w' [oH b e0 A B m []]:=by
 have hI:=hI0;clear hI0;have Dj:=hk0.len;have hk:=HD hk0;clear hk0;cases hm:aL who
 ·rw[show lh m who key=0 from by simp[lh,hm]]
  go_enter func107,ntmps107;go_wp2_with(go_at_call 50;refine KR (lK _ _) ?_;(try rw[hm]));go_ret;exact⟨rfl,hI.sub SB⟩
 obtain⟨h0,h5⟩:=dV hm;obtain⟨p,rfl⟩:∃p:Nat,who=p:=⟨who.toNat,by omega⟩;have hp5:p<5:=by omega
 have hpn:(p:Int).toNat=p:=by simp
 have hxl:(sub m (p*174) 174).length=174:=by rw[az];omega
 have hres:Hid (lh m p key=Tn (Ak m key 5) (jT (sub m (p*174) 174) p 5) (jT (sub m (p*174) 174) p 5).length):=HD (by unfold lh;rw[if_pos hm,hpn]);have hLm:=HD (VD (sub m (p*174) 174) p);have hLl:Hid ((jT (sub m (p*174) 174) p 5).length<=5):=HD (Im _ _ _);obtain⟨L,hL0⟩:=EZ (jT (sub m (p*174) 174) p 5);rw[<-hL0]at hres hLm hLl;have hL:=HD hL0.symm;clear hL0;have hcl:=HD (Fv hk.out key);have hcn:=HD (M9 hk.out key);go_enter func107,ntmps107;go_upto_region 4 with(first|go_at_call 50;refine KR (lK _ _) ?_;(try rw[hm])|refine YX ?_;intro bx w hI)
 (try simp only[QN])
 (obtain⟨b7,hbx⟩:=EZ bx;subst hbx)
 go_wp2_with fail
 go_loopg [8,16] 5 (λkk s8 i wr=>∃j:Nat,kk=5-j∧j<=5∧i=.int .i64 j∧Inv (oH b e0 A B m []).own w0 wr [ib b7 118 (Ak m key j),oH b e0 A B m []])
 case atStart=>exact⟨0,rfl,by omega,rfl,hI⟩
 case round=>
  clear hI;obtain⟨j,rfl,hj,rfl,hI⟩:=hrel;by_cases GV:j<5
  ·have hs:Hid (Ak m key (j+1)=dK (Ak m key j) (j*7) (uH m j key)):=HD rfl
   have hl:=hcl.out j hj;obtain⟨cl,_⟩:=pM hk.out j key;obtain⟨c,hc⟩:=EZ (uH m j key);rw[<-hc]at hs cl;have hcv:=HD hc.symm;have wL:(j:Int).toNat=j:=by simp
   clear hc;generalize Ak m key j=cs at*;go_wp2_with(first|refine YS ?_;intro w hI|go_at_call 56;(with_reducible refine(Kq _ b o e0 A B m hk.out ho (hI.at_ aM) _ _).mono ?_);rw[hcv.out];rintro e w1 ⟨rfl,hJ⟩;replace hI:=hI.on hJ jo;clear hJ);go_roundg (5- (j+1))
   case measure=>omega
   case rel=>exact⟨j+1,rfl,by omega,by go_num,by rw[hs.out];exact hI⟩
  ·obtain rfl:j=5:=by omega
   have hl:=hcl.out 5 OM;have hn:=HD (hcn.out 5 OM);clear hcl hcn;generalize Ak m key 5=cs at*;go_upto_region 11 with(first|with_reducible refine U8 (j:=p*174) hI RF aM ho rfl OM ?_|go_at_call 149;refine KO hI (ady _ (sub m (p*174) 174) p L hxl hL) ?_;intro ao co w1 hI)
   (try simp only[QN])
   go_loopg [9,11,12,35] L.length (λkk s9 s11 s12 i wr=>∃j:Nat,kk=L.length-j∧j<=L.length∧i=.int .i64 j∧s9=.int .i64 (Tn cs L j)∧Inv (oH b e0 A B m []).own w0 wr [bD 3 1 (.slice ao L.length co) L.length (L.map (Value.int .i64)),ib b7 118 cs,oH b e0 A B m []])
   case atStart=>exact⟨0,by omega,by omega,rfl,rfl,hI⟩
   case round=>
    clear hI;obtain⟨j,rfl,hj,rfl,rfl,hI⟩:=hrel;obtain⟨v0,v1⟩:=IB hn.out L j;have amv:=hLl.out;have u0:-32985348833280<=Tn cs L j:=by omega
    have u1:Tn cs L j<=32985348833280:=by omega
    clear v0 v1;by_cases hlj:j<L.length
    ·obtain⟨o0,o5⟩:=hLm.out _ (zb L j hlj)
     obtain⟨oo,ho⟩:∃oo:Nat,gi L j=oo:=⟨(gi L j).toNat,by omega⟩;obtain⟨gb,go_,hab,hcell⟩:=(hI.rd (a':=ao) aC) j (.int .i64 (gi L j)) (by rw[List.getElem?_map];simp[gi,hlj]);subst hab;rw[ho]at hcell o0 o5;have ho5:oo<5:=by omega
     have hon:(oo:Int).toNat=oo:=by simp
     have hs:Hid (Tn cs L (j+1)=Tn cs L j+(gi cs (oo*7) -gi cs (oo*7+1))+Tm cs oo 5):=HD (by rw[Tn,ho,hon]);obtain⟨c0,c1⟩:=hn.out (oo*7);obtain⟨c2,c3⟩:=hn.out (oo*7+1);clear ho;generalize Tn cs L j=s at*;go_upto_region 13 with fail
     (try simp only[QN])
     have hd1:=sO hI (i:=oo*7) aM OM;have hd2:=sO hI (i:=oo*7+1) aM OM;clear hcell
     go_quiet (fail)
     clear hd1 hd2;replace hI:=hI.call (bdn wr nq);generalize wr.drewN nq=wq at*;have y0:-43980465111040<=s+(gi cs (oo*7) -gi cs (oo*7+1)):=by omega
     have y1:s+(gi cs (oo*7) -gi cs (oo*7+1))<=43980465111040:=by omega
     clear u0 u1 c0 c1 c2 c3;generalize s+(gi cs (oo*7) -gi cs (oo*7+1))=s1 at*;go_wp2_with fail
     go_loopg [9,12,50] 5 (λkk s9 s12 i wx=>∃l:Nat,kk=5-l∧l<=5∧i=.int .i64 l∧s9=.int .i64 (s1+Tm cs oo l)∧Inv (oH b e0 A B m []).own w0 wx [bD 3 1 (.slice (some ⟨gb,go_,none⟩) L.length co) L.length (L.map (Value.int .i64)),ib b7 118 cs,oH b e0 A B m []])
     case atStart=>exact⟨0,rfl,by omega,rfl,by unfold Tm;rw[Int.add_zero],hI⟩
     case round=>
      clear hI;obtain⟨l,rfl,hl5,rfl,rfl,hI⟩:=hrel;by_cases hll:l<5
      ·have hln:(l:Int).toNat=l:=by simp
       have amw:(l:Int) <5:=by omega
       have ht:Hid (Tm cs oo (l+1)=Tm cs oo l+(gi cs (l*7+2+oo) -gi cs (oo*7+2+l))):=HD rfl;obtain⟨b0,b1⟩:=Bu hn.out oo l;have z0:-5497558138880<=Tm cs oo l:=by omega
       have z1:Tm cs oo l<=5497558138880:=by omega
       obtain⟨c0,c1⟩:=hn.out (l*7+2+oo);obtain⟨c2,c3⟩:=hn.out (oo*7+2+l);clear b0 b1;generalize Tm cs oo l=t at*;go_upto_region 17 with fail
       (try simp only[QN])
       have hd1:=sO hI (i:=l*7+2+oo) aM OM;have hd2:=sO hI (i:=oo*7+2+l) aM OM
       go_quiet (fail)
       clear hd1 hd2;replace hI:=hI.call (bdn _ nq);go_wp2_with fail;go_roundg (5- (l+1))
       case measure=>omega
       case rel=>exact⟨l+1,rfl,by omega,by go_num,by rw[ht.out,<-Int.add_assoc],hI⟩
      ·obtain rfl:l=5:=by omega
       go_wp2_with fail;go_roundg (L.length- (j+1))
       case measure=>omega
       case rel=>exact⟨j+1,by omega,by omega,by go_num,by rw[hs.out],hI⟩
    ·obtain rfl:j=L.length:=by omega
     go_wp2_with fail;go_ret;rw[hres.out];exact⟨rfl,hI.sub SB⟩
end C
