/- Contracts of functions. No condition. -/
import Derived.Test.YtdakkaapokhnnaaGreatDoorZ07
namespace Go.Proofs.YtdakkaapokhnnaaGreatDoor
open Go.RowKit Go.Proofs.Tryz
set_option maxRecDepth 100000
set_option maxHeartbeats 6400000
set_option linter.all false
def Ue(ws:List (Int×List UInt8))(mask iQ:Int)(cut:Nat)(S:Int->List UInt8):Nat->Int->List UInt8
 |0=>S
 |j+1=>let R:=Ue ws mask iQ cut S j
  match ws[j]? with
  |some p=>if(j:Int)=iQ then tX R p.1 (p.2.take cut++(R p.1).drop cut)else if bt mask (j%32)then tX R p.1 p.2 else R
  |none=>R
def M3(cut:Int):Nat:=(min (max cut 0) 64).toNat
def rQ(D:DS)(mask iQ cut:Int):DS:=⟨Ue D.waits mask iQ (M3 cut) D.sure D.waits.length,[],false,0,false⟩
theorem MG{ws:List (Int×List UInt8)}(h64:∀p∈ws,p.2.length=64){S:Int->List UInt8}(hS:∀k,(S k).length=64)(mask iQ:Int)(cut:Nat):∀(j:Nat) (k:Int),(Ue ws mask iQ cut S j k).length=64
 |0,k=>hS k
 |j+1,k=>by
  have ih:=MG h64 hS mask iQ cut j;rw[Ue];rcases hp:ws[j]? with _|p
  ·exact ih k
  ·have af4:=h64 p (List.mem_of_getElem? hp)
   simp only
   split
   ·unfold tX;split
    ·have:=ih p.1;simp[af4,this];omega
    ·exact ih k
   ·split
    ·unfold tX;split
     ·exact af4
     ·exact ih k
    ·exact ih k
theorem afA{a:Act}{T:List Nat}{w0 w:World}{m:List aG}{dst:Option Tmp}{ty:TypeId}{pos:String}{af:Array Edge}{x y:Operand}{r:Nat}{S:Int->List UInt8}{j:Int}(hI:Inv T w0 w m)(hx:a.eval x=.map (some r):=by exact RF)(hy:a.eval y=.int .i64 j:=by exact RF)
  (hm:Ay r S∈m:=by exact MM):fP prog ⟨dst,.lookup 134 x y false,ty,pos,af,none⟩ a w (tZ (S j)):=by
 obtain⟨f,h1,h2⟩:=hI.sat _ hm;exact W88
theorem MJ(x:Int)(j:Nat):(bits BinOp.and IntKind.i64 (x/2^ (j%32)) 1==1)=bt x (j%32):=by
 rw[Cy];rfl
theorem acO{w:World}{b q:Nat}{e:TypeId}{z:Int}{bs:List UInt8}(h:(blk b e (qW z bs)).sat w)(h64:bs.length=64)(hq:q<=64):Rd w (some ⟨b,1,none⟩) ((bs.take q).map bv):=by
 intro j u hj;refine⟨b,1,rfl,?_⟩;have h1:w.heap[b]? =some (.cells (qW z bs).toArray e (0,0)):=h;rw[List.getElem?_map,List.getElem?_take]at hj
 split at hj
 ·rw[<-List.getElem?_map]at hj
  simp[World.cell?,h1,qW,Nat.add_comm 1 j];simpa using hj
 ·cases hj
theorem MH{R bs:List UInt8}{q:Nat}(hR:R.length=64)(hb:bs.length=64)(hq:q<=64):splice (R.map bv) 0 ((bs.take q).map bv)=(bs.take q++R.drop q).map bv:=by
 simp[splice,hb,Nat.min_eq_left hq]
section
variable (w0:World)(d mr:Nat)(wb:Option Nat)(D:DS)(hI:Inv (eF d mr wb D).own w0 w0 [eF d mr wb D])(hD:wQ D)(hwl:D.waits.length<=200000)
include hI hD hwl
theorem M4(mask iQ cut:Int):Calls prog 44 #[.pointer (some ⟨d,0,none⟩),.int .i64 mask,.int .i64 iQ,.int .i64 cut] w0 λe w'=>∃kS,e=.returned (.tuple #[])∧Inv (eF d mr wb D).own w0 w' [eF d mr kS (rQ D mask iQ cut)]:=by
 obtain⟨a,c,h1,hI⟩:=sK hI;obtain⟨S,ws,ar,lf,dn⟩:=D;simp only at hI h1 hwl;have hw64:∀p∈ws,p.2.length=64:=hD.UW;have oF:∀k,(S k).length=64:=hD.UX;clear hD;rw[show rQ ⟨S,ws,ar,lf,dn⟩ mask iQ cut=⟨Ue ws mask iQ (M3 cut) S ws.length,[],false,0,false⟩from rfl];obtain⟨q,hqe⟩:∃q,Hid (q=M3 cut):=⟨_,HD rfl⟩;rw[<-hqe.out];have afz:q<=64:=by rw[hqe.out];unfold M3;omega
 by_cases hc0:cut<0
 ·have hqv:Hid (q=0):=HD (by rw[hqe.out];unfold M3;omega)
  exact W2
 ·by_cases hc1:64<cut
  ·have hqv:Hid (q=64):=HD (by rw[hqe.out];unfold M3;omega)
   exact W2
  ·have hqv:Hid ((q:Int)=cut):=HD (by rw[hqe.out];unfold M3;omega)
   exact W2
end
def I1(bs:List UInt8):Nat:=bs.foldl (λn c=>n*256+c.toNat) 0
def fI(n:Nat):Nat:=if n=0 then 1 else(n-1) /52+1
def rR(s:List UInt8)(number place:Int):Option (List UInt8×Nat):=
 match A.kI (s.take 63)with
 |some t=>if s[63]? =some 1∧((I1 (t.take 4):Nat):Int)=number∧((t.getD 4 0).toNat:Int)=place∧place< (t.getD 5 0).toNat∧(t.getD 6 0).toNat<=52 then some ((t.drop 7).take (t.getD 6 0).toNat,(t.getD 5 0).toNat)else none
 |none=>none
theorem zQ(n:Int)(h:-9223372036854775808<=n∧n<=9223372036854775807):wrap64 n=n:=by unfold wrap64;omega
theorem Zw(bs:List UInt8)(v:UInt8):I1 (bs++[v])=I1 bs*256+v.toNat:=by simp[I1]
theorem U1(bs:List UInt8):∀acc,bs.foldl (λn c=>n*256+c.toNat) acc< (acc+1)*256^bs.length:=by
 induction bs with
 |nil=>intro acc;simp
 |cons v bs ih=>
  intro acc;have hv:=v.toNat_lt;rw[List.foldl_cons,List.length_cons,Nat.pow_succ];refine Nat.lt_of_lt_of_le (ih _) ?_;rw[Nat.mul_comm (256^bs.length),<-Nat.mul_assoc];exact Nat.mul_le_mul_right _ OM
theorem ac2(bs:List UInt8)(n:Nat)(h:bs.length<=n):I1 bs<256^n:=by
 have:=U1 bs 0;rw[Nat.zero_add,Nat.one_mul]at this;exact Nat.lt_of_lt_of_le this (Nat.pow_le_pow_right DC h)
theorem U2(bs:List UInt8)(k:Nat)(v:UInt8)(hv:bs[k]? =some v)(h4:bs.length<=4):bits BinOp.or IntKind.i64 (wrap64 (((I1 (bs.take k):Nat):Int)*256)) (wrap64 (v.toNat:Int))=((I1 (bs.take (k+1)):Nat):Int):=by
 have hk:=(List.getElem?_eq_some_iff.1 hv).1;have h1:I1 (bs.take k) <256^3:=ac2 _ 3 (by simp;omega);have h2:=v.toNat_lt;have h3:(256:Nat) ^3=16777216:=by decide
 rw[h3]at h1;rw[zQ _ OM,zQ (v.toNat:Int) OM,show((I1 (bs.take k):Nat):Int)*256=((I1 (bs.take k)*256:Nat):Int)from by omega,Cx _ _ OM OM];have:=Nat.two_pow_add_eq_or_of_lt (i:=8) (b:=v.toNat) OM (I1 (bs.take k));rw[Nat.mul_comm,show(256:Nat)=2^8 from rfl,<-this,List.take_add_one,hv];simp only[Option.toList_some];rw[Zw];omega
theorem rf{T:List Nat}{w0 w:World}{m:List aG}{b e n:Nat}{s:List UInt8}(hI:Inv T w0 w m)(hm:blk b e (s.map bv)∈m):Rd w (some ⟨b,0,none⟩) ((s.take n).map bv):=by
 intro j u hj;have hb:=hI.blk hm;refine⟨b,0,rfl,?_⟩;rw[List.getElem?_map,List.getElem?_take]at hj
 split at hj
 ·simp[World.cell?,hb,hj]
 ·cases hj
theorem C8{T:List Nat}{w0 w:World}{m:List aG}{e size n n' c:Nat}{a':Option Addr}{xs:List Value}(h:Inv T w0 w m)(hm:bf e size (.slice a' n' c) n xs∈m):n<=c:=by
 exact W76
theorem Jy{T:List Nat}{w0 w:World}{m:List aG}{e g n c k q:Nat}{xs:List Value}(h:Inv T w0 w (bf e 1 (.slice (some ⟨g,0,none⟩) n c) n xs::m))(hk:k+q<=n):
  Inv T w0 w (EJ e (.slice (some ⟨g,k,none⟩) q (c-k)) ((xs.drop k).take q)::m):=
 h.turn (λhs y hy=>by
  rcases List.mem_cons.1 hy with rfl|hy
  ·obtain⟨_,_,cur,hg,h1,h2,h3,h4,h5⟩:=nR (hs (bf e 1 (.slice (some ⟨g,0,none⟩) n c) n xs) SI)
   simp only[Nat.mul_one]at h3 h4 h5;have hq:((xs.drop k).take q).length=q:=by simp;omega
   refine .inr ⟨g,k,c-k,cur,by rw[hq],hg,by rw[hq];omega,by omega,by omega,?_⟩;rw[hq,<-h5,List.drop_take,List.take_take];congr 1;omega
  ·exact hs _ (by simp[hy])) (by simp[owned,EJ,bf,Value.ownBlock])
theorem results_tmp3{fn:Func}{t u v:Tmp}(h:fn.results=#[.tmp t,.tmp u,.tmp v])(tmps:Array Value)(P:Program)(w:World):(results fn tmps).run P w=.ok (.tuple #[tmps.getD t undef,tmps.getD u undef,tmps.getD v undef]) w:=by
 unfold results;rw[h];simp[Sem.run_bind,Sem.run_pure,Result.andThen_ok]
section
variable (w0:World)(s:List UInt8)(hs:s.length=64)(number place:Int)
include hs
theorem FH(h:A.kI (s.take 63)=none∨s[63]? ≠some 1):
  Calls prog 134 #[tZ s,.int .i64 number,.int .i64 place] w0 λe w'=>e=.returned (.tuple #[.slice none 0 0,.int .i64 0,.bool false])∧Below w0.heap.size w0 w':=by
 have hI:=Inv.start w0;have Zx:(s.take 63).length=63:=by simp;omega
 cases ht:A.kI (s.take 63)with
 |none=>
  clear h;replace ht:=HD ht;go_enter func134,ntmps134;go_wp2_with(first|(with_reducible refine O9 hI (k:=?_);intro bx w hI)|go_at_call 152;refine(A.FE (s.take 63) _ _ _ Zx ht.out (rf hI aA) OM OM).mono ?_;rintro e w3 ⟨rfl,hw3⟩;replace hI:=hI.call hw3;clear hw3);exact bodyPost_ret (results_tmp3 rfl _ _ _) rfl ⟨rfl,hI.below⟩
 |some t=>
  have M7:t.length=59:=by have:=A.sN ht;have:=congrArg List.length this;rw[A.ny]at this;omega
  match t,ht,M7 with
  |t0::t1::t2::t3::t4::t5::t6::r,ht,M7=>
   have ac3:r.length=52:=by simp at M7;omega
   obtain⟨u,hu⟩:∃u,s[63]? =some u:=⟨s[63],List.getElem?_eq_getElem OM⟩;have hne:((u.toNat:Int)==1)=false:=by
    rcases h with h|h
    ·rw[h]at ht;cases ht
    ·rw[hu]at h
     simp only[beq_eq_false_iff_ne];intro h2;exact h (by rw[show u=1 from by apply UInt8.toNat_inj.1;simp;omega])
   have hL:Hid ((t0::t1::t2::t3::t4::t5::t6::r).length=59):=HD M7;have hlb:(s.map bv)[63]? =some (.int .u8 (u.toNat:Int)):=by rw[List.getElem?_map,hu];rfl
   clear h hu M7;replace ht:=HD ht;go_enter func134,ntmps134;go_wp2_with(first|(with_reducible refine O9 hI (k:=?_);intro bx w hI)|(go_at_call 152;refine KO hI (A.qa (s.take 63) (t0::t1::t2::t3::t4::t5::t6::r) _ _ _ Zx ht.out (rf hI aA) OM OM) ?_;intro a2 c2 w3 hI;obtain⟨gq,hgq⟩:=gu (a':=a2) hI aA SI;subst hgq;have hc2:=C8 hI aA;have k0:=A.nN (hI.rd (a':=some ⟨gq,0,none⟩) aA) 0 t0 rfl;have k1:=A.nN (hI.rd (a':=some ⟨gq,0,none⟩) aA) 1 t1 rfl;have k2:=A.nN (hI.rd (a':=some ⟨gq,0,none⟩) aA) 2 t2 rfl;have k3:=A.nN (hI.rd (a':=some ⟨gq,0,none⟩) aA) 3 t3 rfl;have k4:=A.nN (hI.rd (a':=some ⟨gq,0,none⟩) aA) 4 t4 rfl;have k5:=A.nN (hI.rd (a':=some ⟨gq,0,none⟩) aA) 5 t5 rfl;have k6:=A.nN (hI.rd (a':=some ⟨gq,0,none⟩) aA) 6 t6 rfl;rw[hL.out]at hc2 hI|-)|with_reducible refine aS hI RF aM (aO.out (t:=5)) hlb ?_|refine YL ?_);exact bodyPost_ret (results_tmp3 rfl _ _ _) rfl ⟨rfl,hI.below⟩
end
section
variable (w0:World)(s:List UInt8)(hs:s.length=64)(number place:Int)(t0 t1 t2 t3 t4 t5 t6:UInt8)(r:List UInt8)(ht:A.kI (s.take 63)=some (t0::t1::t2::t3::t4::t5::t6::r))(hu:s[63]? =some 1)
include hs ht hu
theorem Pp:
  Calls prog 134 #[tZ s,.int .i64 number,.int .i64 place] w0 λe w'=>
   if((I1 [t0,t1,t2,t3]:Nat):Int)=number∧(t4.toNat:Int)=place∧place<t5.toNat∧t6.toNat<=52 then
   ∃a c,e=.returned (.tuple #[.slice a t6.toNat c,.int .i64 t5.toNat,.bool true])∧Inv [] w0 w' [EJ 5 (.slice a t6.toNat c) ((r.take t6.toNat).map bv)]
   else e=.returned (.tuple #[.slice none 0 0,.int .i64 0,.bool false])∧Below w0.heap.size w0 w':=by
 have hI:=Inv.start w0;have Zx:(s.take 63).length=63:=by simp;omega
 have ac3:r.length=52:=by have:=A.sN ht;have:=congrArg List.length this;rw[A.ny]at this;simp at this;omega
 have hL:Hid ((t0::t1::t2::t3::t4::t5::t6::r).length=59):=HD (by simp[ac3]);have hlb:(s.map bv)[63]? =some (.int .u8 1):=by rw[List.getElem?_map,hu];rfl
 clear hu;replace ht:=HD ht;go_enter func134,ntmps134;go_upto_region 6 with(first|(with_reducible refine O9 hI (k:=?_);intro bx w hI)|(go_at_call 152;refine KO hI (A.qa (s.take 63) (t0::t1::t2::t3::t4::t5::t6::r) _ _ _ Zx ht.out (rf hI aA) OM OM) ?_;intro a2 c2 w3 hI;obtain⟨gq,hgq⟩:=gu (a':=a2) hI aA SI;subst hgq;have hc2:=C8 hI aA;have k0:=A.nN (hI.rd (a':=some ⟨gq,0,none⟩) aA) 0 t0 rfl;have k1:=A.nN (hI.rd (a':=some ⟨gq,0,none⟩) aA) 1 t1 rfl;have k2:=A.nN (hI.rd (a':=some ⟨gq,0,none⟩) aA) 2 t2 rfl;have k3:=A.nN (hI.rd (a':=some ⟨gq,0,none⟩) aA) 3 t3 rfl;have k4:=A.nN (hI.rd (a':=some ⟨gq,0,none⟩) aA) 4 t4 rfl;have k5:=A.nN (hI.rd (a':=some ⟨gq,0,none⟩) aA) 5 t5 rfl;have k6:=A.nN (hI.rd (a':=some ⟨gq,0,none⟩) aA) 6 t6 rfl;rw[hL.out]at hc2 hI|-)|with_reducible refine aS hI RF aM (aO.out (t:=5)) hlb ?_|refine YL ?_)
 go_loopg [11,31] 4 (λkk s11 s31 wr=>∃(k:Nat),kk=4-k∧k<=4∧s31=.int .i64 (k:Int)∧s11=.int .i64 ((I1 ([t0,t1,t2,t3].take k):Nat):Int)∧Inv [] w0 wr [bf 5 1 (.slice (some ⟨gq,0,none⟩) 59 c2) 59 ((t0::t1::t2::t3::t4::t5::t6::r).map bv)])
 case atStart=>exact⟨0,rfl,by omega,rfl,rfl,hI.sub (.cons_cons _ (List.nil_sublist _))⟩
 case round=>
  clear hI;obtain⟨k,rfl,hk,rfl,rfl,hI⟩:=hrel;by_cases h4:k=4
  ·subst h4
   have k4:((t0::t1::t2::t3::t4::t5::t6::r).map bv)[4]? =some (.int .u8 (t4.toNat:Int)):=rfl;have k5:((t0::t1::t2::t3::t4::t5::t6::r).map bv)[5]? =some (.int .u8 (t5.toNat:Int)):=rfl;have k6:((t0::t1::t2::t3::t4::t5::t6::r).map bv)[6]? =some (.int .u8 (t6.toNat:Int)):=rfl;go_upto_region 10 with(fail)
   refine ZT [9] 10 hI ?_;intro wd hI
   (repeat(refine ZQ ?_;go_wp2_with(first|with_reducible refine aJ hI RF aA (aO.out (t:=5)) k5 ?_|with_reducible refine aJ hI RF aA (aO.out (t:=5)) k6 ?_);refine ZP ?_))
   have b4:=t4.toNat_lt;have b5:=t5.toNat_lt;have b6:=t6.toNat_lt;have w5:=HD (zQ (t5.toNat:Int) OM);have w6:=HD (zQ (t6.toNat:Int) OM);have w4:=zQ (t4.toNat:Int) OM;have w7:=zQ (7+(t6.toNat:Int)) OM;rw[w5.out,w6.out];by_cases c1:((I1 [t0,t1,t2,t3]:Nat):Int)=number
   ·have d1:(((I1 [t0,t1,t2,t3]:Nat):Int)==number)=true:=by simpa using c1
    by_cases c2':(t4.toNat:Int)=place
    ·have d2:((t4.toNat:Int)==place)=true:=by simpa using c2'
     by_cases c3:place< (t5.toNat:Int)
     ·have d3:decide ((t5.toNat:Int)<=place)=false:=by simp;omega
      by_cases c4:t6.toNat<=52
      ·have d4:decide (52< (t6.toNat:Int))=false:=by simp;omega
       replace c1:=HD c1;replace c2':=HD c2';go_wp2_with(first|with_reducible refine aJ hI RF aA (aO.out (t:=5)) k4 ?_|refine YL ?_);have e6:(7+(t6.toNat:Int)).toNat -7=t6.toNat:=by omega
       refine bodyPost_ret (results_tmp3 rfl _ _ _) rfl ?_;have hP:=Jy hI (k:=7) (q:=t6.toNat) OM;exact⟨_,_,rfl,by simpa[List.map_take]using hP⟩
      ·have d4:decide (52< (t6.toNat:Int))=true:=by simp;omega
       replace c1:=HD c1;replace c2':=HD c2';go_wp2_with(first|with_reducible refine aJ hI RF aA (aO.out (t:=5)) k4 ?_|refine YL ?_);exact bodyPost_ret (results_tmp3 rfl _ _ _) rfl (by exact⟨rfl,hI.below⟩)
     ·have d3:decide ((t5.toNat:Int)<=place)=true:=by simp;omega
      replace c1:=HD c1;replace c2':=HD c2';go_wp2_with(first|with_reducible refine aJ hI RF aA (aO.out (t:=5)) k4 ?_|refine YL ?_);exact bodyPost_ret (results_tmp3 rfl _ _ _) rfl (by exact⟨rfl,hI.below⟩)
    ·have d2:((t4.toNat:Int)==place)=false:=by simpa using c2'
     replace c1:=HD c1;replace c2':=HD c2';go_wp2_with(first|with_reducible refine aJ hI RF aA (aO.out (t:=5)) k4 ?_|refine YL ?_);exact bodyPost_ret (results_tmp3 rfl _ _ _) rfl (by exact⟨rfl,hI.below⟩)
   ·have d1:(((I1 [t0,t1,t2,t3]:Nat):Int)==number)=false:=by simpa using c1
    replace c1:=HD c1;go_wp2_with(fail);exact bodyPost_ret (results_tmp3 rfl _ _ _) rfl (by exact⟨rfl,hI.below⟩)
  ·have hk4:k<4:=by omega
   obtain⟨v,hv⟩:∃v,[t0,t1,t2,t3][k]? =some v:=⟨_,List.getElem?_eq_getElem hk4⟩;have hk:(t0::t1::t2::t3::t4::t5::t6::r)[k]? =some v:=by
    rw[show t0::t1::t2::t3::t4::t5::t6::r=[t0,t1,t2,t3]++(t4::t5::t6::r)from rfl,List.getElem?_append_left hk4,hv]
   have k5:((t0::t1::t2::t3::t4::t5::t6::r).map bv)[k]? =some (.int .u8 (v.toNat:Int)):=by rw[List.getElem?_map,hk];rfl
   have hdk:decide ((k:Int) <4)=true:=by simp;omega
   go_wp2_with(with_reducible refine aJ hI RF aA (aO.out (t:=5)) k5 ?_);have hst:=HD (U2 [t0,t1,t2,t3] k v hv (by rw[List.length_cons];simp only[List.length_cons,List.length_nil];omega));rw[hst.out];go_roundg (4- (k+1))
   case measure=>omega
   case rel=>exact⟨k+1,rfl,by omega,rfl,rfl,hI⟩
end
theorem Pq{s:List UInt8}(hs:s.length=64){t:List UInt8}(h:A.kI (s.take 63)=some t):∃t0 t1 t2 t3 t4 t5 t6 r,t=t0::t1::t2::t3::t4::t5::t6::r:=by
 have M7:t.length=59:=by have:=A.sN h;have:=congrArg List.length this;rw[A.ny]at this;simp at this;omega
 match t,M7 with
 |t0::t1::t2::t3::t4::t5::t6::r,_=>exact⟨_,_,_,_,_,_,_,_,rfl⟩
section
variable (w0:World)(s:List UInt8)(hs:s.length=64)(number place:Int)
include hs
theorem sO{p:List UInt8}{n:Nat}(h:rR s number place=some (p,n)):
  Calls prog 134 #[tZ s,.int .i64 number,.int .i64 place] w0 λe w'=>∃a c,e=.returned (.tuple #[.slice a p.length c,.int .i64 n,.bool true])∧Inv [] w0 w' [EJ 5 (.slice a p.length c) (p.map bv)]:=by
 unfold rR at h
 split at h
 ·rename_i t ht
  split at h
  ·rename_i hc
   obtain⟨t0,t1,t2,t3,t4,t5,t6,r,rfl⟩:=Pq hs ht;have ac3:r.length=52:=by have:=A.sN ht;have:=congrArg List.length this;rw[A.ny]at this;simp at this;omega
   have hc2:((I1 [t0,t1,t2,t3]:Nat):Int)=number∧(t4.toNat:Int)=place∧place<t5.toNat∧t6.toNat<=52:=hc.2;have h6:(r.take t6.toNat).length=t6.toNat:=by simp;omega
   have hh:(r.take t6.toNat,t5.toNat)=(p,n):=Option.some.inj h;simp only[Prod.mk.injEq]at hh;obtain⟨rfl,rfl⟩:=hh;rw[h6];refine(Pp w0 s hs number place t0 t1 t2 t3 t4 t5 t6 r ht hc.1).mono λe w' h=>?_
   rw[if_pos hc2]at h;exact h
  ·cases h
 ·cases h
theorem Jz(h:rR s number place=none):
  Calls prog 134 #[tZ s,.int .i64 number,.int .i64 place] w0 λe w'=>e=.returned (.tuple #[.slice none 0 0,.int .i64 0,.bool false])∧Below w0.heap.size w0 w':=by
 unfold rR at h
 split at h
 ·rename_i t ht
  split at h
  ·cases h
  ·rename_i hc
   by_cases h1:s[63]? =some 1
   ·obtain⟨t0,t1,t2,t3,t4,t5,t6,r,rfl⟩:=Pq hs ht
    refine(Pp w0 s hs number place t0 t1 t2 t3 t4 t5 t6 r ht h1).mono λe w' h=>?_
    have hc3:¬(((I1 [t0,t1,t2,t3]:Nat):Int)=number∧(t4.toNat:Int)=place∧place<t5.toNat∧t6.toNat<=52):=λh=>hc ⟨h1,h⟩
    rw[if_neg hc3]at h;exact h
   ·exact FH w0 s hs number place (.inr h1)
 ·rename_i ht
  exact FH w0 s hs number place (.inl ht)
end
theorem qb{s:List UInt8}{number place:Int}{p:List UInt8}{n:Nat}(h:rR s number place=some (p,n)):p.length<=52∧place<n∧n<256:=by
 unfold rR at h
 split at h
 ·rename_i t ht
  split at h
  ·rename_i hc
   have hh:=Option.some.inj h;simp only[Prod.mk.injEq]at hh;obtain⟨rfl,rfl⟩:=hh;have:=(t.getD 5 0).toNat_lt;refine⟨?_,hc.2.2.2.1,by omega⟩;have h52:=hc.2.2.2.2;rw[List.length_take];omega
  ·cases h
 ·cases h
theorem xK(w0:World)(n:Nat)(hn:n<=100000):Calls prog 168 #[.int .i64 n] w0 λe w'=>e=.returned (.int .i64 (fI n))∧Below w0.heap.size w0 w':=by
 have hI:=Inv.start w0;rcases n with _|k
 ·go_enter func168,ntmps168
  exact acQ
 ·have h1:((k+1:Nat):Int) -1=(k:Int):=by omega
  have h2:decide (((k+1:Nat):Int)<=0)=false:=by simp
  have h3:((fI (k+1):Nat):Int)=(k:Int) /52+1:=by simp[fI]
  rw[h3];clear h3;obtain⟨z,hz⟩:=EQ (((k+1:Nat):Int):Int);rw[hz]at h1 h2|-;go_enter func168,ntmps168;exact acQ
def oH(rd:Int->List UInt8)(number at_:Int)(all:Nat):Nat->Nat->Option (List UInt8)
 |0,_=>some []
 |n+1,k=>match rR (rd (at_+k)) number k with
  |some (p,a)=>if a=all then(oH rd number at_ all n (k+1)).map (p++ ·)else none
  |none=>none
def l_(rd:Int->List UInt8)(number at_:Int):Option (List UInt8×Nat):=
 match rR (rd at_) number 0 with
 |some (b,all)=>(oH rd number at_ all (all-1) 1).map λr=>(b++r,all)
 |none=>none
section
variable (w0:World)(d mr:Nat)(wb:Option Nat)(D:DS)(hI:Inv (eF d mr wb D).own w0 w0 [eF d mr wb D])(hD:wQ D)(hwl:D.waits.length<=200000)(number at_:Int)(h0:0<=at_)(h1:at_<=100000)
include hI hD hwl h0 h1
theorem M8{B:List UInt8}{all:Nat}(h:l_ (eP D) number at_=some (B,all)):
  Calls prog 97 #[.pointer (some ⟨d,0,none⟩),.int .i64 number,.int .i64 at_] w0 λe w'=>∃a c,e=.returned (.tuple #[.slice a B.length c,.int .i64 all,.bool true])∧Inv (eF d mr wb D).own w0 w' [EJ 5 (.slice a B.length c) (B.map bv),eF d mr wb D]:=by
 unfold l_ at h
 split at h
 ·rename_i b n hp
  obtain⟨r,hr,hB⟩:=Option.map_eq_some_iff.1 h;simp only[Prod.mk.injEq]at hB;obtain⟨hB,rfl⟩:=hB;obtain⟨l1,l2,l3⟩:=qb hp;have l2n:1<=n:=by omega
  replace hp:=HD hp;replace hr:=HD hr;replace hB:=HD hB;clear h l2;go_enter func97,ntmps97;go_upto_region 5 with(first|go_at_call 98;refine KC jy hI (j6 _ d mr wb D (hI.at_ aA) hD hwl _) ?_;intro w1 hI|go_at_call 134;(with_reducible refine(sO _ _ (kH hD _) _ _ hp.out).mono ?_);rintro e w2 ⟨pa,pc,rfl,hJ⟩;replace hI:=hI.seq hJ;simp only[List.cons_append,List.nil_append,List.append_nil]at hI;clear hJ)
  go_loopg [9,12] (n-1) (λkk s9 s12 wr=>∃(k:Nat) (cur r':List UInt8) (a:Option Addr) (c:Nat),kk=n-k∧1<=k∧k<=n∧s12=.int .i64 (k:Int)∧s9=.slice a cur.length c∧cur.length<=52*k∧Hid (oH (eP D) number at_ n (n-k) k=some r')∧Hid (cur++r'=B)∧Inv (eF d mr wb D).own w0 wr [EJ 5 (.slice a cur.length c) (cur.map bv),eF d mr wb D])
  case atStart=>exact⟨1,b,r,_,_,rfl,by omega,by omega,rfl,rfl,by omega,hr,hB,hI⟩
  case round=>
   clear hI hp hr hB;obtain⟨k,cur,r',a,c,rfl,hk1,hkn,rfl,rfl,hcl,hr,hB,hI⟩:=hrel;by_cases hkk:k=n
   ·subst hkk
    go_wp2_with(fail);have hBB:cur=B:=by
     have h1:=hr.out;rw[Nat.sub_self,oH]at h1;cases h1;rw[<-hB.out,List.append_nil]
    subst hBB;exact bodyPost_ret (results_tmp3 rfl _ _ _) rfl ⟨_,_,rfl,hI⟩
   ·have hk2:k<n:=by omega
    have hd:decide ((k:Int) < (n:Int))=true:=by simp;omega
    have hr2:=hr.out;rw[show n-k=(n- (k+1))+1 from by omega,oH]at hr2
    split at hr2
    ·rename_i p2 a2 hp
     split at hr2
     ·rename_i hae
      subst hae;obtain⟨r2,hr3,hr4⟩:=Option.map_eq_some_iff.1 hr2;have hp2:=(qb hp).1;replace hp:=HD hp;clear hr2 hr;replace hr3:=HD hr3;replace hr4:=HD hr4;go_wp2_with(first|go_at_call 98;refine KC iR hI (j6 _ d mr wb D (hI.at_ aM) hD hwl _) ?_;intro w1 hI|go_at_call 134;(with_reducible refine(sO _ _ (kH hD _) _ _ hp.out).mono ?_);rintro e w2 ⟨pa,pc,rfl,hJ⟩;replace hI:=hI.seq hJ;simp only[List.cons_append,List.nil_append,List.append_nil]at hI;clear hJ|(with_reducible refine q_ hI RF RF (tK.out (t:=63)) (by intro r';exact aR.there aR.here) (CW (hI.sat _ aA)) (by rw[List.length_map]) (qY _) MX OM ?_;intro a' c' w hI)|refine YL ?_);go_roundg (a2- (k+1))
      case measure=>omega
      case rel=>exact⟨k+1,cur++p2,r2,_,_,rfl,by omega,by omega,rfl,by rw[List.length_append],by rw[List.length_append];omega,hr3,HD (by rw[List.append_assoc,hr4.out,hB.out]),by rw[List.map_append,List.length_append];exact hI.tl⟩
     ·cases hr2
    ·cases hr2
 ·cases h
theorem Rh(h:l_ (eP D) number at_=none):
  Calls prog 97 #[.pointer (some ⟨d,0,none⟩),.int .i64 number,.int .i64 at_] w0 λe w'=>e=.returned (.tuple #[.slice none 0 0,.int .i64 0,.bool false])∧Inv (eF d mr wb D).own w0 w' [eF d mr wb D]:=by
 unfold l_ at h
 split at h
 ·rename_i b n hp
  have hr:=Option.map_eq_none_iff.1 h;obtain⟨l1,l2,l3⟩:=qb hp;have l2n:1<=n:=by omega
  replace hp:=HD hp;replace hr:=HD hr;clear h l2;go_enter func97,ntmps97;go_upto_region 5 with(first|go_at_call 98;refine KC jy hI (j6 _ d mr wb D (hI.at_ aA) hD hwl _) ?_;intro w1 hI|go_at_call 134;(with_reducible refine(sO _ _ (kH hD _) _ _ hp.out).mono ?_);rintro e w2 ⟨pa,pc,rfl,hJ⟩;replace hI:=hI.seq hJ;simp only[List.cons_append,List.nil_append,List.append_nil]at hI;clear hJ)
  go_loopg [9,12] (n-1) (λkk s9 s12 wr=>∃(k:Nat) (cur:List UInt8) (a:Option Addr) (c:Nat),kk=n-k∧1<=k∧k<=n∧s12=.int .i64 (k:Int)∧s9=.slice a cur.length c∧cur.length<=52*k∧Hid (oH (eP D) number at_ n (n-k) k=none)∧Inv (eF d mr wb D).own w0 wr [EJ 5 (.slice a cur.length c) (cur.map bv),eF d mr wb D])
  case atStart=>exact⟨1,b,_,_,rfl,by omega,by omega,rfl,rfl,by omega,hr,hI⟩
  case round=>
   clear hI hp hr;obtain⟨k,cur,a,c,rfl,hk1,hkn,rfl,rfl,hcl,hr,hI⟩:=hrel;by_cases hkk:k=n
   ·subst hkk
    have h1:=hr.out;rw[Nat.sub_self,oH]at h1;cases h1
   ·have hk2:k<n:=by omega
    have hd:decide ((k:Int) < (n:Int))=true:=by simp;omega
    have hr2:=hr.out;rw[show n-k=(n- (k+1))+1 from by omega,oH]at hr2
    split at hr2
    ·rename_i p2 a2 hp
     have hp2:=(qb hp).1;replace hp:=HD hp
     split at hr2
     ·rename_i hae
      subst hae;have hr3:=HD (Option.map_eq_none_iff.1 hr2);clear hr2 hr;go_wp2_with(first|go_at_call 98;refine KC iR hI (j6 _ d mr wb D (hI.at_ aM) hD hwl _) ?_;intro w1 hI|go_at_call 134;(with_reducible refine(sO _ _ (kH hD _) _ _ hp.out).mono ?_);rintro e w2 ⟨pa,pc,rfl,hJ⟩;replace hI:=hI.seq hJ;simp only[List.cons_append,List.nil_append,List.append_nil]at hI;clear hJ|(with_reducible refine q_ hI RF RF (tK.out (t:=63)) (by intro r';exact aR.there aR.here) (CW (hI.sat _ aA)) (by rw[List.length_map]) (qY _) MX OM ?_;intro a' c' w hI)|refine YL ?_);go_roundg (a2- (k+1))
      case measure=>omega
      case rel=>exact⟨k+1,cur++p2,_,_,rfl,by omega,by omega,rfl,by rw[List.length_append],by rw[List.length_append];omega,hr3,by rw[List.map_append,List.length_append];exact hI.tl⟩
     ·rename_i hae
      have hde:((a2:Int)==(n:Int))=false:=by simp;omega
      clear hr2 hr hae;go_wp2_with(first|go_at_call 98;refine KC iR hI (j6 _ d mr wb D (hI.at_ aM) hD hwl _) ?_;intro w1 hI|go_at_call 134;(with_reducible refine(sO _ _ (kH hD _) _ _ hp.out).mono ?_);rintro e w2 ⟨pa,pc,rfl,hJ⟩;replace hI:=hI.seq hJ;simp only[List.cons_append,List.nil_append,List.append_nil]at hI;clear hJ|refine YL ?_);exact bodyPost_ret (results_tmp3 rfl _ _ _) rfl ⟨rfl,hI.sub (.cons _ (.cons _ (.refl _)))⟩
    ·rename_i hp
     replace hp:=HD hp;clear hr2 hr;go_wp2_with(first|go_at_call 98;refine KC iR hI (j6 _ d mr wb D (hI.at_ aM) hD hwl _) ?_;intro w1 hI|go_at_call 134;(with_reducible refine(Jz _ _ (kH hD _) _ _ hp.out).mono ?_);rintro e w2 ⟨rfl,hJ⟩;replace hI:=hI.call hJ;clear hJ);exact bodyPost_ret (results_tmp3 rfl _ _ _) rfl ⟨rfl,hI.tl⟩
 ·rename_i hp
  replace hp:=HD hp;clear h;go_enter func97,ntmps97;go_wp2_with(first|go_at_call 98;refine KC jy hI (j6 _ d mr wb D (hI.at_ aA) hD hwl _) ?_;intro w1 hI|go_at_call 134;(with_reducible refine(Jz _ _ (kH hD _) _ _ hp.out).mono ?_);rintro e w2 ⟨rfl,hJ⟩;replace hI:=hI.call hJ;clear hJ);exact bodyPost_ret (results_tmp3 rfl _ _ _) rfl ⟨rfl,hI⟩
end
def Bh(n:Nat):List UInt8:=[UInt8.ofNat (n/16777216),UInt8.ofNat (n/65536),UInt8.ofNat (n/256),UInt8.ofNat n]
def uG(b:List UInt8)(place:Nat):List UInt8:=(b.drop (place*52)).take 52
def FI(number all place:Nat)(part:List UInt8):List UInt8:=Bh number++([UInt8.ofNat place,UInt8.ofNat all,UInt8.ofNat part.length]++(part++jR (52-part.length)))
def wm(number all place:Nat)(part:List UInt8):List UInt8:=A.xJ (FI number all place part)++[1]
def jd(number:Nat)(b:List UInt8)(n:Nat):List (List UInt8):=(List.range n).map λp=>wm number (fI b.length) p (uG b p)
def nK(rs:List aG):aG:=⟨owned rs,λw=>∀r∈rs,r.sat w,λw w' h hs r hr=>r.loc w w' (λk hk=>h k (List.mem_flatMap.2 ⟨r,hr,hk⟩)) (hs r hr)⟩
abbrev El:=Option Addr×Nat×List UInt8
def sv(p:El):Value:=.slice p.1 p.2.2.length p.2.1
def eo(p:El):aG:=EJ 5 (sv p) (p.2.2.map bv)
def bss(a:Option Addr)(c:Nat)(els:List El):aG:=nK (bf 63 1 (.slice a els.length c) els.length (els.map sv)::els.map eo)
def M9(els:List El):List (List UInt8):=els.map λp=>p.2.2
theorem Inv.perm{T:List Nat}{w0 w:World}{m m':List aG}(h:Inv T w0 w m)(hp:m'.Perm m):Inv T w0 w m':=h.turn (λhs y hy=>hs y (hp.subset hy)) (hp.flatMap_right _)
theorem zR{T:List Nat}{w0 w:World}{a:Option Addr}{c:Nat}{els:List El}{m:List aG}(h:Inv T w0 w (bss a c els::m)):Inv T w0 w (bf 63 1 (.slice a els.length c) els.length (els.map sv)::nK (els.map eo)::m):=
 h.turn (λhs y hy=>by
  have h1:=hs (bss a c els) SI;simp only[List.mem_cons]at hy;rcases hy with rfl|rfl|hy
  ·exact h1 _ SI
  ·exact λr hr=>h1 r (by simp only[List.mem_cons];exact .inr hr)
  ·exact hs _ (by simp[hy])) (by simp[owned,nK,bss])
theorem JA{T:List Nat}{w0 w:World}{a:Option Addr}{c:Nat}{els:List El}{m:List aG}(h:Inv T w0 w (bf 63 1 (.slice a els.length c) els.length (els.map sv)::nK (els.map eo)::m)):Inv T w0 w (bss a c els::m):=
 h.turn (λhs y hy=>by
  rcases List.mem_cons.1 hy with rfl|hy
  ·intro r hr
   rcases List.mem_cons.1 hr with rfl|hr
   ·exact hs _ SI
   ·exact hs (nK (els.map eo)) SI r hr
  ·exact hs _ (by simp[hy])) (by simp[owned,nK,bss])
theorem FJ{T:List Nat}{w0 w:World}{rs m:List aG}{r:aG}(h:Inv T w0 w (nK rs::r::m)):Inv T w0 w (nK (rs++[r])::m):=
 h.turn (λhs y hy=>by
  rcases List.mem_cons.1 hy with rfl|hy
  ·intro x hx
   rcases List.mem_append.1 hx with hx|hx
   ·exact hs (nK rs) SI x hx
   ·rw[List.mem_singleton.1 hx];exact hs r SI
  ·exact hs _ (by simp[hy])) (by simp[owned,nK])
theorem Zy{T:List Nat}{w0 w:World}{a a2:Option Addr}{c c2:Nat}{els:List El}{bs:List UInt8}{n n2:Nat}{m:List aG}(hn:n=els.length+1)(hn2:n2=bs.length)(h2:0<n2)
  (h:Inv T w0 w (bf 5 1 (.slice a2 n2 c2) n2 (bs.map bv)::bf 63 1 (.slice a n c) n (els.map sv++[.slice a2 n2 c2])::nK (els.map eo)::m)):Inv T w0 w (bss a c (els++[(a2,c2,bs)])::m):=by
 subst hn hn2;obtain⟨g,rfl⟩:=gu h aA (by simpa using h2);have h3:=Jy h (k:=0) (q:=bs.length) OM;refine JA ?_;rw[List.length_append,List.map_append,List.map_append];have hb:((bs.map bv).drop 0).take bs.length=bs.map bv:=by rw[List.drop_zero];exact List.take_of_length_le SI
 rw[hb]at h3;have h4:=FJ (h3.perm ((List.Perm.swap _ _ _).trans (.cons _ (List.Perm.swap _ _ _))));exact h4.jr
theorem Inv.Zz{T:List Nat}{w0 w:World}{m:List aG}(h:Inv T w0 w m):Inv T w0 w (bss none 0 []::m):=
 h.turn (λhs y hy=>by
  rcases List.mem_cons.1 hy with rfl|hy
  ·intro r hr
   simp only[List.map_nil,List.mem_singleton]at hr;subst hr;exact⟨rfl,.inl ⟨rfl,rfl⟩⟩
  ·exact hs y hy) (by simp[owned,bss,nK,bf,Value.ownBlock])
theorem C9{T:List Nat}{w0 w:World}{m:List aG}{b e:Nat}{s:List UInt8}(hI:Inv T w0 w m)(hm:blk b e (s.map bv)∈m):Rd w (some ⟨b,0,none⟩) (s.map bv):=by
 have:=rf (n:=s.length) hI hm
 rwa [List.take_of_length_le (Nat.le_refl _)]at this
theorem af9(w0:World)(a:Option Addr)(n k:Nat)(hk:n+4=k)(c:Nat)(bs:List UInt8)(hn:bs.length=n)(hr:Rd w0 a (bs.map bv))(hl:n<=100000):
  Calls prog 187 #[.slice a n c] w0 λe w'=>∃g c',e=.returned (.slice (some ⟨g,0,none⟩) k c')∧Inv [] w0 w' [bf 5 1 (.slice (some ⟨g,0,none⟩) k c') k ((A.xJ bs).map bv)]:=by
 subst hn hk;exact A.Zq w0 a c bs hr hl
instance:tK prog 138 63 1 24 (.slice none 0 0):=⟨⟨by kernel_rfl,by kernel_rfl,by kernel_rfl,by decide⟩⟩
section
variable {P:Program}{ops:Array Oper}{Q:Exit->Act->World->Prop}{a:Act}{rest:List Oper}{T:List Nat}{w0 w:World}{m m':List aG}{dst:Option Tmp}{ty:TypeId}{pos:String}{af:Array Edge}
theorem mg{b off e:Nat}{cs:List Value}{x y:Operand}{z:Int}{u:UInt8}(hI:Inv T w0 w m)(hx:a.eval x=.pointer (some ⟨b,off,none⟩))(hv:a.eval y=.int .u8 z)(hz:z=(u.toNat:Int))(hm:blk b e cs∈m)
  (hu:aR (blk b e cs) (blk b e (cs.set off (bv u))) m m') (hl:off<cs.length)
  (k:∀w',Inv T w0 w' m'->wpList prog ops Q rest (a.put dst undef) w'):wpList prog ops Q (⟨dst,.store 5 x y,ty,pos,af,none⟩::rest) a w:=
 aN hI hx (cs:=cs) (vs:=[bv u]) (by rw[hv,hz];rfl) (by rw[show splice cs off [bv u]=cs.set off (bv u)from by rw[List.set_eq_take_append_cons_drop,if_pos hl];simp[splice]];exact hu) A.af6 rfl hl (by simp[bv,Value.oneCell']) k
theorem ER{x y:Operand}(hI:Inv T w0 w m)(hx:a.eval x=.int .i64 59)(hy:a.eval y=.int .i64 59)
  (k:∀b w',Inv T w0 w' (blk b 5 ((jR 59).map bv)::m)->wpList prog ops Q rest (a.put dst (.slice (some ⟨b,0,none⟩) 59 59)) w'):
  wpList prog ops Q (⟨dst,.makeSlice 63 x y,ty,pos,af,none⟩::rest) a w:=
 wpList_plain rfl λK hK=>by
  have hT:uY prog 63 5 1 1 (.int .u8 0):=tK.out;obtain⟨i,hi,hz,h1,h2⟩:=hT.info;have hr:=run_make (P:=prog) w 63 5 i _ hT.und hi hz .i64 .i64 59 59 OM (Int.le_refl _) (by rw[h2];omega) OM;have hmd:madeCells (Value.int .u8 0).cells ((59:Int).toNat*i.size)=((jR 59).map bv).toArray:=by
   rw[h1];apply Array.ext
   ·simp[madeCells,jR]
   ·intro i _ _
    simp only[madeCells,jR,List.getElem_toArray,List.getElem_map,List.getElem_replicate,Array.getElem_map];show(#[Value.int IntKind.u8 0]:Array Value)[(Array.range (Int.toNat 59*1))[i] %1]! =bv 0;rw[Nat.mod_one];rfl
  rw[hmd]at hr;unfold Oper.wp execOp;simp only[hx,hy,Sem.run_bind,hr,Result.andThen_ok,Sem.run_pure];refine hK _ _ (k w.heap.size (w.alloc (.cells ((jR 59).map bv).toArray 5)) ?_);have hsz:(w.alloc (.cells ((jR 59).map bv).toArray 5)).heap.size=w.heap.size+1:=by show(w.heap.push _).size=_;simp
  exact hI.new ⟨rfl,rfl,rfl,by omega,λj hj _=>(MapKept.heap_alloc w _).2 j hj⟩ (MapKept.heap_alloc w _).1 (by intro j hj;simp[blk]at hj;omega) (by simp[blk])
end
section
variable {P:Program}{ops:Array Oper}{Q:Exit->Act->World->Prop}{ac:Act}{rest:List Oper}{w:World}{dst:Option Tmp}{ty:TypeId}{pos:String}{af:Array Edge}
theorem JB{x y:Operand}{u v z:Int}{t1 t2:TypeId}(hx:ac.eval x=.int .i64 u)(hy:ac.eval y=.int .i64 v)(hz:(if v<u then v else u)=z)(k:wpList P ops Q rest (ac.put dst (.int .i64 z)) w):
  wpList P ops Q (⟨dst,.call {callee:=.builtin .min,args:= #[x,y],argTypes:= #[t1,t2]},ty,pos,af,none⟩::rest) ac w:=
 wpList_plain rfl λK hK=>by
  unfold Oper.wp execOp;simp only[resolve,invoke,builtin,Sem.run_bind,Sem.run_pure,Result.andThen_ok,List.map_toArray,List.map_cons,List.map_nil,hx,hy,run_min_int2,hz];exact hK _ _ k
end
theorem yN(n i:Nat)(u:UInt8)(hu:(Bh n)[i]? =some u):(((Bh n).take i++jR (59-i)).map bv).set i (bv u)=((Bh n).take (i+1)++jR (59- (i+1))).map bv:=by
 match i,hu with
 |0,hu=>cases hu;rfl
 |1,hu=>cases hu;rfl
 |2,hu=>cases hu;rfl
 |3,hu=>cases hu;rfl
theorem ZE{w:World}{g off k q:Nat}{xs:List Value}(h:Rd w (some ⟨g,off,none⟩) xs):Rd w (some ⟨g,off+k,none⟩) ((xs.drop k).take q):=by
 intro j u hj;rw[List.getElem?_take]at hj
 split at hj
 ·rw[List.getElem?_drop]at hj
  obtain⟨b,o,hab,hc⟩:=h _ _ hj;cases hab;exact⟨_,_,rfl,by rw[Nat.add_assoc];exact hc⟩
 ·cases hj
theorem U3(number all place:Nat)(part:List UInt8)(h:part.length<=52):splice (bv (UInt8.ofNat (number/16777216))::bv (UInt8.ofNat (number/65536))::bv (UInt8.ofNat (number/256))::bv (UInt8.ofNat number)::bv (UInt8.ofNat place)::bv (UInt8.ofNat all)::bv (UInt8.ofNat part.length)::(jR 52).map bv) 7 (part.map bv)=(FI number all place part).map bv:=by
 simp only[splice,FI,Bh,List.map_append,List.map_cons,List.map_nil,List.length_map,List.take_succ_cons,List.take_zero,List.cons_append,List.nil_append];rw[Nat.add_comm 7];simp only[List.drop_succ_cons,jR,List.map_replicate,List.drop_replicate]
theorem JC(number all place:Nat)(part:List UInt8)(h:part.length<=52):(FI number all place part).length=59:=by
 simp[FI,Bh,jR];omega
theorem C_(number all place:Nat)(part:List UInt8)(h:part.length<=52):(wm number all place part).length=64:=by
 rw[wm,List.length_append,A.ny,JC _ _ _ _ h];rfl
theorem Hu(number:Nat)(b:List UInt8)(k:Nat):jd number b (k+1)=jd number b k++[wm number (fI b.length) k (uG b k)]:=by
 rw[jd,List.range_succ,List.map_append];rfl
section
variable (w0:World)(number:Nat)(ac4:number<=100000)(g off c:Nat)(b:List UInt8)(hr:Rd w0 (some ⟨g,off,none⟩) (b.map bv))(hc:b.length<=c)(hl:b.length<=3000)(hl1:1<=b.length)
include ac4 hr hc hl hl1
theorem JD:Calls prog 170 #[.int .i64 number,.slice (some ⟨g,off,none⟩) b.length c] w0 λe w'=>∃a' c' els,e=.returned (.slice a' els.length c')∧M9 els=jd number b (fI b.length)∧Inv [] w0 w' [bss a' c' els]:=by
 have hI:=Inv.start w0;obtain⟨N,hN⟩:=EH (fI b.length);obtain⟨L,hL⟩:=EQ b.length;have hN1:1<=N∧(N-1)*52<L∧L<=N*52:=by
  rw[<-hN.out,hL,fI];split<;>omega
 obtain⟨hN1,hN2,hN3⟩:=hN1;have hN':Hid (fI L=N):=by rw[<-hL];exact hN
 go_enter func170,ntmps170;go_upto_region 4 with(go_at_call 168;go_loud (refine KD hI (xK _ _ OM) ?_;intro w1 hI;(rw[hN'.out])))
 go_loopg [15,6] N (λkk s15 s6 wr=>∃(k:Nat) (a':Option Addr) (c':Nat) (els:List El),kk=N-k∧k<=N∧s15=.int .i64 (k:Int)∧s6=.slice a' els.length c'∧els.length=k∧Hid (M9 els=jd number b k)∧Inv [] w0 wr [bss a' c' els])
 case atStart=>exact⟨0,none,0,[],rfl,by omega,rfl,rfl,rfl,HD rfl,hI.Zz⟩
 case round=>
  clear hI;obtain⟨k,a',c',els,rfl,hk,rfl,rfl,hel,hB,hI⟩:=hrel;by_cases hkN:k=N
  ·subst hkN
   go_wp2_with(fail);go_ret;exact⟨_,_,els,rfl,by rw[hB.out,hN.out],hI⟩
  ·have hd:decide ((k:Int) < (N:Int))=true:=by simp;omega
   obtain⟨q,hq⟩:=EQ ((uG b k).length);have hq2:q=min 52 (L-k*52):=by rw[<-hq,uG,List.length_take,List.length_drop,hL]
   have hz:∀u:Int,u=((k:Int)+1)*52->(if(L:Int) <u then(L:Int)else u)=(k:Int)*52+(q:Int):=by intro u hu;split<;>omega
   have ac5:q<=52:=by omega
   have hqL:k*52+q<=L:=by omega
   have ajb:¬(c=k*52):=by have:k<=N-1:=(by omega);omega
   have ZF:=ZE (k:=k*52) (q:=52) hr;rw[<-List.map_drop,<-List.map_take]at ZF;replace hq2:=HD hq2;replace hq:=HD hq;go_upto_region 9 with(first|with_reducible refine JB RF RF (hz _ OM) ?_|(with_reducible refine ER hI RF RF ?_;intro bs w hI))
   go_loopg [29] 4 (λkk s29 wr=>∃(i:Nat),kk=4-i∧i<=4∧s29=.int .i64 (i:Int)∧Inv [] w0 wr [blk bs 5 (((Bh number).take i++jR (59-i)).map bv),bss a' c' els])
   case atStart=>exact⟨0,rfl,by omega,rfl,hI⟩
   case round=>
    clear hI;obtain⟨i,rfl,hi,rfl,hI⟩:=hrel;have hRl:((jR 52).map bv).length=52:=by simp[jR]
    match i,hi with
    |4,_=>
     have hcs:((Bh number).take 4++jR (59-4)).map bv=bv (UInt8.ofNat (number/16777216))::bv (UInt8.ofNat (number/65536))::bv (UInt8.ofNat (number/256))::bv (UInt8.ofNat number)::bv 0::bv 0::bv 0::(jR 52).map bv:=rfl;rw[hcs]at hI;have hfin:=HD (U3 number N k (uG b k) (by rw[hq.out];exact ac5));rw[hq.out]at hfin;clear hcs;go_upto_region 15 with(first|(with_reducible refine mg (u:=UInt8.ofNat k) hI RF RF (by rw[UInt8.toNat_ofNat'];omega) aA jy (by(simp only[List.length_cons,hRl];omega)) ?_;intro w hI;(try simp only[QS]at hI))|(with_reducible refine mg (u:=UInt8.ofNat N) hI RF RF (by rw[UInt8.toNat_ofNat'];omega) aA jy (by(simp only[List.length_cons,hRl];omega)) ?_;intro w hI;(try simp only[QS]at hI))|(with_reducible refine mg (u:=UInt8.ofNat q) hI RF RF (by rw[UInt8.toNat_ofNat'];omega) aA jy (by(simp only[List.length_cons,hRl];omega)) ?_;intro w hI;(try simp only[QS]at hI))|(with_reducible refine qX (xs:=(uG b k).map bv) (ys:=(uG b k).map bv) hI (tK.out (t:=63)) RF RF (hI.Jg ZF) (by rw[List.length_map,hq.out]) jy (by rw[List.take_of_length_le];rw[List.length_map,hq.out];omega) (by simp only[List.length_cons,hRl];omega) (qY _) ?_;intro w hI;rw[hfin.out]at hI))
     have htl:=HD (JC number N k (uG b k) (by rw[hq.out];exact ac5));replace hI:=zR hI.jr;rw[hel]at hI;go_upto_region 16 with(first|go_at_call 187;refine KO hI (af9 _ _ 59 63 rfl 59 _ htl.out (C9 hI aX) OM) ?_;intro gp cp w1 hI|(with_reducible refine jX (v0:=.int .u8 1) hI (tK.out (t:=63)) RF RF ?_;intro b1 w hI)|(with_reducible refine az (q:=1) hI RF RF (tK.out (t:=63)) (by intro r';exact aR.there aR.here) (hI.rd aA) RF (by intro u hu;cases List.mem_singleton.1 hu;with_unfolding_all rfl) MX OM ?_;intro a2 c2 w hI;(try simp only[Nat.reduceAdd]at hI))|(with_reducible refine jY hI (tK.out (t:=138)) RF ?_;intro b2 w hI;(try simp only[Nat.reduceAdd]at hI))|(with_reducible refine az (q:=1) hI RF RF (tK.out (t:=138)) (by intro r';exact aR.there (aR.there (aR.there aR.here))) (hI.rd aA) RF (by intro u hu;cases List.mem_singleton.1 hu;with_unfolding_all rfl) MX OM ?_;intro a3 c3 w hI))
     go_wp2_with(fail);rw[show(A.xJ (FI number N k (uG b k))).map bv++[Value.int .u8 1]=(wm number N k (uG b k)).map bv from by rw[wm,List.map_append];rfl]at hI;have hnew:=Zy (n:=k+1) (n2:=64) OM (C_ number N k (uG b k) (by rw[hq.out];exact ac5)).symm OM (hI.sub (.cons _ (.cons _ (.cons_cons _ (.cons_cons _ (.cons_cons _ (List.nil_sublist _)))))));go_roundg (N- (k+1))
     case measure=>omega
     case rel=>exact⟨k+1,_,_,_,rfl,by omega,rfl,by rw[List.length_append,hel];rfl,by rw[List.length_append,hel];rfl,HD (by rw[Hu,<-hB.out,hN.out,M9,List.map_append];rfl),hnew⟩
    |3,_=>
     have hns:=HD (yN number 3 _ rfl);go_wp2_with((with_reducible refine mg (u:=UInt8.ofNat number) hI RF RF (by rw[UInt8.toNat_ofNat'];omega) aA jy (by(simp[jR,Bh];done)) ?_;intro w hI;(try simp only[QS]at hI)));rw[hns.out]at hI;go_roundg (4-4)
     case measure=>omega
     case rel=>exact⟨4,rfl,by omega,rfl,hI⟩
    |2,_=>
     have hns:=HD (yN number 2 _ rfl);go_wp2_with((with_reducible refine mg (u:=UInt8.ofNat (number/256)) hI RF RF (by rw[UInt8.toNat_ofNat'];omega) aA jy (by(simp[jR,Bh];done)) ?_;intro w hI;(try simp only[QS]at hI)));rw[hns.out]at hI;go_roundg (4-3)
     case measure=>omega
     case rel=>exact⟨3,rfl,by omega,rfl,hI⟩
    |1,_=>
     have hns:=HD (yN number 1 _ rfl);go_wp2_with((with_reducible refine mg (u:=UInt8.ofNat (number/65536)) hI RF RF (by rw[UInt8.toNat_ofNat'];omega) aA jy (by(simp[jR,Bh];done)) ?_;intro w hI;(try simp only[QS]at hI)));rw[hns.out]at hI;go_roundg (4-2)
     case measure=>omega
     case rel=>exact⟨2,rfl,by omega,rfl,hI⟩
    |0,_=>
     have hns:=HD (yN number 0 _ rfl);go_wp2_with((with_reducible refine mg (u:=UInt8.ofNat (number/16777216)) hI RF RF (by rw[UInt8.toNat_ofNat'];omega) aA jy (by(simp[jR,Bh];done)) ?_;intro w hI;(try simp only[QS]at hI)));rw[hns.out]at hI;go_roundg (4-1)
     case measure=>omega
     case rel=>exact⟨1,rfl,by omega,rfl,hI⟩
end
def lcs(d cnt used:Nat):List Value:=[.pointer (some ⟨d,0,none⟩),.int .i64 (cnt:Int),.int .i64 (used:Int)]
def lg(l d mr:Nat)(wb:Option Nat)(D:DS)(cnt used:Nat):aG:=two (blk l 185 (lcs d cnt used)) (eF d mr wb D)
def iT(D:DS)(at_:Int):List (List UInt8)->DS×Int
 | []=>(D,0)
 |s::r=>if(bK D at_ s).2=0 then iT (bK D at_ s).1 (at_+1) r else bK D at_ s
def cO(D:DS)(cnt used:Nat)(b:List UInt8):DS×Nat×Nat×Int:=
 if 3000<b.length then(D,cnt,used,2)
 else if 2048- (used:Int) <fI b.length then(D,cnt,used,3)
 else
  let r:=iT D used (jd (cnt+1) b (fI b.length))
  if r.2=0 then
   let q:=di r.1
   if q.2=0 then(q.1,cnt+1,used+fI b.length,0)else(q.1,cnt,used,q.2)
  else(r.1,cnt,used,r.2)
theorem wo{D:DS}(h:wQ D)(at_:Int){bs:List UInt8}:wQ (bK D at_ bs).1:=by
 unfold bK
 split
 ·exact h
 ·rename_i hc
  split
  ·exact⟨h.UW,h.UX,h.l0⟩
  ·rename_i hd
   refine⟨λp hp=>?_,h.UX,?_⟩
   ·rcases List.mem_append.1 hp with hp|hp
    ·exact h.UW p hp
    ·rw[List.mem_singleton.1 hp];exact Pm OM
   ·have:=h.l0
    simp only
    split
    ·rename_i ha
     have:D.left≠0:=λh0=>hd (.inr ⟨ha,h0⟩)
     omega
    ·exact this
theorem U4{S:Int->List UInt8}{ws:List (Int×List UInt8)}(h1:∀k,(S k).length=64)(h2:∀p∈ws,p.2.length=64):∀k,(pE S ws k).length=64:=by
 unfold pE
 induction ws generalizing S with
 |nil=>exact h1
 |cons p ws ih=>
  rw[List.foldl_cons];refine ih (λk=>?_) (λq hq=>h2 q (by simp[hq]));unfold tX
  split
  ·exact h2 p SI
  ·exact h1 k
theorem Da{D:DS}(h:wQ D):wQ (di D).1:=by
 unfold di
 split
 ·exact h
 ·refine⟨λp hp=>by simp at hp,λk=>?_,h.l0⟩
  exact U4 h.UX h.UW k
theorem yO(D:DS)(at_:Int)(bs:List UInt8):(bK D at_ bs).1.waits.length<=D.waits.length+1:=by
 unfold bK
 split
 ·simp
 ·split<;>simp
theorem JE(w0:World)(l d cnt used:Nat)(hu:used<=100000)(hI:Inv (blk l 185 (lcs d cnt used)).own w0 w0 [blk l 185 (lcs d cnt used)]):
  Calls prog 169 #[.pointer (some ⟨l,0,none⟩)] w0 λe w'=>e=.returned (.int .i64 (2048- (used:Int)))∧Inv (blk l 185 (lcs d cnt used)).own w0 w' [blk l 185 (lcs d cnt used)]:=by
 unfold lcs at hI|-;go_enter func169,ntmps169;go_wp2_with(refine YL ?_);go_ret;exact⟨rfl,hI⟩
theorem sP{T:List Nat}{w0 w:World}{l d mr:Nat}{wb:Option Nat}{D:DS}{cnt used:Nat}{y:aG}(h:Inv T w0 w [blk l 185 (lcs d cnt used),eF d mr wb D,y]):Inv T w0 w [two (lg l d mr wb D cnt used) y]:=
 Inv.dO (Inv.dO h)
theorem Ri(w0:World)(number:Nat)(z:Int)(hz:z=(number:Int))(ac4:number<=100000)(g off c:Nat)(b:List UInt8)(hr:Rd w0 (some ⟨g,off,none⟩) (b.map bv))(hc:b.length<=c)(hl:b.length<=3000)(hl1:1<=b.length){N:Nat}(hN:Hid (fI b.length=N)):
  Calls prog 170 #[.int .i64 z,.slice (some ⟨g,off,none⟩) b.length c] w0 λe w'=>∃a' c' els,e=.returned (.slice a' els.length c')∧M9 els=jd number b N∧Inv [] w0 w' [bss a' c' els]:=by
 subst hz;rw[<-hN.out];exact JD w0 number ac4 g off c b hr hc hl hl1
theorem yP(number:Nat)(b:List UInt8){N:Nat}:(jd number b N).length=N∧∀s∈jd number b N,s.length=64:=by
 refine⟨by simp[jd],λs hs=>?_⟩;obtain⟨p,_,rfl⟩:=List.mem_map.1 hs;exact C_ _ _ _ _ (by rw[uG,List.length_take];omega)
section
variable (w0:World)(l d mr:Nat)(wb:Option Nat)(D:DS)(cnt used:Nat)(y:aG)(hI:Inv (two (lg l d mr wb D cnt used) y).own w0 w0 [two (lg l d mr wb D cnt used) y])(hD:wQ D)(hwl:D.waits.length<=90000)(hcnt:cnt<=90000)(af_:used<=2048)
variable (g off cp:Nat)(b:List UInt8)(hry:∀w,y.sat w->Rd w (some ⟨g,off,none⟩) (b.map bv))(hc:b.length<=cp)(hl1:1<=b.length)
include hI hD hwl hcnt af_ hry hc hl1
theorem ZG:Calls prog 150 #[.pointer (some ⟨l,0,none⟩),.slice (some ⟨g,off,none⟩) b.length cp] w0 λe w'=>∃kS,e=.returned (.int .i64 (cO D cnt used b).2.2.2)∧
  Inv (two (lg l d mr wb D cnt used) y).own w0 w' [two (lg l d mr kS (cO D cnt used b).1 (cO D cnt used b).2.1 (cO D cnt used b).2.2.1) y]:=by
 replace hI:=hI.dz.dz;by_cases h3:3000<b.length
 ·have hF:Hid (cO D cnt used b=(D,cnt,used,2)):=HD (by rw[cO,if_pos h3])
  have hd:decide ((3000:Int) < (b.length:Int))=true:=by simp;omega
  rw[hF.out];go_enter func150,ntmps150;go_wp2_with(fail);go_ret;exact⟨_,rfl,sP hI⟩
 ·have hd:decide ((3000:Int) < (b.length:Int))=false:=by simp;omega
  obtain⟨N,hN⟩:=EH (fI b.length);have ajc:N<=60:=by rw[<-hN.out,fI];split<;>omega
  by_cases hr:2048- (used:Int) < (N:Int)
  ·have hF:Hid (cO D cnt used b=(D,cnt,used,3)):=HD (by rw[cO,if_neg h3,hN.out,if_pos hr])
   have hd2:decide (2048- (used:Int) < (N:Int))=true:=by simp;omega
   rw[hF.out];go_enter func150,ntmps150;go_wp2_with(first|go_at_call 168;refine KD hI (xK _ _ OM) ?_;intro w1 hI;(rw[hN.out])|go_at_call 169;refine KC jy hI (JE _ l d cnt used OM (hI.at_ aA)) ?_;intro w1 hI);go_ret;exact⟨_,rfl,sP hI⟩
  ·have hd2:decide (2048- (used:Int) < (N:Int))=false:=by simp;omega
   obtain⟨F,hF⟩:=EH (cO D cnt used b);rw[hF.out];have hF2:Hid ((let r:=iT D used (jd (cnt+1) b N);if r.2=0 then(let q:=di r.1;if q.2=0 then(q.1,cnt+1,used+N,0)else(q.1,cnt,used,q.2))else(r.1,cnt,used,r.2))=F):=HD (by rw[<-hF.out,cO,if_neg h3,hN.out,if_neg hr]);clear hF;go_enter func150,ntmps150;go_upto_region 7 with(first|go_at_call 168;refine KD hI (xK _ _ OM) ?_;intro w1 hI;(rw[hN.out])|go_at_call 169;refine KC jy hI (JE _ l d cnt used OM (hI.at_ aA)) ?_;intro w1 hI|go_at_call 170;(with_reducible refine(Ri _ (cnt+1) _ OM OM g off cp b (hry _ (hI.sat y aX)) OM OM OM hN).mono ?_);rintro e w1 ⟨a',c',els,rfl,hB,hJ⟩;replace hI:=hI.seq hJ;simp only[List.cons_append,List.nil_append]at hI;clear hJ|refine YL ?_)
   obtain⟨hS1,hS2⟩:=yP (cnt+1) b (N:=N);obtain⟨ss,hss⟩:=EQ (jd (cnt+1) b N);rw[hss]at hS1 hS2 hF2 hB;have hel:els.length=N:=by rw[<-hS1,<-hB,M9,List.length_map]
   rw[hel];replace hI:=zR hI;rw[hel]at hI;replace hI:=Inv.dO (hI.perm (m':=[eF d mr wb D,nK (els.map eo),bf 63 1 (.slice a' N c') N (els.map sv),blk l 185 (lcs d cnt used),y]) (by
    refine List.Perm.trans ?_ (List.Perm.swap _ _ _);exact(List.perm_middle (l₁:=[nK (els.map eo),bf 63 1 (.slice a' N c') N (els.map sv),blk l 185 (lcs d cnt used)]) (a:=eF d mr wb D) (l₂:=[y])).symm))
   go_loopg [28] N (λkk s28 wr=>∃(k:Nat) (kS:Option Nat) (D':DS),kk=N-k∧k<=N∧s28=.int .i64 (k:Int)∧wQ D'∧D'.waits.length<=D.waits.length+k∧Hid (iT D used ss=iT D' ((used:Int)+k) (ss.drop k))∧Inv (two (lg l d mr wb D cnt used) y).own w0 wr [two (eF d mr kS D') (nK (els.map eo)),bf 63 1 (.slice a' N c') N (els.map sv),blk l 185 (lcs d cnt used),y])
   case atStart=>exact⟨0,wb,D,rfl,by omega,rfl,hD,by omega,HD SI,hI⟩
   case round=>
    clear hI;obtain⟨k,kS,D',rfl,hk,rfl,hD',ahY,hP,hI⟩:=hrel;by_cases hkN:k=N
    ·subst hkN
     have hPv:iT D used ss=(D',0):=by rw[hP.out,List.drop_of_length_le OM];rfl
     replace hI:Inv (two (lg l d mr wb D cnt used) y).own w0 wr [eF d mr kS D',blk l 185 (lcs d cnt used),y]:=hI.dz.sub (.cons_cons _ (.cons _ (.cons _ (.refl _))));obtain⟨D3,e3,hs⟩:∃D3 e3,Hid (di D'=(D3,e3)):=⟨_,_,HD rfl⟩;unfold lcs at hI;by_cases he:e3=0
     ·subst he
      have U5:Hid (F=(D3,cnt+1,used+k,0)):=HD (by rw[<-hF2.out];simp[hPv,hs.out]);clear hPv hF2;go_wp2_with(first|go_at_call 96;refine KG hI (p_ _ d mr kS D' (hI.at_ aA) hD' OM) ?_;intro L8 w1 hI;(rw[hs.out]at hI|-);(simp only at hI|-)|refine YL ?_|refine YT ?_;intro w hI;(try simp only[QS]at hI));go_ret;rw[U5.out];exact⟨_,rfl,sP hI.jr⟩
     ·have hde:(e3==0)=false:=by simpa using he
      have U5:Hid (F=(D3,cnt,used,e3)):=HD (by rw[<-hF2.out];simp[hPv,hs.out,he]);clear hPv hF2 he;go_wp2_with(first|go_at_call 96;refine KG hI (p_ _ d mr kS D' (hI.at_ aA) hD' OM) ?_;intro L8 w1 hI;(rw[hs.out]at hI|-);(simp only at hI|-)|refine YL ?_);go_ret;rw[U5.out];exact⟨_,rfl,sP hI.jr⟩
    ·have hkl:k<N:=by omega
     have hd3:decide ((k:Int) < (N:Int))=true:=by simp;omega
     obtain⟨⟨pa,pc,pb⟩,hp⟩:∃p,els[k]? =some p:=⟨_,List.getElem?_eq_getElem OM⟩;have hsk:ss[k]? =some pb:=by rw[<-hB,M9,List.getElem?_map,hp];rfl
     have hpl:=HD (hS2 pb (List.mem_of_getElem? hsk));have hld:(els.map sv)[k]? =some (.slice pa 64 pc):=by rw[List.getElem?_map,hp,<-hpl.out];rfl
     have hpb:∀w,(nK (els.map eo)).sat w->Rd w pa (pb.map bv):=λw h=>CW (h (eo (pa,pc,pb)) (List.mem_map.2 ⟨_,List.mem_of_getElem? hp,rfl⟩))
     have hdr:ss.drop k=pb::ss.drop (k+1):=by
      obtain⟨h1,h2⟩:=List.getElem?_eq_some_iff.1 hsk;rw[List.drop_eq_getElem_cons h1,h2]
     obtain⟨D2,e2,hw⟩:∃D2 e2,Hid (bK D' ((used:Int)+(k:Int)) pb=(D2,e2)):=⟨_,_,HD rfl⟩;have hD2:wQ D2:=by have:=wo hD' ((used:Int)+(k:Int)) (bs:=pb);rwa [hw.out]at this
     have hw2:=yO D' ((used:Int)+(k:Int)) pb;rw[hw.out]at hw2;simp only at hw2;have hPn:iT D used ss=if e2=0 then iT D2 ((used:Int)+(k:Int)+1) (ss.drop (k+1))else(D2,e2):=by rw[hP.out,hdr,iT,hw.out]
     obtain⟨ga,rfl⟩:∃ga,a'=some ⟨ga,0,none⟩:=gu hI aM (by rw[List.length_map];omega);unfold lcs at hI;clear hdr hsk hp hP;by_cases he:e2=0
     ·subst he
      rw[if_pos rfl]at hPn;replace hPn:=HD hPn;go_upto_region 9 with(with_reducible refine aJ hI RF aM (aO.out (t:=63)) hld ?_)
      refine ZT [11,12] 13 hI ?_;intro wd hI
      (repeat(refine ZQ ?_;go_wp2_with(first|go_at_call 95;refine KG hI (qo _ d mr kS D' (nK (els.map eo)) (hI.at_ aA) hD' OM _ pa pc 64 pb hpl.out hpb OM) ?_;intro L8 w1 hI;(rw[hw.out]at hI|-);(simp only at hI|-)|refine YL ?_);refine ZP ?_))
      go_wp2_with(fail);go_roundg (N- (k+1))
      case measure=>omega
      case rel=>exact⟨k+1,L8,D2,rfl,by omega,rfl,hD2,by omega,HD (by rw[hPn.out];congr 1),hI⟩
     ·have hde:(e2==0)=false:=by simpa using he
      rw[if_neg he]at hPn;have U5:Hid (F=(D2,cnt,used,e2)):=HD (by rw[<-hF2.out];simp[hPn,he]);clear hPn hF2 he;go_upto_region 9 with(with_reducible refine aJ hI RF aM (aO.out (t:=63)) hld ?_)
      refine ZT [11,12] 13 hI ?_;intro wd hI
      (repeat(refine ZQ ?_;go_wp2_with(first|go_at_call 95;refine KG hI (qo _ d mr kS D' (nK (els.map eo)) (hI.at_ aA) hD' OM _ pa pc 64 pb hpl.out hpb OM) ?_;intro L8 w1 hI;(rw[hw.out]at hI|-);(simp only at hI|-)|refine YL ?_);refine ZP ?_))
      go_wp2_with(fail);go_ret;rw[U5.out];exact⟨_,rfl,sP (Inv.jr (hI.dz.sub (.cons_cons _ (.cons _ (.cons _ (.refl _))))))⟩
end
theorem ac6:prog.underlying 169=some (.array 64 5):=underlying169
theorem ahZ:prog.underlying 5=some (.int .u8):=underlying5
theorem ac7:(prog.info? 5).map (·.size)=some 1:=by kernel_rfl
theorem Ps(d:Nat)(hd:1<=d)(xs ys:List UInt8):∀(m i:Nat) (w:World),xs.length=i+m->ys.length=i+m->
  (forIn (List.range' i m) ((none,()):Option Bool×Unit) λj _=>do
    if(!(<-Op.equalIn d 5 (<-Go.part 5 (xs.map bv).toArray (j*1)) (<-Go.part 5 (ys.map bv).toArray (j*1))))=true then pure (ForInStep.done (some false,()))else pure (ForInStep.yield (none,())):Sem (Option Bool×Unit)).run prog w=
   .ok (if xs.drop i=ys.drop i then(none,())else(some false,())) w
 |0,i,w,h1,h2=>by
  simp only[Nat.add_zero]at h1 h2;simp[List.drop_eq_nil_of_le,h1,h2]
 |m+1,i,w,h1,h2=>by
  have ih:=Ps d hd xs ys m (i+1) w OM OM;have e1:i<xs.length:=by omega
  have e2:i<ys.length:=by omega
  have hx:(Go.part 5 (xs.map bv).toArray (i*1)).run prog w=.ok (bv xs[i]) w:=by
   rw[Go.part,Sem.run_bind,(aO.out (P:=prog) (t:=5)).isAgg,Result.andThen_ok];simp[e1]
  have hy:(Go.part 5 (ys.map bv).toArray (i*1)).run prog w=.ok (bv ys[i]) w:=by
   rw[Go.part,Sem.run_bind,(aO.out (P:=prog) (t:=5)).isAgg,Result.andThen_ok];simp[e2]
  have he:(Op.equalIn d 5 (bv xs[i]) (bv ys[i])).run prog w=.ok ((xs[i].toNat:Int)==(ys[i].toNat:Int)) w:=by
   obtain⟨e,rfl⟩:∃e,d=e+1:=⟨d-1,by omega⟩;exact run_equalIn_int (P:=prog) w e 5 .u8 .u8 (xs[i].toNat:Int) (ys[i].toNat:Int) ahZ
  rw[List.drop_eq_getElem_cons e1,List.drop_eq_getElem_cons e2];simp only[List.range'_succ,List.forIn_cons,Sem.run_bind,hx,hy,he,Result.andThen_ok];by_cases hc:xs[i]=ys[i]
  ·simp only[hc,List.cons.injEq,true_and]
   simpa using ih
  ·have:¬((xs[i].toNat:Int)=(ys[i].toNat:Int)):=λh=>hc (UInt8.toNat_inj.1 OM)
   rw[if_neg (λh=>hc (List.cons.inj h).1),show((xs[i].toNat:Int)==(ys[i].toNat:Int))=false from by simpa using this];simp
theorem Db(d:Nat)(hd:1<=d)(xs ys:List UInt8)(w:World)(h1:xs.length=64)(h2:ys.length=64):(Op.equalIn (d+1) 169 (tZ xs) (tZ ys)).run prog w=.ok (decide (xs=ys)) w:=by
 have hl:=Ps d hd xs ys 64 0 w OM OM;unfold tZ;simp only[Op.equalIn,Sem.run_bind,run_underlying ac6,Result.andThen_ok,dH ac7];rw[Std.Legacy.Range.forIn_eq_forIn_range'];simp only[Std.Legacy.Range.size,Nat.sub_zero,Nat.add_sub_cancel,Nat.div_one];rw[hl];simp only[List.drop_zero,Result.andThen_ok];by_cases h:xs=ys<;>simp[h]
section
variable {ops:Array Oper}{Q:Exit->Act->World->Prop}{a:Act}{rest:List Oper}{w:World}{dst:Option Tmp}{ty:TypeId}{pos:String}{af:Array Edge}
theorem JF:prog.eqGuardType prog.depth 169=false:=by kernel_rfl
theorem ah0{x y:Operand}{t':Nat}{xs ys:List UInt8}(hx:a.eval x=tZ xs:=by exact RF)(hy:a.eval y=tZ ys:=by exact RF)(h1:xs.length=64)(h2:ys.length=64)
  (k:wpList prog ops Q rest (a.put dst (.bool (decide (xs=ys)))) w):wpList prog ops Q (⟨dst,.binOp .eql 169 x y t',ty,pos,af,none⟩::rest) a w:=by
 refine au (v:=.bool (decide (xs=ys))) ?_ k;have hb:(Op.equalIn 10000 169 (tZ xs) (tZ ys)).run prog w=.ok (decide (xs=ys)) w:=Db 9999 DC xs ys w h1 h2;unfold fP execOp;unfold tZ at hx hy hb;simp only[hx,hy,Sem.run_bind,run_eqGuard_agg w .eql 169 x y _ _ JF,Result.andThen_ok,run_eql_struct,hb];rfl
theorem U6:dC prog 169:=by unfold dC;kernel_rfl
theorem Dc(k:wpList prog ops Q rest (a.put dst (tZ (jR 64))) w):wpList prog ops Q (⟨dst,.build 169 #[],ty,pos,af,none⟩::rest) a w:=by
 refine au (v:=tZ (jR 64)) ?_ k;unfold fP execOp;simp only[Array.map_empty,Sem.run_bind,tT (cs:=((jR 64).map bv).toArray) Hf rfl U6,Result.andThen_ok];rfl
end
def lS(rd:Int->List UInt8):Nat->Nat->Nat->List (List UInt8)×Nat×Nat
 |0,cnt,used=>([],cnt,used)
 |f+1,cnt,used=>match l_ rd ((cnt:Int)+1) used with
  |some (b,all)=>(b::(lS rd f (cnt+1) (used+all)).1,(lS rd f (cnt+1) (used+all)).2)
  |none=>([],cnt,used)
def iI(D:DS)(at_:Nat):Nat->DS×Int
 |0=>(D,0)
 |n+1=>if eP D at_=jR 64 then iI D (at_+1) n else if(bK D at_ []).2=0 then iI (bK D at_ []).1 (at_+1) n else bK D at_ []
def dZ(D:DS):Option (List (List UInt8)×Nat×Nat)×DS×Int:=
 let r:=lS (eP D) 2049 0 0
 let v:=iI D r.2.2 (2048-r.2.2)
 if v.2=0 then
  let q:=di v.1
  if q.2=0 then(some r,q.1,0)else(none,q.1,q.2)
 else(none,v.1,v.2)
def yQ(rd:Int->List UInt8):Prop:=∀k:Int,2048<=k->(rd k)[63]? ≠some 1
theorem xL{s:List UInt8}{number place:Int}{x:List UInt8×Nat}(h:rR s number place=some x):s[63]? =some 1:=by
 unfold rR at h
 split at h
 ·split at h
  ·rename_i hc;exact hc.1
  ·cases h
 ·cases h
theorem FK{rd:Int->List UInt8}(he:yQ rd){number at_:Int}{all:Nat}:∀(n k:Nat) (r:List UInt8),oH rd number at_ all n k=some r->n=0∨at_+k+n<=2048
 |0,_,_,_=> .inl rfl
 |n+1,k,r,h=>by
  unfold oH at h
  split at h
  ·rename_i p a hp
   split at h
   ·obtain⟨r2,h2,_⟩:=Option.map_eq_some_iff.1 h
    have h1:at_+k<2048:=by
     apply Int.not_le.1;intro hc;exact he _ hc (xL hp)
    rcases FK he n (k+1) r2 h2 with h3|h3<;>right<;>omega
   ·cases h
  ·cases h
theorem FL{rd:Int->List UInt8}{number at_:Int}{all:Nat}:∀(n k:Nat) (r:List UInt8),oH rd number at_ all n k=some r->r.length<=52*n
 |0,_,r,h=>by cases h;simp
 |n+1,k,r,h=>by
  unfold oH at h
  split at h
  ·rename_i p a hp
   split at h
   ·obtain⟨r2,h2,rfl⟩:=Option.map_eq_some_iff.1 h
    have:=FL n (k+1) r2 h2;have:=(qb hp).1;rw[List.length_append];omega
   ·cases h
  ·cases h
theorem Az{rd:Int->List UInt8}(he:yQ rd){number:Int}{used all:Nat}{b:List UInt8}(h:l_ rd number used=some (b,all)):1<=all∧used+all<=2048∧all<256∧b.length<=52*all:=by
 unfold l_ at h
 split at h
 ·rename_i b0 n hp
  obtain⟨r,hr,hB⟩:=Option.map_eq_some_iff.1 h;simp only[Prod.mk.injEq]at hB;obtain⟨hB,rfl⟩:=hB;obtain⟨l1,l2,l3⟩:=qb hp;have h1:(used:Int) <2048:=by
   apply Int.not_le.1;intro hc;exact he _ hc (xL hp)
  have hm:=FK he _ _ _ hr;have hl:=FL _ _ _ hr;refine⟨by omega,by omega,l3,?_⟩;rw[<-hB,List.length_append];have:52*n=52*(n-1)+52:=by omega
  omega
 ·cases h
section
variable {P:Program}{ops:Array Oper}{Q:Exit->Act->World->Prop}{a:Act}{rest:List Oper}{T:List Nat}{w0 w:World}{m m':List aG}{dst:Option Tmp}{ty:TypeId}{pos:String}{af:Array Edge}
theorem ZH:(prog.info? 185).map (·.zero)=some (some (.agg [.pointer none,.int .i64 0,.int .i64 0].toArray)):=by kernel_rfl
theorem ac8:G7 prog 185:=⟨_,underlying185,by kernel_rfl⟩
theorem ac9:Ba prog 185 0 0 1:=⟨_,underlying185,by kernel_rfl⟩
theorem U7{x y:Operand}{t':Nat}{xs ys:List UInt8}{v:Bool}(hv:decide (xs=ys)=v)(hx:a.eval x=tZ xs:=by exact RF)(hy:a.eval y=tZ ys:=by exact RF)(h1:xs.length=64)(h2:ys.length=64)
  (k:wpList prog ops Q rest (a.put dst (.bool v)) w):wpList prog ops Q (⟨dst,.binOp .eql 169 x y t',ty,pos,af,none⟩::rest) a w:=by
 subst hv;exact ah0 hx hy h1 h2 k
theorem aga{x:Operand}{d:Nat}(h0:a.eval x=.pointer (some ⟨d,0,none⟩):=by exact RF)(k:wpList prog ops Q rest (a.put dst (.agg (lcs d 0 0).toArray)) w):wpList prog ops Q (⟨dst,.build 185 #[(0,x)],ty,pos,af,none⟩::rest) a w:=
 ik (ps:=[(0,x)]) (n:=3) [(0,[.pointer (some ⟨d,0,none⟩)])] ZH rfl (by rfl) ac8 ⟨by rw[h0];rfl,ac9,Nat.le_of_ble_eq_true rfl,trivial⟩ k
theorem ac_{x:Operand}{d:Nat}(hI:Inv T w0 w m)(hv:a.eval x=.agg (lcs d 0 0).toArray:=by exact RF)
  (k:∀b w',Inv T w0 w' (blk b 185 (lcs d 0 0)::m)->wpList prog ops Q rest (a.put dst (.pointer (some ⟨b,0,none⟩))) w'):wpList prog ops Q (⟨dst,.box 185 x,ty,pos,af,none⟩::rest) a w:=bN hI (by rw[hv];rfl) k
end
section
variable {T:List Nat}{w0 w:World}{m:List aG}{x a b c:aG}
theorem Inv.fr2(h:Inv T w0 w (a::b::x::m)):Inv T w0 w (x::a::b::m):=h.perm (List.perm_middle (l₁:=[a,b]) (a:=x) (l₂:=m)).symm
theorem Inv.fr3(h:Inv T w0 w (a::b::c::x::m)):Inv T w0 w (x::a::b::c::m):=h.perm (List.perm_middle (l₁:=[a,b,c]) (a:=x) (l₂:=m)).symm
end
theorem U8(y:aG):∀w,y.sat w->Rd w none (([]:List UInt8).map bv):=λw _ j u hj=>by simp at hj
theorem Inv.U9{T:List Nat}{w0 w:World}{A B:aG}(h:Inv T w0 w [A,B]):Inv T w0 w [B,A,nK (([]:List El).map eo),bf 63 1 (.slice none 0 0) 0 (([]:List El).map sv)]:=
 h.turn (λhs y hy=>by
  simp only[List.mem_cons,List.not_mem_nil,or_false]at hy;rcases hy with rfl|rfl|rfl|rfl
  ·exact hs _ SI
  ·exact hs _ SI
  ·intro r hr;simp at hr
  ·exact⟨rfl,.inl ⟨rfl,rfl⟩⟩) (by simp[owned,nK,bf,Value.ownBlock];exact List.perm_append_comm)
section
variable (w0:World)(d mr:Nat)(wb:Option Nat)(D:DS)(hI:Inv (eF d mr wb D).own w0 w0 [eF d mr wb D])(hD:wQ D)(hwl:D.waits.length<=50000)(hE:yQ (eP D))
include hI hD hwl hE
theorem JG:Calls prog 63 #[.pointer (some ⟨d,0,none⟩)] w0 λe w'=>∃kS,
  (∃l a c els cnt used,dZ D=(some (M9 els,cnt,used),(dZ D).2.1,0)∧e=.returned (.tuple #[.pointer (some ⟨l,0,none⟩),.slice a els.length c,.int .i64 0])∧Inv (eF d mr wb D).own w0 w' [eF d mr kS (dZ D).2.1,bss a c els,blk l 185 (lcs d cnt used)])∨
  ((dZ D).1=none∧e=.returned (.tuple #[.pointer none,.slice none 0 0,.int .i64 (dZ D).2.2])∧Inv (eF d mr wb D).own w0 w' [eF d mr kS (dZ D).2.1]):=by
 obtain⟨F,hF⟩:=EH (dZ D);rw[hF.out];obtain⟨R,hR0⟩:=EH (lS (eP D) 2049 0 0);go_enter func63,ntmps63;go_upto_region 5 with(first|with_reducible refine aga (k:=?_)|(with_reducible refine ac_ hI (k:=?_);intro l w hI))
 go_loopg [6] 2049 (λkk s6 wr=>∃(cnt used:Nat) (a:Option Addr) (c:Nat) (els:List El),kk=2049-used∧cnt<=used∧used<=2048∧els.length=cnt∧s6=.slice a cnt c∧Hid (R=(M9 els++(lS (eP D) (2049-cnt) cnt used).1,(lS (eP D) (2049-cnt) cnt used).2))∧Inv (eF d mr wb D).own w0 wr [eF d mr wb D,blk l 185 (lcs d cnt used),nK (els.map eo),bf 63 1 (.slice a cnt c) cnt (els.map sv)])
 case atStart=>exact⟨0,0,none,0,[],rfl,by omega,by omega,rfl,rfl,HD (by rw[<-hR0.out];rfl),hI.U9⟩
 case round=>
  clear hI;obtain⟨cnt,used,a,c,els,rfl,hcu,hu,hel,rfl,hR,hI⟩:=hrel;unfold lcs at hI;cases hst:l_ (eP D) ((cnt:Int)+1) used with
  |some x=>
   obtain⟨b,all⟩:=x;obtain⟨e1,e2,e3,e4⟩:=Az hE hst;replace hst:=HD hst;go_upto_region 5 with(fail)
   refine ZT [10,11,17] 18 hI ?_;intro wd hI
   (repeat(refine ZQ ?_;go_wp2_with(first|go_at_call 97;refine KK hI (M8 _ d mr wb D (hI.at_ aA) hD OM _ _ OM OM hst.out) ?_;intro sa sc w1 hI|refine YL ?_);refine ZP ?_))
   go_wp2_with(first|(with_reducible refine jY hI (tK.out (t:=138)) RF ?_;intro b2 w hI)|(with_reducible refine az (q:=1) hI RF RF (tK.out (t:=138)) (by intro r';exact aR.there (aR.there (aR.there (aR.there (aR.there aR.here))))) (hI.rd aA) RF (by intro u hu;cases List.mem_singleton.1 hu;with_unfolding_all rfl) MX OM ?_;intro a3 c3 w hI)|refine YL ?_|refine YT ?_;intro w hI;(try simp only[QS]at hI));have hnx:Inv (eF d mr wb D).own w0 w [eF d mr wb D,blk l 185 (lcs d (cnt+1) (used+all)),nK ((els++[(sa,sc,b)]).map eo),bf 63 1 (.slice a3 (cnt+1) c3) (cnt+1) ((els++[(sa,sc,b)]).map sv)]:=by
    rw[List.map_append,List.map_append];exact Inv.fr2 (Inv.fr2 (FJ (Inv.fr3 (hI.tl))))
   go_roundg (2049- (used+all))
   case measure=>omega
   case rel=>exact⟨cnt+1,used+all,a3,c3,els++[(sa,sc,b)],rfl,by omega,by omega,by rw[List.length_append,hel];rfl,rfl,HD (by rw[hR.out,show 2049-cnt=(2049- (cnt+1))+1 from by omega,lS,hst.out];simp[M9]),hnx⟩
  |none=>
   replace hst:=HD hst;go_upto_region 5 with(fail)
   refine ZT [10,11,17] 18 hI ?_;intro wd hI
   (repeat(refine ZQ ?_;go_wp2_with(first|go_at_call 97;refine KC jy hI (Rh _ d mr wb D (hI.at_ aA) hD OM _ _ OM OM hst.out) ?_;intro w1 hI|refine YL ?_);refine ZP ?_))
   have hRv:Hid (R=(M9 els,cnt,used)):=HD (by rw[hR.out,show 2049-cnt=(2048-cnt)+1 from by omega,lS,hst.out];simp);replace hI:Inv (eF d mr wb D).own w0 _ [eF d mr wb D,bss a c els,blk l 185 [.pointer (some ⟨d,0,none⟩),.int .i64 cnt,.int .i64 used]]:=Inv.jr (JA (Inv.jr (Inv.fr3 (Inv.fr3 (by rw[hel];exact hI)))));go_upto_region 11 with(refine YL ?_)
   have hF2:Hid ((if(iI D used (2048-used)).2=0 then(if(di (iI D used (2048-used)).1).2=0 then(some (M9 els,cnt,used),(di (iI D used (2048-used)).1).1,0)else(none,(di (iI D used (2048-used)).1).1,(di (iI D used (2048-used)).1).2))else(none,(iI D used (2048-used)).1,(iI D used (2048-used)).2))=F):=HD (by rw[<-hF.out,dZ];simp only[hR0.out,hRv.out]);clear hF hR0 hRv hR hst hE
   go_loopg [10] (2048-used) (λkk s10 wr=>∃(p:Nat) (kS:Option Nat) (D':DS),kk=2048-p∧used<=p∧p<=2048∧s10=.int .i64 (p:Int)∧wQ D'∧D'.waits.length<=D.waits.length+(p-used)∧Hid (iI D used (2048-used)=iI D' p (2048-p))∧Inv (eF d mr wb D).own w0 wr [eF d mr kS D',bss a c els,blk l 185 [.pointer (some ⟨d,0,none⟩),.int .i64 cnt,.int .i64 used]])
   case atStart=>exact⟨used,wb,D,rfl,by omega,by omega,rfl,hD,by omega,HD rfl,hI⟩
   case round=>
    clear hI;obtain⟨p,kS,D',rfl,hup,hp,rfl,hD',ahY,hW,hI⟩:=hrel;by_cases hpe:p=2048
    ·subst hpe
     have hWv:iI D used (2048-used)=(D',0):=hW.out;obtain⟨D3,e3,hs⟩:∃D3 e3,Hid (di D'=(D3,e3)):=⟨_,_,HD rfl⟩;by_cases he:e3=0
     ·subst he
      have U5:Hid (F=(some (M9 els,cnt,used),D3,0)):=HD (by rw[<-hF2.out];simp[hWv,hs.out]);clear hWv hF2;go_wp2_with(go_at_call 96;refine KG hI (p_ _ d mr kS D' (hI.at_ aA) hD' OM) ?_;intro L8 w1 hI;(rw[hs.out]at hI|-);(simp only at hI|-));refine bodyPost_ret (results_tmp3 rfl _ _ _) rfl ?_;rw[U5.out];exact⟨_,.inl ⟨l,a,c,els,cnt,used,rfl,by rw[hel];rfl,hI⟩⟩
     ·have hde:(e3==0)=false:=by simpa using he
      have U5:Hid (F=(none,D3,e3)):=HD (by rw[<-hF2.out];simp[hWv,hs.out,he]);clear hWv hF2 he;go_wp2_with(go_at_call 96;refine KG hI (p_ _ d mr kS D' (hI.at_ aA) hD' OM) ?_;intro L8 w1 hI;(rw[hs.out]at hI|-);(simp only at hI|-));refine bodyPost_ret (results_tmp3 rfl _ _ _) rfl ?_;rw[U5.out];exact⟨_,.inr ⟨rfl,rfl,hI.sub (.cons_cons _ (List.nil_sublist _))⟩⟩
    ·have hpl:p<2048:=by omega
     have hd3:decide ((p:Int) <2048)=true:=by simp;omega
     have Pt:iI D used (2048-used)=if eP D' p=jR 64 then iI D' (p+1) (2048- (p+1))else if(bK D' p []).2=0 then iI (bK D' p []).1 (p+1) (2048- (p+1))else bK D' p []:=by
      rw[hW.out,show 2048-p=(2048- (p+1))+1 from by omega,iI]
     by_cases hz:eP D' (p:Int)=jR 64
     ·rw[if_pos hz]at Pt
      have hdz:decide (eP D' (p:Int)=jR 64)=true:=by simpa using hz
      replace Pt:=HD Pt;clear hz;go_wp2_with(first|go_at_call 98;refine KC jy hI (j6 _ d mr kS D' (hI.at_ aA) hD' OM _) ?_;intro w1 hI|with_reducible refine Dc ?_|with_reducible refine U7 hdz (h1:=kH hD' _) (h2:=kC 64) (k:=?_));go_roundg (2048- (p+1))
      case measure=>omega
      case rel=>exact⟨p+1,kS,D',rfl,by omega,by omega,rfl,hD',by omega,Pt,hI⟩
     ·rw[if_neg hz]at Pt
      have hdz:decide (eP D' (p:Int)=jR 64)=false:=by simpa using hz
      obtain⟨D2,e2,hw⟩:∃D2 e2,Hid (bK D' (p:Int) []=(D2,e2)):=⟨_,_,HD rfl⟩;have hD2:wQ D2:=by have:=wo hD' (p:Int) (bs:=[]);rwa [hw.out]at this
      have hw2:=yO D' (p:Int) [];rw[hw.out]at hw2 Pt;simp only at hw2 Pt;clear hz;by_cases he:e2=0
      ·subst he
       rw[if_pos rfl]at Pt;replace Pt:=HD Pt;go_wp2_with(first|go_at_call 98;refine KC jy hI (j6 _ d mr kS D' (hI.at_ aA) hD' OM _) ?_;intro w1 hI|with_reducible refine Dc ?_|with_reducible refine U7 hdz (h1:=kH hD' _) (h2:=kC 64) (k:=?_)|go_at_call 95;replace hI:=hI.dO;(with_reducible refine(qo _ d mr kS D' (bss a c els) (hI.at_ aA) hD' OM _ none 0 0 [] List.length_nil (U8 _) OM).mono ?_);rintro e w1 ⟨L8,rfl,hJ⟩;replace hI:=hI.on hJ jy;clear hJ;replace hI:=hI.dz;(rw[hw.out]at hI|-);(simp only at hI|-));go_roundg (2048- (p+1))
       case measure=>omega
       case rel=>exact⟨p+1,L8,D2,rfl,by omega,by omega,rfl,hD2,by omega,Pt,hI⟩
      ·have hde:(e2==0)=false:=by simpa using he
       rw[if_neg he]at Pt;have U5:Hid (F=(none,D2,e2)):=HD (by rw[<-hF2.out];simp[Pt,he]);clear Pt hF2 he;go_wp2_with(first|go_at_call 98;refine KC jy hI (j6 _ d mr kS D' (hI.at_ aA) hD' OM _) ?_;intro w1 hI|with_reducible refine Dc ?_|with_reducible refine U7 hdz (h1:=kH hD' _) (h2:=kC 64) (k:=?_)|go_at_call 95;replace hI:=hI.dO;(with_reducible refine(qo _ d mr kS D' (bss a c els) (hI.at_ aA) hD' OM _ none 0 0 [] List.length_nil (U8 _) OM).mono ?_);rintro e w1 ⟨L8,rfl,hJ⟩;replace hI:=hI.on hJ jy;clear hJ;replace hI:=hI.dz;(rw[hw.out]at hI|-);(simp only at hI|-));refine bodyPost_ret (results_tmp3 rfl _ _ _) rfl ?_;rw[U5.out];exact⟨_,.inr ⟨rfl,rfl,hI.sub (.cons_cons _ (List.nil_sublist _))⟩⟩
end
def nz(b:Nat)(e:TypeId)(A B:List Value)(zs:List Int)(bs:List Bool):aG:=blk b e (A++(mix zs bs++B))
theorem Pv{A B:List Value}{zs:List Int}{bs:List Bool}{o j n:Nat}(ho:A.length=o)(h:j+n<=zs.length):((A++(mix zs bs++B)).drop (o+j)).take n=(sub zs j n).map (Value.int .i64):=by
 subst ho;rw[<-List.drop_drop,List.drop_left,mix,List.append_assoc,List.drop_append_of_le_length (by simp;omega),List.take_append_of_le_length (by simp;omega)];simp[sub,List.map_drop,List.map_take]
theorem Ve{A B:List Value}{zs:List Int}{bs:List Bool}{o j:Nat}{v:Bool}(ho:A.length=o)(hj:j<bs.length)(hv:gb bs j=v):(A++(mix zs bs++B))[o+zs.length+j]? =some (.bool v):=by
 subst ho;have e1:A.length+zs.length+j-A.length=zs.length+j:=by omega
 have e2:zs.length+j-zs.length=j:=by omega
 rw[List.getElem?_append_right OM,e1,mix,List.append_assoc,List.getElem?_append_right SI,List.length_map,e2,List.getElem?_append_left (by simpa using hj),List.getElem?_map,List.getElem?_eq_getElem hj];rw[<-hv,gb,List.getD_eq_getElem?_getD,List.getElem?_eq_getElem hj];rfl
theorem Hw(A B:List Value)(zs:List Int)(bs:List Bool):(A++(mix zs bs++B)).length=A.length+zs.length+bs.length+B.length:=by
 simp only[List.length_append,yR];omega
theorem Pw{A B:List Value}{zs ws:List Int}{bs:List Bool}{o j:Nat}(ho:A.length=o)(h:j+ws.length<=zs.length):splice (A++(mix zs bs++B)) (o+j) (ws.map (Value.int .i64))=A++(mix (dF zs j ws) bs++B):=by
 subst ho;have e3:A.length+j+(ws.map (Value.int .i64)).length=A.length+(j+ws.length):=by rw[List.length_map];omega
 unfold splice;rw[e3,<-List.drop_drop,List.drop_left,List.take_append,List.take_of_length_le OM,Nat.add_sub_cancel_left];simp only[mix,dF,List.map_append,List.append_assoc];exact W84
theorem Vf{A B:List Value}{zs:List Int}{bs:List Bool}{o j:Nat}{v:Bool}(ho:A.length=o)(h:j<bs.length):(A++(mix zs bs++B)).set (o+zs.length+j) (.bool v)=A++(mix zs (bs.set j v)++B):=by
 subst ho;rw[List.set_append_right _ _ OM,show A.length+zs.length+j-A.length=zs.length+j from by omega,mix,List.append_assoc,List.set_append_right _ _ SI,List.length_map,Nat.add_sub_cancel_left,List.set_append_left _ _ (by simpa using h),mix,List.map_set,List.append_assoc]
section
variable {P:Program}{ops:Array Oper}{Q:Exit->Act->World->Prop}{a:Act}{rest:List Oper}{T:List Nat}{w0 w:World}{m m':List aG}{dst:Option Tmp}{ty:TypeId}{pos:String}{af:Array Edge}
variable {x y:Operand}{b off o j n:Nat}{t e:TypeId}{A B:List Value}{zs ws:List Int}{bs:List Bool}{v:Bool}
theorem Rk(hI:Inv T w0 w m)(hx:a.eval x=.pointer (some ⟨b,off,none⟩))(hm:nz b e A B zs bs∈m)[hT:bG P t n](ho:A.length=o)(hoff:off=o+j)(hl:j+n<=zs.length)
  (k:wpList P ops Q rest (a.put dst (ia (sub zs j n))) w):wpList P ops Q (⟨dst,.load t x,ty,pos,af,none⟩::rest) a w:=by
 subst hoff;exact bL hI hx hm hT.out (by rw[Hw];omega) (by rw[Pv ho hl];exact k)
theorem ZN(hI:Inv T w0 w m)(hx:a.eval x=.pointer (some ⟨b,off,none⟩))(hm:nz b e A B zs bs∈m)[hT:aO P t](ho:A.length=o)(hoff:off=o+zs.length+j)(hj:j<bs.length)(hv:gb bs j=v)
  (k:wpList P ops Q rest (a.put dst (.bool v)) w):wpList P ops Q (⟨dst,.load t x,ty,pos,af,none⟩::rest) a w:=by
 subst hoff;exact aS hI hx hm hT.out (Ve ho hj hv) k
theorem Px{A B:List Value}{zs:List Int}{bs:List Bool}{o j:Nat}(ho:A.length=o)(h:j<zs.length):(A++(mix zs bs++B))[o+j]? =some (.int .i64 (gi zs j)):=by
 subst ho;rw[List.getElem?_append_right OM,Nat.add_sub_cancel_left,mix,List.append_assoc,List.getElem?_append_left (by simpa using h),List.getElem?_map,List.getElem?_eq_getElem h];simp[gi,List.getD_eq_getElem?_getD,List.getElem?_eq_getElem h]
theorem adb(hI:Inv T w0 w m)(hx:a.eval x=.pointer (some ⟨b,off,none⟩))(hm:nz b e A B zs bs∈m)[hT:aO P t](ho:A.length=o)(hoff:off=o+j)(hl:j<zs.length)
  (k:wpList P ops Q rest (a.put dst (.int .i64 (gi zs j))) w):wpList P ops Q (⟨dst,.load t x,ty,pos,af,none⟩::rest) a w:=by
 subst hoff;exact aS hI hx hm hT.out (Px ho hl) k
theorem agc(hI:Inv T w0 w m)(hx:a.eval x=.pointer (some ⟨b,off,none⟩))(hv:a.eval y=ia ws)(hu:aR (nz b e A B zs bs) (nz b e A B (dF zs j ws) bs) m m')[hT:bG P t n](ho:A.length=o)(hoff:off=o+j)(hl2:ws.length=n)(hl:j+n<=zs.length)
  (k:∀w',Inv T w0 w' m'->wpList P ops Q rest (a.put dst undef) w'):wpList P ops Q (⟨dst,.store t x y,ty,pos,af,none⟩::rest) a w:=by
 subst hoff;refine aN hI hx (cs:=A++(mix zs bs++B)) (vs:=ws.map (Value.int .i64)) (by rw[hv];rfl) (by rw[Pw ho OM];exact hu) hT.out.size (by simpa using hl2) (by rw[Hw];omega) ?_ k;intro u hu;obtain⟨z,_,rfl⟩:=List.mem_map.1 hu;rfl
theorem ah1{u:Bool}(hI:Inv T w0 w m)(hx:a.eval x=.pointer (some ⟨b,off,none⟩))(hv:a.eval y=.bool u)(hu:aR (nz b e A B zs bs) (nz b e A B zs (bs.set j u)) m m')(hT:(P.info? t).map (·.size)=some 1)(ho:A.length=o)(hoff:off=o+zs.length+j)(hj:j<bs.length)
  (k:∀w',Inv T w0 w' m'->wpList P ops Q rest (a.put dst undef) w'):wpList P ops Q (⟨dst,.store t x y,ty,pos,af,none⟩::rest) a w:=by
 subst hoff;have hlt:o+zs.length+j+1<=(A++(mix zs bs++B)).length:=by rw[Hw];omega
 refine aN (e:=e) hI hx (cs:=A++(mix zs bs++B)) (vs:=[.bool u]) (by rw[hv];rfl) ?_ hT rfl hlt (by simp[Value.oneCell']) k;rw[show splice (A++(mix zs bs++B)) (o+zs.length+j) [.bool u]=(A++(mix zs bs++B)).set (o+zs.length+j) (.bool u)from by rw[List.set_eq_take_append_cons_drop,if_pos OM];simp[splice],Vf ho hj];exact hu
end
