/- Contracts of functions. No condition. -/
import Derived.Shelf.Strconv.Itoa3
import Derived.Test.YtdakkaapokhnnaaGreatDoorZ26
import Derived.Test.YtdakkaapokhnnaaGreatDoorZ32
import Derived.Test.YtdakkaapokhnnaaGreatDoorZ33
import Derived.Test.YtdakkaapokhnnaaGreatDoorZ34
namespace Go.Proofs.YtdakkaapokhnnaaGreatDoor
open Go.RowKit Go.Proofs.Tryz
set_option maxRecDepth 100000
set_option maxHeartbeats 6400000
set_option linter.all false
def Ec(C:CS)(z:List Int)(f:Nat):CS×Int:=if 0<=gi z 2∧gi z 2<5∧gi z 2≠gi z 1 then vJ C (gi z 0) f (gi z 2).toNat (gi z 4)else(C,5)
section
variable (w0:World)(X:CX)(Y:CY)(C:CS)(z:List Int)(hz:z.length=11)(hI:Inv (bF X Y C).own w0 w0 [bF X Y C])
include hz hI
variable (i:Nat)(hi:i<5)(h1:gi z 1=(i:Int))
include hi h1
theorem ai0(hN:WW C.B)(hg:∀t,t<5->C.up t=true->eG (C.S t).view∧(C.S t).aX.length<=1000000000):
  Calls prog 40 #[.pointer (some ⟨X.cb,0,none⟩),ia z] w0 λe w'=>∃Y',e=.returned (.int .i64 (Ec C z i).2)∧Inv (bF X Y C).own w0 w' [bF X Y' (Ec C z i).1]:=by
 unfold Ec;by_cases h2:0<=gi z 2∧gi z 2<5
 ·obtain⟨t,ht⟩:∃t:Nat,gi z 2=(t:Int):=⟨(gi z 2).toNat,by omega⟩
  have pX:t<5:=by omega
  by_cases hne:i=t
  ·rw[if_neg OM]
   grind[aa2,Go.Calls.mono]
  ·rw[if_pos ⟨h2.1,h2.2,by omega⟩,show(gi z 2).toNat=t by omega]
   cases hB:C.B (i*5+t)with
   |nil=>
    grind[vJ.eq_1,Wz,Go.Calls.mono]
   |cons b0 bt=>
    by_cases h7:gi z 0=7
    ·grind[aeq]
    grind[ah8]
 ·grind[aep,Go.Lib.hid,Go.Calls.mono]
theorem aeA(h0:gi z 0=5)(hN:Hid (WW C.B))(hgood:Hid (∀t,t<5->C.up t=true->eG (C.S t).view∧(C.S t).aX.length<=1000000000)):
  Calls prog 19 #[.pointer (some ⟨X.cb,0,none⟩),ia z] w0 λe w'=>∃Y',e=.returned (.int .i64 (Ec C z i).2)∧Inv (bF X Y C).own w0 w' [bF X Y' (Ec C z i).1]:=by
 exact W22
theorem aeB(h0:gi z 0=6)(hN:Hid (WW C.B))(hgood:Hid (∀t,t<5->C.up t=true->eG (C.S t).view∧(C.S t).aX.length<=1000000000)):
  Calls prog 19 #[.pointer (some ⟨X.cb,0,none⟩),ia z] w0 λe w'=>∃Y',e=.returned (.int .i64 (Ec C z i).2)∧Inv (bF X Y C).own w0 w' [bF X Y' (Ec C z i).1]:=by
 exact W22
theorem aeC(h0:gi z 0=7)(hN:Hid (WW C.B))(hgood:Hid (∀t,t<5->C.up t=true->eG (C.S t).view∧(C.S t).aX.length<=1000000000)):
  Calls prog 19 #[.pointer (some ⟨X.cb,0,none⟩),ia z] w0 λe w'=>∃Y',e=.returned (.int .i64 (Ec C z i).2)∧Inv (bF X Y C).own w0 w' [bF X Y' (Ec C z i).1]:=by
 exact W22
end
structure Ot (C:CS):Prop where
 net:WW C.B
 view:∀t,t<5->C.up t=true->eG (C.S t).view
 aX:∀t,t<5->(C.S t).aX.length<=1000000000
 past:∀t,t<5->(C.past t).length<=1000000000
 own:∀t,t<5->C.up t=true->Go.Proofs.YtdakkaapokhnnaaGreatDoor.C.wW (C.S t).own
 book:∀t,t<5->C.up t=true->Go.Proofs.YtdakkaapokhnnaaGreatDoor.C.Bk (C.S t).book
 aie:∀t,t<5->C.up t=false->Ae (dU (C.S t).D)
theorem alO(w0 X Y C z)(hz:z.length=11)(h64:∀i,-9223372036854775808<=gi z i∧gi z i<=9223372036854775807)(hC:Ot C)(hI:Inv (bF X Y C).own w0 w0 [bF X Y C]):
  Calls prog 19 #[.pointer (some ⟨X.cb,0,none⟩),ia z] w0 λe w'=>∃Y',e=.returned (.int .i64 (nA C z).2)∧Inv (bF X Y C).own w0 w' [bF X Y' (nA C z).1]:=by
 by_cases h1:0<=gi z 1∧gi z 1<5
 ·obtain⟨i,hi0⟩:∃i:Nat,gi z 1=(i:Int):=⟨(gi z 1).toNat,by omega⟩
  have hi:i<5:=by omega
  have hu:nM C i=true->C.up i=true:=λh=>by simp_all[nM.eq_1]
  have hcl:nM C i=true->eG (C.S i).view∧(C.S i).aX.length<=1000000000∧Go.Proofs.YtdakkaapokhnnaaGreatDoor.C.wW (C.S i).own∧Go.Proofs.YtdakkaapokhnnaaGreatDoor.C.Bk (C.S i).book:=
   λh=>⟨hC.view i hi (hu h),hC.aX i hi,hC.own i hi (hu h),hC.book i hi (hu h)⟩
  have hwy:5<=gi z 0∧gi z 0<8->nA C z=Ec C z i:=λh=>by
   rw[nA,if_neg OM];rw[if_neg OM,if_pos h,show(gi z 1).toNat=i by omega];rfl
  have hgw:Hid (∀t,t<5->C.up t=true->eG (C.S t).view∧(C.S t).aX.length<=1000000000):=HD λt ht hup=>⟨hC.view t ht hup,hC.aX t ht⟩
  by_cases c0:gi z 0=0
  ·grind[Rk]
  by_cases c1:gi z 0=1
  ·grind[Rl]
  by_cases c2:gi z 0=2
  ·grind[Rm]
  by_cases c3:gi z 0=3
  ·grind[Rn]
  by_cases c4:gi z 0=4
  ·grind[Ro]
  by_cases c5:gi z 0=5
  ·grind[aeA,Go.Lib.hid,Ot.net]
  grind[aeB,Go.Lib.hid,Ot.net,aeC,aew,aic,abh,Ot.past,Ot.aX,aa9,Ot.aie,aez]
 ·rw[nA,if_pos h1]
  grind[aib,Go.Calls.mono]
theorem Ot.start:Ot C0 where
 net:=λ_=>⟨by simp[C0],λb hb=>by grind[C0]⟩
 view:=λt _ _ i=>by
  show-9223372036854775808<=gi B.eu i∧gi B.eu i<=9223372036854775807;by_cases h:i<7
  ·have:i=0∨i=1∨i=2∨i=3∨i=4∨i=5∨i=6:=by omega
   rcases this with rfl|rfl|rfl|rfl|rfl|rfl|rfl<;>decide
  simp_all[gi,B.eu]
 aX:=λt _=>by show([]:List (List Int)).length<=_;simp
 past:=λt _=>by simp[C0]
 own:=λt _ _=>by show C.nG (C.cellsOf (au 174))=true;decide+kernel
 book:=λt _ _=>C.Bk.start
 aie:=λt _ h=>by cases h
section
open B (aI dw eu dC gH kM eB kF cB bK pJ)
theorem abo{S}(h:uS S){B}(hB:WW B):uS {S with B:=B}:=
 ⟨aaG h.len B,h.ep,h.view,h.own,h.jh,h.aT,h.last,h.book,h.hi,hB⟩
theorem akk{S}(h:uS S){D}(hD:Hi D):uS {S with D:=D}:=
 ⟨⟨h.len.view,h.len.own,h.len.aT,h.len.sl,h.len.acc,h.len.book,h.len.told,h.len.last,h.len.aB⟩,h.ep,h.view,h.own,h.jh,h.aT,h.last,h.book,hD,h.net⟩
theorem Jj:eG eu:=qb.2 λx hx=>by
 have:x∈[(1:Int),7,0,0,0,0,0]:=hx
 grind[o8]
theorem Jk{D}(hD:Hi D)(cnt used){B}(hB:WW B):uS (r_ D cnt used B) where
 len:=by
  have h:=aaB D cnt used B;exact⟨rfl,h.own,h.aT,h.sl,by show(qB _ _ _ _).length=8;simp[qB,ag],h.book,h.told,h.last,λp h=>by cases h⟩
 ep:=rfl
 view:=Jj
 own:=by show C.nG (C.cellsOf (au 174))=true;decide+kernel
 jh:=qa 174
 aT:=qa 870
 last:=qa 870
 book:=C.Bk.start
 hi:=hD
 net:=hB
theorem Ow{S}(h:uS S){x}(hx:x.Ok):uS (dD S x):=by
 have hl:=h.len;have h8:=hl.acc;cases x with
 |row r=>exact⟨⟨hl.view,hx.1,hl.aT,hl.sl,hl.acc,hl.book,hl.told,hl.last,hl.aB⟩,h.ep,h.view,C.adr hx.2.1,hx.2.2.1,h.aT,h.last,h.book,h.hi,h.net⟩
 |cz w r=>exact⟨⟨hl.view,hl.own,uB hl.aT hx.2.1,hl.sl,hl.acc,hl.book,hl.told,hl.last,hl.aB⟩,h.ep,h.view,h.own,h.jh,NH h.aT hx.2.2.2.1,h.last,h.book,h.hi,h.net⟩
 |aZ w=>exact⟨⟨hl.view,hl.own,hl.aT,C.Ij _ _ hl.sl,hl.acc,hl.book,hl.told,hl.last,hl.aB⟩,h.ep,h.view,h.own,h.jh,h.aT,h.last,h.book,h.hi,h.net⟩
 |qH e b=>
  have hb:b.length=2:=hx.2.1;exact⟨⟨hl.view,hl.own,hl.aT,hl.sl,by show(dK S.acc 1 b).length=8;grind[aY],hl.book,hl.told,hl.last,hl.aB⟩,(xV OM OM).trans h.ep,h.view,h.own,h.jh,h.aT,h.last,h.book,h.hi,h.net⟩
 |take e b c=>
  have hb:b.length=2:=hx.2.1.1;have hc:c.length=3:=hx.2.2.1;have l1:(dK S.acc 1 b).length=8:=by grind[aY]
  have l2:(dK (dK S.acc 1 b) 3 b).length=8:=by grind[aY]
  exact⟨⟨hl.view,hl.own,hl.aT,hl.sl,by show(dK (dK (dK S.acc 1 b) 3 b) 5 c).length=8;grind[aY],hl.book,hl.told,hl.last,hl.aB⟩,(xV OM OM).trans ((xV OM OM).trans ((xV OM OM).trans h.ep)),h.view,h.own,h.jh,h.aT,h.last,h.book,h.hi,h.net⟩
 |view v=>exact⟨⟨hx.1,hl.own,hl.aT,hl.sl,by show(qB _ _ _ _).length=8;simp[qB,ag],hl.book,hl.told,hl.last,λp h=>by cases h⟩,rfl,hx.2.2.1,h.own,h.jh,h.aT,h.last,h.book,h.hi,h.net⟩
theorem Cw:∀l {S S'},uS S->dz S l=some S'->uS S'∧S'.waits=S.waits
 | [],S,S',h,e=>by cases e;grind
 |b::l,S,S',h,e=>by
  obtain⟨x,hx,h2⟩:=Option.bind_eq_some_iff.1 e;obtain⟨a,b⟩:=Cw l (Ow h (aac hx)) h2;exact⟨a,b.trans (by cases x<;>rfl)⟩
theorem Gq{D}(hD:Hi D){B}(hB:WW B):Hi (gT D B).2.1∧∀S,(gT D B).1=some S->uS S∧S.aX=[]∧S.waits=0∧S.B=B∧S.D=(gT D B).2.1:=by
 have ho:=adU hD;unfold gT;cases e:dJ D with
 |mk o q=>
  obtain⟨D',er⟩:=q;rw[e]at ho;cases o with
  |none=>grind
  |some t=>
   obtain⟨bs,cnt,used⟩:=t;dsimp only;cases hr:dz (r_ D' cnt used B) bs with
   |none=>grind
   |some S=>
    refine⟨ho,λS' h=>?_⟩;cases h;obtain⟨a,b⟩:=Cw bs (Jk ho cnt used hB) hr;obtain⟨k1,k2,k3,k4,k5⟩:=mq bs _ _ hr;exact⟨a,k4,b,k5,k1⟩
structure CI (n:Nat) (C:CS):Prop where
 net:WW C.B
 up:∀t,t<5->C.up t=true->uS (rs C t)
 hi:∀t,t<5->Hi (C.S t).D
 rep:∀t,t<5->(∀r∈C.past t,∀x∈r,o8 x)∧(C.up t=true->Nu (C.S t))
 cnt:∀t,t<5->(C.past t).length+(if C.up t=true then QF (C.S t)else 0)<=n∧(C.S t).aX.length<=n
section
variable {n k:Nat}{C:CS}
theorem CI.ok(h:CI n C)(hn:n<=1000000000):Ot C where
 net:=h.net
 view:=λt ht hu=>(h.up t ht hu).view
 aX:=λt ht=>by have:=(h.cnt t ht).2;omega
 past:=λt ht=>by have:=(h.cnt t ht).1;omega
 own:=λt ht hu=>(h.up t ht hu).own
 book:=λt ht hu=>(h.up t ht hu).book
 aie:=λt ht _=>QO (h.hi t ht)
theorem CI.le{m}(h:CI n C)(hm:n<=m):CI m C:=⟨h.net,h.up,h.hi,h.rep,λt ht=>by have:=h.cnt t ht;omega⟩
theorem Rt(h:CI n C){t}(ht:t<5)(hu:C.up t=true){In}(hin:∀a M,In a M->M.Ok){S}(hm:kH t In k (rs C t) S):CI (n+k) (nC C t S):=by
 have hS:=adX hin hm (h.up t ht hu);have hp:=adR hm;have e1:∀j,j≠t->(nC C t S).S j=C.S j:=λj hj=>bI _ _ hj
 have e2:(nC C t S).S t=S:=bE _ _ _;refine⟨hS.net,λj hj hu'=>?_,λj hj=>?_,λj hj=>⟨(h.rep j hj).1,λhu'=>?_⟩,λj hj=>?_⟩
 rotate_left 2
 ·by_cases hjt:j=t
  ·subst hjt;rw[e2];exact adS hm ⟨((h.rep j hj).2 hu').w,((h.rep j hj).2 hu').r⟩
  ·rw[e1 j hjt];exact(h.rep j hj).2 hu'
 rotate_left 1
 ·by_cases hjt:j=t
  ·subst hjt;unfold rs;rw[e2];exact hS
  ·unfold rs;rw[e1 j hjt];exact abo (h.up j hj hu') hS.net
 ·grind[uS.hi,CI.hi]
 ·by_cases hjt:j=t
  ·subst hjt;rw[e2]
   have:=h.cnt j hj;rw[if_pos hu]at this;show(C.past j).length+(if C.up j=true then QF S else 0)<=_∧_;rw[if_pos hu];have WS:QF (rs C j)=QF (C.S j):=rfl;have hr:S.aX.length<=QF S:=Nat.le_add_right _ _;omega
  ·rw[e1 j hjt];have:=h.cnt j hj;show(C.past j).length+(if C.up j=true then _ else 0)<=_∧_;omega
theorem aeE(h:CI n C){B}(hB:WW B):CI n {C with B:=B}:=
 ⟨hB,λt ht hu=>abo (h.up t ht hu) hB,h.hi,h.rep,h.cnt⟩
theorem akl(h:CI n C){i D}(hD:Hi D):CI n (nJ C i D):=by
 have e1:∀j,j≠i->(nJ C i D).S j=C.S j:=λj hj=>bI _ _ hj
 have e2:(nJ C i D).S i={C.S i with D:=D}:=bE _ _ _;refine⟨h.net,λj hj hu'=>?_,λj hj=>?_,λj hj=>⟨(h.rep j hj).1,λhu'=>?_⟩,λj hj=>?_⟩
 rotate_left 2
 ·by_cases hjt:j=i
  ·subst hjt;rw[e2];exact⟨((h.rep j hj).2 hu').w,((h.rep j hj).2 hu').r⟩
  ·rw[e1 j hjt];exact(h.rep j hj).2 hu'
 rotate_left 1
 ·by_cases hjt:j=i
  ·subst hjt;unfold rs;rw[e2];exact akk (h.up j hj hu') hD
  ·unfold rs;rw[e1 j hjt];exact h.up j hj hu'
 ·grind[CI.hi]
 ·by_cases hjt:j=i
  ·subst hjt;rw[e2];exact h.cnt j hj
  ·rw[e1 j hjt];exact h.cnt j hj
theorem lU{i}(h:nM C i=true):C.up i=true:=by simp_all[nM.eq_1]
theorem abp(h:CI n C){QY f t}(hf:f<5)(ht:t<5)(b):CI n (pU C QY f t b).1:=by
 unfold pU;cases A.dJ (UInt8.ofNat f) (UInt8.ofNat t) b with
 |none=>exact h
 |some bs=>
  dsimp only
  split
  ·exact h
  ·cases e:lZ bs with
   |none=>exact h
   |some M=>
    have hok:=Kz e;have hu:C.up t=true:=lU (by grind);have hM:=h.up t ht hu;exact Rt (k:=0) h ht hu (In:=λa M'=>a=f∧M'=M) (λa M' hh=>by grind) (QA ht hM.len hM.ep hf hok.len ⟨rfl,rfl⟩)
theorem aik(h:CI n C){kind f t}(hf:f<5)(ht:t<5)(z):CI n (vJ C kind f t z).1:=by
 unfold vJ;have hq:=h.net (f*5+t);cases e:C.B (f*5+t)with
 |nil=>exact h
 |cons b0 bt=>
  dsimp only
  split
  ·split
   ·exact h
   ·refine aeE h (AB h.net ⟨?_,λb hb=>?_⟩)
    all_goals grind
  ·generalize hk:((max z 0) % ((bt.length+1:Nat):Int)).toNat=k
   cases e2:(b0::bt).drop k++(b0::bt).take k with
   |nil=>exact h
   |cons b r=>
    have hall:∀x∈b::r,x.length<=100000:=λx hx=>by
     grind
    have hlen:(b::r).length<=8:=by
     grind
    refine abp (C:={C with B:=gV C.B (f*5+t) r}) (aeE h (AB h.net ⟨?_,λx hx=>hall x (List.mem_cons_of_mem _ hx)⟩)) hf ht b
    grind
theorem abq(h:CI n C){i}(hi:i<5)(mask eQ cut):CI n (kY C i mask eQ cut):=by
 have e1:∀j,j≠i->(kY C i mask eQ cut).S j=C.S j∧(kY C i mask eQ cut).up j=C.up j∧(kY C i mask eQ cut).past j=C.past j:=λj hj=>⟨bI _ _ hj,bI _ _ hj,bI _ _ hj⟩
 have e2:(kY C i mask eQ cut).S i={C.S i with D:=nD (C.S i).D mask eQ cut}:=bE _ _ _;have e3:(kY C i mask eQ cut).up i=false:=bE _ _ _;have e4:(kY C i mask eQ cut).past i=ji C i:=bE _ _ _;refine⟨h.net,λj hj hu'=>?_,λj hj=>?_,λj hj=>?_,λj hj=>?_⟩
 rotate_left 2
 ·grind[ji,CI.rep,Nu.r]
 rotate_left 1
 ·by_cases hjt:j=i
  ·grind
  ·unfold rs;rw[(e1 j hjt).1];exact h.up j hj (by grind)
 ·grind[aat,CI.hi]
 ·have:=h.cnt j hj
  by_cases hjt:j=i
  ·subst hjt;rw[e2,e3,e4]
   simp only[Bool.false_eq_true,if_false];unfold ji;rw[List.length_append]
   split
   ·rename_i hu;rw[if_pos hu]at this
    have hr:(C.S j).aX.length<=QF (C.S j):=Nat.le_add_right _ _;omega
   grind
  grind
theorem abr(h:CI n C){i}(hi:i<5):CI n (jK C i).1:=by
 unfold jK
 split
 ·exact h
 ·obtain⟨h1,h2⟩:=Gq (h.hi i hi) h.net
  cases e:gT (C.S i).D C.B with
  |mk o q=>
   rw[e]at h1 h2;cases o with
   |none=>grind[akl]
   |some S=>
    obtain⟨k1,k2,k3,k4,k5⟩:=h2 S rfl;have e1:∀j,j≠i->(zu C i S).S j=C.S j∧(zu C i S).up j=C.up j:=λj hj=>⟨bI _ _ hj,bI _ _ hj⟩
    have e2:(zu C i S).S i=S:=bE _ _ _;refine⟨h.net,λj hj hu'=>?_,λj hj=>?_,λj hj=>⟨(h.rep j hj).1,λhu'=>?_⟩,λj hj=>?_⟩
    rotate_left 2
    ·by_cases hjt:j=i
     ·exact⟨by grind[xc],λr hr=>by grind⟩
     grind[CI.rep]
    rotate_left 1
    ·by_cases hjt:j=i
     ·subst hjt;unfold rs;rw[e2];exact abo k1 h.net
     ·unfold rs;rw[(e1 j hjt).1];exact h.up j hj (by grind)
    ·grind[CI.hi]
    ·have:=h.cnt j hj
     by_cases hjt:j=i
     all_goals simp_all[QF,zu]
theorem Ox(h:CI n C){z}(hz:z.length=11):CI (n+1) (nA C z).1:=by
 have Ve:∀a M,(λ_ _=>False:Nat->gQ->Prop) a M->M.Ok:=λ_ _ h=>h.elim
 unfold nA;split
 ·grind[CI.le]
 ·have hi:(gi z 1).toNat <5:=by omega
  dsimp only
  split
  ·split
   ·rename_i hu
    have hM:=h.up _ hi (lU hu);exact Rt h hi (lU hu) Ve (FW hi hM.len hM.ep hM.book (by grind[az]))
   grind[CI.le]
  ·split
   ·grind[aik,CI.le]
   ·split
    ·split
     ·rename_i hu
      have hM:=h.up _ hi (lU hu);exact(Rt (k:=0) h hi (lU hu) Ve (QB hi hM.len hM.ep)).le OM
     grind[CI.le]
    ·split
     ·have:=h.hi _ hi
      exact(akl (D:={(C.S (gi z 1).toNat).D with armed:=true,left:=max (gi z 4) 0}) h ⟨this.w,this.s⟩).le OM
     grind[abq,CI.le,abr]
theorem zx:CI 0 C0 where
 net:=Ot.start.net
 up:=λt ht _=>Jk (Dl (by exact⟨λp hp=>(by cases hp),λk _=>rfl⟩)) 0 0 Ot.start.net
 hi:=λt ht=>Dl (by exact⟨λp hp=>(by cases hp),λk _=>rfl⟩)
 rep:=λt ht=>⟨λr hr=>(by cases hr),λ_=>⟨xc,λr hr=>(by cases hr)⟩⟩
 cnt:=λt ht=>by simp[C0,r_,aaA,oM,QF]
def kZ(C:CS)(l:List (List Int)):CS:=l.foldl (λC z=>(nA C z).1) C
theorem Gr:∀l {n C},(∀z∈l,z.length=11)->CI n C->CI (n+l.length) (kZ C l)
 | [],n,C,_,h=>h
 |z::l,n,C,hl,h=>by
  have h1:=Gr l (λy hy=>hl y (List.mem_cons_of_mem _ hy)) (Ox h (hl z SI));exact h1.le (by grind)
end
end
def NV(V:Nat->Int)(B:Nat->List (List UInt8)):Prop:=∀f t,f<5->t<5->∀b∈B (f*5+t),∀c,A.dJ (UInt8.ofNat f) (UInt8.ofNat t) b=some c->∀M,lZ c=some M->uK V f M
theorem uK.mono{V V' a M}(h:uK V a M)(hV:V a<=V' a):uK V' a M:=by
 cases M with
 |row w r=>exact⟨h.1,h.2.1,Int.le_trans h.2.2 hV⟩
 |_=>exact h
theorem NV.mono{V V' B}(h:NV V B)(hV:∀w,w<5->V w<=V' w):NV V' B:=λf t hf ht b hb c hc M hM=>(h f t hf ht b hb c hc M hM).mono (hV f hf)
theorem aeF(x:gQ):∃cs,iI 10 x.W=some (x.tag,cs):=by
 cases x with
 |row w r=>exact⟨_,iG (n:=0) (lim:=10) OM OM [(w:Int)] (dM r)⟩
 |kept n=>
  have h:=iG (n:=1) (lim:=10) OM OM [n] [];rw[List.append_nil]at h;exact⟨_,h⟩
 |news w r=>exact⟨_,iG (n:=2) (lim:=10) OM OM [(w:Int)] (dM r)⟩
 |ask e b=>exact⟨_,iG (n:=3) (lim:=10) OM OM [e] (ah b)⟩
 |promise e b h c=>
  have h:=iG (n:=4) (lim:=10) OM OM [e] (ah b++(ah h++ah c));rw[<-List.append_assoc,<-List.append_assoc]at h;exact⟨_,h⟩
 |put e b c=>
  have h:=iG (n:=5) (lim:=10) OM OM [e] (ah b++ah c);rw[<-List.append_assoc]at h;exact⟨_,h⟩
 |taken e b=>exact⟨_,iG (n:=6) (lim:=10) OM OM [e] (ah b)⟩
 |view v=>exact⟨_,iG (n:=7) (lim:=10) OM OM [] (ah v)⟩
 |aZ w v=>exact⟨_,iG (n:=8) (lim:=10) OM OM [(w:Int)] (ah v)⟩
 |d_ w r=>exact⟨_,iG (n:=9) (lim:=10) OM OM [(w:Int)] (dM r)⟩
theorem Jl{x y:gQ}(h:lZ x.W=some y):y.tag=x.tag:=by
 obtain⟨cs,hk⟩:=aeF x
 grind[aaz]
theorem Oy{w:Nat}{r}(hw:w<5)(h:mX r){α}(g:Nat->List Int->α):((iI 5 (ah [(w:Int)]++dM r)).bind λ(x:Nat×List UInt8)=>(jl x.2).bind λ(y:List Nat×List UInt8)=>pE (g x.1 (nn y.1)) (C.jm (nn y.1)) y.2)=some (g w r):=by
 have h3:=iG (n:=w) (lim:=5) hw OM [] (dM r);have h3:iI 5 (ah [(w:Int)]++dM r)=some (w,dM r):=h3;have h2:=F5 h [];rw[List.append_nil]at h2;rw[h3];exact W60
theorem Oz{w r}(hw:w<5)(h:mX r):lZ (gQ.row w r).W=some (.row w r):=by
 have h1:iI 10 (gQ.row w r).W=some (0,ah [(w:Int)]++dM r):=iG (n:=0) (lim:=10) OM OM [(w:Int)] (dM r)
 simp_all[lZ,Oy]
theorem Cx{w r}(hw:w<5)(h:mX r):lZ (gQ.d_ w r).W=some (.d_ w r):=by
 have h1:iI 10 (gQ.d_ w r).W=some (9,ah [(w:Int)]++dM r):=iG (n:=9) (lim:=10) OM OM [(w:Int)] (dM r)
 simp_all[lZ,Oy]
theorem aeG{V a M M'}(h:lZ M.W=some M')(h0:∀w r,M=.row w r->w<5∧uK V a M)(h9:∀w r,M=.d_ w r->w<5∧uK V a M):uK V a M':=by
 cases M with
 |row w r=>obtain⟨a,b⟩:=h0 w r rfl;rw[Oz a b.1.1]at h;grind
 |d_ w r=>obtain⟨a,b⟩:=h9 w r rfl;rw[Cx a b.1]at h;grind
 |_=>
  have hk:=Jl h;cases M' with
  |row w r=>grind[gQ.tag]
  |d_ w r=>grind[gQ.tag]
  |_=>trivial
section
variable {V:Nat->Int}{f:Nat}{In:Nat->gQ->Prop}{n k:Nat}{S S1:RS}{bs:List (List UInt8)}
def Lc(V:Nat->Int)(f:Nat)(S:RS):Nat->Int:=gV V f (gi S.own 0)
theorem ail(hf:f<5)(h:MG V f S bs)(hN:NV (Lc V f S) S.B){t M}(ht:t<5)(hs:Qw f S M):NV (Lc V f S) (dS f S t M).B:=by
 unfold dS
 split
 ·exact hN
 ·intro f' t' hf' ht' b hb c hc M' hM'
  by_cases e:f'*5+t'=f*5+t
  ·obtain rfl:f'=f:=by omega
   replace hb:b∈wK (S.B (f'*5+t')) (A.jY (UInt8.ofNat f') (UInt8.ofNat t') M.W):=by
    grind[bE]
   unfold wK at hb;have hor:b∈S.B (f'*5+t')∨b=A.jY (UInt8.ofNat f') (UInt8.ofNat t') M.W:=by
    grind
   rcases hor with hb|rfl
   ·exact hN _ _ hf' ht' b hb c hc M' hM'
   ·rw[A.Ez]at hc
    cases hc;refine aeG hM' (λw r e=>?_) (λw r e=>?_)
    ·subst e;obtain⟨rfl,rfl⟩:=hs;exact⟨hf',h.v,rfl,by simp_all[Lc,bE]⟩
    ·subst e;obtain⟨h5,_,rfl⟩:=hs;exact⟨h5,(h.aT w h5).1⟩
  ·refine hN _ _ hf' ht' b ?_ c hc M' hM'
   grind[bI]
theorem abt(h:mg S S1)(w):Lc V f S w<=Lc V f S1 w:=by
 unfold Lc;by_cases e:w=f
 ·subst e;rw[bE,bE];exact h.1.Cu
 simp_all[bI]
theorem akm(hf:f<5)(hm:Mv f In n S S1)(h:MG V f S bs)(hN:NV (Lc V f S) S.B)(hl:mg S S1):NV (Lc V f S1) S1.B:=by
 have h1:NV (Lc V f S) S1.B:=by
  cases hm with
  |out ht hs _=>grind[ail]
  |_=>exact hN
 grind[NV.mono,abt]
theorem abu(hf:f<5)(hin:∀a M,In a M->M.Ok∧uK V a M)(hm:kH f In k S S1):∀ {bs},uS S->MG V f S bs->NV (Lc V f S) S.B->NV (Lc V f S1) S1.B:=by
 induction hm with
 |nil=>grind
 |cons a b c ih=>
  intro bs hM h hN;obtain⟨b1,h1,l1⟩:=aaE hin a hM h
  grind[FY,akm]
end
theorem Gs:∀bs {S T S'},S.own=T.own->S.aT=T.aT->S.sl=T.sl->dz S bs=some S'->∃T',dz T bs=some T'∧S'.own=T'.own∧S'.aT=T'.aT∧S'.sl=T'.sl∧S'.last=S.last
 | [],S,T,S',h1,h2,h3,h=>by cases h;exact⟨T,rfl,h1,h2,h3,rfl⟩
 |b::bs,S,T,S',h1,h2,h3,h=>by
  obtain⟨x,hx,h⟩:=Option.bind_eq_some_iff.1 h;have hs:(dD S x).own=(dD T x).own∧(dD S x).aT=(dD T x).aT∧(dD S x).sl=(dD T x).sl∧(dD S x).last=S.last:=by
   cases x with
   |cz w r=>exact⟨h1,by show C.gM S.aT S.sl (w:Int) r=C.gM T.aT T.sl (w:Int) r;grind,h3,rfl⟩
   |aZ w=>exact⟨h1,h2,by show C.ku S.sl (w:Int)=C.ku T.sl (w:Int);rw[h3],rfl⟩
   |row r=>exact⟨rfl,h2,h3,rfl⟩
   |_=>exact⟨h1,h2,h3,rfl⟩
  obtain⟨T',a,b,c,d,e⟩:=Gs bs hs.1 hs.2.1 hs.2.2.1 h;refine⟨T',?_,b,c,d,e.trans hs.2.2.2⟩;show(nI _).bind _=_
  grind
def DnG(V:Nat->Int)(t:Nat)(x:RS)(bs:List (List UInt8)):Prop:=∀R,dz st0 bs=some R->(R.own=x.own∧R.aT=x.aT∧R.sl=x.sl)∧mX R.own∧gi R.own 0<=5*(bs.length:Int)∧QW V t R.aT (gi R.own 0)
theorem DnG.mono{V V' t x bs}(h:DnG V t x bs)(hV:∀w,w<5->V w<=V' w):DnG V' t x bs:=λR hR=>by
 obtain⟨a,b,c,d⟩:=h R hR;exact⟨a,b,c,d.mono hV (Int.le_refl _)⟩
theorem MG.dn{V t S bs}(h:MG V t S bs):DnG V t S bs:=λR hR=>by
 obtain⟨a,b,c⟩:=h.BI R hR;have:=h.log.cnt.1;have hv:=h.Cu
 grind[MG.own,MG.aT]
theorem rZ:BG (au 174):=⟨⟨ag 174,by decide+kernel,qa 174,λi=>by grind[gi,au]⟩,by decide⟩
theorem kT{w}(hw:w<5):rowAt (au 870) w=au 174:=by
 grind[rowAt,sub,au]
theorem abv{V t D bs x}(hD:BF D bs)(hG:DnG V t x bs)(hv:V t<=gi x.own 0)(hH:Hi D)(B):BF (gT D B).2.1 bs∧∀S,(gT D B).1=some S->MG V t S bs∧(S.own=x.own∧S.aT=x.aT∧S.sl=x.sl)∧S.B=B:=by
 obtain⟨h1,h2⟩:=TI hD hH;unfold gT;cases e:dJ D with
 |mk o q=>
  obtain⟨D',er⟩:=q;rw[e]at h1 h2;cases o with
  |none=>grind
  |some t=>
   obtain⟨bs',cnt,used⟩:=t;obtain⟨rfl,hl⟩:=h1 _ rfl;dsimp only at hl|-;cases hr:dz (r_ D' cnt used B) bs' with
   |none=>grind
   |some S=>
    refine⟨h2,λS' h=>?_⟩;cases h;obtain⟨k1,k2,k3,k4,k5⟩:=mq bs' _ _ hr;obtain⟨R,a,b,c,d,e'⟩:=Gs bs' (S:=r_ D' cnt used B) (T:=st0) rfl rfl rfl hr;obtain⟨⟨g1,g5,g6⟩,g2,g3,g4⟩:=hG R a;have hlg:tO S.D bs' S.cnt S.used:=by rw[k1,k2,k3];exact hl
    have hc:=hlg.cnt.1;refine⟨⟨hlg,λR' hR'=>?_,by grind,by grind,by grind,λw hw=>?_,by grind⟩,⟨b.trans g1,c.trans g5,d.trans g6⟩,k5⟩
    ·grind
    ·rw[e',show(r_ D' cnt used B).last=au 870 from rfl,kT hw];exact rZ
abbrev vb(o:Nat->RS)(t:Nat):Int:=gi (o t).own 0
def Eq3(A B:RS):Prop:=A.own=B.own∧A.aT=B.aT∧A.sl=B.sl
structure VI (C:CS) (o:Nat->RS):Prop where
 up:∀t,t<5->C.up t=true->Eq3 (C.S t) (o t)∧∃bs,MG (vb o) t (C.S t) bs
 dn:∀t,t<5->C.up t=false->∃bs,BF (C.S t).D bs∧DnG (vb o) t (o t) bs
 net:NV (vb o) C.B
def oF(C:CS)(o:Nat->RS)(t:Nat):RS:=if C.up t=true then C.S t else o t
def Vs(C C':CS)(o:Nat->RS):Prop:=VI C' (oF C' o)∧∀t,t<5->mg (o t) (oF C' o t)
theorem mg.eq3{A B}(h:Eq3 B A):mg A B:=(mg.refl A).same h.1 h.2.1 h.2.2
theorem Jm{o p}(h:∀t,t<5->mg (o t) (p t))(w)(hw:w<5):vb o w<=vb p w:=(h w hw).1.Cu
theorem DnG.eq3{V t x y bs}(h:DnG V t x bs)(e:Eq3 x y):DnG V t y bs:=λR hR=>by
 obtain⟨⟨a,a2,a3⟩,b⟩:=h R hR;exact⟨⟨a.trans e.1,a2.trans e.2.1,a3.trans e.2.2⟩,b⟩
section
variable {n:Nat}{C:CS}{o:Nat->RS}
theorem OA(h:VI C o){C'}(hg:∀t,t<5->mg (o t) (oF C' o t))(hu:∀t,t<5->C'.up t=true->∃V bs,MG V t (C'.S t) bs∧∀w,w<5->w≠t->V w<=vb o w)(hd:∀t,t<5->C'.up t=false->∃bs,BF (C'.S t).D bs∧DnG (vb o) t (o t) bs)(hn:NV (vb (oF C' o)) C'.B):Vs C C' o:=by
 have hl:=Jm hg;refine⟨⟨λt ht h1=>?_,λt ht h1=>?_,hn⟩,hg⟩
 ·have e:oF C' o t=C'.S t:=if_pos h1
  obtain⟨V,bs,a,b⟩:=hu t ht h1;refine⟨by rw[e];exact⟨rfl,rfl,rfl⟩,bs,?_⟩;refine⟨a.log,a.BI,a.own,a.Cu,λw hw=>?_,a.last,by grind⟩;obtain⟨c,d⟩:=a.aT w hw
  grind
 ·have e:oF C' o t=o t:=if_neg (by grind)
  grind[DnG.mono]
theorem Ud(h:VI C o){t}(ht:t<5)(hu:C.up t=true):∃V bs,MG V t (C.S t) bs∧∀w,w<5->w≠t->V w<=vb o w:=by
 obtain⟨_,bs,b⟩:=h.up t ht hu
 grind
theorem x9(h:VI C o){C' t}(ht:t<5)(h1:C'.up t=C.up t)(h2:Eq3 (C'.S t) (C.S t)):mg (o t) (oF C' o t):=by
 unfold oF;split
 ·rename_i hu
  rw[h1]at hu;obtain⟨a,_⟩:=h.up t ht hu;exact .eq3 ⟨h2.1.trans a.1,h2.2.1.trans a.2.1,h2.2.2.trans a.2.2⟩
 grind[mg.refl]
theorem Vs.same(h:VI C o){C'}(h1:C'.up=C.up)(h2:∀t,t<5->Eq3 (C'.S t) (C.S t))(h3:∀t,t<5->C.up t=true->∀bs,MG (vb o) t (C.S t) bs->MG (vb o) t (C'.S t) bs)(h4:∀t,t<5->C.up t=false->∀bs,BF (C.S t).D bs->BF (C'.S t).D bs)(h5:NV (vb o) C'.B):Vs C C' o:=by
 have hg:∀t,t<5->mg (o t) (oF C' o t):=λt ht=>x9 h ht (congrFun h1 t) (h2 t ht)
 refine OA h hg (λt ht hu=>?_) (λt ht hu=>?_) (h5.mono (Jm hg))
 ·rw[h1]at hu
  obtain⟨a,bs,b⟩:=h.up t ht hu
  grind
 grind[VI.dn]
theorem Ru(hC:CI n C)(h:VI C o){t k}(ht:t<5)(hu:C.up t=true){In}(hin:∀a M,In a M->M.Ok∧uK (vb o) a M){S}(hm:kH t In k (rs C t) S):Vs C (nC C t S) o:=by
 have hM:=hC.up t ht hu;obtain⟨ho,bs,hG⟩:=h.up t ht hu;have hG':MG (vb o) t (rs C t) bs:=⟨hG.log,hG.BI,hG.own,hG.Cu,hG.aT,hG.last,hG.vt⟩;obtain⟨bs',g1,g2⟩:=ahP hin hm hM hG';have hN:NV (Lc (vb o) t (rs C t)) (rs C t).B:=h.net.mono λw _=>by
  unfold Lc;by_cases e:w=t
  ·subst e;rw[bE];exact hG.vt
  simp_all[bI]
 have gN:=abu ht hin hm hM hG' hN;have e1:∀j,j≠t->(nC C t S).S j=C.S j:=λj hj=>bI _ _ hj
 have e2:(nC C t S).S t=S:=bE _ _ _;have hg:∀j,j<5->mg (o j) (oF (nC C t S) o j):=λj hj=>by
  by_cases hjt:j=t
  ·subst hjt
   rw[show oF (nC C j S) o j=S by simp_all[oF,nC]];exact(mg.eq3 ho).trans g2
  ·exact x9 h hj rfl (by rw[e1 j hjt];exact⟨rfl,rfl,rfl⟩)
 refine OA h hg (λj hj hu'=>?_) (λj hj hu'=>?_) (gN.mono λw hw=>?_)
 ·by_cases hjt:j=t
  ·grind
  ·rw[e1 j hjt];exact Ud h hj hu'
 ·by_cases hjt:j=t
  all_goals simp_all[nC,VI.dn]
 ·unfold Lc
  by_cases e:w=t
  ·simp_all[bE,gi,oF,nC]
  simp_all[bI,Jm]
theorem vY(h:VI C o):Vs C C o:=Vs.same h rfl (λ_ _=>⟨rfl,rfl,rfl⟩) (λ_ _ _ _ h=>h) (λ_ _ _ _ h=>h) h.net
theorem Rv{V B}(h:NV V B){i q}(hq:∀x∈q,x∈B i):NV V (gV B i q):=λf t hf ht b hb c hc M hM=>by
 refine h f t hf ht b ?_ c hc M hM
 grind[bE,bI]
theorem alS(h:VI C o){B}(hB:NV (vb o) B):VI {C with B:=B} o:=⟨λt ht hu=>by
 grind[VI.up],h.dn,hB⟩
theorem abw(hC:CI n C)(h:VI C o){QY}{f t:Nat}(hf:f<5)(ht:t<5){b}(hb:∀c,A.dJ (UInt8.ofNat f) (UInt8.ofNat t) b=some c->∀M,lZ c=some M->uK (vb o) f M):Vs C (pU C QY f t b).1 o:=by
 unfold pU;cases e0:A.dJ (UInt8.ofNat f) (UInt8.ofNat t) b with
 |none=>exact vY h
 |some bs=>
  dsimp only
  split
  ·exact vY h
  ·cases e:lZ bs with
   |none=>exact vY h
   |some M=>
    have hok:=Kz e;have hu:C.up t=true:=lU (by grind);have hM:=hC.up t ht hu;exact Ru hC h ht hu (In:=λa M'=>a=f∧M'=M) (λa M' hh=>by grind) (QA ht hM.len hM.ep hf hok.len ⟨rfl,rfl⟩)
theorem aim(hC:CI n C)(h:VI C o){kind f t}(hf:f<5)(ht:t<5)(z):Vs C (vJ C kind f t z).1 o:=by
 unfold vJ;have hq:=hC.net (f*5+t);cases e:C.B (f*5+t)with
 |nil=>exact vY h
 |cons b0 bt=>
  dsimp only
  split
  ·split
   ·exact vY h
   ·refine Vs.same h rfl (λ_ _=>⟨rfl,rfl,rfl⟩) (λ_ _ _ _ h=>h) (λ_ _ _ _ h=>h) (Rv h.net λx hx=>?_)
    grind
  ·generalize hk:((max z 0) % ((bt.length+1:Nat):Int)).toNat=k
   cases e2:(b0::bt).drop k++(b0::bt).take k with
   |nil=>exact vY h
   |cons b r=>
    have hall:∀x∈b::r,x∈C.B (f*5+t):=λx hx=>by
     grind
    have KX:∀x∈b::r,x.length<=100000:=λx hx=>by grind
    have hlen:(b::r).length<=8:=by
     grind
    have hC2:CI n {C with B:=gV C.B (f*5+t) r}:=aeE hC (AB hC.net ⟨by grind,λx hx=>KX x (List.mem_cons_of_mem _ hx)⟩);have hV2:VI {C with B:=gV C.B (f*5+t) r} o:=alS h (Rv h.net λx hx=>hall x (List.mem_cons_of_mem _ hx));exact abw hC2 hV2 hf ht (h.net f t hf ht b (hall b SI))
theorem abx(h:VI C o){i}(hi:i<5)(mask eQ cut):Vs C (kY C i mask eQ cut) o:=by
 have e1:∀j,j≠i->(kY C i mask eQ cut).S j=C.S j∧(kY C i mask eQ cut).up j=C.up j:=λj hj=>⟨bI _ _ hj,bI _ _ hj⟩
 have e2:(kY C i mask eQ cut).S i={C.S i with D:=nD (C.S i).D mask eQ cut}:=bE _ _ _;have e3:(kY C i mask eQ cut).up i=false:=bE _ _ _;have hg:∀j,j<5->mg (o j) (oF (kY C i mask eQ cut) o j):=λj hj=>by
  by_cases hji:j=i
  ·simp_all[oF,mg.refl]
  ·exact x9 h hj (e1 j hji).2 (by rw[(e1 j hji).1];exact⟨rfl,rfl,rfl⟩)
 refine OA h hg (λj hj hu=>?_) (λj hj hu=>?_) (h.net.mono (Jm hg))
 ·grind[Ud]
 ·by_cases hji:j=i
  ·subst hji
   rw[e2];cases hu':C.up j with
   |true=>
    obtain⟨a,bs,b⟩:=h.up j hj hu';exact⟨bs,NK b.log _ _ _,b.dn.eq3 a⟩
   |false=>
    grind[VI.dn,Ct]
  grind[VI.dn]
theorem aby(hC:CI n C)(h:VI C o){i}(hi:i<5):Vs C (jK C i).1 o:=by
 unfold jK
 split
 ·exact vY h
 ·have hu:C.up i=false:=by grind
  obtain⟨bs,a,b⟩:=h.dn i hi hu;obtain⟨h1,h2⟩:=abv a b (Int.le_refl _) (hC.hi i hi) C.B;cases e:gT (C.S i).D C.B with
  |mk oo q=>
   obtain⟨D',er⟩:=q;rw[e]at h1 h2;cases oo with
   |none=>
    have d1:∀j,j≠i->(nJ C i D').S j=C.S j:=λj hj=>bI _ _ hj
    have d2:(nJ C i D').S i={C.S i with D:=D'}:=bE _ _ _;have hg:∀j,j<5->mg (o j) (oF (nJ C i D') o j):=λj hj=>by
     by_cases hji:j=i
     ·subst hji;exact x9 h hj rfl (by rw[d2];exact⟨rfl,rfl,rfl⟩)
     ·exact x9 h hj rfl (by rw[d1 j hji];exact⟨rfl,rfl,rfl⟩)
    refine OA (C':=nJ C i D') h hg (λt ht hu'=>?_) (λt ht hu'=>?_) (h.net.mono (Jm hg))
    ·have hu2:C.up t=true:=hu'
     grind[Ud]
    ·by_cases hti:t=i
     ·grind
     ·rw[d1 t hti];exact h.dn t ht hu'
   |some S=>
    obtain⟨k1,k2,k3⟩:=h2 S rfl;have e1:∀j,j≠i->(zu C i S).S j=C.S j∧(zu C i S).up j=C.up j:=λj hj=>⟨bI _ _ hj,bI _ _ hj⟩
    have e2:(zu C i S).S i=S:=bE _ _ _;have e3:(zu C i S).up i=true:=bE _ _ _;have hg:∀j,j<5->mg (o j) (oF (zu C i S) o j):=λj hj=>by
     by_cases hji:j=i
     ·subst hji;rw[show oF (zu C j S) o j=S by simp_all[oF]];exact .eq3 k2
     ·exact x9 h hj (e1 j hji).2 (by rw[(e1 j hji).1];exact⟨rfl,rfl,rfl⟩)
    refine OA (C':=zu C i S) h hg (λj hj hu'=>?_) (λj hj hu'=>?_) (h.net.mono (Jm hg))
    ·by_cases hji:j=i
     ·grind
     grind[Ud]
    grind[VI.dn]
theorem afM(hC:CI n C)(h:VI C o){z}(hz:z.length=11):Vs C (nA C z).1 o:=by
 have Ve:∀a M,(λ_ _=>False:Nat->gQ->Prop) a M->M.Ok∧uK (vb o) a M:=λ_ _ h=>h.elim
 unfold nA;split
 ·exact vY h
 ·have hi:(gi z 1).toNat <5:=by omega
  dsimp only
  split
  ·split
   ·rename_i hu
    have hM:=hC.up _ hi (lU hu);exact Ru hC h hi (lU hu) Ve (FW hi hM.len hM.ep hM.book (by grind[az]))
   grind[vY]
  ·split
   ·grind[aim,vY]
   ·split
    ·split
     ·rename_i hu
      have hM:=hC.up _ hi (lU hu);exact Ru hC h hi (lU hu) Ve (QB hi hM.len hM.ep)
     grind[vY]
    ·split
     ·have e1:∀D:DS,∀j,j≠(gi z 1).toNat->(nJ C (gi z 1).toNat D).S j=C.S j:=λD j hj=>bI _ _ hj
      have e2:∀D:DS,(nJ C (gi z 1).toNat D).S (gi z 1).toNat={C.S (gi z 1).toNat with D:=D}:=λD=>bE _ _ _
      refine Vs.same h rfl (λt ht=>?_) (λt ht hu bs hb=>?_) (λt ht hu bs hb=>?_) h.net
      ·by_cases hti:t=(gi z 1).toNat
       all_goals simp_all[Eq3]
      ·by_cases hti:t=(gi z 1).toNat
       ·subst hti;rw[e2];exact⟨⟨hb.log.ld,hb.log.le,hb.log.st⟩,hb.BI,hb.own,hb.Cu,hb.aT,hb.last,hb.vt⟩
       grind
      ·by_cases hti:t=(gi z 1).toNat
       ·subst hti;rw[e2];exact hb
       grind
     grind[abx,aby,vY]
theorem Ue{V t}(h:∀w,0<=V w):QW V t (au 870) 0:=λw hw=>by
 rw[kT hw];refine⟨rZ,?_⟩;rw[show gi (au 174) 0=0 from rfl]
 grind
theorem abz:VI C0 λ_=>C0.S 0 where
 up:=λt ht _=>by
  refine⟨⟨rfl,rfl,rfl⟩,[],?_⟩;have hcl:tO (cZ iP).1 [] 0 0:=⟨⟨rfl,rfl⟩,by omega,.inl ⟨rfl,rfl,λk _=>rfl⟩⟩;exact⟨hcl,λR hR=>by cases hR;exact⟨rfl,rfl,rfl⟩,rZ.1,(by show gi (au 174) 0<=5*((0:Nat):Int);decide),Ue λ_=>Int.le_refl _,λw hw=>by show BG (rowAt (au 870) w);grind[kT,rZ],Int.le_refl _⟩
 dn:=λt ht hu=>by cases hu
 net:=λf t _ _ b hb=>by cases hb
end
section
open Go.Shelf Go.RowKit
def Le:Go.Shelf.Ren:=⟨fun|171=>54|243=>91|246=>131|283=>163|284=>164|285=>165|286=>166|129=>183|317=>182|318=>184|319=>185|320=>186|337=>190|338=>191|n=>n,fun|3=>3|9=>9|2=>2|4=>4|171=>238|0=>0|53=>239|37=>63|5=>5|173=>242|212=>262|51=>256|20=>20|213=>263|46=>175|232=>268|233=>169|n=>n,fun|17=>0|18=>1|19=>2|n=>n⟩
theorem abB:Go.Proofs.LaysM.n171 prog Le:={
 mixed:=by kernel_rfl
 f129:=func183.trans (congrArg some KF)
 f171:=func54.trans (congrArg some KF)
 f243:=func91.trans (congrArg some KF)
 f246:=func131.trans (congrArg some KF)
 f283:=func163.trans (congrArg some KF)
 f284:=func164.trans (congrArg some KF)
 f285:=func165.trans (congrArg some KF)
 f286:=func166.trans (congrArg some KF)
 f317:=func182.trans (congrArg some KF)
 f318:=func184.trans (congrArg some KF)
 f319:=func185.trans (congrArg some KF)
 f320:=func186.trans (congrArg some KF)
 f337:=func190.trans (congrArg some KF)
 f338:=func191.trans (congrArg some KF)
 t0:=underlying0
 a0:=isAgg0
 z0:=sizeOf0
 v0:=zeroValue0
 t2:=underlying2
 a2:=isAgg2
 z2:=sizeOf2
 v2:=zeroValue2
 t3:=underlying3
 a3:=isAgg3
 z3:=sizeOf3
 v3:=zeroValue3
 t4:=underlying4
 a4:=isAgg4
 z4:=sizeOf4
 v4:=zeroValue4
 t5:=underlying5
 a5:=isAgg5
 z5:=sizeOf5
 v5:=zeroValue5
 t9:=underlying9
 a9:=isAgg9
 z9:=sizeOf9
 v9:=zeroValue9
 t20:=underlying20
 a20:=isAgg20
 z20:=sizeOf20
 v20:=zeroValue20
 t37:=underlying63
 a37:=isAgg63
 z37:=sizeOf63
 v37:=zeroValue63
 t46:=underlying175
 a46:=isAgg175
 z46:=sizeOf175
 v46:=zeroValue175
 t51:=underlying256
 a51:=isAgg256
 z51:=sizeOf256
 v51:=zeroValue256
 t53:=underlying239
 a53:=isAgg239
 z53:=sizeOf239
 v53:=zeroValue239
 t171:=underlying238
 a171:=isAgg238
 z171:=sizeOf238
 v171:=zeroValue238
 t173:=underlying242
 a173:=isAgg242
 z173:=sizeOf242
 v173:=zeroValue242
 t212:=underlying262
 a212:=isAgg262
 z212:=sizeOf262
 v212:=zeroValue262
 t213:=underlying263
 a213:=isAgg263
 z213:=sizeOf263
 t232:=underlying268
 a232:=isAgg268
 z232:=sizeOf268
 v232:=zeroValue268
 t233:=underlying169
 a233:=isAgg169
 z233:=sizeOf169
 v233:=zeroValue169
 g17:=by kernel_rfl
 g18:=by kernel_rfl
 g19:=by kernel_rfl
 i0:=by kernel_rfl
 i2:=by kernel_rfl
 i3:=by kernel_rfl
 i4:=by kernel_rfl
 i5:=by kernel_rfl
 i9:=by kernel_rfl
 i20:=by kernel_rfl
 i37:=by kernel_rfl
 i46:=by kernel_rfl
 i51:=by kernel_rfl
 i53:=by kernel_rfl
 i171:=by kernel_rfl
 i173:=by kernel_rfl
 i212:=by kernel_rfl
 i232:=by kernel_rfl
 i233:=by kernel_rfl
 m17:=by kernel_rfl
 m18:=by kernel_rfl
 m19:=by kernel_rfl}
theorem Rx(w n)(h0:-9223372036854775808<=n)(h1:n<=9223372036854775807)(htab:Lib.TabIs prog w "internal/strconv.uint64pow10" .u64 Lib.pow10Tab):
  Calls prog 54 #[.int .i64 n] w λe w'=>e=.returned (.string ⟨(Lib.itoa n).toArray⟩)∧Below w.heap.size w w':=
 (Any.strconv_Itoa abB n h0 h1 w htab).mono λe w' ⟨h,k,os,hw⟩=>⟨h,by simp_all[Go.Lib.below_grow]⟩
end
def Jn(g:Nat)(og:Obj):Prop:=∀w:World,w.heap[g]? =some og->Lib.TabIs prog w "internal/strconv.uint64pow10" .u64 Lib.pow10Tab
def gU(g:Nat)(og:Obj):bT:=⟨[g],λw=>w.heap[g]? =some og∧Jn g og,λw w' h ⟨h1,h2⟩=>⟨(h g SI).trans h1,h2⟩⟩
theorem Ry{w}(h:Lib.TabIs prog w "internal/strconv.uint64pow10" .u64 Lib.pow10Tab):∃g og,w.heap[g]? =some og∧Jn g og:=by
 unfold Lib.TabIs World.var? at h;cases hg:prog.globalNamed "internal/strconv.uint64pow10" with
 |none=>grind
 |some g=>
  cases ho:w.heap[g]? with
  |none=>grind
  |some og=>
   refine⟨g,og,ho,λw' h'=>?_⟩;unfold Lib.TabIs World.var?
   grind
theorem Rz{T w0 w m g og}(hI:Inv T w0 w m)(hm:gU g og∈m):Lib.TabIs prog w "internal/strconv.uint64pow10" .u64 Lib.pow10Tab:=(hI.sat _ hm).2 w (hI.sat _ hm).1
def tu(zs:List Int):List UInt8:=zs.flatMap λn=>32::Lib.itoa n
def mY(words:List UInt8)(zs:List Int):List UInt8:=words++tu zs++[10]
theorem RA(zs:List Int)(k z)(h:zs[k]? =some z):tu (zs.take (k+1))=tu (zs.take k)++(32::Lib.itoa z):=by
 grind[tu,List.take_add_one]
theorem x_(x y):sF (x++y)=sF x++sF y:=by unfold sF;simp
abbrev spc(z:Int):ByteArray:=⟨#[32]⟩++⟨(Lib.itoa z).toArray⟩
theorem abC(z):sF (spc z)=32::Lib.itoa z:=by grind[x_,sF]
theorem aeI(z):(spc z).size=(Lib.itoa z).length+1:=by grind[qU,abC]
theorem uO(zs)(h:eG zs):(tu zs).length<=22*zs.length:=by
 have:∀zs:List Int,(∀z∈zs,-9223372036854775808<=z∧z<=9223372036854775807)->(tu zs).length<=22*zs.length:=by
  intro zs
  induction zs with
  |nil=>grind[tu]
  |cons z zs ih=>
   intro hz;have h1:=Lib.itoa_length_le z (hz z SI).1 (hz z SI).2;have h2:=ih (λy hy=>hz y (by simp[hy]))
   grind[tu]
 exact this zs (λz hz=>by
  obtain⟨i,hi⟩:=List.getElem?_of_mem hz;have:=h i
  grind[gi])
section
variable (w0:World)(tb cb g:Nat)(og:Obj)(u:Bool)(a al:Option Addr)(c cl:Nat)(bs:List UInt8)(zs:List Int)(n:Nat)(hn:zs.length=n)(xn:Hid (eG zs))
variable (hI:Inv (two (yK tb cb u a c bs) (two (gU g og) (bD 3 1 (.slice al n cl) n (iz zs)))).own w0 w0 [two (yK tb cb u a c bs) (two (gU g og) (bD 3 1 (.slice al n cl) n (iz zs)))])
include hn xn hI
theorem Lf(words)(hw0:0<words.size)(hb:bs.length+words.size+22*n+1<=140737488355328):Calls prog 28 #[.pointer (some ⟨tb,0,none⟩),.string words,.slice al n cl] w0 λe w'=>∃a' c',e=.returned (.tuple #[])∧
  Inv (two (yK tb cb u a c bs) (two (gU g og) (bD 3 1 (.slice al n cl) n (iz zs)))).own w0 w' [two (yK tb cb true a' c' (bs++mY (sF words) zs)) (two (gU g og) (bD 3 1 (.slice al n cl) n (iz zs)))]:=by
 have hI2:=hI;generalize hT:(two (yK tb cb u a c bs) (two (gU g og) (bD 3 1 (.slice al n cl) n (iz zs)))).own=T at hI2|-;clear hI hT;replace hI2:=hI2.dR;have hI:Inv T w0 w0 [yK tb cb u a c bs,gU g og,bD 3 1 (.slice al n cl) n (iz zs)]:=by
  exact hI2.turn (λhs y hy=>by
   have h2:=hs (two (gU g og) (bD 3 1 (.slice al n cl) n (iz zs))) SI;simp only[List.mem_cons,List.not_mem_nil,or_false]at hy;rcases hy with rfl|rfl|rfl
   ·exact hs _ SI
   ·exact h2.1
   ·exact h2.2) (by simp[owned,two])
 clear hI2;have hnl:=uO zs xn.out;have hbk0:∀k,(bs++sF words++tu (zs.take k)).length<=bs.length+words.size+22*n:=λk=>by
  have h1:=uO (zs.take k) (by
   intro i;by_cases hi:i<k
   ·have:gi (zs.take k) i=gi zs i:=by simp[gi,List.getElem?_take,hi]
    rw[this];exact xn.out i
   ·have:gi (zs.take k) i=0:=by unfold gi;rw[List.getD_eq_getElem?_getD,List.getElem?_eq_none (by rw[List.length_take];omega)];rfl
    rw[this];omega)
  rw[List.length_append,List.length_append,qU];have h2:(zs.take k).length<=zs.length:=by rw[List.length_take];omega
  omega
 rw[hn]at hnl;go_enter func28,ntmps28;go_wp2_with(go_at_call 58;refine KH hI (Ld _ tb cb u a c bs (hI.at_ aC) words hw0 OM) ?_;intro a1 c1 w1 hI);replace hI:Inv T w0 w1 [yK tb cb true a1 c1 (bs++sF words++tu (zs.take 0)),gU g og,bD 3 1 (.slice al n cl) n (iz zs)]:=by
  rw[List.take_zero,show tu []=[]from rfl,List.append_nil];exact hI
 go_loopg [7,15] n (λkk s7 s15 wr=>∃(k:Nat) (ak:Option Addr) (ck:Nat) (bk:List UInt8),kk=n-k∧k<=n∧s15=.int .i64 (k:Int)∧Hid (bs++sF words++tu (zs.take k)=bk)∧bk.length<=bs.length+words.size+22*n∧Inv T w0 wr [yK tb cb true ak ck bk,gU g og,bD 3 1 (.slice al n cl) n (iz zs)])
 case atStart=>exact⟨0,a1,c1,_,rfl,by omega,rfl,HD rfl,hbk0 0,hI⟩
 case round=>
  clear hI;obtain⟨k,ak,ck,bk,rfl,hk,rfl,hbk,hbl,hI⟩:=hrel;by_cases hkn:k=n
  ·subst hkn
   have hs1:0< (⟨#[10]⟩:ByteArray).size:=by decide
   have hs2:bk.length+(⟨#[10]⟩:ByteArray).size<=140737488355328:=by show bk.length+1<=_;omega
   go_wp2_with(go_at_call 58;refine KH hI (Ld _ tb cb true ak ck bk (hI.at_ aC) ⟨#[10]⟩ hs1 hs2) ?_;intro a1 c1 w1 hI);have e:bk++sF ⟨#[10]⟩=bs++mY (sF words) zs:=by
    rw[<-hbk.out,<-hn,List.take_length];simp[mY,sF]
   rw[e]at hI;refine⟨rfl,_,h_ KF _ _,a1,c1,rfl,?_⟩;exact hI.turn (λhs y hy=>by
    rw[List.mem_singleton.1 hy];exact⟨hs _ SI,hs _ SI,hs _ SI⟩) (by simp[owned,two])
  ·have hkl:k<n:=by omega
   have hd:decide ((k:Int) < (n:Int))=true:=by simp;omega
   obtain⟨z,aeJ⟩:∃z,zs[k]? =some z:=⟨zs[k],by simp⟩;have hzk:(iz zs)[k]? =some (.int .i64 z):=by simp[iz,aeJ]
   have hz:-9223372036854775808<=z∧z<=9223372036854775807:=by have:=xn.out k;unfold gi at this;rwa [List.getD_eq_getElem?_getD,aeJ]at this
   have hzl:=Lib.itoa_length_le z hz.1 hz.2;obtain⟨ga,rfl⟩:=gZ (a':=al) hI a_ (by rw[j5];omega);have hb2:Hid (bs++sF words++tu (zs.take (k+1))=bk++sF (spc z)):=HD (by rw[RA zs k z aeJ,<-List.append_assoc,hbk.out,abC]);have hb3:(bk++sF (spc z)).length<=bs.length+words.size+22*n:=by rw[<-hb2.out];exact hbk0 _
   clear aeJ;have hs1:0< (spc z).size:=by rw[aeI];omega
   have hs2:bk.length+(spc z).size<=140737488355328:=by have:=hb3;rw[List.length_append,qU]at this;omega
   go_upto_region 4 with(with_reducible refine aK hI RF a_ (aQ.out (t:=3)) hzk ?_)
   (refine ZR [4,6] [0,1,2] [4] [0,1,2,3,4,5,6] (λw=>Inv T w0 w [yK tb cb true ak ck bk,gU g og,bD 3 1 (.slice (some ⟨ga,0,none⟩) n cl) n (iz zs)]) hI ?_;intro wd hI)
   (repeat(first|refine ZS ?_|refine ZQ ?_;go_wp2_with(first|go_at_call 58;refine KH hI (Ld _ tb cb true ak ck bk (hI.at_ aC) (spc z) hs1 hs2) ?_;intro a1 c1 w1 hI|go_at_call 54;refine KD hI (Rx _ z hz.1 hz.2 (Rz (g:=g) (og:=og) hI aM)) ?_;intro w1 hI);refine ZP ?_))
   go_wp2_with(fail);go_roundg (n- (k+1))
   case measure=>omega
   case rel=>exact⟨k+1,a1,c1,bk++sF (spc z),rfl,by omega,rfl,hb2,hb3,hI⟩
end
section
open B (eu pF dw fA)
section
variable {ops:Array Oper}{Q:Exit->Act->World->Prop}{a:Act}{rest:List Oper}{T:List Nat}{w0 w:World}{m m':List bT}{dst:Option Tmp}{ty:TypeId}{pos:String}{af:Array Edge}{x y:Operand}
theorem RN{P:Program}{gd}{t i off e:Nat}{zs fs f}(hx:a.eval x=ia zs)(hu:P.underlying t=some (.struct fs))(hf:fs[i]? =some f)(ht:f.type=e)(ho:f.offset=off)(hT:iY P e)(hl:off<zs.length):gu P ⟨dst,.field t x i,ty,pos,af,gd⟩ a w (.int .i64 (gi zs off)):=by
 exact W61
theorem yfv{gd zs}(hx:a.eval x=ia zs)(hl:zs.length=174):gu prog ⟨dst,.field 41 x 0,ty,pos,af,gd⟩ a w (.int .i64 (gi zs 0)):=
 RN hx ahW aka akb akc (aQ.out (t:=3)) OM
theorem abP{tb cb c u al bs}(hI:Inv T w0 w m)(hx:a.eval x=.pointer (some ⟨tb,0,none⟩))(hm:yK tb cb u al c bs∈m)(k:wpList prog ops Q rest (a.put dst (.pointer (some ⟨cb,0,none⟩))) w):wpList prog ops Q (⟨dst,.load 26 x,ty,pos,af,none⟩::rest) a w:=by
 have hb:w.heap[tb]? =some (.cells (tcs tb cb u al bs.length c).toArray 70 (0,0)):=(hI.sat _ hm).1;refine av (v:=.pointer (some ⟨cb,0,none⟩)) ?_ k;unfold gu execOp;simp only[hx,Instr.loadAt,Instr.sureAddr,Sem.run_bind,Sem.run_pure,Result.andThen_ok,ik (P:=prog) (aQ.out (t:=26)) hb 0 (v:=.pointer (some ⟨cb,0,none⟩)) rfl]
variable {X:CX}{Y:CY}{C:CS}{i:Nat}
theorem Li(hi:i<5)(hu:C.up i=true)(hI:Inv T w0 w m)(hm:bF X Y C∈m){V}(hV:(C.S i).view=V):Calls prog 15 #[.pointer (some ⟨(Y.m i).b,0,none⟩)] w λe w'=>e=.returned (ia V)∧Inv T w0 w' m:=by
 subst hV;exact(abD w _ _ _ _ _ _ _ _ ((vM hi hu).own hI hm)).mono λe w' h=>⟨h.1,(vM hi hu).same hI hm h.2⟩
theorem Lj(hi:i<5)(hu:C.up i=true)(hI:Inv T w0 w m)(hm:bF X Y C∈m){O}(hO:(C.S i).own=O):Calls prog 16 #[.pointer (some ⟨(Y.m i).b,0,none⟩)] w λe w'=>e=.returned (ia O)∧Inv T w0 w' m:=by
 subst hO;exact(akn w _ _ _ _ _ _ _ _ ((vM hi hu).own hI hm)).mono λe w' h=>⟨h.1,(vM hi hu).same hI hm h.2⟩
end
section
variable {T:List Nat}{w0 w:World}{m:List bT}{A B C D:bT}
theorem tl4(h:Inv T w0 w (D::A::B::C::m)):Inv T w0 w (two B (two C D)::A::m):=
 h.turn (λhs y hy=>by
  simp only[List.mem_cons]at hy;rcases hy with rfl|rfl|hy
  ·exact⟨hs _ SI,hs _ SI,hs _ SI⟩
  all_goals grind) (by
  grind[owned,two])
theorem aks(h:Inv T w0 w (two B (two C D)::A::m)):Inv T w0 w (A::B::C::m):=by
 have h2:Inv T w0 w (D::A::B::C::m):=h.turn (λhs y hy=>by
  have h1:=hs (two B (two C D)) SI;simp only[List.mem_cons]at hy;rcases hy with rfl|rfl|rfl|rfl|hy
  ·exact h1.2.2
  ·grind
  ·exact h1.1
  ·exact h1.2.1
  grind) (by
  grind[owned,two])
 grind[Inv.sub]
end
section
variable {T:List Nat}{w0 w:World}{m:List bT}{A B C D O:bT}
theorem tl5(h:Inv T w0 w (D::O::A::B::C::m)):Inv T w0 w (two B (two C D)::O::A::m):=
 h.turn (λhs y hy=>by
  simp only[List.mem_cons]at hy;rcases hy with rfl|rfl|rfl|hy
  ·exact⟨hs _ SI,hs _ SI,hs _ SI⟩
  all_goals grind) (by
  grind[owned,two])
theorem akt(h:Inv T w0 w (two B (two C D)::O::A::m)):Inv T w0 w (O::A::B::C::m):=by
 have h2:Inv T w0 w (D::O::A::B::C::m):=h.turn (λhs y hy=>by
  have h1:=hs (two B (two C D)) SI;simp only[List.mem_cons]at hy;rcases hy with rfl|rfl|rfl|rfl|rfl|hy
  ·exact h1.2.2
  ·grind
  ·grind
  ·exact h1.1
  ·exact h1.2.1
  grind) (by
  grind[owned,two])
 grind[Inv.sub]
end
theorem abQ:∀l k r,(∀q∈l,q.length=3)->l[k]? =some r->k*3+3<=(yt l).length∧((yt l).drop (k*3)).take 3=iz r
 | [],k,r,_,h=>by grind
 |q::l,0,r,h3,h=>by
  simp_all[j5,yt]
 |q::l,k+1,r,h3,h=>by
  have hl:(iz q).length=3:=by grind[j5]
  obtain⟨a,b⟩:=abQ l k r (λx hx=>h3 x (by simp[hx])) (by grind);unfold yt at a b|-;rw[List.flatMap_cons];refine⟨by grind,?_⟩;rw[show(k+1)*3=(iz q).length+k*3 by omega,List.drop_append,List.drop_eq_nil_of_le OM,List.nil_append,show(iz q).length+k*3- (iz q).length=k*3 by omega];exact b
theorem aku{r}(h:r.length=3):[gi r 0,gi r 1,gi r 2]=r:=by
 match r,h with
 | [a,b,c],_=>rfl
def vZ(rs:List (List Int)):List UInt8:=rs.flatMap λr=>mY [114,101,112,108,121] r
theorem Jv(q):∀x∈fA q 5,0<=x∧x<5:=λx hx=>by
 grind[B.fA]
theorem abR(q):(fA q 5).length<=5:=by
 grind[B.fA]
theorem RO(rp:List (List Int))(k r)(h:rp[k]? =some r):vZ (rp.take (k+1))=vZ (rp.take k)++mY [114,101,112,108,121] r:=by
 grind[vZ,List.take_add_one]
abbrev xw(i:Nat):ByteArray:=⟨#[109,97,99,104,105,110,101,32]⟩++⟨(Lib.itoa (i:Int)).toArray⟩
def txM:List UInt8:=[109,97,99,104,105,110,101,32]
def xx(i:Nat):List UInt8:=txM++Lib.itoa (i:Int)
theorem A_(i):sF (xw i)=xx i:=by grind[x_,sF,xx,txM]
theorem afQ:eG []:=qa 0
theorem BM{i}(hi:i<5):8<=(xx i).length∧(xx i).length<=29:=by
 have:=Lib.itoa_length_le (i:Int) OM OM
 simp_all[xx,txM]
def tC(C:CS)(i:Nat):List UInt8:=
 (if nM C i=true then mY (xx i++[32,117,112]) ([gi (C.S i).view 0,gi (C.S i).own 0]++fA (gi (C.S i).view 1) 5)else mY (xx i++[32,100,111,119,110]) [])++vZ (ji C i)
section
variable (w0:World)(X:CX)(Y:CY)(C:CS)(tb g:Nat)(og:Obj)(u:Bool)(a:Option Addr)(c:Nat)(bs:List UInt8)
variable (hI:Inv (two (bF X Y C) (two (yK tb X.cb u a c bs) (gU g og))).own w0 w0 [two (bF X Y C) (two (yK tb X.cb u a c bs) (gU g og))])
variable (i:Nat)(hi:i<5)(hp1:(C.past i).length<=1000000000)(hp2:(C.S i).aX.length<=1000000000)(hbl:bs.length<=100000000000000)
variable (GZ:Hid (∀r∈ji C i,eG r))(h64:C.up i=true->Hid (eG (C.S i).view)∧Hid (eG (C.S i).own))
include hI hi hp1 hp2 hbl GZ h64
theorem WJ:Calls prog 26 #[.pointer (some ⟨tb,0,none⟩),.int .i64 (i:Int)] w0 λe w'=>∃a' c',e=.returned (.tuple #[])∧Inv (two (bF X Y C) (two (yK tb X.cb u a c bs) (gU g og))).own w0 w' [two (bF X Y C) (two (yK tb X.cb true a' c' (bs++tC C i)) (gU g og))]:=by
 have hI2:=hI;generalize hT:(two (bF X Y C) (two (yK tb X.cb u a c bs) (gU g og))).own=T at hI2|-;clear hI hT;have hI:Inv T w0 w0 [bF X Y C,yK tb X.cb u a c bs,gU g og]:=by
  exact hI2.turn (λhs y hy=>by
   have h2:=hs _ (List.mem_singleton.2 rfl);simp only[List.mem_cons,List.not_mem_nil,or_false]at hy;rcases hy with rfl|rfl|rfl
   ·exact h2.1
   ·exact h2.2.1
   ·exact h2.2.2) (by simp[owned,two])
 clear hI2;have hnl:=BM hi;have hil:=Lib.itoa_length_le (i:Int) OM OM;cases hub:nM C i
 case' false=>
  have hmv:Hid ((if nM C i=true then Value.pointer (some ⟨(Y.m i).b,0,none⟩)else .pointer none)=.pointer none):=HD (if_neg (by simp[hub]));have hsz:(xw i++⟨#[32,100,111,119,110]⟩).size=(xx i).length+5:=by rw[<-qU,x_,A_,List.length_append];rfl
  have hs1:0< (xw i++⟨#[32,100,111,119,110]⟩).size:=by omega
  have hs2:bs.length+(xw i++⟨#[32,100,111,119,110]⟩).size+22*0+1<=140737488355328:=by omega
  have xn:=HD afQ;go_enter func26,ntmps26;go_upto_region 3 with(first|go_at_call 54;refine KD hI (Rx _ (i:Int) OM OM (Rz (g:=g) (og:=og) hI a_)) ?_;intro w1 hI|with_reducible refine abP (tb:=tb) (cb:=X.cb) hI RF aM (k:=?_)|go_at_call 13;refine KR (iM hi hI aC) ?_;rw[hmv.out])
  replace hI:Inv T w0 _ (bD 3 1 (.slice none 0 0) 0 (iz [])::_):=Inv.zw 3 1 hI;go_upto_region 7 with(go_at_call 28;replace hI:=tl4 hI;(with_reducible refine(Lf _ tb X.cb g og u a none c 0 bs [] 0 List.length_nil xn (hI.at_ aC) (xw i++⟨#[32,100,111,119,110]⟩) hs1 hs2).mono ?_);rintro e w1 ⟨a1,c1,rfl,hJ⟩;replace hI:=aks (hI.on hJ jR);clear hJ)
  obtain⟨b1,hb1⟩:=EH (bs++mY (sF (xw i++⟨#[32,100,111,119,110]⟩)) []);rw[hb1.out]at hI;have al5:b1.length<=100000000000300:=by rw[<-hb1.out,mY,List.length_append,List.length_append,List.length_append,qU,hsz,show(tu []).length=0 from rfl,show([10]:List UInt8).length=1 from rfl];omega
  have hmF:Hid (bs++tC C i=b1++vZ (ji C i)):=HD (by
   rw[<-hb1.out,tC,hub,if_neg SI,x_,A_];simp[sF])
  clear hb1 hs1 hs2 xn hsz hmv
 case' true=>
  have hu:C.up i=true:=by rw[nM,Bool.and_eq_true]at hub;exact hub.1
  have hmv:Hid ((if nM C i=true then Value.pointer (some ⟨(Y.m i).b,0,none⟩)else .pointer none)=.pointer (some ⟨(Y.m i).b,0,none⟩)):=HD (if_pos hub);obtain⟨_,hRL,_,_⟩:=vL hi hu hI aC;have hvl:=hRL.view;have hol:=hRL.own;obtain⟨akv,akw⟩:=h64 hu;obtain⟨V,hV⟩:=EH ((C.S i).view);obtain⟨O,hO⟩:=EH ((C.S i).own);rw[hV.out]at hvl akv;rw[hO.out]at hol akw;have hsl:=abR (gi V 1);have hsz:(xw i++⟨#[32,117,112]⟩).size=(xx i).length+3:=by rw[<-qU,x_,A_,List.length_append];rfl
  have hs1:0< (xw i++⟨#[32,117,112]⟩).size:=by omega
  have hs2:bs.length+(xw i++⟨#[32,117,112]⟩).size+22*(2+(fA (gi V 1) 5).length)+1<=140737488355328:=by omega
  have h2n:([gi V 0,gi O 0]++fA (gi V 1) 5).length=2+(fA (gi V 1) 5).length:=by rw[List.length_append];rfl
  have xn:Hid (eG ([gi V 0,gi O 0]++fA (gi V 1) 5)):=HD (qb.2 λx hx=>by
   rcases List.mem_append.1 hx with hx|hx
   ·simp only[List.mem_cons,List.not_mem_nil,or_false]at hx
    rcases hx with rfl|rfl
    ·exact akv.out 0
    ·exact akw.out 0
   ·have:=Jv _ x hx
    unfold o8;omega)
  go_enter func26,ntmps26;go_upto_region 5 with(first|go_at_call 54;refine KD hI (Rx _ (i:Int) OM OM (Rz (g:=g) (og:=og) hI a_)) ?_;intro w1 hI|with_reducible refine abP (tb:=tb) (cb:=X.cb) hI RF aM (k:=?_)|go_at_call 13;refine KR (iM hi hI aC) ?_;rw[hmv.out]|go_at_call 15;refine KE (Li hi hu hI aC hV.out) ?_;intro w1 hI|refine YS ?_;intro w hI|refine YX ?_;intro bx w hI)
  (obtain⟨bv,hbx⟩:=EZ bx;subst hbx)
  refine nL (λw=>Inv T w0 w [ib bv 30 V,bF X Y C,yK tb X.cb u a c bs,gU g og]) mixed ?_;replace hI:=hI.drew;change o_ _ _ _ _ _ _ _ _ (World.drew _);revert hI;generalize World.drew _=w9;intro hI
  (refine aO (i:=0) (v:=?_) rfl KF KF KF (λc a w hp=>hp) ⟨by rfl,?_⟩ ?_;rotate_left;focus(intro w _;go_simp;with_reducible rfl))
  (simp only[Act.put,List.setIfInBounds_toArray,QG,QS])
  (refine aO (i:=1) (v:=.int .i64 (gi V 0)) rfl KF KF KF (λc a w hp=>hp) ⟨by rfl,λw hC=>lC hC RF aC (aQ.out (t:=3)) OM (by rfl)⟩ ?_)
  (simp only[Act.put,List.setIfInBounds_toArray,QG,QS])
  (refine aO (i:=2) (v:=?_) rfl KF KF KF (λc a w hp=>hp) ⟨by rfl,?_⟩ ?_;rotate_left;focus(intro w _;go_simp;with_reducible rfl))
  (simp only[Act.put,List.setIfInBounds_toArray,QG,QS])
  (refine aO (i:=6) (v:=?_) rfl KF KF KF (λc a w hp=>hp) ⟨by rfl,?_⟩ ?_;rotate_left;focus(intro w _;go_simp;with_reducible rfl))
  (simp only[Act.put,List.setIfInBounds_toArray,QG,QS])
  (refine aO (i:=7) (v:=.int .i64 (gi V 1)) rfl KF KF KF (λc a w hp=>hp) ⟨by rfl,λw hC=>lC hC RF aC (aQ.out (t:=3)) OM (by rfl)⟩ ?_)
  (simp only[Act.put,List.setIfInBounds_toArray,QG,QS])
  refine eH (i:=3) KF hI ?_;refine bG (i:=3) (by rfl) RF ?_;go_wp2_with(go_at_call 16;refine KE (Lj hi hu hI aM hO.out) ?_;intro w1 hI);refine bY ?_
  (try(simp only[Act.put,List.setIfInBounds_toArray,QG,QS]))
  (refine aO (i:=4) (v:=.int .i64 (gi O 0)) rfl KF KF KF (λc a w hp=>hp) ⟨by rfl,λw hC=>yfv RF hol⟩ ?_)
  (simp only[Act.put,List.setIfInBounds_toArray,QG,QS])
  refine DD (i:=5) (j:=8) KF hI ?_ ?_
  case' refine_1=>
   refine bG (i:=5) (by rfl) RF ?_;go_wp2_with((with_reducible refine DY hI (k:=?_));intro b2 w hI);refine bY ?_
   (try(simp only[Act.put,List.setIfInBounds_toArray,QG,QS]))
   refine eH (i:=8) KF (hI.sub SB) ?_;refine bG (i:=8) (by rfl) RF ?_;go_wp2_with(go_at_call 55;refine KO hI (B.JX _ _) ?_;intro sa sc w1 hI);refine bY ?_
   (try(simp only[Act.put,List.setIfInBounds_toArray,QG,QS]))
   refine eH (i:=9) KF (hI.sub SB) ?_;refine bG (i:=9) (by rfl) RF ?_;go_wp2_with((with_reducible refine aA (q:=(fA (gi V 1) 5).length) hI RF RF (uQ.out (t:=74)) (by intro r';exact aU.there aU.here) (hI.rd aC) (by rw[List.length_map,Nat.mul_one]) (by intro u hu;obtain⟨z,_,rfl⟩:=List.mem_map.1 hu;with_unfolding_all rfl) MX OM ?_;intro a4 c4 w hI));refine bY ?_
   (try(simp only[Act.put,List.setIfInBounds_toArray,QG,QS]))
   refine eH (i:=10) KF (hI.sub SB) ?_;refine bG (i:=10) (by rfl) RF ?_;go_wp2_with(fail);refine bY ?_
   (try(simp only[Act.put,List.setIfInBounds_toArray,QG,QS]))
   refine qW KF (hI.sub SB) ?_ _;replace hI:=hI.sub (.cons _ (.cons_cons _ (.cons _ (.refl _))))
  case' refine_2=>
   refine bG (i:=8) (by rfl) RF ?_;go_wp2_with(go_at_call 55;refine KO hI (B.JX _ _) ?_;intro sa sc w1 hI);refine bY ?_
   (try(simp only[Act.put,List.setIfInBounds_toArray,QG,QS]))
   refine eH (i:=5) KF (hI.sub SB) ?_;refine bG (i:=5) (by rfl) RF ?_;go_wp2_with((with_reducible refine DY hI (k:=?_));intro b2 w hI);refine bY ?_
   (try(simp only[Act.put,List.setIfInBounds_toArray,QG,QS]))
   refine eH (i:=9) KF (hI.sub SB) ?_;refine bG (i:=9) (by rfl) RF ?_;go_wp2_with((with_reducible refine aA (q:=(fA (gi V 1) 5).length) hI RF RF (uQ.out (t:=74)) (by intro r';exact aU.here) (hI.rd aM) (by rw[List.length_map,Nat.mul_one]) (by intro u hu;obtain⟨z,_,rfl⟩:=List.mem_map.1 hu;with_unfolding_all rfl) MX OM ?_;intro a4 c4 w hI));refine bY ?_
   (try(simp only[Act.put,List.setIfInBounds_toArray,QG,QS]))
   refine eH (i:=10) KF (hI.sub SB) ?_;refine bG (i:=10) (by rfl) RF ?_;go_wp2_with(fail);refine bY ?_
   (try(simp only[Act.put,List.setIfInBounds_toArray,QG,QS]))
   refine qW KF (hI.sub SB) ?_ _;replace hI:=hI.sub (.cons_cons _ (.cons _ (.cons _ (.refl _))))
  all_goals
   replace hI:Inv T w0 _ (bD 3 1 (.slice a4 (2+(fA (gi V 1) 5).length) c4) (2+(fA (gi V 1) 5).length) (iz ([gi V 0,gi O 0]++fA (gi V 1) 5))::_):=hI;go_upto_region 7 with(go_at_call 28;replace hI:=tl4 hI;(with_reducible refine(Lf _ tb X.cb g og u a a4 c c4 bs ([gi V 0,gi O 0]++fA (gi V 1) 5) (2+(fA (gi V 1) 5).length) h2n xn (hI.at_ aC) (xw i++⟨#[32,117,112]⟩) hs1 hs2).mono ?_);rintro e w1 ⟨a1,c1,rfl,hJ⟩;replace hI:=aks (hI.on hJ jR);clear hJ)
   obtain⟨b1,hb1⟩:=EH (bs++mY (sF (xw i++⟨#[32,117,112]⟩)) ([gi V 0,gi O 0]++fA (gi V 1) 5));rw[hb1.out]at hI;have al5:b1.length<=100000000000300:=by
    have:=uO _ xn.out;rw[h2n]at this;rw[<-hb1.out,mY,List.length_append,List.length_append,List.length_append,qU,hsz,show([10]:List UInt8).length=1 from rfl];omega
   have hmF:Hid (bs++tC C i=b1++vZ (ji C i)):=HD (by
    rw[<-hb1.out,tC,hub,if_pos rfl,x_,A_,hV.out,hO.out];simp[sF])
   clear hb1 hs1 hs2 xn hsz hmv
 all_goals
  obtain⟨rp,U1⟩:=EH (ji C i);obtain⟨n,hn⟩:=EQ rp.length;have hn0:(ji C i).length=n:=by rw[U1.out];exact hn
  have hnb:n<=2000000000:=by rw[<-hn0,ji,List.length_append];split<;>(try simp only[List.length_nil])<;>omega
  have hr3:Hid (∀r∈rp,r.length=3):=HD (by
   rw[<-U1.out];intro r hr;unfold ji at hr;rcases List.mem_append.1 hr with hr|hr
   ·exact xZ hi hI aC r hr
   ·by_cases hup:C.up i=true
    ·rw[if_pos hup]at hr;exact(vL hi hup hI aC).2.2.1 r hr
    ·rw[if_neg hup]at hr;simp at hr)
  rw[U1.out]at hmF GZ;go_wp2_with(first|with_reducible refine abP (tb:=tb) (cb:=X.cb) hI RF aM (k:=?_)|go_at_call 43;(with_reducible refine(Ji _ X Y C i hi (hI.at_ aC) hp1 hp2).mono ?_);rintro e w1 ⟨ra,rc,rfl,hJ⟩;rw[hn0,U1.out]at hJ;replace hI:=hI.Uu hJ jR;clear hJ;(try rw[hn0]))
  go_loopg [49] n (λkk s49 wr=>∃(k:Nat) (ak:Option Addr) (ck:Nat) (bk:List UInt8),kk=n-k∧k<=n∧s49=.int .i64 (k:Int)∧Hid (b1++vZ (rp.take k)=bk)∧bk.length<=b1.length+80*k∧Inv T w0 wr [bD 117 3 (.slice ra n rc) n (yt rp),bF X Y C,yK tb X.cb true ak ck bk,gU g og])
  case atStart=>exact⟨0,a1,c1,b1,rfl,by omega,rfl,HD (by simp[vZ]),by omega,hI⟩
  case round=>
   clear hI;obtain⟨k,ak,ck,bk,rfl,hk,rfl,hbk,amC,hI⟩:=hrel;by_cases hkn:k=n
   ·subst hkn
    have e:bs++tC C i=bk:=by rw[hmF.out,<-hbk.out,<-hn,List.take_length]
    clear hmF;go_wp2_with(fail);refine⟨rfl,_,h_ KF _ _,ak,ck,rfl,?_⟩;rw[e];have h2:=hI.tl;exact h2.turn (λhs y hy=>by
     rw[List.mem_singleton.1 hy];exact⟨hs _ SI,hs _ SI,hs _ SI⟩) (by simp[owned,two])
   ·have hkl:k<n:=by omega
    have hd:decide ((k:Int) < (n:Int))=true:=by simp;omega
    obtain⟨r,hrk⟩:∃r,rp[k]? =some r:=⟨rp[k],by simp⟩;have hrl:=hr3.out r (List.mem_of_getElem? hrk);have xn:Hid (eG [gi r 0,gi r 1,gi r 2]):=HD (by rw[aku hrl];exact GZ.out r (List.mem_of_getElem? hrk));obtain⟨Pk,Pm⟩:=abQ rp k r hr3.out hrk;obtain⟨rg,rfl⟩:=gZ (a':=ra) hI aC OM;have hs1:0< (⟨#[114,101,112,108,121]⟩:ByteArray).size:=by decide
    have hs2:bk.length+(⟨#[114,101,112,108,121]⟩:ByteArray).size+22*3+1<=140737488355328:=by show bk.length+5+22*3+1<=_;omega
    have h3l:[gi r 0,gi r 1,gi r 2].length=3:=rfl;have hb2:Hid (b1++vZ (rp.take (k+1))=bk++mY (sF ⟨#[114,101,112,108,121]⟩) [gi r 0,gi r 1,gi r 2]):=HD (by rw[RO rp k r hrk,<-List.append_assoc,hbk.out,aku hrl];rfl);have hb3:(bk++mY (sF ⟨#[114,101,112,108,121]⟩) [gi r 0,gi r 1,gi r 2]).length<=b1.length+80*(k+1):=by
     have:=uO _ xn.out;rw[h3l]at this;rw[mY,List.length_append,List.length_append,List.length_append,show(sF ⟨#[114,101,112,108,121]⟩).length=5 from rfl,show([10]:List UInt8).length=1 from rfl];omega
    clear hrk;go_wp2_with(first|with_reducible refine gK (vs:=iz r) hI RF aC (bP.out (t:=117)) Pk Pm ?_|(with_reducible refine aiV hI (k:=?_));intro b3 w hI|go_at_call 28;replace hI:=tl5 (D:=bD 3 1 (.slice (some ⟨b3,0,none⟩) 3 3) 3 (iz [gi r 0,gi r 1,gi r 2])) (hI.sub (.cons_cons _ (.cons _ (.refl _))));(with_reducible refine(Lf _ tb X.cb g og true ak (some ⟨b3,0,none⟩) ck 3 bk [gi r 0,gi r 1,gi r 2] 3 h3l xn (hI.at_ aC) ⟨#[114,101,112,108,121]⟩ hs1 hs2).mono ?_);rintro e w1 ⟨a2,c2,rfl,hJ⟩;replace hI:=akt (hI.on hJ jR);clear hJ|refine YL ?_|refine YS ?_;intro w hI|refine YX ?_;intro bx w hI);go_roundg (n- (k+1))
    case measure=>omega
    case rel=>exact⟨k+1,a2,c2,_,rfl,by omega,rfl,hb2,hb3,hI⟩
end
end
section
open B (eu pF dw fA)
theorem Y0:(prog.info? 70).map (·.zero)=some (some (.agg #[.pointer none,.pointer none,.slice none 0 0])):=by kernel_rfl
theorem akx:JK prog 70:=⟨_,underlying70,by kernel_rfl⟩
theorem aky:GU prog 70 0 0 1:=⟨_,underlying70,by kernel_rfl⟩
theorem al6{ops Q a rest w dst ty pos af x cb}(h0:a.eval x=.pointer (some ⟨cb,0,none⟩))(k:wpList prog ops Q rest (a.put dst (.agg #[.pointer (some ⟨cb,0,none⟩),.pointer none,.slice none 0 0])) w):wpList prog ops Q (⟨dst,.build 70 #[(0,x)],ty,pos,af,none⟩::rest) a w:=
 jO (ps:=[(0,x)]) (n:=3) [(0,[.pointer (some ⟨cb,0,none⟩)])] Y0 rfl (by rfl) akx ⟨by rw[h0];rfl,aky,Nat.le_of_ble_eq_true rfl,trivial⟩ k
section
variable {T:List Nat}{w0 w:World}{m:List bT}{A B C:bT}
theorem tm3(h:Inv T w0 w (A::B::C::m)):Inv T w0 w (two A (two B C)::m):=
 h.turn (λhs y hy=>by
  rcases List.mem_cons.1 hy with rfl|hy
  ·exact⟨hs _ SI,hs _ SI,hs _ SI⟩
  grind) (by
  grind[owned,two])
theorem al7(h:Inv T w0 w (two A (two B C)::m)):Inv T w0 w (A::B::C::m):=
 h.turn (λhs y hy=>by
  have h1:=hs (two A (two B C)) SI;simp only[List.mem_cons]at hy;rcases hy with rfl|rfl|rfl|hy
  ·exact h1.1
  ·exact h1.2.1
  ·exact h1.2.2
  grind) (by
  grind[owned,two])
theorem akz{b e:Nat}{zs}(hI:Inv T w0 w m)(hm:ib b e zs∈m):Rd w (some ⟨b,0,none⟩) (iz zs):=λj u hj=>by
 have hb:w.heap[b]? =some (.cells (zs.map (Value.int .i64)).toArray e (0,0)):=hI.blk hm;have hj2:(zs.map (Value.int .i64))[j]? =some u:=hj;simp only[World.cell?,hb,Nat.zero_add]
 grind
end
theorem aeR(w0)(b e:Nat)(m)(hk:RL m)(hI:Inv (ib b e m).own w0 w0 [ib b e m])(key){r}(hr:C.zH m key 5=r):
  Calls prog 29 #[.pointer (some ⟨b,0,none⟩),.int .i64 key] w0 λen w'=>en=.returned (.int .i64 r)∧Inv (ib b e m).own w0 w' [ib b e m]:=by
 subst hr;rw[<-Dr]at*
 simp_all[C.Tq]
abbrev ait(m:List Int)(key:Nat):Int:=C.zH m (key:Int) 5
structure QOk (S:RS):Prop where
 len:bB S
 view:eG S.view
 aT:eG S.aT
theorem Ui{n C}(h:CI n C){i}(hi:i<5){S}(hS:MF C i=some S):QOk S:=by
 unfold MF at hS;by_cases hu:nM C i=true
 ·rw[if_pos hu]at hS
  cases hS;have:=h.up i hi (lU hu);have hl:=this.len;exact⟨⟨hl.view,hl.own,hl.aT,hl.sl,hl.acc,hl.book,hl.told,hl.last,hl.aB⟩,this.view,this.aT⟩
 ·rw[if_neg hu]at hS
  obtain⟨a,_⟩:=(Gq (BL (C.S i).D) h.net).2 S hS;exact⟨a.len,a.view,a.aT⟩
theorem abS{zs}(h:eG zs)(w):eG (C.rowOf zs w):=by
 grind[C.rowOf,eG.sub,qa]
theorem OL{S}(h:QOk S){bk}(hb:RL bk):∀j,j<=5->RL (yf S bk j)
 |0,_=>hb
 |j+1,hj=>(OL h hb j OM).merge _ _ (l8 h.len.aT OM) (abS h.aT _)
theorem abT{n C}(h:CI n C):RL (tX C):=by
 have:∀i,i<=5->RL (qV C i):=by
  intro i
  induction i with
  |zero=>exact λ_=>Go.Proofs.YtdakkaapokhnnaaGreatDoor.C.Bk.start
  |succ i ih=>
   intro hi;rw[qV];cases hS:MF C i with
   |none=>exact ih OM
   |some S=>exact OL (Ui h OM hS) (ih OM) 5 OM
 exact this 5 OM
theorem Ll{n C}(h:CI n C):(xu C).length=7∧eG (xu C):=by
 have:∀i,i<=5->(oP C i).1.length=7∧eG (oP C i).1:=by
  intro i
  induction i with
  |zero=>exact λ_=>⟨rfl,Jj⟩
  |succ i ih=>
   intro hi;rw[oP];cases hS:MF C i with
   |none=>exact ih OM
   |some S=>
    grind[Ui,A7,bB.view,QOk.len,QOk.view]
 exact this 5 OM
def Ba(C:CS):Nat->List UInt8
 |0=>[]
 |i+1=>Ba C i++tC C i
def cntF(C:CS)(k:Nat):List UInt8:=mY [99,111,117,110,116,101,114] ([(k:Int),ait (tX C) k]++Dt C k)
def GD(C:CS):Nat->List UInt8
 |0=>Ba C 5
 |k+1=>GD C k++cntF C k
def Jw(C:CS):List UInt8:=GD C 4
theorem yh(ws){zs}(h:eG zs):(mY ws zs).length<=ws.length+22*zs.length+1:=by
 grind[uO,mY.eq_1]
theorem Jy:∀rs,(∀r∈rs,eG r∧r.length=3)->(vZ rs).length<=80*rs.length
 | [],_=>by simp[vZ]
 |r::rs,h=>by
  have h1:=yh [114,101,112,108,121] (h r SI).1;have h2:=Jy rs (λq hq=>h q (by simp[hq]))
  grind[vZ,List.length_nil]
theorem aeS{n C}(h:CI n C){i}(hi:i<5):∀r∈ji C i,eG r:=λr hr=>by
 refine qb.2 λx hx=>?_
 unfold ji at hr;rcases List.mem_append.1 hr with hr|hr
 ·grind[CI.rep]
 ·by_cases hu:C.up i=true
  ·grind[CI.rep,Nu.r]
  grind
theorem Jz(cs os):∀i,eG (A9 cs os i)
 |0=>qa 5
 |i+1=>by
  have ih:=Jz cs os i;have hg:∀j o,eG (r9 cs i o (A9 cs os i) j):=by
   intro j o
   induction j with
   |zero=>exact oO ih (lN _) _
   |succ j ihj=>exact oO ihj (lN _) _
  grind[A9.eq_2]
section
variable {n:Nat}(w0:World)(X:CX)(Y:CY)(C:CS)(g:Nat)(og:Obj)(hC:CI n C)(hn:n<=1000000000)
variable (hI0:Inv (two (bF X Y C) (gU g og)).own w0 w0 [two (bF X Y C) (gU g og)])
include hI0 hC hn
theorem aiu:Calls prog 10 #[.pointer (some ⟨X.cb,0,none⟩)] w0 λe w'=>e=.returned (.string ⟨(Jw C).toArray⟩)∧Inv (two (bF X Y C) (gU g og)).own w0 w' [two (bF X Y C) (gU g og)]:=by
 have hI:=hI0.dR;generalize hT:(two (bF X Y C) (gU g og)).own=T at hI|-;clear hI0 hT;have hM:∀i,i<5->∀S,MF C i=some S->bB S:=λi hi S hS=>(Ui hC hi hS).len
 have hp:∀i,i<5->(C.past i).length<=1000000000∧(C.S i).aX.length<=1000000000:=λi hi=>by have:=hC.cnt i hi;omega
 have GZ:∀i,i<5->Hid (∀r∈ji C i,eG r):=λi hi=>HD (aeS hC hi)
 have h64:∀i,i<5->C.up i=true->Hid (eG (C.S i).view)∧Hid (eG (C.S i).own):=λi hi hu=>⟨HD (hC.up i hi hu).view,HD (hC.up i hi hu).jh⟩
 have hr3:∀i,i<5->∀r∈ji C i,r.length=3:=λi hi r hr=>by
  unfold ji at hr;rcases List.mem_append.1 hr with hr|hr
  ·exact xZ hi hI aC r hr
  ·by_cases hup:C.up i=true
   ·rw[if_pos hup]at hr;exact(vL hi hup hI aC).2.2.1 r hr
   ·rw[if_neg hup]at hr;simp at hr
 have hmn:∀i,i<5->1<=(tC C i).length:=λi hi=>by
  have h3:=BM hi;unfold tC;rw[List.length_append]
  split<;>(simp only[mY,List.length_append];omega)
 have Dj:∀i,i<5->(tC C i).length<=200000000000:=λi hi=>by
  have h1:=Jy (ji C i) (λr hr=>⟨(GZ i hi).out r hr,hr3 i hi r hr⟩);have h2:(ji C i).length<=2000000000:=by
   have:=hp i hi;rw[ji,List.length_append];split
   ·omega
   ·simp only[List.length_nil];omega
  have h3:=BM hi;unfold tC;rw[List.length_append]
  split
  ·rename_i hu
   have hq:=h64 i hi (lU hu);have h5:=abR (gi (C.S i).view 1);have h4:=yh (xx i++[32,117,112]) (zs:=[gi (C.S i).view 0,gi (C.S i).own 0]++fA (gi (C.S i).view 1) 5) (qb.2 λx hx=>by
    rcases List.mem_append.1 hx with hx|hx
    ·simp only[List.mem_cons,List.not_mem_nil,or_false]at hx
     rcases hx with rfl|rfl
     ·exact hq.1.out 0
     ·exact hq.2.out 0
    ·have:=Jv _ x hx
     unfold o8;omega)
   simp only[List.length_append,List.length_cons,List.length_nil]at h4|-;omega
  ·have h4:=yh (xx i++[32,100,111,119,110]) afQ
   simp only[List.length_append,List.length_cons,List.length_nil]at h4|-;omega
 have hBk:=abT hC;obtain⟨hvl,hv64⟩:=Ll hC;replace hv64:=HD hv64;go_enter func10,ntmps10;go_wp2_with(first|with_reducible refine al6 (cb:=X.cb) RF ?_|(with_reducible refine bX (cs:=[.pointer (some ⟨X.cb,0,none⟩),.pointer none,.slice none 0 0]) hI RF ?_);intro tb w hI);have hst:Inv T w0 w [bF X Y C,yK tb X.cb false none 0 [],gU g og]:=by
  have h2:=Inv.zw 5 1 hI;exact h2.turn (λhs y hy=>by
   simp only[List.mem_cons,List.not_mem_nil,or_false]at hy;rcases hy with rfl|rfl|rfl
   ·exact hs _ SI
   ·exact⟨hs (blk tb 70 [.pointer (some ⟨X.cb,0,none⟩),.pointer none,.slice none 0 0]) SI,hs (bD 5 1 (.slice none 0 0) 0 []) SI⟩
   ·exact hs _ SI) (by
   rw[List.perm_iff_count];intro x;simp only[owned,two,List.flatMap_cons,List.flatMap_nil,List.count_append,blk,bD,Value.ownBlock];simp;omega)
 clear hI
 go_loopg [4,11] 5 (λkk s4 s11 wr=>∃(i:Nat) (u:Bool) (a:Option Addr) (c:Nat) (bk:List UInt8),kk=5-i∧i<=5∧s11=.int .i64 (i:Int)∧Hid (Ba C i=bk)∧(i<=bk.length∧bk.length<=i*200000000000)∧Inv T w0 wr [bF X Y C,yK tb X.cb u a c bk,gU g og])
 case atStart=>exact⟨0,false,none,0,[],rfl,by omega,rfl,HD rfl,⟨by simp,by simp⟩,hst⟩
 case round=>
  clear hst;obtain⟨i,u,a,c,bk,rfl,hi,rfl,hbk,hbl,hI⟩:=hrel;by_cases h5:i=5
  ·subst h5
   clear Dj hr3 hmn hp GZ h64;go_wp2_with(go_at_call 21;(with_reducible refine(Uh _ X Y C hM (hI.at_ aC)).mono ?_);rintro e w1 ⟨bt,rfl,hJ⟩;replace hI:=hI.Uu hJ jR;clear hJ)
   go_loopg [6,20] 4 (λkk s6 s20 wr=>∃(k:Nat) (u:Bool) (a:Option Addr) (c:Nat) (bj:List UInt8),kk=4-k∧k<=4∧s20=.int .i64 (k:Int)∧Hid (GD C k=bj)∧(1<=bj.length∧bj.length<=1000000000000+k*1000)∧Inv T w0 wr [ib bt 96 (tX C),bF X Y C,yK tb X.cb u a c bj,gU g og])
   case atStart=>exact⟨0,u,a,c,bk,rfl,by omega,rfl,hbk,⟨by omega,by omega⟩,hI⟩
   case round=>
    clear hI hbl hbk;obtain⟨k,u,a,c,bj,rfl,hk,rfl,hbj,hbl,hI⟩:=hrel;by_cases h4:k=4
    ·subst h4
     have hne:bj≠[]:=λe=>by rw[e]at hbl;simp at hbl
     go_wp2_with(go_at_call 30;refine KC qN hI (abA _ tb X.cb u a c bj (hI.at_ a_) hne) ?_;intro w1 hI);go_ret;refine⟨by rw[Jw,hbj.out];rfl,?_⟩;have h2:=hI.tl;exact h2.turn (λhs y hy=>by
      rw[List.mem_singleton.1 hy];exact⟨hs _ SI,hs _ SI⟩) (by simp[owned,two,sQ])
    ·have hk4:k<4:=by omega
     have hd:decide ((k:Int) <4)=true:=by simp;omega
     obtain⟨vk,hvk⟩:=EH (ait (tX C) k);obtain⟨sh,hsh⟩:=EH (Dt C k);have akA:sh.length=5:=by rw[<-hsh.out];exact GA _ _ 5
     have qg:eG sh:=by rw[<-hsh.out];exact Jz _ _ 5
     have hvb:=Go.Proofs.YtdakkaapokhnnaaGreatDoor.C.xR hBk (k:Int) 5;have xn:Hid (eG ([(k:Int),vk]++sh)):=HD (qb.2 λx hx=>by
      rcases List.mem_append.1 hx with hx|hx
      ·simp only[List.mem_cons,List.not_mem_nil,or_false]at hx
       rcases hx with rfl|rfl
       ·unfold o8;omega
       ·rw[<-hvk.out];unfold o8 ait;omega
      ·exact qb.1 qg x hx)
     have h7n:([(k:Int),vk]++sh).length=7:=by rw[List.length_append,akA];rfl
     have hs1:0< (⟨#[99,111,117,110,116,101,114]⟩:ByteArray).size:=by decide
     have hs2:bj.length+(⟨#[99,111,117,110,116,101,114]⟩:ByteArray).size+22*7+1<=140737488355328:=by show bj.length+7+22*7+1<=_;omega
     have hb2:Hid (GD C (k+1)=bj++mY (sF ⟨#[99,111,117,110,116,101,114]⟩) ([(k:Int),vk]++sh)):=HD (by rw[GD,hbj.out,cntF,hvk.out,hsh.out];rfl);have hb3:1<=(bj++mY (sF ⟨#[99,111,117,110,116,101,114]⟩) ([(k:Int),vk]++sh)).length∧(bj++mY (sF ⟨#[99,111,117,110,116,101,114]⟩) ([(k:Int),vk]++sh)).length<=1000000000000+(k+1)*1000:=by
      have:=yh (sF ⟨#[99,111,117,110,116,101,114]⟩) xn.out;rw[h7n,show(sF ⟨#[99,111,117,110,116,101,114]⟩).length=7 from rfl]at this;rw[List.length_append];omega
     clear hvb qg;go_upto_region 12 with(first|(go_at_call 27;refine KC jo hI (abO _ X Y C hM (hI.at_ aM) hBk hvl hv64 k hk4) ?_;intro w1 hI);rw[hsh.out]|refine YS ?_;intro w hI|refine YX ?_;intro bx w hI)
     (refine ZR [4,5,7,8] [0,1,6] [4,5,7] [0,1,2,3,6,4,5,7,8] (λw=>Inv T w0 w [bF X Y C,yK tb X.cb u a c bj,gU g og]) hI ?_;intro wd hI)
     (repeat(first|refine ZS ?_|refine ZQ ?_;go_wp2_with(first|go_at_call 28;replace hI:=tl5 (D:=bD 3 1 (.slice a4 7 c4) 7 (iz ([(k:Int),vk]++sh))) (hI.sub (.cons_cons _ (.cons _ (.refl _))));(with_reducible refine(Lf _ tb X.cb g og u a a4 c c4 bj ([(k:Int),vk]++sh) 7 h7n xn (hI.at_ aC) ⟨#[99,111,117,110,116,101,114]⟩ hs1 hs2).mono ?_);rintro e w1 ⟨a1,c1,rfl,hJ⟩;replace hI:=akt (hI.on hJ jR);clear hJ|go_at_call 29;refine KC jo hI (aeR _ bt 96 (tX C) hBk (hI.at_ aM) (k:Int) hvk.out) ?_;intro w1 hI|(with_reducible refine DY hI (k:=?_));intro b2 w hI|(with_reducible refine aA (q:=5) hI RF RF (uQ.out (t:=74)) (by intro r';exact aU.here) (akz (b:=bx) (e:=28) (zs:=sh) hI aM) (by rw[j5,akA]) (by intro u hu;obtain⟨z,_,rfl⟩:=List.mem_map.1 hu;with_unfolding_all rfl) MX OM ?_;intro a4 c4 w hI));refine ZP ?_))
     go_wp2_with(fail);go_roundg (4- (k+1))
     case measure=>omega
     case rel=>exact⟨k+1,true,a1,c1,_,rfl,by omega,rfl,hb2,hb3,hI⟩
  ·have hi5:i<5:=by omega
   have hd:decide ((i:Int) <5)=true:=by simp;omega
   have hb2:Hid (Ba C (i+1)=bk++tC C i):=HD (by rw[Ba,hbk.out]);have hb3:i+1<=(bk++tC C i).length∧(bk++tC C i).length<=(i+1)*200000000000:=by have:=Dj i hi5;have:=hmn i hi5;rw[List.length_append];omega
   clear Dj hr3 hmn;go_wp2_with(go_at_call 26;replace hI:=tm3 hI;(with_reducible refine(WJ _ X Y C tb g og u a c bk (hI.at_ aC) i hi5 (hp i hi5).1 (hp i hi5).2 OM (GZ i hi5) (h64 i hi5)).mono ?_);rintro e w1 ⟨a1,c1,rfl,hJ⟩;replace hI:=al7 (hI.on hJ jR);clear hJ);go_roundg (5- (i+1))
   case measure=>omega
   case rel=>exact⟨i+1,true,a1,c1,_,rfl,by omega,rfl,hb2,hb3,hI⟩
end
end
def uP:List Int:=[0,0,0,0,5,0,0,0,0,0,0]
theorem mD:uP.length=11:=rfl
def by5:List UInt8:=[0,0,5,0,1]
theorem afR:by5.map bv=[.int .u8 0,.int .u8 0,.int .u8 5,.int .u8 0,.int .u8 1]:=by kernel_rfl
theorem abU(w x y)(hx:x=0)(hy:y=0):Calls prog 53 #[.int .i64 x,.int .i64 y] w λe w'=>e=.returned (.int .u8 0)∧Below w.heap.size w w':=by
 subst hx hy;have hI:=Inv.start w;go_enter func53,ntmps53;go_wp2_with(fail);go_ret;refine⟨?_,hI.below⟩;show Ending.returned (Value.int IntKind.u8 _)=_;congr 2
 kernel_rfl
section
variable (w0:World)(g:Nat)(hI:Inv (bD 50 11 (.slice (some ⟨g,0,none⟩) 1 1) 1 (iz uP)).own w0 w0 [bD 50 11 (.slice (some ⟨g,0,none⟩) 1 1) 1 (iz uP)])
include hI
theorem abV:Calls prog 25 #[.slice (some ⟨g,0,none⟩) 1 1] w0 λe w'=>∃a c,e=.returned (.slice a 5 c)∧Inv (bD 50 11 (.slice (some ⟨g,0,none⟩) 1 1) 1 (iz uP)).own w0 w' [bD 5 1 (.slice a 5 c) 5 (by5.map bv)]:=by
 generalize hT:(bD 50 11 (.slice (some ⟨g,0,none⟩) 1 1) 1 (iz uP)).own=T at hI|-;clear hT;have h5:=mD;have e0:(gi uP 0==4)=false:=rfl;go_enter func25,ntmps25;go_wp2_with(fail)
 go_loopg [3,8] 1 (λkk s3 s8 wr=>∃k:Nat,kk=1-k∧k<=1∧s8=.int .i64 (k:Int)∧((k=0∧s3=.slice none 0 0∧Inv T w0 wr [bD 50 11 (.slice (some ⟨g,0,none⟩) 1 1) 1 (iz uP)])∨(k=1∧∃a c,s3=.slice a 5 c∧Inv T w0 wr [bD 5 1 (.slice a 5 c) 5 (by5.map bv)])))
 case atStart=>exact⟨0,rfl,by omega,rfl,.inl ⟨rfl,rfl,hI⟩⟩
 case round=>
  clear hI;obtain⟨k,rfl,hk,rfl,⟨rfl,rfl,hI⟩ | ⟨rfl,a,c,rfl,hI⟩⟩:=hrel
  ·replace hI:=Inv.zw 5 1 hI
   go_upto_region 5 with(first|with_reducible refine gK (vs:=iz uP) hI RF aM (bP.out (t:=50)) (by with_unfolding_all decide) RF ?_|(with_reducible refine JJ (vs:=uP) hI RF RF jR mD (ag _) ?_);intro w hI|refine YX ?_;intro bx w hI)
   (refine ZR [5,10,14,15,16] [0,6,7,8,9,11,12,13] [5,10,14] [0,1,2,3,4,6,7,8,9,11,12,13,5,10,14,15,16] (λw=>Inv T w0 w [ib bx 50 uP]) hI ?_;intro wd hI)
   (repeat(first|refine ZS ?_|refine ZQ ?_;go_wp2_with(first|(with_reducible refine aA (n:=0) (q:=3) (xs:=[]) hI RF RF (uQ.out (t:=63)) (by intro r';exact qN) (hI.rd aC) RF (by simp[Value.oneCell']) MX OM ?_);intro a1 c1 w hI;simp only[Nat.zero_add,List.nil_append]at hI;simp only[Nat.zero_add]|go_at_call 53;refine KD hI (abU _ _ _ RF RF) ?_;intro w1 hI|(with_reducible refine aiV hI (k:=?_));intro b3 w hI|refine YL ?_);refine ZP ?_))
   go_upto_region 8 with(refine YL ?_)
   all_goals go_wp2_with(first|refine YL ?_|(with_reducible refine aA (n:=3) (q:=2) hI RF RF (uQ.out (t:=63)) (by intro r';exact WQ) (hI.rd aC) RF (by simp[Value.oneCell']) MX OM ?_);intro a1 c1 w hI;simp only[List.cons_append,List.nil_append]at hI|(with_reducible refine DY hI (k:=?_));intro b2 w hI)
   rw[show IntKind.u8.wrap (gi uP 4)=5 by kernel_rfl,show gi uP 8%256=0 by kernel_rfl,show wrap64 (gi uP 9+1) %256=1 by kernel_rfl]at hI
   all_goals (go_roundg 0)
   case measure=>omega
   case rel=>exact⟨1,rfl,by omega,rfl,.inr ⟨rfl,a1,c1,rfl,by rw[afR];exact hI.sub (List.Sublist.cons _ (List.Sublist.cons _ (List.Sublist.cons _ (List.Sublist.cons_cons _ (List.Sublist.cons _ List.Sublist.slnil)))))⟩⟩
  ·go_wp2_with(fail)
   go_ret;exact⟨a,c,rfl,hI⟩
end
theorem akB(zs):∀u∈iz zs,u.oneCell'=true:=λu hu=>by obtain⟨z,_,rfl⟩:=List.mem_map.1 hu;rfl
theorem aiv:(prog.info? 50).map (·.zero)=some (some (.agg (iz (au 11)).toArray)):=by kernel_rfl
theorem akC:JK prog 50:=⟨_,underlying50,by kernel_rfl⟩
theorem aeT:GU prog 50 0 0 1:=⟨_,underlying50,by kernel_rfl⟩
theorem aeU:GU prog 50 4 4 1:=⟨_,underlying50,by kernel_rfl⟩
section
variable {ops:Array Oper}{Q:Exit->Act->World->Prop}{a:Act}{rest:List Oper}{T:List Nat}{w0 w:World}{m:List bT}{dst:Option Tmp}{ty:TypeId}{pos:String}{af:Array Edge}
theorem aiw{x0 x4 v0 v4}(h0:a.eval x0=.int .i64 v0:=by exact RF)(h4:a.eval x4=.int .i64 v4:=by exact RF)
  (k:wpList prog ops Q rest (a.put dst (ia [v0,0,0,0,v4,0,0,0,0,0,0])) w):wpList prog ops Q (⟨dst,.build 50 #[(0,x0),(4,x4)],ty,pos,af,none⟩::rest) a w:=
 jO (ps:=[(0,x0),(4,x4)]) (n:=11) (zc:=iz (au 11)) [(0,[.int .i64 v0]),(4,[.int .i64 v4])] aiv rfl (by rfl) akC
  ⟨by rw[h0];rfl,aeT,Nat.le_of_ble_eq_true rfl,by rw[h4];rfl,aeU,Nat.le_of_ble_eq_true rfl,trivial⟩ k
theorem akD{x zs}(hI:Inv T w0 w m)(hx:a.eval x=ia zs)(hl:zs.length=11)(k:∀b w',Inv T w0 w' (bD 50 11 (.slice (some ⟨b,0,none⟩) 1 1) 1 (iz zs)::m)->wpList prog ops Q rest (a.put dst (.slice (some ⟨b,0,none⟩) 1 1)) w'):
  wpList prog ops Q (⟨dst,.buildSlice 22 1 #[(0,x)],ty,pos,af,none⟩::rest) a w:=
 il (cs:=iz zs) hI (uQ.out (t:=22)) DC DC (by
  have h:=foldl_set (iz zs) 0 (iz (au 11)) 0 (by grind[j5,ag]);have e:((Array.range (1*11)).map ((ia (au 11)).cells[· % (ia (au 11)).cells.size]!))=(iz (au 11)).toArray:=by kernel_rfl
  have e2:splice (iz (au 11)) 0 (iz zs)=iz zs:=by
   simp[splice,j5,hl,ag]
  simp only[List.map_toArray,List.map_cons,List.map_nil,hx,Instr.fill,Nat.zero_mul];rw[show(ia zs).cells=(iz zs).toArray from rfl,if_neg (by grind[j5])]
  grind) (by rw[j5,hl]) k
end
section
variable (w0:World)(a0:Option Addr)(c0:Nat)(hI:Inv (bD 5 1 (.slice a0 5 c0) 5 (by5.map bv)).own w0 w0 [bD 5 1 (.slice a0 5 c0) 5 (by5.map bv)])
include hI
theorem abW:Calls prog 52 #[.slice a0 5 c0] w0 λe w'=>∃g c,e=.returned (.slice (some ⟨g,0,none⟩) 1 c)∧Inv (bD 5 1 (.slice a0 5 c0) 5 (by5.map bv)).own w0 w' [bD 50 11 (.slice (some ⟨g,0,none⟩) 1 c) 1 (iz uP)]:=by
 obtain⟨g,rfl⟩:∃g,a0=some ⟨g,0,none⟩:=by
  rcases(hI.sat _ aC).2 with⟨_,hz⟩ | ⟨g,cap,cur,hv,_⟩
  ·exact absurd hz DC
  ·cases hv;exact⟨g,rfl⟩
 have hc5:5<=c0:=by
  rcases(hI.sat _ aC).2 with⟨_,hz⟩ | ⟨g,cap,cur,hv,_,_,h,_⟩
  ·exact absurd hz DC
  ·cases hv;omega
 generalize hT:(bD 5 1 (.slice (some ⟨g,0,none⟩) 5 c0) 5 (by5.map bv)).own=T at hI|-;clear hT;rw[afR]at hI;have h5:=mD;have e0:(gi uP 0==4)=false:=rfl;have e1:(gi uP 0==10)=false:=rfl;go_enter func52,ntmps52;go_wp2_with(fail)
 go_loopg [0,3] 1 (λkk s0 s3 wr=>∃k:Nat,kk=1-k∧k<=1∧((k=0∧s0=.slice (some ⟨g,0,none⟩) 5 c0∧s3=.slice none 0 0∧Inv T w0 wr [bD 5 1 (.slice (some ⟨g,0,none⟩) 5 c0) 5 [.int .u8 0,.int .u8 0,.int .u8 5,.int .u8 0,.int .u8 1]])∨(k=1∧∃a c b d,s0=.slice a 0 c∧s3=.slice (some ⟨b,0,none⟩) 1 d∧Inv T w0 wr [bD 50 11 (.slice (some ⟨b,0,none⟩) 1 d) 1 (iz uP)])))
 case atStart=>exact⟨0,rfl,by omega,.inl ⟨rfl,rfl,rfl,hI⟩⟩
 case round=>
  clear hI;obtain⟨k,rfl,hk,⟨rfl,rfl,rfl,hI⟩ | ⟨rfl,a,c,b,d,rfl,rfl,hI⟩⟩:=hrel
  ·replace hI:=Inv.zw 50 11 hI
   go_upto_region 4 with(fail)
   (refine ZR [25,26] [0,1,2,3,4,5,6,7,8,9,10,11,12,13,14,15,16,17,18,19,20,21,22,23,24] [25] [0,1,2,3,4,5,6,7,8,9,10,11,12,13,14,15,16,17,18,19,20,21,22,23,24,25,26] (λw=>Inv T w0 w [bD 5 1 (.slice (some ⟨g,0,none⟩) 5 c0) 5 [.int .u8 0,.int .u8 0,.int .u8 5,.int .u8 0,.int .u8 1]]) hI ?_;intro wd hI)
   (repeat(first| (refine ZA ?_;go_wp2_with((with_reducible refine JJ (vs:=uP) hI RF (by with_unfolding_all kernel_rfl) jR mD (ag _) ?_);intro w hI);refine gz ?_) | (refine ZB ?_;go_wp2_with(refine YX ?_;intro bx w hI);(refine iU (hI.sub SB) ?_)) | ((refine iA RF RF RF RF (hI.sub SB) (by intro w (hI:Inv _ _ w _);first|with_reducible exact zS hI RF aC (aQ.out (t:=5)) RF| (unfold gu;go_simp;with_reducible rfl)) ?_);(simp only[QN]))));refine dN ?_
   go_upto_region 6 with(refine YL ?_)
   go_wp2_with(first|with_reducible refine LU (zs:=uP) hI (hl:=mD) (k:=?_)|(with_reducible refine akD hI (zs:=uP) RF mD ?_);intro b1 w hI|(with_reducible refine aA (n:=0) (q:=1) (xs:=[]) (news:=iz uP) hI RF RF (uQ.out (t:=22)) (by intro r';exact qN) (hI.rd aC) RF (akB uP) MX OM ?_);intro a1 c1 w hI;simp only[Nat.zero_add,List.nil_append]at hI;simp only[Nat.zero_add])
   all_goals
    obtain⟨b,rfl⟩:∃b,a1=some ⟨b,0,none⟩:=by
     rcases(hI.sat _ a_).2 with⟨_,hz⟩ | ⟨b,cap,cur,hv,_⟩
     ·exact absurd hz DC
     ·cases hv;exact⟨b,rfl⟩
    go_roundg 0
    case measure=>omega
    case rel=>exact⟨1,rfl,by omega,.inr ⟨rfl,_,_,_,_,rfl,rfl,hI.sub (List.Sublist.cons _ (List.Sublist.cons _ (List.Sublist.cons_cons _ (List.Sublist.cons _ List.Sublist.slnil))))⟩⟩
  ·go_wp2_with(fail)
   go_ret;exact⟨b,d,rfl,hI⟩
end
theorem aix:Ot C0:=zx.ok OM
theorem aiy(i):-9223372036854775808<=gi uP i∧gi uP i<=9223372036854775807:=by
 rcases Nat.lt_or_ge i 11 with h|h
 ·match i,h with
  |0,_|1,_|2,_|3,_|4,_|5,_|6,_|7,_|8,_|9,_|10,_=>decide
 grind[gi,mD]
theorem aeV(w0 X Y C z D)(hz:z.length=11)(h64:∀i,-9223372036854775808<=gi z i∧gi z i<=9223372036854775807)(hC:Ot C)(hD:D=(nA C z).1)(hI:Inv (bF X Y C).own w0 w0 [bF X Y C]):
  Calls prog 19 #[.pointer (some ⟨X.cb,0,none⟩),ia z] w0 λe w'=>∃Y' v,e=.returned (.int .i64 v)∧Inv (bF X Y C).own w0 w' [bF X Y' D]:=by
 grind[alO,Go.Calls.mono]
section
variable (w0:World)(X:CX)(Y:CY)(C:CS)(g c:Nat)(hC:Ot C)(hI0:Inv (two (bF X Y C) (bD 50 11 (.slice (some ⟨g,0,none⟩) 1 c) 1 (iz uP))).own w0 w0 [two (bF X Y C) (bD 50 11 (.slice (some ⟨g,0,none⟩) 1 c) 1 (iz uP))])
include hC hI0
theorem aiz:Calls prog 51 #[.pointer (some ⟨X.cb,0,none⟩),.slice (some ⟨g,0,none⟩) 1 c] w0 λe w'=>∃Y' u,e=.returned (.int .i64 u)∧Inv (two (bF X Y C) (bD 50 11 (.slice (some ⟨g,0,none⟩) 1 c) 1 (iz uP))).own w0 w' [bF X Y' (nA C uP).1]:=by
 have hI:=hI0.dR;generalize hT:(two (bF X Y C) (bD 50 11 (.slice (some ⟨g,0,none⟩) 1 c) 1 (iz uP))).own=T at hI|-;clear hI0 hT;obtain⟨D,hD⟩:∃D,Hid (D=(nA C uP).1):=⟨_,HD rfl⟩;rw[<-hD.out];have h5:=mD;go_enter func51,ntmps51;go_wp2_with(fail)
 go_loopg [5,10] 1 (λkk s5 s10 wr=>∃k:Nat,kk=1-k∧k<=1∧s10=.int .i64 (k:Int)∧∃u:Int,s5=.int .i64 u∧((k=0∧Inv T w0 wr [bF X Y C,bD 50 11 (.slice (some ⟨g,0,none⟩) 1 c) 1 (iz uP)])∨(k=1∧∃Y',Inv T w0 wr [bF X Y' D])))
 case atStart=>exact⟨0,rfl,by omega,rfl,_,rfl,.inl ⟨rfl,hI⟩⟩
 case round=>
  clear hI;obtain⟨k,rfl,hk,rfl,u,rfl,⟨rfl,hI⟩ | ⟨rfl,Y',hI⟩⟩:=hrel
  ·go_wp2_with(first|with_reducible refine gK (vs:=iz uP) hI RF aM (bP.out (t:=50)) (by with_unfolding_all decide) RF ?_|(with_reducible refine JJ (vs:=uP) hI RF RF jR mD (ag _) ?_);intro w hI|with_reducible refine LU (zs:=uP) hI (hl:=mD) (k:=?_)|go_at_call 19;refine KH hI (aeV _ X Y C uP D mD aiy hC hD.out (hI.at_ aM)) ?_;intro Y' v w1 hI|refine YX ?_;intro bx w hI)
   all_goals
    go_roundg 0
    case measure=>omega
    case rel=>exact⟨1,rfl,by omega,rfl,_,rfl,.inr ⟨rfl,Y',hI.sub (List.Sublist.cons _ (List.Sublist.cons_cons _ (List.Sublist.cons _ List.Sublist.slnil)))⟩⟩
  ·go_wp2_with(fail)
   go_ret;exact⟨Y',_,rfl,hI⟩
end
section
variable (w0:World)(a0:Option Addr)(c0:Nat)(g:Nat)(og:Obj)(hI0:Inv (two (bD 5 1 (.slice a0 5 c0) 5 (by5.map bv)) (gU g og)).own w0 w0 [two (bD 5 1 (.slice a0 5 c0) 5 (by5.map bv)) (gU g og)])
include hI0
theorem aiA:Calls prog 24 #[.slice a0 5 c0] w0 λe w'=>e=.returned (.string ⟨(Jw (nA C0 uP).1).toArray⟩)∧Inv (two (bD 5 1 (.slice a0 5 c0) 5 (by5.map bv)) (gU g og)).own w0 w' [gU g og]:=by
 have hI:=hI0.dR;generalize hT:(two (bD 5 1 (.slice a0 5 c0) 5 (by5.map bv)) (gU g og)).own=T at hI|-;clear hI0 hT;obtain⟨D,hD⟩:∃D,Hid (D=(nA C0 uP).1):=⟨_,HD rfl⟩;have hDC:Hid (CI 1 D):=HD (hD.out▸Ox zx mD);rw[<-hD.out];go_enter func24,ntmps24;go_wp2_with(first|go_at_call 18;(with_reducible refine(Uc _).mono ?_);rintro e w1 ⟨X,Y,rfl,hJ⟩;replace hI:=hI.seq hJ;clear hJ;simp only[List.cons_append,List.nil_append]at hI|go_at_call 52;(with_reducible refine(abW _ a0 c0 (hI.at_ aM)).mono ?_);rintro e w1 ⟨ga,ca,rfl,hJ⟩;replace hI:=(hI.on hJ jo).eX;clear hJ|go_at_call 51;(with_reducible refine(aiz _ X Y C0 ga ca aix (hI.at_ aC)).mono ?_);rintro e w1 ⟨Y',u,rfl,hJ⟩;(rw[<-hD.out]at hJ);replace hI:=(hI.on hJ jR).eX;clear hJ|go_at_call 10;(with_reducible refine(aiu _ X Y' D g og hDC.out OM (hI.at_ aC)).mono ?_);rintro e w1 ⟨rfl,hJ⟩;replace hI:=(hI.on hJ jR).dR;clear hJ);go_ret;exact⟨rfl,hI.tl⟩
end
section
open Go.ChangeShapes Go.WideShapes Go.ChangeAt Go.RowKit
def afS:List (String×DataW Unit):=[("math/bits.deBruijn32tab",Rows.laid_math_bits_deBruijn32tab),("math/bits.deBruijn64tab",Rows.laid_math_bits_deBruijn64tab),("internal/strconv.uint64pow10",Rows.laid_internal_strconv_uint64pow10)]
theorem al8:prog.globalNamed "internal/strconv.uint64pow10" =some 0:=by kernel_rfl
theorem al9:(prog.globals[0]?).map (·.type)=some 262:=by kernel_rfl
theorem al_:prog.cellsOf 262=20:=by kernel_rfl
theorem cEl:prog.cellsOf 239=1:=by kernel_rfl
theorem GG{W}(h:laidMetH prog afS W):Lib.TabIs prog W "internal/strconv.uint64pow10" .u64 Lib.pow10Tab:=by
 obtain⟨ps,⟨_,_,_,_,_,_,_,_,_,_,⟨_,_,_,_,_,_,_,_,_,_,⟨g,t,cs,f,p,q,hg,ht,hv,hd,_,_⟩,_⟩,_⟩,_,_⟩:=h;obtain rfl:=Option.some.inj (al8.symm.trans hg);obtain rfl:=Option.some.inj (al9.symm.trans ht);unfold Lib.TabIs;rw[hv,<-Lib.cells_of_tab (k:=.u64) (zs:=Lib.pow10Tab) underlying262 underlying239 cEl al_ hd]
theorem GH(os args):laidMetH prog afS ((World.doorLaid prog 400 os).forCall (λ_ _=>0) ⟨#[],args,[]⟩).memory:=
 laidMetH_of_parts3 (fuel:=8) (laidMet_of_run' 8 KF KF) KF KF
theorem GJ:OY prog 3 1:=OY.int KF KF
theorem akE:OY prog 48 3:=OY.struct (l:=[(3,0),(3,1),(3,2)]) KF KF KF (.cons GJ (.cons GJ (.cons GJ .nil)))
theorem akF:OY prog 50 11:=OY.struct (l:=[(3,0),(3,1),(3,2),(3,3),(3,4),(48,5),(3,8),(3,9),(3,10)]) KF KF KF (.cons GJ (.cons GJ (.cons GJ (.cons GJ (.cons GJ (.cons akE (.cons GJ (.cons GJ (.cons GJ .nil)))))))))
theorem aiC:CR prog 22 [O3 (List.replicate 11 O1)]:=CR.slice (by_:=88) underlying22 akF KF DC KF DC
end
