/- Contracts of functions. No condition. -/
import Derived.Test.YtdakkaapokhnnaaGreatDoorZ09
import Derived.Test.YtdakkaapokhnnaaGreatDoorZ10
namespace Go.Proofs.YtdakkaapokhnnaaGreatDoor
open Go.RowKit Go.Proofs.Tryz
set_option maxRecDepth 100000
set_option maxHeartbeats 6400000
set_option linter.all false
namespace C
theorem VS(w0:World)(b o:Nat)(e0:TypeId)(A B:List Value)(m:List Int)(zF:m.length=870)(ho:A.length=o)(hI:Inv (nz b e0 A B m []).own w0 w0 [nz b e0 A B m []])(who:Int):Calls prog 23 #[.pointer (some ⟨b,o,none⟩),.int .i64 who] w0 λe w'=>e=.returned (ia (rowOf m who))∧Inv (nz b e0 A B m []).own w0 w' [nz b e0 A B m []]:=by
 have hn:=aa 174;cases hm:aP who
 ·rw[show rowOf m who=aj 174 from by simp[rowOf,hm]]
  go_enter func23,ntmps23;go_wp2_with(first|go_at_call 50;refine KR (kN _ _) ?_;(try rw[hm])|refine YS ?_;intro w hI|refine YX ?_;intro bx w hI|refine YL ?_);exact bodyPost_ret (dI hI rfl rfl aA wX hn) rfl ⟨rfl,hI.sub SB⟩
 ·obtain⟨h0,h5⟩:=dW hm
  rw[show rowOf m who=sub m (who.toNat*174) 174 from by simp[rowOf,hm]];have hsl:(sub m (who.toNat*174) 174).length=174:=by rw[ay];omega
  go_enter func23,ntmps23;go_wp2_with(first|go_at_call 50;refine KR (kN _ _) ?_;(try rw[hm])|with_reducible refine Rk (j:=who.toNat*174) hI RF aM ho rfl OM ?_|refine YS ?_;intro w hI|refine YX ?_;intro bx w hI);exact bodyPost_ret (dI hI rfl rfl aA wX hsl) rfl ⟨rfl,hI.sub SB⟩
theorem PV(w0:World)(b o:Nat)(e0:TypeId)(A B:List Value)(m:List Int)(zF:m.length=870)(ho:A.length=o)(hI:Inv (nz b e0 A B m []).own w0 w0 [nz b e0 A B m []])(who:Int)(x:List Int)(hx:x.length=174):Calls prog 48 #[.pointer (some ⟨b,o,none⟩),.int .i64 who,ia x] w0 λe w'=>e=.returned (.bool (nE m who x))∧Inv (nz b e0 A B m []).own w0 w' [nz b e0 A B (ic m who x) []]:=by
 cases hm:aP who
 ·have hf:nE m who x=false:=by simp[nE,hm]
  rw[show ic m who x=m from by simp[ic,hf],hf];clear hf;go_enter func48,ntmps48;go_upto_region 1 with(refine YX ?_;intro bx w hI)
  refine ZT [0,1,2,3,4,5,6,7,8,18,19] 20 hI ?_;intro wd hI
  (repeat(first|refine ZS ?_|refine ZQ ?_;go_wp2_with(go_at_call 50;refine KR (kN _ _) ?_;(try rw[hm]));refine ZP ?_))
  exact W85
 ·obtain⟨h0,h5⟩:=dW hm
  cases hr:mi x
  ·have hf:nE m who x=false:=by simp[nE,hr]
   rw[show ic m who x=m from by simp[ic,hf],hf];clear hf;go_enter func48,ntmps48;go_upto_region 1 with(refine YX ?_;intro bx w hI)
   refine ZT [0,1,2,3,4,5,6,7,8,18,19] 20 hI ?_;intro wd hI
   (repeat(first|refine ZS ?_|refine ZQ ?_;go_wp2_with(first|refine YL ?_|go_at_call 50;refine KR (kN _ _) ?_;(try rw[hm])|go_at_call 90;refine KD hI (jb _ _ hx) ?_;intro w1 hI;(try rw[hr]));refine ZP ?_))
   exact W85
  ·by_cases hv:gi x 0<=gi m (who.toNat*174)
   ·have hf:nE m who x=false:=by unfold nE;rw[hm,hr,show decide (gi m (who.toNat*174) <gi x 0)=false from by simpa using hv];rfl
    have hv2:decide (gi x 0<=gi m (who.toNat*174))=true:=by simpa using hv
    rw[show ic m who x=m from by simp[ic,hf],hf];clear hf hv;go_enter func48,ntmps48;go_upto_region 1 with(refine YX ?_;intro bx w hI)
    refine ZT [0,1,2,3,4,5,6,7,8,18,19] 20 hI ?_;intro wd hI
    (repeat(refine ZQ ?_;go_wp2_with(first|refine YL ?_|go_at_call 50;refine KR (kN _ _) ?_;(try rw[hm])|go_at_call 90;refine KD hI (jb _ _ hx) ?_;intro w1 hI;(try rw[hr])|with_reducible refine adb (j:=who.toNat*174) hI RF aM ho OM OM ?_);refine ZP ?_))
    exact W85
   ·have hf:nE m who x=true:=by unfold nE;rw[hm,hr,show decide (gi m (who.toNat*174) <gi x 0)=true from by simp;omega];rfl
    have hv2:decide (gi x 0<=gi m (who.toNat*174))=false:=by simpa using hv
    rw[show ic m who x=dF m (who.toNat*174) x from by simp[ic,hf],hf];clear hf hv;go_enter func48,ntmps48;go_upto_region 1 with(refine YX ?_;intro bx w hI)
    refine ZT [0,1,2,3,4,5,6,7,8,18,19] 20 hI ?_;intro wd hI
    (repeat(refine ZQ ?_;go_wp2_with(first|refine YL ?_|go_at_call 50;refine KR (kN _ _) ?_;(try rw[hm])|go_at_call 90;refine KD hI (jb _ _ hx) ?_;intro w1 hI;(try rw[hr])|with_reducible refine adb (j:=who.toNat*174) hI RF aM ho OM OM ?_);refine ZP ?_))
    go_upto_region 3 with(fail)
    refine ZT [5,6] 7 hI ?_;intro wd hI
    (repeat(refine ZQ ?_;go_wp2_with(first|(with_reducible refine agc (j:=who.toNat*174) hI RF RF iR ho OM hx OM ?_;intro w hI)|refine YL ?_);refine ZP ?_))
    exact W85
theorem H_(w0:World)(b o:Nat)(e0:TypeId)(A B:List Value)(m:List Int)(hk:Bk m)(ho:A.length=o)(hI0:Inv (nz b e0 A B m []).own w0 w0 [nz b e0 A B m []])(iK key:Int):
  Calls prog 56 #[.pointer (some ⟨b,o,none⟩),.int .i64 iK,.int .i64 key] w0 λe w'=>e=.returned (ia (sW m iK key))∧Inv (nz b e0 A B m []).own w0 w' [nz b e0 A B m []]:=by
 have hI:=hI0;clear hI0;have zF:=hk.len;have hn:=aa 7;have hlen:=λj h=>PR m iK key zF j h
 replace hlen:=HD hlen;replace hk:=HD hk;go_enter func56,ntmps56;go_upto_region 3 with(refine YX ?_;intro bx w hI)
 (try simp only[QN])
 obtain⟨b7,b6,e7,e6⟩:=nmk hI;subst e7 e6;go_wp2_with fail
 go_loopg [8,9,10,11,12] 5 (λkk s8 s9 s10 s11 i wr=>∃j:Nat,kk=5-j∧j<=5∧i=.int .i64 j∧s8=.int .i64 (Kc m iK key j).2∧Inv (nz b e0 A B m []).own w0 wr [ib b7 37 (Kc m iK key j).1,ib b6 37 (aj 7),nz b e0 A B m []])
 case atStart=>exact⟨0,rfl,by omega,rfl,rfl,hI⟩
 case round=>
  clear hI;obtain⟨j,rfl,hj,rfl,rfl,hI⟩:=hrel;have hcl:=hlen.out j hj;by_cases MK:j<5
  ·have vg:(j:Int).toNat=j:=by simp
   have hxl:(sub m (j*174) 174).length=174:=by rw[ay];omega
   have hwx:=HD (hk.out.row j MK).2;have hs:Hid (Kc m iK key (j+1)=if(Kc m iK key j).2< (qx (sub m (j*174) 174) j iK key).2 then qx (sub m (j*174) 174) j iK key else Kc m iK key j):=HD rfl;have hfl:=FP (sub m (j*174) 174) j iK key hxl;obtain⟨r,hr⟩:=EZ (qx (sub m (j*174) 174) j iK key);rw[<-hr]at hs hfl;have hcv:=HD hr.symm;clear hr;generalize Kc m iK key j=q at*;by_cases hq:q.2<r.2
   ·have hs2:Hid (Kc m iK key (j+1)=r):=HD (by rw[hs.out,if_pos hq])
    go_wp2_with(first|refine YL ?_|with_reducible refine Rk (j:=j*174) hI RF aX ho rfl OM ?_|refine YX ?_;intro bx w hI|refine YS ?_;intro w hI|go_at_call 92;refine KD hI (DI _ (sub m (j*174) 174) _ _ _ _ hcv hxl hwx) ?_;intro w1 hI);go_roundg (5- (j+1))
    case measure=>omega
    case rel=>exact⟨j+1,rfl,by omega,by go_num,by rw[hs2.out],by rw[hs2.out];exact hI.tl⟩
   ·have hs2:Hid (Kc m iK key (j+1)=q):=HD (by rw[hs.out,if_neg hq])
    go_wp2_with(first|with_reducible refine Rk (j:=j*174) hI RF aX ho rfl OM ?_|refine YX ?_;intro bx w hI|refine YS ?_;intro w hI|go_at_call 92;refine KD hI (DI _ (sub m (j*174) 174) _ _ _ _ hcv hxl hwx) ?_;intro w1 hI);go_roundg (5- (j+1))
    case measure=>omega
    case rel=>exact⟨j+1,rfl,by omega,by go_num,by rw[hs2.out],by rw[hs2.out];exact hI.tl⟩
  ·obtain rfl:j=5:=by omega
   have ail:Hid (sW m iK key=(Kc m iK key 5).1):=HD rfl;generalize(Kc m iK key 5).1=q at*;go_wp2_with(first|refine YL ?_|refine YS ?_;intro w hI);exact bodyPost_ret (dI hI rfl rfl aM Fj hcl) rfl ⟨by rw[ail.out],hI.sub SB⟩
theorem PW(w0:World)(b o:Nat)(e0:TypeId)(A B:List Value)(m:List Int)(hk0:Bk m)(ho:A.length=o)(hI0:Inv (nz b e0 A B m []).own w0 w0 [nz b e0 A B m []])(key:Int):
  Calls prog 29 #[.pointer (some ⟨b,o,none⟩),.int .i64 key] w0 λe w'=>e=.returned (.int .i64 (xV m key 5))∧Inv (nz b e0 A B m []).own w0 w' [nz b e0 A B m []]:=by
 have hI:=hI0;clear hI0;have hk:=HD hk0;clear hk0;go_enter func29,ntmps29;go_wp2_with fail
 go_loopg [5,6,7,8] 5 (λkk s5 s6 s7 i wr=>∃j:Nat,kk=5-j∧j<=5∧i=.int .i64 j∧s5=.int .i64 (xV m key j)∧Inv (nz b e0 A B m []).own w0 wr [nz b e0 A B m []])
 case atStart=>exact⟨0,rfl,by omega,rfl,rfl,hI⟩
 case round=>
  clear hI;obtain⟨j,rfl,hj,rfl,rfl,hI⟩:=hrel;by_cases MK:j<5
  ·have hs:Hid (xV m key (j+1)=xV m key j+(gi (sW m j key) 0-gi (sW m j key) 1)):=HD rfl
   obtain⟨cl,cn⟩:=nZ hk.out j key;obtain⟨v0,v1⟩:=wD hk.out key j;have hv0:-5497558138880<=xV m key j:=by omega
   have hv1:xV m key j<=5497558138880:=by omega
   clear v0 v1;obtain⟨c,hc⟩:=EZ (sW m j key);rw[<-hc]at hs cl cn;have hcv:=HD hc.symm;clear hc;obtain⟨a0,a1⟩:=cn 0;obtain⟨a2,a3⟩:=cn 1;clear cn;generalize xV m key j=s at*;go_wp2_with(first|refine YX ?_;intro bx w hI|refine YS ?_;intro w hI|refine YL ?_|go_at_call 56;(with_reducible refine(H_ _ b o e0 A B m hk.out ho (hI.at_ aA) _ _).mono ?_);rw[hcv.out];rintro e w1 ⟨rfl,hJ⟩;replace hI:=hI.on hJ jy;clear hJ);go_roundg (5- (j+1))
   case measure=>omega
   case rel=>exact⟨j+1,rfl,by omega,by go_num,by rw[hs.out],hI.tl⟩
  ·obtain rfl:j=5:=by omega
   go_wp2_with fail;go_ret;exact⟨rfl,hI.sub SB⟩
theorem VT(w0:World)(b o:Nat)(e0:TypeId)(A B:List Value)(m:List Int)(hk0:Bk m)(ho:A.length=o)(hI0:Inv (nz b e0 A B m []).own w0 w0 [nz b e0 A B m []])(who key:Int):
  Calls prog 107 #[.pointer (some ⟨b,o,none⟩),.int .i64 who,.int .i64 key] w0 λe w'=>e=.returned (.int .i64 (kE m who key))∧Inv (nz b e0 A B m []).own w0 w' [nz b e0 A B m []]:=by
 have hI:=hI0;clear hI0;have zF:=hk0.len;have hk:=HD hk0;clear hk0;cases hm:aP who
 ·rw[show kE m who key=0 from by simp[kE,hm]]
  go_enter func107,ntmps107;go_wp2_with(go_at_call 50;refine KR (kN _ _) ?_;(try rw[hm]));go_ret;exact⟨rfl,hI.sub SB⟩
 obtain⟨h0,h5⟩:=dW hm;obtain⟨p,rfl⟩:∃p:Nat,who=p:=⟨who.toNat,by omega⟩;have hp5:p<5:=by omega
 have hpn:(p:Int).toNat=p:=by simp
 have hxl:(sub m (p*174) 174).length=174:=by rw[ay];omega
 have hres:Hid (kE m p key=PU (y5 m key 5) (jv (sub m (p*174) 174) p 5) (jv (sub m (p*174) 174) p 5).length):=HD (by unfold kE;rw[if_pos hm,hpn]);have hLm:=HD (RZ (sub m (p*174) 174) p);have hLl:Hid ((jv (sub m (p*174) 174) p 5).length<=5):=HD (FQ _ _ _);obtain⟨L,hL0⟩:=EZ (jv (sub m (p*174) 174) p 5);rw[<-hL0]at hres hLm hLl;have hL:=HD hL0.symm;clear hL0;have hcl:=HD (DJ hk.out key);have hcn:=HD (Ke hk.out key);go_enter func107,ntmps107;go_upto_region 4 with(first|go_at_call 50;refine KR (kN _ _) ?_;(try rw[hm])|refine YX ?_;intro bx w hI)
 (try simp only[QN])
 (obtain⟨b7,hbx⟩:=EZ bx;subst hbx)
 go_wp2_with fail
 go_loopg [8,16] 5 (λkk s8 i wr=>∃j:Nat,kk=5-j∧j<=5∧i=.int .i64 j∧Inv (nz b e0 A B m []).own w0 wr [ib b7 118 (y5 m key j),nz b e0 A B m []])
 case atStart=>exact⟨0,rfl,by omega,rfl,hI⟩
 case round=>
  clear hI;obtain⟨j,rfl,hj,rfl,hI⟩:=hrel;by_cases MK:j<5
  ·have hs:Hid (y5 m key (j+1)=dF (y5 m key j) (j*7) (sW m j key)):=HD rfl
   have hl:=hcl.out j hj;obtain⟨cl,_⟩:=nZ hk.out j key;obtain⟨c,hc⟩:=EZ (sW m j key);rw[<-hc]at hs cl;have hcv:=HD hc.symm;have vg:(j:Int).toNat=j:=by simp
   clear hc;generalize y5 m key j=cs at*;go_wp2_with(first|refine YS ?_;intro w hI|go_at_call 56;(with_reducible refine(H_ _ b o e0 A B m hk.out ho (hI.at_ aM) _ _).mono ?_);rw[hcv.out];rintro e w1 ⟨rfl,hJ⟩;replace hI:=hI.on hJ iR;clear hJ);go_roundg (5- (j+1))
   case measure=>omega
   case rel=>exact⟨j+1,rfl,by omega,by go_num,by rw[hs.out];exact hI⟩
  ·obtain rfl:j=5:=by omega
   have hl:=hcl.out 5 OM;have hn:=HD (hcn.out 5 OM);clear hcl hcn;generalize y5 m key 5=cs at*;go_upto_region 11 with(first|with_reducible refine Rk (j:=p*174) hI RF aM ho rfl OM ?_|go_at_call 149;refine KO hI (aap _ (sub m (p*174) 174) p L hxl hL) ?_;intro ao co w1 hI)
   (try simp only[QN])
   go_loopg [9,11,12,35] L.length (λkk s9 s11 s12 i wr=>∃j:Nat,kk=L.length-j∧j<=L.length∧i=.int .i64 j∧s9=.int .i64 (PU cs L j)∧Inv (nz b e0 A B m []).own w0 wr [bf 3 1 (.slice ao L.length co) L.length (L.map (Value.int .i64)),ib b7 118 cs,nz b e0 A B m []])
   case atStart=>exact⟨0,by omega,by omega,rfl,rfl,hI⟩
   case round=>
    clear hI;obtain⟨j,rfl,hj,rfl,rfl,hI⟩:=hrel;obtain⟨v0,v1⟩:=F3 hn.out L j;have ajm:=hLl.out;have u0:-32985348833280<=PU cs L j:=by omega
    have u1:PU cs L j<=32985348833280:=by omega
    clear v0 v1;by_cases hlj:j<L.length
    ·obtain⟨o0,o5⟩:=hLm.out _ (zX L j hlj)
     obtain⟨oo,ho⟩:∃oo:Nat,gi L j=oo:=⟨(gi L j).toNat,by omega⟩;obtain⟨gb,go_,hab,hcell⟩:=(hI.rd (a':=ao) aA) j (.int .i64 (gi L j)) (by rw[List.getElem?_map];simp[gi,hlj]);subst hab;rw[ho]at hcell o0 o5;have ho5:oo<5:=by omega
     have hon:(oo:Int).toNat=oo:=by simp
     have hs:Hid (PU cs L (j+1)=PU cs L j+(gi cs (oo*7) -gi cs (oo*7+1))+PT cs oo 5):=HD (by rw[PU,ho,hon]);obtain⟨c0,c1⟩:=hn.out (oo*7);obtain⟨c2,c3⟩:=hn.out (oo*7+1);clear ho;generalize PU cs L j=s at*;go_upto_region 13 with fail
     (try simp only[QN])
     have hd1:=rq hI (i:=oo*7) aM OM;have hd2:=rq hI (i:=oo*7+1) aM OM;clear hcell
     go_quiet (fail)
     clear hd1 hd2;replace hI:=hI.call (bdn wr nq);generalize wr.drewN nq=wq at*;have y0:-43980465111040<=s+(gi cs (oo*7) -gi cs (oo*7+1)):=by omega
     have y1:s+(gi cs (oo*7) -gi cs (oo*7+1))<=43980465111040:=by omega
     clear u0 u1 c0 c1 c2 c3;generalize s+(gi cs (oo*7) -gi cs (oo*7+1))=s1 at*;go_wp2_with fail
     go_loopg [9,12,50] 5 (λkk s9 s12 i wx=>∃l:Nat,kk=5-l∧l<=5∧i=.int .i64 l∧s9=.int .i64 (s1+PT cs oo l)∧Inv (nz b e0 A B m []).own w0 wx [bf 3 1 (.slice (some ⟨gb,go_,none⟩) L.length co) L.length (L.map (Value.int .i64)),ib b7 118 cs,nz b e0 A B m []])
     case atStart=>exact⟨0,rfl,by omega,rfl,by unfold PT;rw[Int.add_zero],hI⟩
     case round=>
      clear hI;obtain⟨l,rfl,hl5,rfl,rfl,hI⟩:=hrel;by_cases hll:l<5
      ·have hln:(l:Int).toNat=l:=by simp
       have ajn:(l:Int) <5:=by omega
       have ht:Hid (PT cs oo (l+1)=PT cs oo l+(gi cs (l*7+2+oo) -gi cs (oo*7+2+l))):=HD rfl;obtain⟨b0,b1⟩:=z8 hn.out oo l;have z0:-5497558138880<=PT cs oo l:=by omega
       have z1:PT cs oo l<=5497558138880:=by omega
       obtain⟨c0,c1⟩:=hn.out (l*7+2+oo);obtain⟨c2,c3⟩:=hn.out (oo*7+2+l);clear b0 b1;generalize PT cs oo l=t at*;go_upto_region 17 with fail
       (try simp only[QN])
       have hd1:=rq hI (i:=l*7+2+oo) aM OM;have hd2:=rq hI (i:=oo*7+2+l) aM OM
       go_quiet (fail)
       clear hd1 hd2;replace hI:=hI.call (bdn _ nq);go_wp2_with fail;go_roundg (5- (l+1))
       case measure=>omega
       case rel=>exact⟨l+1,rfl,by omega,by go_num,by rw[ht.out,<-Int.add_assoc],hI⟩
      ·obtain rfl:l=5:=by omega
       go_wp2_with fail;go_roundg (L.length- (j+1))
       case measure=>omega
       case rel=>exact⟨j+1,by omega,by omega,by go_num,by rw[hs.out],hI⟩
    ·obtain rfl:j=L.length:=by omega
     go_wp2_with fail;go_ret;rw[hres.out];exact⟨rfl,hI.sub SB⟩
end C
def qM(bs:List UInt8):Option ((List Int×Bool)×List UInt8):=
 (jV 6 bs).bind λp=>match p.1 with
 |0=>(jw p.2).bind λ(x1,c1)=>some (((aW 0 0 (nn x1) 0 (aj 2) (aj 3) (aj 7)),(C.mi (nn x1))),c1)
 |1=>(jV 5 p.2).bind λ(x1,c1)=>(jw c1).bind λ(x2,c2)=>some (((aW 1 ((x1:Nat):Int) (nn x2) 0 (aj 2) (aj 3) (aj 7)),(C.mi (nn x2))),c2)
 |2=>(jV 5 p.2).bind λ(x1,c1)=>some (((aW 2 ((x1:Nat):Int) (aj 174) 0 (aj 2) (aj 3) (aj 7)),true),c1)
 |3=>(fT p.2).bind λ(x1,c1)=>(bF dD c1).bind λ(x2,c2)=>some (((aW 3 0 (aj 174) ((x1:Nat):Int) (nn x2) (aj 3) (aj 7)),true),c2)
 |4=>(fT p.2).bind λ(x1,c1)=>(bF dD c1).bind λ(x2,c2)=>(bF jQ c2).bind λ(x3,c3)=>some (((aW 4 0 (aj 174) ((x1:Nat):Int) (nn x2) (nn x3) (aj 7)),true),c3)
 |5=>(bF kz p.2).bind λ(x1,c1)=>some (((aW 5 0 (aj 174) 0 (aj 2) (aj 3) (nn x1)),(lG (nn x1))),c1)
 |_=>none
def Km(w0:World)(pr:Nat)(ab:Option Nat)(bs:List UInt8)(e:Ending)(w':World):Prop:=
 (∃z b cs,qM bs=some ((z,b),cs)∧z.length=189∧e=.returned (.tuple #[ia z,.bool b])∧Inv (d_ pr ab bs).own w0 w' [d_ pr ab cs])∨(qM bs=none∧e=.panicked Jp∧∃cs,Inv (d_ pr ab bs).own w0 w' [d_ pr ab cs])
section
variable (w0:World)(pr:Nat)(ab:Option Nat)(bs:List UInt8)(hI:Inv (d_ pr ab bs).own w0 w0 [d_ pr ab bs])
include hI
theorem Wh(h0:Hid (jV 6 bs=none)):Calls prog 101 #[.pointer (some ⟨pr,0,none⟩)] w0 (Km w0 pr ab bs):=by
 go_enter func101,ntmps101;go_wp2_with(first|go_at_call 136;refine KN hI (j5 _ pr ab _ _ _ (hI.sat _ aM) (hI.nd aM) (by exact h0.out) OM) ?_;intro Cq w1 hI|refine YX ?_;intro bx w hI);exact⟨rfl,.inr ⟨by simp only[qM,h0.out,Option.bind_none],rfl,_,hI.sub SB⟩⟩
theorem ad5(c0:List UInt8)(h0:Hid (jV 6 bs=some (0,c0))):Calls prog 101 #[.pointer (some ⟨pr,0,none⟩)] w0 (Km w0 pr ab bs):=by
 have p8:Hid (((0:Nat):Int)=0):=HD rfl;have hbd:Hid (dF (aj 189) 0 (av (aj 189) [(0,[0])])=(aW 0 0 (aj 174) 0 (aj 2) (aj 3) (aj 7))):=HD (by rw[iZ _ _ (by simp[av,aY,aa]),av,av,jG,dJ]);have hbw:Hid (av (aj 189) [(0,[0])]=(aW 0 0 (aj 174) 0 (aj 2) (aj 3) (aj 7))):=HD (by rw[av,av,jG,dJ]);have jU:Hid (gi (aW 0 0 (aj 174) 0 (aj 2) (aj 3) (aj 7)) 0=0):=HD b_;rcases h1:jw c0 with _| ⟨x1,c1⟩
 ·replace h1:=HD h1
  have hl1:=aa 0;have hl2:=aa 0;have hl3:=aa 0;have hl4:=aa 0;go_enter func101,ntmps101;go_upto_region 2 with(first|go_at_call 136;refine KC iR hI (cK _ pr ab _ _ _ _ (hI.sat _ aM) (hI.nd aM) h0.out OM p8.out) ?_;intro w1 hI|refine YS ?_;intro w hI|refine YX ?_;intro bx w hI|refine YL ?_)
  rw[hbw.out]at hI;go_upto_region 3 with(refine YL ?_)
  rw[jU.out];go_wp2_with(go_at_call 137;refine KN hI (qZ.no (u6 _ pr ab _ (hI.sat _ aX) (hI.nd aX)) (Cu (by exact h1.out))) ?_;intro Cq w1 hI);exact W90
 ·have hl1:(nn x1).length=174:=by rw[cB];exact mZ h1
  replace h1:=HD h1;have hl2:=aa 0;have hl3:=aa 0;have hl4:=aa 0;go_enter func101,ntmps101;go_upto_region 2 with(first|go_at_call 136;refine KC iR hI (cK _ pr ab _ _ _ _ (hI.sat _ aM) (hI.nd aM) h0.out OM p8.out) ?_;intro w1 hI|refine YS ?_;intro w hI|refine YX ?_;intro bx w hI|refine YL ?_)
  rw[hbw.out]at hI;go_upto_region 3 with(refine YL ?_)
  rw[jU.out];go_upto_region 5 with(first|go_at_call 137;refine KI hI (qZ.yes (u6 _ pr ab _ (hI.sat _ aX) (hI.nd aX)) (vI (by exact h1.out))) ?_;intro w1 hI|refine YS ?_;intro w hI)
  simp only[aa,jO,jP,iB,iC,jk,jl,gB,eU,iD,iE,hl1,hl2,hl3,hl4]at hI
  (obtain⟨bz,hbz⟩:=EZ bx)
  (refine ZR [3,4,5] [0] [3] [0,1,2,3,4,5] (λw=>Inv (d_ pr ab bs).own w0 w [ib bx 143 (aW 0 0 (nn x1) 0 (aj 2) (aj 3) (aj 7))]) hI ?_;intro wd hI)
  (repeat(first|refine ZS ?_|refine ZQ ?_;go_wp2_with(first|refine YS ?_;intro w hI|go_at_call 90;refine KD hI (C.jb _ _ (by(simp only[List.length_set,aa,ay,aY,aW,List.length_append,List.length_cons,List.length_nil]<;>omega))) ?_;intro w1 hI|refine YL ?_);refine ZP ?_))
  exact W71
theorem ad6(c0:List UInt8)(h0:Hid (jV 6 bs=some (1,c0))):Calls prog 101 #[.pointer (some ⟨pr,0,none⟩)] w0 (Km w0 pr ab bs):=by
 have p8:Hid (((1:Nat):Int)=1):=HD rfl;have hbd:Hid (dF (aj 189) 0 (av (aj 189) [(0,[1])])=(aW 1 0 (aj 174) 0 (aj 2) (aj 3) (aj 7))):=HD (by rw[iZ _ _ (by simp[av,aY,aa]),av,av,jG,dJ]);have hbw:Hid (av (aj 189) [(0,[1])]=(aW 1 0 (aj 174) 0 (aj 2) (aj 3) (aj 7))):=HD (by rw[av,av,jG,dJ]);have jU:Hid (gi (aW 1 0 (aj 174) 0 (aj 2) (aj 3) (aj 7)) 0=1):=HD b_;rcases h1:jV 5 c0 with _| ⟨x1,c1⟩
 ·exact W21
 ·replace h1:=HD h1
  rcases h2:jw c1 with _| ⟨x2,c2⟩
  ·replace h2:=HD h2
   have hl1:=aa 0;have hl2:=aa 0;have hl3:=aa 0;have hl4:=aa 0;go_enter func101,ntmps101;go_upto_region 2 with(first|go_at_call 136;refine KC iR hI (cK _ pr ab _ _ _ _ (hI.sat _ aM) (hI.nd aM) h0.out OM p8.out) ?_;intro w1 hI|refine YS ?_;intro w hI|refine YX ?_;intro bx w hI|refine YL ?_)
   rw[hbw.out]at hI;go_upto_region 3 with(refine YL ?_)
   rw[jU.out];go_wp2_with(first|go_at_call 137;refine KN hI (qZ.no (u6 _ pr ab _ (hI.sat _ aX) (hI.nd aX)) (Cu (by exact h2.out))) ?_;intro Cq w1 hI|go_at_call 136;refine KC pg hI (dK _ pr ab _ _ _ (hI.sat _ aX) (hI.nd aX) (by exact h1.out) OM) ?_;intro w1 hI|refine YS ?_;intro w hI);exact⟨rfl,.inr ⟨by simp only[qM,h0.out,h1.out,h2.out,Option.bind_some,Option.bind_none],rfl,_,hI.sub SB⟩⟩
  ·have hl2:(nn x2).length=174:=by rw[cB];exact mZ h2
   replace h2:=HD h2;have hl1:=aa 0;have hl3:=aa 0;have hl4:=aa 0;go_enter func101,ntmps101;go_upto_region 2 with(first|go_at_call 136;refine KC iR hI (cK _ pr ab _ _ _ _ (hI.sat _ aM) (hI.nd aM) h0.out OM p8.out) ?_;intro w1 hI|refine YS ?_;intro w hI|refine YX ?_;intro bx w hI|refine YL ?_)
   rw[hbw.out]at hI;go_upto_region 3 with(refine YL ?_)
   rw[jU.out];go_upto_region 9 with(first|go_at_call 136;refine KC pg hI (dK _ pr ab _ _ _ (hI.sat _ aX) (hI.nd aX) (by exact h1.out) OM) ?_;intro w1 hI|go_at_call 137;refine KI hI (qZ.yes (u6 _ pr ab _ (hI.sat _ aX) (hI.nd aX)) (vI (by exact h2.out))) ?_;intro w1 hI|refine YS ?_;intro w hI)
   simp only[aa,jO,jP,iB,iC,jk,jl,gB,eU,iD,iE,hl1,hl2,hl3,hl4]at hI
   (obtain⟨bz,hbz⟩:=EZ bx)
   (refine ZR [3,4,5] [0] [3] [0,1,2,3,4,5] (λw=>Inv (d_ pr ab bs).own w0 w [ib bx 143 (aW 1 ((x1:Nat):Int) (nn x2) 0 (aj 2) (aj 3) (aj 7))]) hI ?_;intro wd hI)
   (repeat(first|refine ZS ?_|refine ZQ ?_;go_wp2_with(first|refine YS ?_;intro w hI|go_at_call 90;refine KD hI (C.jb _ _ (by(simp only[List.length_set,aa,ay,aY,aW,List.length_append,List.length_cons,List.length_nil]<;>omega))) ?_;intro w1 hI|refine YL ?_);refine ZP ?_))
   simp only[aa,jO,jP,iB,iC,jk,jl,gB,eU,iD,iE,hl1,hl2,hl3,hl4]at hI|-;go_wp2_with(fail);exact W55
theorem ad7(c0:List UInt8)(h0:Hid (jV 6 bs=some (2,c0))):Calls prog 101 #[.pointer (some ⟨pr,0,none⟩)] w0 (Km w0 pr ab bs):=by
 have p8:Hid (((2:Nat):Int)=2):=HD rfl;have hbd:Hid (dF (aj 189) 0 (av (aj 189) [(0,[2])])=(aW 2 0 (aj 174) 0 (aj 2) (aj 3) (aj 7))):=HD (by rw[iZ _ _ (by simp[av,aY,aa]),av,av,jG,dJ]);have hbw:Hid (av (aj 189) [(0,[2])]=(aW 2 0 (aj 174) 0 (aj 2) (aj 3) (aj 7))):=HD (by rw[av,av,jG,dJ]);have jU:Hid (gi (aW 2 0 (aj 174) 0 (aj 2) (aj 3) (aj 7)) 0=2):=HD b_;rcases h1:jV 5 c0 with _| ⟨x1,c1⟩
 ·exact W21
 ·replace h1:=HD h1
  have hl1:=aa 0;have hl2:=aa 0;have hl3:=aa 0;have hl4:=aa 0;go_enter func101,ntmps101;go_upto_region 2 with(first|go_at_call 136;refine KC iR hI (cK _ pr ab _ _ _ _ (hI.sat _ aM) (hI.nd aM) h0.out OM p8.out) ?_;intro w1 hI|refine YS ?_;intro w hI|refine YX ?_;intro bx w hI|refine YL ?_)
  rw[hbw.out]at hI;go_upto_region 3 with(refine YL ?_)
  rw[jU.out];go_wp2_with(first|go_at_call 136;refine KC pg hI (dK _ pr ab _ _ _ (hI.sat _ aX) (hI.nd aX) (by exact h1.out) OM) ?_;intro w1 hI|refine YL ?_|refine YS ?_;intro w hI);simp only[aa,jO,jP,iB,iC,jk,jl,gB,eU,iD,iE,hl1,hl2,hl3,hl4]at hI;exact W32
theorem ad8(c0:List UInt8)(h0:Hid (jV 6 bs=some (3,c0))):Calls prog 101 #[.pointer (some ⟨pr,0,none⟩)] w0 (Km w0 pr ab bs):=by
 have p8:Hid (((3:Nat):Int)=3):=HD rfl;have hbd:Hid (dF (aj 189) 0 (av (aj 189) [(0,[3])])=(aW 3 0 (aj 174) 0 (aj 2) (aj 3) (aj 7))):=HD (by rw[iZ _ _ (by simp[av,aY,aa]),av,av,jG,dJ]);have hbw:Hid (av (aj 189) [(0,[3])]=(aW 3 0 (aj 174) 0 (aj 2) (aj 3) (aj 7))):=HD (by rw[av,av,jG,dJ]);have jU:Hid (gi (aW 3 0 (aj 174) 0 (aj 2) (aj 3) (aj 7)) 0=3):=HD b_;rcases h1:fT c0 with _| ⟨x1,c1⟩
 ·exact W24
 ·replace h1:=HD h1
  rcases h2:bF dD c1 with _| ⟨x2,c2⟩
  ·exact W15
  ·have hl2:(nn x2).length=2:=by rw[cB];exact dN h2
   replace h2:=HD h2;have hl1:=aa 0;have hl3:=aa 0;have hl4:=aa 0;go_enter func101,ntmps101;go_upto_region 2 with(first|go_at_call 136;refine KC iR hI (cK _ pr ab _ _ _ _ (hI.sat _ aM) (hI.nd aM) h0.out OM p8.out) ?_;intro w1 hI|refine YS ?_;intro w hI|refine YX ?_;intro bx w hI|refine YL ?_)
   rw[hbw.out]at hI;go_upto_region 3 with(refine YL ?_)
   rw[jU.out];go_wp2_with(first|go_at_call 138;refine KC pg hI (gK _ pr ab _ (by exact h1.out) (hI.sat _ aX) (hI.nd aX)) ?_;intro w1 hI|go_at_call 139;refine KI hI (qZ.yes (iq _ pr ab _ (hI.sat _ aX) (hI.nd aX)) (iF (by exact h2.out))) ?_;intro w1 hI|refine YL ?_|refine YS ?_;intro w hI);simp only[aa,jO,jP,iB,iC,jk,jl,gB,eU,iD,iE,hl1,hl2,hl3,hl4]at hI;exact W55
theorem ad9(c0:List UInt8)(h0:Hid (jV 6 bs=some (4,c0))):Calls prog 101 #[.pointer (some ⟨pr,0,none⟩)] w0 (Km w0 pr ab bs):=by
 have p8:Hid (((4:Nat):Int)=4):=HD rfl;have hbd:Hid (dF (aj 189) 0 (av (aj 189) [(0,[4])])=(aW 4 0 (aj 174) 0 (aj 2) (aj 3) (aj 7))):=HD (by rw[iZ _ _ (by simp[av,aY,aa]),av,av,jG,dJ]);have hbw:Hid (av (aj 189) [(0,[4])]=(aW 4 0 (aj 174) 0 (aj 2) (aj 3) (aj 7))):=HD (by rw[av,av,jG,dJ]);have jU:Hid (gi (aW 4 0 (aj 174) 0 (aj 2) (aj 3) (aj 7)) 0=4):=HD b_;rcases h1:fT c0 with _| ⟨x1,c1⟩
 ·exact W24
 ·replace h1:=HD h1
  rcases h2:bF dD c1 with _| ⟨x2,c2⟩
  ·exact W15
  ·have hl2:(nn x2).length=2:=by rw[cB];exact dN h2
   replace h2:=HD h2;rcases h3:bF jQ c2 with _| ⟨x3,c3⟩
   ·replace h3:=HD h3
    have hl1:=aa 0;have hl3:=aa 0;have hl4:=aa 0;go_enter func101,ntmps101;go_upto_region 2 with(first|go_at_call 136;refine KC iR hI (cK _ pr ab _ _ _ _ (hI.sat _ aM) (hI.nd aM) h0.out OM p8.out) ?_;intro w1 hI|refine YS ?_;intro w hI|refine YX ?_;intro bx w hI|refine YL ?_)
    rw[hbw.out]at hI;go_upto_region 3 with(refine YL ?_)
    rw[jU.out];go_wp2_with(first|go_at_call 140;refine KN hI (qZ.no (p9 _ pr ab _ (hI.sat _ aX) (hI.nd aX)) (lM (by exact h3.out))) ?_;intro Cq w1 hI|go_at_call 138;refine KC pg hI (gK _ pr ab _ (by exact h1.out) (hI.sat _ aX) (hI.nd aX)) ?_;intro w1 hI|go_at_call 139;refine KI hI (qZ.yes (iq _ pr ab _ (hI.sat _ aX) (hI.nd aX)) (iF (by exact h2.out))) ?_;intro w1 hI|refine YS ?_;intro w hI);exact⟨rfl,.inr ⟨by simp only[qM,h0.out,h1.out,h2.out,h3.out,Option.bind_some,Option.bind_none],rfl,_,hI.sub SB⟩⟩
   ·have hl3:(nn x3).length=3:=by rw[cB];exact dN h3
    replace h3:=HD h3;have hl1:=aa 0;have hl4:=aa 0;go_enter func101,ntmps101;go_upto_region 2 with(first|go_at_call 136;refine KC iR hI (cK _ pr ab _ _ _ _ (hI.sat _ aM) (hI.nd aM) h0.out OM p8.out) ?_;intro w1 hI|refine YS ?_;intro w hI|refine YX ?_;intro bx w hI|refine YL ?_)
    rw[hbw.out]at hI;go_upto_region 3 with(refine YL ?_)
    rw[jU.out];go_wp2_with(first|go_at_call 138;refine KC pg hI (gK _ pr ab _ (by exact h1.out) (hI.sat _ aX) (hI.nd aX)) ?_;intro w1 hI|go_at_call 139;refine KI hI (qZ.yes (iq _ pr ab _ (hI.sat _ aX) (hI.nd aX)) (iF (by exact h2.out))) ?_;intro w1 hI|go_at_call 140;refine KI hI (qZ.yes (p9 _ pr ab _ (hI.sat _ aX) (hI.nd aX)) (iF (by exact h3.out))) ?_;intro w1 hI|refine YL ?_|refine YS ?_;intro w hI);simp only[aa,jO,jP,iB,iC,jk,jl,gB,eU,iD,iE,hl1,hl2,hl3,hl4]at hI;exact bodyPost_ret (aF hI rfl rfl aM (bG.out (t:=143)) (by simp only[dL,aa,hl1,hl2,hl3,hl4])) rfl (.inl ⟨_,_,_,(by simp only[qM,h0.out,h1.out,h2.out,h3.out,Option.bind_some];rfl),(by simp only[dL,aa,hl1,hl2,hl3,hl4]),rfl,hI.sub SB⟩)
theorem ad_(c0:List UInt8)(h0:Hid (jV 6 bs=some (5,c0))):Calls prog 101 #[.pointer (some ⟨pr,0,none⟩)] w0 (Km w0 pr ab bs):=by
 have p8:Hid (((5:Nat):Int)=5):=HD rfl;have hbd:Hid (dF (aj 189) 0 (av (aj 189) [(0,[5])])=(aW 5 0 (aj 174) 0 (aj 2) (aj 3) (aj 7))):=HD (by rw[iZ _ _ (by simp[av,aY,aa]),av,av,jG,dJ]);have hbw:Hid (av (aj 189) [(0,[5])]=(aW 5 0 (aj 174) 0 (aj 2) (aj 3) (aj 7))):=HD (by rw[av,av,jG,dJ]);have jU:Hid (gi (aW 5 0 (aj 174) 0 (aj 2) (aj 3) (aj 7)) 0=5):=HD b_;rcases h1:bF kz c0 with _| ⟨x1,c1⟩
 ·replace h1:=HD h1
  have hl1:=aa 0;have hl2:=aa 0;have hl3:=aa 0;have hl4:=aa 0;go_enter func101,ntmps101;go_upto_region 2 with(first|go_at_call 136;refine KC iR hI (cK _ pr ab _ _ _ _ (hI.sat _ aM) (hI.nd aM) h0.out OM p8.out) ?_;intro w1 hI|refine YS ?_;intro w hI|refine YX ?_;intro bx w hI|refine YL ?_)
  rw[hbw.out]at hI;go_upto_region 3 with(refine YL ?_)
  rw[jU.out];go_wp2_with(go_at_call 141;refine KN hI (qZ.no (vZ _ pr ab _ (hI.sat _ aX) (hI.nd aX)) (lM (by exact h1.out))) ?_;intro Cq w1 hI);exact W90
 ·have hl1:(nn x1).length=7:=by rw[cB];exact dN h1
  have hvb:Hid (∀i,-9223372036854775808<gi (nn x1) i∧gi (nn x1) i<=9223372036854775807):=HD (NF (y_ DC h1));replace h1:=HD h1;have hl2:=aa 0;have hl3:=aa 0;have hl4:=aa 0;go_enter func101,ntmps101;go_upto_region 2 with(first|go_at_call 136;refine KC iR hI (cK _ pr ab _ _ _ _ (hI.sat _ aM) (hI.nd aM) h0.out OM p8.out) ?_;intro w1 hI|refine YS ?_;intro w hI|refine YX ?_;intro bx w hI|refine YL ?_)
  rw[hbw.out]at hI;go_upto_region 3 with(refine YL ?_)
  rw[jU.out];go_upto_region 21 with(first|go_at_call 141;refine KI hI (qZ.yes (vZ _ pr ab _ (hI.sat _ aX) (hI.nd aX)) (iF (by exact h1.out))) ?_;intro w1 hI|refine YS ?_;intro w hI)
  simp only[aa,jO,jP,iB,iC,jk,jl,gB,eU,iD,iE,hl1,hl2,hl3,hl4]at hI
  (obtain⟨bz,hbz⟩:=EZ bx)
  (refine ZR [3,4,5] [0] [3] [0,1,2,3,4,5] (λw=>Inv (d_ pr ab bs).own w0 w [ib bx 143 (aW 5 0 (aj 174) 0 (aj 2) (aj 3) (nn x1))]) hI ?_;intro wd hI)
  (repeat(first|refine ZS ?_|refine ZQ ?_;go_wp2_with(first|refine YS ?_;intro w hI|go_at_call 142;refine KD hI (DL _ _ _ (by simp only[aa,jO,jP,iB,iC,jk,jl,gB,eU,iD,iE,hl1,hl2,hl3,hl4]) (by exact hl1) hvb.out) ?_;intro w1 hI|refine YL ?_);refine ZP ?_))
  exact W71
theorem Wi:Calls prog 101 #[.pointer (some ⟨pr,0,none⟩)] w0 (Km w0 pr ab bs):=by
 rcases h0:jV 6 bs with _| ⟨k,c0⟩
 ·exact Wh w0 pr ab bs hI (HD h0)
 ·have hlt:=rX h0
  obtain rfl|rfl|rfl|rfl|rfl|rfl:k=0∨k=1∨k=2∨k=3∨k=4∨k=5:=by omega
  ·exact ad5 w0 pr ab bs hI c0 (HD h0)
  ·exact ad6 w0 pr ab bs hI c0 (HD h0)
  ·exact ad7 w0 pr ab bs hI c0 (HD h0)
  ·exact ad8 w0 pr ab bs hI c0 (HD h0)
  ·exact ad9 w0 pr ab bs hI c0 (HD h0)
  ·exact ad_ w0 pr ab bs hI c0 (HD h0)
theorem aaC{z:List Int}{b:Bool}{cs:List UInt8}(hr:qM bs=some ((z,b),cs)):Calls prog 101 #[.pointer (some ⟨pr,0,none⟩)] w0 λe w'=>z.length=189∧e=.returned (.tuple #[ia z,.bool b])∧Inv (d_ pr ab bs).own w0 w' [d_ pr ab cs]:=by
 refine(Wi w0 pr ab bs hI).mono ?_;exact W68
theorem aea(hr:qM bs=none):Calls prog 101 #[.pointer (some ⟨pr,0,none⟩)] w0 λe w'=>e=.panicked Jp∧∃cs,Inv (d_ pr ab bs).own w0 w' [d_ pr ab cs]:=by
 refine(Wi w0 pr ab bs hI).mono ?_;exact W97
end
theorem call100(args:Array Value)(w:World):(callFunc 100 args).run prog w=.ok (.enter 100 args) w:=by
 simp[callFunc,Sem.run_bind,func100,f100,Sem.run_pure]
theorem xY{T:List Nat}{w0 w:World}{pr bx br:Nat}{ab:Option Nat}{bs cs:List UInt8}{z:List Int}{b u:Bool}{x:aG}{m:List aG}(hr:Hid (qM bs=some ((z,b),cs)))(hI:Inv T w0 w (d_ pr ab bs::x::blk br 4 [.bool u]::ib bx 143 (aj 189)::m)):
  Calls prog 100 #[.pointer (some ⟨pr,0,none⟩),.pointer (some ⟨bx,0,none⟩),.pointer (some ⟨br,0,none⟩)] w λe w'=>e=.returned (.tuple #[])∧Inv T w0 w' (d_ pr ab cs::x::blk br 4 [.bool b]::ib bx 143 z::m):=by
 go_enter func100,ntmps100;go_wp2_with(first|go_at_call 101;(with_reducible refine(aaC _ pr ab bs (hI.at_ aA) hr.out).mono ?_);rintro e w1 ⟨hzl,rfl,hJ⟩;replace hI:=hI.on hJ aR.here;clear hJ|refine YS ?_;intro w hI|refine YT ?_;intro w hI;(try simp only[QS]at hI));exact⟨rfl,_,gD KF _ _,rfl,hI⟩
theorem Sa{T:List Nat}{w0 w:World}{pr bx br:Nat}{ab:Option Nat}{bs:List UInt8}{u:Bool}{x:aG}{m:List aG}(hr:Hid (qM bs=none))(hI:Inv T w0 w (d_ pr ab bs::x::blk br 4 [.bool u]::ib bx 143 (aj 189)::m)):
  Calls prog 100 #[.pointer (some ⟨pr,0,none⟩),.pointer (some ⟨bx,0,none⟩),.pointer (some ⟨br,0,none⟩)] w λe w'=>e=.panicked Jp∧∃cs,Inv T w0 w' (d_ pr ab cs::x::blk br 4 [.bool u]::ib bx 143 (aj 189)::m):=by
 go_enter func100,ntmps100;go_wp2_with(go_at_call 101;refine KN hI (aea _ pr ab bs (hI.at_ aA) hr.out) ?_;intro Cq w1 hI);exact⟨rfl,rfl,_,hI⟩
theorem Wj{bs cs:List UInt8}{z:List Int}{b:Bool}(h:qM bs=some ((z,b),cs)):z.length=189:=by
 obtain⟨p,h0,h⟩:=Option.bind_eq_some_iff.1 h
 split at h
 ·obtain⟨⟨x1,c1⟩,h1,h⟩:=Option.bind_eq_some_iff.1 h
  simp only[Option.some.injEq,Prod.mk.injEq]at h;obtain⟨⟨rfl,_⟩,_⟩:=h;exact dL (by rw[cB];exact mZ h1) (aa _) (aa _) (aa _)
 ·obtain⟨⟨x1,c1⟩,h1,h⟩:=Option.bind_eq_some_iff.1 h
  obtain⟨⟨x2,c2⟩,h2,h⟩:=Option.bind_eq_some_iff.1 h;simp only[Option.some.injEq,Prod.mk.injEq]at h;obtain⟨⟨rfl,_⟩,_⟩:=h;exact dL (by rw[cB];exact mZ h2) (aa _) (aa _) (aa _)
 ·obtain⟨⟨x1,c1⟩,h1,h⟩:=Option.bind_eq_some_iff.1 h
  simp only[Option.some.injEq,Prod.mk.injEq]at h;obtain⟨⟨rfl,_⟩,_⟩:=h;exact dL (aa _) (aa _) (aa _) (aa _)
 ·obtain⟨⟨x1,c1⟩,h1,h⟩:=Option.bind_eq_some_iff.1 h
  obtain⟨⟨x2,c2⟩,h2,h⟩:=Option.bind_eq_some_iff.1 h;simp only[Option.some.injEq,Prod.mk.injEq]at h;obtain⟨⟨rfl,_⟩,_⟩:=h;exact dL (aa _) (by rw[cB];exact dN h2) (aa _) (aa _)
 ·obtain⟨⟨x1,c1⟩,h1,h⟩:=Option.bind_eq_some_iff.1 h
  obtain⟨⟨x2,c2⟩,h2,h⟩:=Option.bind_eq_some_iff.1 h;obtain⟨⟨x3,c3⟩,h3,h⟩:=Option.bind_eq_some_iff.1 h;simp only[Option.some.injEq,Prod.mk.injEq]at h;obtain⟨⟨rfl,_⟩,_⟩:=h;exact dL (aa _) (by rw[cB];exact dN h2) (by rw[cB];exact dN h3) (aa _)
 ·obtain⟨⟨x1,c1⟩,h1,h⟩:=Option.bind_eq_some_iff.1 h
  simp only[Option.some.injEq,Prod.mk.injEq]at h;obtain⟨⟨rfl,_⟩,_⟩:=h;exact dL (aa _) (aa _) (aa _) (by rw[cB];exact dN h1)
 ·cases h
def xZ(bs:List UInt8):List Int×Int:=match qM bs with
 |some ((z,true),[])=>(z,0)
 |_=>(aj 189,1)
section
variable {T:List Nat}{w0 w:World}{a:Option Addr}{ab:Option Nat}{c:Nat}{bs:List UInt8}{m:List aG}(hc:bs.length<=c)(hm:c<=maxLen)(hI:Inv T w0 w (mQ ab a bs::m))
include hc hm hI
theorem Kn:Calls prog 65 #[.slice a bs.length c] w λe w'=>e=.returned (.tuple #[ia (xZ bs).1,.int .i64 (xZ bs).2])∧Inv T w0 w' m:=by
 have hmf:∀(fn:Fn) (first cap:Array Value) (w:World),(Instr.makeFunc fn first cap).run prog w=.ok (.func fn first cap) w:=λ_ _ _ _=>rfl
 have hn0:=aa 189;rcases h:qM bs with _| ⟨⟨z,b⟩,cs⟩
 ·have hD:Hid (xZ bs=(aj 189,1)):=HD (by rw[xZ,h])
  have hr:=HD h;clear h;go_enter func65,ntmps65;go_wp2_with(first|(with_reducible refine aL (z:=.bool false) (cs:=[.bool false]) hI yJ RF ?_;intro br w hI)|go_at_call 99;(with_reducible refine(CQ hc hm call100 (Inv.Ju hI) (λw' pr x hI=>Sa hr hI)).mono ?_);rintro e w1 ⟨rfl,pr,Cq,hJ⟩;replace hI:=hJ;clear hJ|refine YS ?_;intro w hI|refine YT ?_;intro w hI;(try simp only[QS]at hI)|refine YX ?_;intro bx w hI|refine YL ?_);exact W48
 ·by_cases hcs:cs=[]
  ·subst hcs
   have hr:=HD h;cases b
   ·have hD:Hid (xZ bs=(aj 189,1)):=HD (by rw[xZ,h])
    clear h;go_enter func65,ntmps65;go_wp2_with(first|(with_reducible refine aL (z:=.bool false) (cs:=[.bool false]) hI yJ RF ?_;intro br w hI)|go_at_call 99;(with_reducible refine(mH hc hm call100 (Inv.Ju hI) (λw' pr x hI=>xY hr hI)).mono ?_);rintro e w1 ⟨rfl,pr,hJ⟩;replace hI:=hJ;clear hJ|refine YL ?_|refine YS ?_;intro w hI|refine YT ?_;intro w hI;(try simp only[QS]at hI)|refine YX ?_;intro bx w hI);exact W48
   ·have hD:Hid (xZ bs=(z,0)):=HD (by rw[xZ,h])
    have hzl:=Wj h;clear h;go_enter func65,ntmps65;go_wp2_with(first|(with_reducible refine aL (z:=.bool false) (cs:=[.bool false]) hI yJ RF ?_;intro br w hI)|go_at_call 99;(with_reducible refine(mH hc hm call100 (Inv.Ju hI) (λw' pr x hI=>xY hr hI)).mono ?_);rintro e w1 ⟨rfl,pr,hJ⟩;replace hI:=hJ;clear hJ|refine YL ?_|refine YS ?_;intro w hI|refine YT ?_;intro w hI;(try simp only[QS]at hI)|refine YX ?_;intro bx w hI);exact bodyPost_ret (aF hI rfl rfl mU (bG.out (t:=143)) hzl) rfl ⟨by rw[hD.out];rfl,hI.sub (.cons _ (.cons _ (.cons _ (.cons _ (.refl _)))))⟩
  ·have hD:Hid (xZ bs=(aj 189,1)):=HD (by
    rw[xZ,h];cases cs with
    |nil=>exact absurd rfl hcs
    |cons x xs=>cases b<;>rfl)
   have hd:decide (cs=[])=false:=by simpa using hcs
   have hr:=HD h;clear h hcs;go_enter func65,ntmps65;go_wp2_with(first|(with_reducible refine aL (z:=.bool false) (cs:=[.bool false]) hI yJ RF ?_;intro br w hI)|go_at_call 99;(with_reducible refine(mH hc hm call100 (Inv.Ju hI) (λw' pr x hI=>xY hr hI)).mono ?_);rintro e w1 ⟨rfl,pr,hJ⟩;replace hI:=hJ;clear hJ|refine YS ?_;intro w hI|refine YT ?_;intro w hI;(try simp only[QS]at hI)|refine YX ?_;intro bx w hI|refine YL ?_);exact W48
end
