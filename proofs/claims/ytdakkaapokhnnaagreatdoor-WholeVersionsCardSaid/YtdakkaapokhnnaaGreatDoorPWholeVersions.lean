/- The given card of WholeVersions is proved. No condition. -/
import Derived.Test.YtdakkaapokhnnaaGreatDoorCards
import Derived.Test.YtdakkaapokhnnaaGreatDoorTie
import Derived.Test.YtdakkaapokhnnaaGreatDoorZ36
namespace Go.Proofs.YtdakkaapokhnnaaGreatDoor
open Go.RowKit Go.Proofs.Tryz
set_option maxRecDepth 100000
set_option maxHeartbeats 6400000
set_option linter.all false
abbrev tabO:=@u6
def Lm(l:List Int)(o:Nat->RS):Prop:=l.length=870∧∀t,t<5->qp (rowAt l t) (o t).own
theorem aiD:Lm (au 870) λ_=>C0.S 0:=⟨ag _,λt ht=>by rw[kT ht];exact qp.refl _⟩
theorem aeX{l o p}(h:Lm l o)(g:∀t,t<5->mg (o t) (p t)):Lm l p:=⟨h.1,λt ht=>(h.2 t ht).trans (g t ht).1⟩
theorem aiE{l x o}(h:Lm l o){i}(hi:i<5)(hx:x=(o i).own)(hl:x.length=174):Lm (dK l (i*174) x) o:=by
 refine⟨?_,λt ht=>?_⟩
 ·rw[aY,hl,h.1];omega
 ·rw[q_ h.1 hl hi ht]
  split
  ·grind[qp.refl]
  ·exact h.2 t ht
theorem aiF{l x i}(h:qp (rowAt l i) x)(hl:l.length=870)(hi:i<5):(decide (gi x 0<gi l (i*174))=false)∧((gi x 0==gi l (i*174))=true∧x=sub l (i*174) 174∨(gi x 0==gi l (i*174))=false):=by
 have hv:=h.Cu;have e:gi (rowAt l i) 0=gi l (i*174):=by simp_all[rowAt,gy]
 refine⟨decide_eq_false OM,?_⟩;rcases h.1 with h1|h1
 ·exact .inl ⟨by grind,h1.symm⟩
 grind
theorem aeY{l x i k}(h:qp (rowAt l i) x)(hi:i<5)(hk:k<4):decide (gi (sub x (1+k*7) 7) 0<gi (sub l (i*174+1+k*7) 7) 0)=false∧decide (gi (sub x (1+k*7) 7) 1<gi (sub l (i*174+1+k*7) 7) 1)=false:=by
 have e:∀j,j<29->gi (rowAt l i) j=gi l (i*174+j):=λj hj=>by grind[rowAt,gy]
 obtain⟨a,b⟩:=h.2 k hk;rw[gy _ _ _ _ OM,gy _ _ _ _ OM,gy _ _ _ _ OM,gy _ _ _ _ OM]
 grind
section
variable (w0:World)(a:Option Addr)(len c:Nat)(row:Nat->List Int)(h:uE w0 a len 11 row)(g:Nat)(og:Obj)(hg:w0.heap[g]? =some og)(hT:Jn g og)
include h hg hT
theorem Hl:Calls prog 5 #[.slice a len c] w0 λe w'=>e=.returned (.bool true)∧Below w0.heap.size w0 w':=by
 have hI:=RQ hg hT;have l0:=h.reach;by_cases hlen:len<=1200
 ·have hd:decide ((len:Int)<=1200)=true:=by simp;omega
  go_enter func5,ntmps5;go_wp2_with(first|go_at_call 8;refine KC jR hI (Dc _ g og (hI.at_ aC)) ?_;intro w1 hI|go_at_call 9;refine KD hI (De _ a len c) ?_;intro w1 hI|go_at_call 18;(with_reducible refine(Uc _).mono ?_);rintro e w1 ⟨X,Y,rfl,hJ⟩;replace hI:=hI.seq hJ;clear hJ;simp only[List.cons_append,List.nil_append]at hI|refine YX ?_;intro bx w hI);generalize bx=b0 at*
  go_loopg [21] len (λkk s21 wr=>∃(k:Nat) (Y:CY) (l:List Int) (o:Nat->RS),kk=len-k∧k<=len∧s21=.int .i64 (k:Int)∧Hid (VI (kZ C0 (fI k row)) o∧Lm l o)∧Inv [g] w0 wr [ib b0 46 l,bF X Y (kZ C0 (fI k row)),gU g og])
  case atStart=>exact⟨0,Y,_,_,rfl,by omega,rfl,HD ⟨abz,aiD⟩,hI⟩
  case round=>
   clear hI;obtain⟨k,Y,l,o,rfl,hk,rfl,hV,hI⟩:=hrel;by_cases hlk:k<len
   ·obtain⟨hdl,abX,bq,off,rfl,hcell⟩:=(h.below (tabO hg hI a_)).row k hlk
    have abY:((row k).map (Value.int .i64)).length=11:=by simpa using hdl
    have hagg:gm prog 50 ((row k).map (Value.int .i64)).length:=by rw[abY];exact bP.out (t:=50)
    have hci:Hid (CI k (kZ C0 (fI k row))):=HD (by
     have:=Gr (fI k row) (C:=C0) (n:=0) (λz hz=>by
      obtain⟨j,hj,rfl⟩:=List.mem_map.1 hz;exact(h.row j (by have:=List.mem_range.1 hj;omega)).1) zx
     rw[yj]at this;simpa using this)
    have hCk:Ot (kZ C0 (fI k row)):=hci.out.ok OM;have hnx:Hid (kZ C0 (fI (k+1) row)=(nA (kZ C0 (fI k row)) (row k)).1):=HD (by rw[zD,BN]);have hvs:Hid (Vs (kZ C0 (fI k row)) (nA (kZ C0 (fI k row)) (row k)).1 o):=HD (afM hci.out hV.out.1 hdl);have hc2:Hid (CI (k+1) (nA (kZ C0 (fI k row)) (row k)).1):=HD (Ox hci.out hdl);clear h;generalize kZ C0 (fI k row)=C at*;generalize row k=d at*;obtain⟨D,hD⟩:∃D,Hid (D=(nA C d).1):=⟨_,HD rfl⟩;have hnx2:Hid (kZ C0 (fI (k+1) row)=D):=HD (hnx.out.trans hD.out.symm);rw[<-hD.out]at hvs hc2;clear hnx;obtain⟨p,hp⟩:∃p,Hid (p=oF D o):=⟨_,HD rfl⟩;have hV2:Hid (VI D p∧Lm l p):=HD ⟨hp.out▸hvs.out.1,hp.out▸aeX hV.out.2 hvs.out.2⟩;clear hV hvs;go_upto_region 11 with(first|with_reducible refine qD (Inv.start _) RF hcell SI (by with_unfolding_all exact hagg) ?_|(with_reducible refine JJ (vs:=d) hI RF RF jR hdl (ag _) ?_);intro w hI|with_reducible refine LU (zs:=d) hI (hl:=hdl) (k:=?_)|go_at_call 19;refine KH hI (aeV _ X Y C d D hdl abX hCk hD.out (hI.at_ a_)) ?_;intro Y' v w1 hI|refine YX ?_;intro bx w hI)
    go_wp2_with fail;replace hI:=hI.tl
    go_loopg [7,28] 5 (λkk s7 s28 wr=>∃(i:Nat) (l:List Int),kk=5-i∧i<=5∧s28=.int .i64 (i:Int)∧Hid (VI D p∧Lm l p)∧Inv [g] w0 wr [ib b0 46 l,bF X Y' D,gU g og])
    case atStart=>exact⟨0,l,rfl,by omega,rfl,hV2,hI⟩
    case round=>
     clear hI hV2;obtain⟨i,l,rfl,hi,rfl,hV2,hI⟩:=hrel;by_cases hi5:i<5
     ·have hd5:decide ((i:Int) <5)=true:=by simp;omega
      cases hub:nM D i
      case false=>
       have hmv:Hid ((if nM D i=true then Value.pointer (some ⟨(Y'.m i).b,0,none⟩)else .pointer none)=.pointer none):=HD (if_neg (by simp[hub]));go_wp2_with(go_at_call 13;refine KR (iM hi5 hI aM) ?_;rw[hmv.out]);go_roundg (5- (i+1))
       case measure=>omega
       case rel=>exact⟨i+1,l,rfl,by omega,rfl,hV2,hI⟩
      case true=>
       have hu:D.up i=true:=by rw[nM,Bool.and_eq_true]at hub;exact hub.1
       have hmv:Hid ((if nM D i=true then Value.pointer (some ⟨(Y'.m i).b,0,none⟩)else .pointer none)=.pointer (some ⟨(Y'.m i).b,0,none⟩)):=HD (if_pos hub);obtain⟨O,hO⟩:=EH ((D.S i).own);have hOp:O=(p i).own:=by rw[<-hO.out];exact(hV2.out.1.up i hi5 hu).1.1
       have hle:qp (rowAt l i) O:=by rw[hOp];exact hV2.out.2.2 i hi5
       have hol:O.length=174:=by rw[<-hO.out];exact(hc2.out.up i hi5 hu).len.own
       have hll:l.length=870:=hV2.out.2.1;obtain⟨hv1,hv2⟩:=aiF hle hll hi5;have hlp:Hid (Lm (dK l (i*174) O) p):=HD (aiE hV2.out.2 hi5 hOp hol);have hcc:Hid (∀k,k<4->decide (gi (sub O (1+k*7) 7) 0<gi (sub l (i*174+1+k*7) 7) 0)=false∧decide (gi (sub O (1+k*7) 7) 1<gi (sub l (i*174+1+k*7) 7) 1)=false):=HD λk hk=>aeY hle hi5 hk
       clear hOp hle;go_upto_region 17 with(first|go_at_call 13;refine KR (iM hi5 hI aM) ?_;rw[hmv.out]|go_at_call 16;refine KE (Lj hi5 hu hI aM hO.out) ?_;intro w1 hI|refine YS ?_;intro w hI|refine YX ?_;intro bx w hI)
       rcases hv2 with⟨he,ho2⟩ |he
       case inr=>
        refine ZT [6,7,14,15,20,21,22] 23 hI ?_;intro wd hI
        (repeat(first|refine ZS ?_|refine ZQ ?_;go_wp2_with(refine YL ?_);refine ZP ?_))
        go_upto_region 19 with fail;clear hv1 he;go_wp2_with fail
        go_loopg [10,61] 4 (λkk s10 s61 wr=>∃(q:Nat),kk=4-q∧q<=4∧s61=.int .i64 (q:Int)∧Inv [g] w0 wr [ib bx 41 O,ib b0 46 l,bF X Y' D,gU g og])
        case atStart=>exact⟨0,rfl,by omega,rfl,hI⟩
        case round=>
         clear hI;obtain⟨q,rfl,hq,rfl,hI⟩:=hrel;by_cases hq4:q<4
         ·have hd6:decide ((q:Int) <4)=true:=by simp;omega
          obtain⟨hc0,hc1⟩:=hcc.out q hq4;go_upto_region 22 with(fail)
          (obtain⟨b9,hbx⟩:=EZ bx;subst hbx)
          refine nL (λw=>Inv [g] w0 w [ib b9 41 O,ib b0 46 l,bF X Y' D,gU g og]) mixed ?_;replace hI:=hI.drew;change o_ _ _ _ _ _ _ _ _ (World.drew _);revert hI;generalize World.drew _=w9;intro hI
          (refine aO (i:=0) (v:=?_) rfl KF KF KF (λc a w hp=>hp) ⟨by rfl,?_⟩ ?_;rotate_left;focus(intro w _;go_simp;with_reducible rfl))
          (simp only[Act.put,List.setIfInBounds_toArray,QG,QS])
          (refine aO (i:=1) (v:=?_) rfl KF KF KF (λc a w hp=>hp) ⟨by rfl,?_⟩ ?_;rotate_left;focus(intro w _;go_simp;with_reducible rfl))
          (simp only[Act.put,List.setIfInBounds_toArray,QG,QS])
          (refine aO (i:=2) (v:=?_) rfl KF KF KF (λc a w hp=>hp) ⟨by rfl,?_⟩ ?_;rotate_left;focus(intro w _;go_simp;(rw[if_pos OM];done)))
          (simp only[Act.put,List.setIfInBounds_toArray,QG,QS])
          (refine aO (i:=3) (v:=?_) rfl KF KF KF (λc a w hp=>hp) ⟨by rfl,?_⟩ ?_;rotate_left;focus(intro w _;go_simp;with_reducible rfl))
          (simp only[Act.put,List.setIfInBounds_toArray,QG,QS])
          (refine aO (i:=4) (v:=?_) rfl KF KF KF (λc a w hp=>hp) ⟨by rfl,?_⟩ ?_;rotate_left;focus(intro w _;go_simp;(rw[if_pos OM];done)))
          (simp only[Act.put,List.setIfInBounds_toArray,QG,QS])
          (refine aO (i:=6) (v:=?_) rfl KF KF KF (λc a w hp=>hp) ⟨by rfl,?_⟩ ?_;rotate_left;focus(intro w _;go_simp;with_reducible rfl))
          (simp only[Act.put,List.setIfInBounds_toArray,QG,QS])
          (refine aO (i:=7) (v:=?_) rfl KF KF KF (λc a w hp=>hp) ⟨by rfl,?_⟩ ?_;rotate_left;focus(intro w _;go_simp;with_reducible rfl))
          (simp only[Act.put,List.setIfInBounds_toArray,QG,QS])
          (refine aO (i:=8) (v:=?_) rfl KF KF KF (λc a w hp=>hp) ⟨by rfl,?_⟩ ?_;rotate_left;focus(intro w _;go_simp;(rw[if_pos OM];done)))
          (simp only[Act.put,List.setIfInBounds_toArray,QG,QS])
          (refine aO (i:=5) (v:=ia (sub l (i*174+1+q*7) 7)) rfl KF KF KF (λc a w hp=>hp) ⟨by rfl,λw hI0=>by(have hI:Inv _ _ w _:=hI0;exact Xg hI)⟩ ?_)
          (simp only[Act.put,List.setIfInBounds_toArray,QG,QS])
          (refine aO (i:=9) (v:=ia (sub O (1+q*7) 7)) rfl KF KF KF (λc a w hp=>hp) ⟨by rfl,λw hI0=>by(have hI:Inv _ _ w _:=hI0;exact Xg hI)⟩ ?_)
          (simp only[Act.put,List.setIfInBounds_toArray,QG,QS])
          refine DD (i:=10) (j:=11) KF (hI.sub SB) ?_ ?_
          case' refine_1=>
           refine bG (i:=10) (by rfl) RF ?_;go_wp2_with(refine YX ?_;intro bx w hI);refine bY ?_
           (try(simp only[Act.put,List.setIfInBounds_toArray,QG,QS]))
           refine eH (i:=11) KF (hI.sub SB) ?_;refine bG (i:=11) (by rfl) RF ?_;go_wp2_with(refine YX ?_;intro bx w hI);refine bY ?_
           (try(simp only[Act.put,List.setIfInBounds_toArray,QG,QS]))
          case' refine_2=>
           refine bG (i:=11) (by rfl) RF ?_;go_wp2_with(refine YX ?_;intro bx w hI);refine bY ?_
           (try(simp only[Act.put,List.setIfInBounds_toArray,QG,QS]))
           refine eH (i:=10) KF (hI.sub SB) ?_;refine bG (i:=10) (by rfl) RF ?_;go_wp2_with(refine YX ?_;intro bx w hI);refine bY ?_
           (try(simp only[Act.put,List.setIfInBounds_toArray,QG,QS]))
          all_goals
           refine eH (i:=12) KF (hI.sub SB) ?_;refine bG (i:=12) (by rfl) RF ?_;go_wp2_with(refine YS ?_;intro w hI);refine bY ?_
           (try(simp only[Act.put,List.setIfInBounds_toArray,QG,QS]))
           refine eH (i:=13) KF (hI.sub SB) ?_;refine bG (i:=13) (by rfl) RF ?_;go_wp2_with(refine YS ?_;intro w hI);refine bY ?_
           (try(simp only[Act.put,List.setIfInBounds_toArray,QG,QS]))
           refine qW KF (hI.sub SB) ?_ _;go_wp2_with(refine YL ?_);go_roundg (4- (q+1))
           case measure=>omega
           case rel=>exact⟨q+1,rfl,by omega,rfl,hI.sub SB⟩
         ·obtain rfl:q=4:=by omega
          go_wp2_with(first|refine YL ?_|refine YS ?_;intro w hI);go_roundg (5- (i+1))
          case measure=>omega
          case rel=>exact⟨i+1,_,rfl,by omega,rfl,HD ⟨hV2.out.1,hlp.out⟩,hI.sub SB⟩
       case inl=>
        have hne:decide (O=sub l (i*174) 174)=true:=decide_eq_true ho2;clear ho2
        refine ZT [6,7,14,15,20,21,22] 23 hI ?_;intro wd hI
        (repeat(refine ZQ ?_;go_wp2_with(refine YL ?_);refine ZP ?_))
        go_upto_region 19 with fail;clear hv1 he;go_wp2_with fail
        go_loopg [10,61] 4 (λkk s10 s61 wr=>∃(q:Nat),kk=4-q∧q<=4∧s61=.int .i64 (q:Int)∧Inv [g] w0 wr [ib bx 41 O,ib b0 46 l,bF X Y' D,gU g og])
        case atStart=>exact⟨0,rfl,by omega,rfl,hI⟩
        case round=>
         clear hI;obtain⟨q,rfl,hq,rfl,hI⟩:=hrel;by_cases hq4:q<4
         ·have hd6:decide ((q:Int) <4)=true:=by simp;omega
          obtain⟨hc0,hc1⟩:=hcc.out q hq4;go_upto_region 22 with(fail)
          (obtain⟨b9,hbx⟩:=EZ bx;subst hbx)
          refine nL (λw=>Inv [g] w0 w [ib b9 41 O,ib b0 46 l,bF X Y' D,gU g og]) mixed ?_;replace hI:=hI.drew;change o_ _ _ _ _ _ _ _ _ (World.drew _);revert hI;generalize World.drew _=w9;intro hI
          (refine aO (i:=0) (v:=?_) rfl KF KF KF (λc a w hp=>hp) ⟨by rfl,?_⟩ ?_;rotate_left;focus(intro w _;go_simp;with_reducible rfl))
          (simp only[Act.put,List.setIfInBounds_toArray,QG,QS])
          (refine aO (i:=1) (v:=?_) rfl KF KF KF (λc a w hp=>hp) ⟨by rfl,?_⟩ ?_;rotate_left;focus(intro w _;go_simp;with_reducible rfl))
          (simp only[Act.put,List.setIfInBounds_toArray,QG,QS])
          (refine aO (i:=2) (v:=?_) rfl KF KF KF (λc a w hp=>hp) ⟨by rfl,?_⟩ ?_;rotate_left;focus(intro w _;go_simp;(rw[if_pos OM];done)))
          (simp only[Act.put,List.setIfInBounds_toArray,QG,QS])
          (refine aO (i:=3) (v:=?_) rfl KF KF KF (λc a w hp=>hp) ⟨by rfl,?_⟩ ?_;rotate_left;focus(intro w _;go_simp;with_reducible rfl))
          (simp only[Act.put,List.setIfInBounds_toArray,QG,QS])
          (refine aO (i:=4) (v:=?_) rfl KF KF KF (λc a w hp=>hp) ⟨by rfl,?_⟩ ?_;rotate_left;focus(intro w _;go_simp;(rw[if_pos OM];done)))
          (simp only[Act.put,List.setIfInBounds_toArray,QG,QS])
          (refine aO (i:=6) (v:=?_) rfl KF KF KF (λc a w hp=>hp) ⟨by rfl,?_⟩ ?_;rotate_left;focus(intro w _;go_simp;with_reducible rfl))
          (simp only[Act.put,List.setIfInBounds_toArray,QG,QS])
          (refine aO (i:=7) (v:=?_) rfl KF KF KF (λc a w hp=>hp) ⟨by rfl,?_⟩ ?_;rotate_left;focus(intro w _;go_simp;with_reducible rfl))
          (simp only[Act.put,List.setIfInBounds_toArray,QG,QS])
          (refine aO (i:=8) (v:=?_) rfl KF KF KF (λc a w hp=>hp) ⟨by rfl,?_⟩ ?_;rotate_left;focus(intro w _;go_simp;(rw[if_pos OM];done)))
          (simp only[Act.put,List.setIfInBounds_toArray,QG,QS])
          (refine aO (i:=5) (v:=ia (sub l (i*174+1+q*7) 7)) rfl KF KF KF (λc a w hp=>hp) ⟨by rfl,λw hI0=>by(have hI:Inv _ _ w _:=hI0;exact Xg hI)⟩ ?_)
          (simp only[Act.put,List.setIfInBounds_toArray,QG,QS])
          (refine aO (i:=9) (v:=ia (sub O (1+q*7) 7)) rfl KF KF KF (λc a w hp=>hp) ⟨by rfl,λw hI0=>by(have hI:Inv _ _ w _:=hI0;exact Xg hI)⟩ ?_)
          (simp only[Act.put,List.setIfInBounds_toArray,QG,QS])
          refine DD (i:=10) (j:=11) KF (hI.sub SB) ?_ ?_
          case' refine_1=>
           refine bG (i:=10) (by rfl) RF ?_;go_wp2_with(refine YX ?_;intro bx w hI);refine bY ?_
           (try(simp only[Act.put,List.setIfInBounds_toArray,QG,QS]))
           refine eH (i:=11) KF (hI.sub SB) ?_;refine bG (i:=11) (by rfl) RF ?_;go_wp2_with(refine YX ?_;intro bx w hI);refine bY ?_
           (try(simp only[Act.put,List.setIfInBounds_toArray,QG,QS]))
          case' refine_2=>
           refine bG (i:=11) (by rfl) RF ?_;go_wp2_with(refine YX ?_;intro bx w hI);refine bY ?_
           (try(simp only[Act.put,List.setIfInBounds_toArray,QG,QS]))
           refine eH (i:=10) KF (hI.sub SB) ?_;refine bG (i:=10) (by rfl) RF ?_;go_wp2_with(refine YX ?_;intro bx w hI);refine bY ?_
           (try(simp only[Act.put,List.setIfInBounds_toArray,QG,QS]))
          all_goals
           refine eH (i:=12) KF (hI.sub SB) ?_;refine bG (i:=12) (by rfl) RF ?_;go_wp2_with(refine YS ?_;intro w hI);refine bY ?_
           (try(simp only[Act.put,List.setIfInBounds_toArray,QG,QS]))
           refine eH (i:=13) KF (hI.sub SB) ?_;refine bG (i:=13) (by rfl) RF ?_;go_wp2_with(refine YS ?_;intro w hI);refine bY ?_
           (try(simp only[Act.put,List.setIfInBounds_toArray,QG,QS]))
           refine qW KF (hI.sub SB) ?_ _;go_wp2_with(refine YL ?_);go_roundg (4- (q+1))
           case measure=>omega
           case rel=>exact⟨q+1,rfl,by omega,rfl,hI.sub SB⟩
         ·obtain rfl:q=4:=by omega
          go_wp2_with(first|refine YL ?_|refine YS ?_;intro w hI);go_roundg (5- (i+1))
          case measure=>omega
          case rel=>exact⟨i+1,_,rfl,by omega,rfl,HD ⟨hV2.out.1,hlp.out⟩,hI.sub SB⟩
     ·obtain rfl:i=5:=by omega
      go_wp2_with(fail);go_roundg (len- (k+1))
      case measure=>omega
      case rel=>exact⟨k+1,Y',l,p,rfl,by omega,rfl,by rw[hnx2.out];exact hV2,by rw[hnx2.out];exact hI⟩
   ·obtain rfl:k=len:=by omega
    go_wp2_with(fail);go_ret;exact⟨rfl,tabO hg hI a_⟩
 ·have hd:decide ((len:Int)<=1200)=false:=by simp;omega
  go_enter func5,ntmps5;exact W38
end
namespace wholeVersions
open Go.ChangeShapes Go.WideShapes Go.ChangeAt Go.RowKit
theorem lifted(os:Os)(started:os.Started)(H:Type)(enc:TypeId×Value->H):
  ReturnsInHanded {} Tryz.checked os 5 .any (λw args=>(Rows.wholeVersionsSpec.pre enc prog f5 [] false w args∧laidMetH prog Rows.wholeVersionsRow.laid w)∧sizedMet enc prog f5 (OpenSpec.ofChange Rows.wholeVersionsSpec) false w args) (Rows.wholeVersionsSpec.post enc prog f5 false true false false):=by
 refine returnsInHanded_of_change_and (C:=Tryz.checked) (X:=λw _=>laidMetH prog Rows.wholeVersionsRow.laid w) (λ_ _ _ hh h=>h.of_heap hh) agq started KF func5
  (ChangeSpec.witness_shaped (enc:=enc) (C:=Tryz.checked) (os:=os) (X:=λw _=>laidMetH prog Rows.wholeVersionsRow.laid w) false (World.doorLaid prog 400 os) #[.slice none 0 0] 8 rfl (World.shaped_of_RefB KF KF) KF KF KF (GH os _)) ?_
 intro W base args ds gs before hval0 hW hcnd hsz0 hL _;have hval:∀(j:Nat) t v,f5.params[j]? =some t->args[j]? =some v->Value.okWide prog W .any base t v:=hval0;have hsz:(DataW.weightsEach prog (f5.params.toList++Rows.wholeVersionsSpec.plain.varTypes prog) (ds++gs)).all (· <=reachBytes)=true:=hsz0;have hW':=hW;obtain⟨p,q,hA0,hV,rfl,hfz,hnd⟩:=hW;have hA:DataW.TrodAll enc prog W 0 (λ_=>true) true f5.params.toList args.toList ds p:=hA0;rw[params5]at hA hval hsz;obtain⟨v0,vs0,d0,ds0,p0,q0,hargs,rfl,rfl,h0,r0⟩:=trodAll_cons hA;obtain⟨rfl,rfl,rfl⟩:=trodAll_nil r0;obtain rfl:args=#[v0]:=by cases args;simp_all
 obtain⟨rfl,rfl⟩:=trodVars_none hV;have k0:=h0;have lt0:∀x∈p0,x.block<W.heap.size:=by obtain⟨m,hm⟩:=k0;exact DataW.trod_lt m _ _ _ hm
 obtain⟨a0,rfl,w0⟩:=JE aiC underlying22 (hval 0 22 v0 rfl rfl) h0 (λn hn=>by have:=List.all_eq_true.1 hsz _ (DataW.weights_mem_each (j:=0) (t:=22) rfl rfl n hn);simpa using this);clear hA0 hval0;obtain⟨row,hrow⟩:=w0.ints;obtain⟨g,og,hg,hT⟩:=Ry (GG hL);refine(Hl W a0.1 a0.2.1 a0.2.2.1 row hrow g og hg hT).mono λe W' ⟨he,bel⟩=>?_
 exact W36
theorem over:Rows.wholeVersionsRow.holds Tryz.pinned (OpenSpec.ofChange Rows.wholeVersionsSpec):=
 OpenClaim.holds_of_wide 5 f5 rfl rfl rfl rfl rfl rfl rfl ⟨rfl,rfl,rfl,rfl,rfl⟩ rfl rfl rfl rfl rfl KF func5 KF
  (of_decide_eq_true KF) (by unfold Func.isWrapper;rw[if_neg (by decide+kernel)];exact⟨rfl,rfl⟩)
  (λos started H enc _=>lifted os started H enc)
theorem proved:Rows.WholeVersionsCardSaid:=
 Claim7.holds_tied_plain_at .later [] [.data,.data,.data] true (true, "34804500066b9c71cf38ff047d3a32a9bb5856fb1a39d40ea7cbbfce4c1cc454") true
  over (λ_ h=>by cases h) KF (λ_ h=>by cases h) wholeVersions_row_tie rfl ⟨rfl,rfl⟩ KF rfl
  (λf fn hf hfn=>by
   obtain rfl:f=5:=Option.some.inj ((show prog.funcNamed "legatee/legateetop.WholeVersions" =some 5 by kernel_rfl).symm.trans hf) |>.symm;obtain rfl:fn=f5:=(Option.some.inj (func5.symm.trans hfn)).symm;exact⟨by kernel_rfl,λj t ht=>by
    rw[params5]at ht;have hm:t∈[22]:=by simpa using Array.mem_of_getElem? ht
    obtain rfl:t=22:=by simpa using hm
    exact(show prog.wantsStandIn 22=false by kernel_rfl)⟩)
  KF
end wholeVersions
#print axioms Go.Proofs.YtdakkaapokhnnaaGreatDoor.wholeVersions.proved
