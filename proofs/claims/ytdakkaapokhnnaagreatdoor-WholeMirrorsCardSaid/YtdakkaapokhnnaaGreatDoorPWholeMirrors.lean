/- The given card of WholeMirrors is proved. No condition. -/
import Derived.Test.YtdakkaapokhnnaaGreatDoorCards
import Derived.Test.YtdakkaapokhnnaaGreatDoorTie
import Derived.Test.YtdakkaapokhnnaaGreatDoorZ36
namespace Go.Proofs.YtdakkaapokhnnaaGreatDoor
open Go.RowKit Go.Proofs.Tryz
set_option maxRecDepth 100000
set_option maxHeartbeats 6400000
set_option linter.all false
def Lm(l:List Int)(o:Nat->RS):Prop:=l.length=870∧∀t,t<5->qp (rowAt l t) (o t).own
theorem aiD:Lm (au 870) λ_=>C0.S 0:=⟨ag _,λt ht=>by rw[kT ht];exact qp.refl _⟩
theorem aeX{l o p}(h:Lm l o)(g:∀t,t<5->mg (o t) (p t)):Lm l p:=⟨h.1,λt ht=>(h.2 t ht).trans (g t ht).1⟩
theorem aiE{l x o}(h:Lm l o){i}(hi:i<5)(hx:x=(o i).own)(hl:x.length=174):Lm (dK l (i*174) x) o:=by
 refine⟨?_,λt ht=>?_⟩
 ·rw[aY,hl,h.1];omega
 ·rw[q_ h.1 hl hi ht]
  split
  ·grind[qp.refl]
  ·exact h.2 t ht
theorem aiF{l x i}(h:qp (rowAt l i) x)(hl:l.length=870)(hi:i<5):(decide (gi x 0<gi l (i*174))=false)∧((gi x 0==gi l (i*174))=true∧x=sub l (i*174) 174∨(gi x 0==gi l (i*174))=false):=by
 have hv:=h.Cu;have e:gi (rowAt l i) 0=gi l (i*174):=by simp_all[rowAt,gy]
 refine⟨decide_eq_false OM,?_⟩;rcases h.1 with h1|h1
 ·exact .inl ⟨by grind,h1.symm⟩
 grind
theorem aeY{l x i k}(h:qp (rowAt l i) x)(hi:i<5)(hk:k<4):decide (gi (sub x (1+k*7) 7) 0<gi (sub l (i*174+1+k*7) 7) 0)=false∧decide (gi (sub x (1+k*7) 7) 1<gi (sub l (i*174+1+k*7) 7) 1)=false:=by
 have e:∀j,j<29->gi (rowAt l i) j=gi l (i*174+j):=λj hj=>by grind[rowAt,gy]
 obtain⟨a,b⟩:=h.2 k hk;rw[gy _ _ _ _ OM,gy _ _ _ _ OM,gy _ _ _ _ OM,gy _ _ _ _ OM]
 grind
abbrev abZ:=C.rowOf
abbrev aeZ:=C.fG
def GK(l:List Int)(z:List Bool)(o:Nat->RS):Prop:=l.length=4350∧z.length=25∧∀i,i<5->∀k,k<5->gi l (i*870+k*174)<=gi (rowAt (o i).aT k) 0∧(gb z (i*5+k)=true->gb (o i).sl k=true∧sub l (i*870+k*174) 174=rowAt (o i).aT k)
theorem aiG:GK (au 4350) (List.replicate 25 false) λ_=>C0.S 0:=⟨ag _,List.length_replicate,λi hi k hk=>⟨by
 rw[show rowAt (C0.S 0).aT k=au 174 from kT hk];unfold gi au;grind,λh=>by
 unfold gb at h;grind⟩⟩
theorem ae0{l z o p}(h:GK l z o)(g:∀t,t<5->mg (o t) (p t)):GK l z p:=⟨h.1,h.2.1,λi hi k hk=>by
 obtain⟨a,b⟩:=h.2.2 i hi k hk;obtain⟨c,d⟩:=(g i hi).2 k hk
 grind⟩
theorem aiH{l x z s o}(h:GK l z o){i k}(hi:i<5)(hk:k<5)(hx:x=rowAt (o i).aT k)(hs:s=gb (o i).sl k)(hl:x.length=174):GK (dK l (i*870+k*174) x) (z.set (i*5+k) s) o:=by
 obtain⟨h1,h2,h3⟩:=h;refine⟨by grind[aY],by grind,λj hj q hq=>?_⟩;have e0:∀l:List Int,gi l (j*870+q*174)=gi (sub l (j*870+q*174) 174) 0:=λl=>by simp_all[gy]
 rw[e0,agr];by_cases e:i=j∧k=q
 ·have e1:=C.l9 l x (i*870+k*174) OM
  grind
 ·have hne:i*5+k≠j*5+q:=by omega
  rw[C.jQ l x (i*870+k*174) (j*870+q*174) 174 OM OM,<-e0,if_neg λg=>hne g.1]
  grind
theorem aiI{l x z s o}(h:GK l z o){i k}(hi:i<5)(hk:k<5)(hx:x=rowAt (o i).aT k)(hs:s=gb (o i).sl k):decide (gi x 0<gi l (i*870+k*174))=false∧(gb z (i*5+k)=false∨gb z (i*5+k)=true∧s=true∧x=sub l (i*870+k*174) 174):=by
 obtain⟨a,b⟩:=h.2.2 i hi k hk
 grind
theorem ae1{C o}(h:VI C o){i k}(hi:i<5)(hk:k<5)(hu:C.up i=true)(hv:C.up k=true):gi (rowAt (C.S i).aT k) 0<=gi (C.S k).own 0:=by
 obtain⟨_,bs,b⟩:=h.up i hi hu;have e:=(h.up k hk hv).1.1;have:=(b.aT k hk).2
 grind
instance:yn prog 53 4350:=⟨by unfold nK;kernel_rfl⟩
instance:yO prog 53 5 46 870:=⟨⟨KF,KF⟩⟩
instance:yO prog 55 5 54 5:=⟨⟨KF,KF⟩⟩
theorem ama:YG prog 55 25:=by unfold YG;kernel_rfl
theorem ab0{zs}(w)(h:zs.length=870):(abZ zs w).length=174:=C.l8 _ _ h
theorem Cy(zs){k:Nat}(hk:k<5):abZ zs (k:Int)=rowAt zs k:=by
 unfold abZ C.rowOf rowAt;rw[if_pos (by grind[C.aL]),Int.toNat_natCast]
theorem WL(bs){k:Nat}(hk:k<5):aeZ bs (k:Int)=gb bs k:=by
 unfold aeZ C.fG;rw[show C.aL (k:Int)=true by grind[C.aL],Bool.true_and,Int.toNat_natCast]
section
variable {ops:Array Oper}{Q:Exit->Act->World->Prop}{a:Act}{rest:List Oper}{T:List Nat}{w0 w:World}{m m':List bT}{dst:Option Tmp}{ty:TypeId}{pos:String}{af:Array Edge}
variable {X:CX}{Y:CY}{C:CS}{i:Nat}
theorem OO(hi:i<5)(hu:C.up i=true)(hI:Inv T w0 w m)(hm:bF X Y C∈m){who r s}(hr:abZ (C.S i).aT who=r)(hs:aeZ (C.S i).sl who=s):Calls prog 20 #[.pointer (some ⟨(Y.m i).b,0,none⟩),.int .i64 who] w λe w'=>e=.returned (.tuple #[ia r,.bool s])∧Inv T w0 w' m:=by
 subst hr;subst hs;exact(Gx w _ _ _ _ _ _ _ _ ((vM hi hu).own hI hm) who).mono λe w' h=>⟨h.1,(vM hi hu).same hI hm h.2⟩
theorem afT{P x}{t b off:Nat}{e bs v}(hv:gb bs off=v)(hI:Inv T w0 w m)(hx:a.eval x=.pointer (some ⟨b,off,none⟩))(hm:bb b e bs∈m)(hT:iY P t)(hl:off<bs.length)(k:wpList P ops Q rest (a.put dst (.bool v)) w):wpList P ops Q (⟨dst,.load t x,ty,pos,af,none⟩::rest) a w:=EK hI hx hm hT hl (by grind)
end
section
variable (w0:World)(a:Option Addr)(len c:Nat)(row:Nat->List Int)(h:uE w0 a len 11 row)(g:Nat)(og:Obj)(hg:w0.heap[g]? =some og)(hT:Jn g og)
include h hg hT
theorem Lp:Calls prog 6 #[.slice a len c] w0 λe w'=>e=.returned (.bool true)∧Below w0.heap.size w0 w':=by
 have hI:=RQ hg hT;have l0:=h.reach;by_cases hlen:len<=1200
 ·have hd:decide ((len:Int)<=1200)=true:=by simp;omega
  go_enter func6,ntmps6;go_wp2_with(first|go_at_call 8;refine KC jR hI (Dc _ g og (hI.at_ aC)) ?_;intro w1 hI|go_at_call 9;refine KD hI (De _ a len c) ?_;intro w1 hI|go_at_call 18;(with_reducible refine(Uc _).mono ?_);rintro e w1 ⟨X,Y,rfl,hJ⟩;replace hI:=hI.seq hJ;clear hJ;simp only[List.cons_append,List.nil_append]at hI|(with_reducible refine CQ (q:=25) hI ama ?_);intro bz w hI|refine YX ?_;intro bx w hI);generalize bx=b0 at*;generalize bz=b1 at*
  go_loopg [22] len (λkk s21 wr=>∃(k:Nat) (Y:CY) (l:List Int) (z:List Bool) (o:Nat->RS),kk=len-k∧k<=len∧s21=.int .i64 (k:Int)∧Hid (VI (kZ C0 (fI k row)) o∧GK l z o)∧Inv [g] w0 wr [bb b1 55 z,ib b0 53 l,bF X Y (kZ C0 (fI k row)),gU g og])
  case atStart=>exact⟨0,Y,_,_,_,rfl,by omega,rfl,HD ⟨abz,aiG⟩,hI⟩
  case round=>
   clear hI;obtain⟨k,Y,l,z,o,rfl,hk,rfl,hV,hI⟩:=hrel;by_cases hlk:k<len
   ·obtain⟨hdl,abX,bq,off,rfl,hcell⟩:=(h.below (u6 hg hI nz)).row k hlk
    have abY:((row k).map (Value.int .i64)).length=11:=by simpa using hdl
    have hagg:gm prog 50 ((row k).map (Value.int .i64)).length:=by rw[abY];exact bP.out (t:=50)
    have hci:Hid (CI k (kZ C0 (fI k row))):=HD (by
     have:=Gr (fI k row) (C:=C0) (n:=0) (λz hz=>by
      obtain⟨j,hj,rfl⟩:=List.mem_map.1 hz;exact(h.row j (by have:=List.mem_range.1 hj;omega)).1) zx
     rw[yj]at this;simpa using this)
    have hCk:Ot (kZ C0 (fI k row)):=hci.out.ok OM;have hnx:Hid (kZ C0 (fI (k+1) row)=(nA (kZ C0 (fI k row)) (row k)).1):=HD (by rw[zD,BN]);have hvs:Hid (Vs (kZ C0 (fI k row)) (nA (kZ C0 (fI k row)) (row k)).1 o):=HD (afM hci.out hV.out.1 hdl);have hc2:Hid (CI (k+1) (nA (kZ C0 (fI k row)) (row k)).1):=HD (Ox hci.out hdl);clear h;generalize kZ C0 (fI k row)=C at*;generalize row k=d at*;obtain⟨D,hD⟩:∃D,Hid (D=(nA C d).1):=⟨_,HD rfl⟩;have hnx2:Hid (kZ C0 (fI (k+1) row)=D):=HD (hnx.out.trans hD.out.symm);rw[<-hD.out]at hvs hc2;clear hnx;obtain⟨p,hp⟩:∃p,Hid (p=oF D o):=⟨_,HD rfl⟩;have hV2:Hid (VI D p∧GK l z p):=HD ⟨hp.out▸hvs.out.1,hp.out▸ae0 hV.out.2 hvs.out.2⟩;clear hV hvs;go_upto_region 12 with(first|with_reducible refine qD (Inv.start _) RF hcell SI (by with_unfolding_all exact hagg) ?_|(with_reducible refine JJ (vs:=d) hI RF RF jR hdl (ag _) ?_);intro w hI|with_reducible refine LU (zs:=d) hI (hl:=hdl) (k:=?_)|go_at_call 19;refine KH hI (aeV _ X Y C d D hdl abX hCk hD.out (hI.at_ nz)) ?_;intro Y' v w1 hI|refine YX ?_;intro bx w hI)
    go_wp2_with fail;replace hI:=hI.tl
    go_loopg [8,29] 5 (λkk s8 s29 wr=>∃(i:Nat) (l:List Int) (z:List Bool),kk=5-i∧i<=5∧s29=.int .i64 (i:Int)∧Hid (VI D p∧GK l z p)∧Inv [g] w0 wr [bb b1 55 z,ib b0 53 l,bF X Y' D,gU g og])
    case atStart=>exact⟨0,l,z,rfl,by omega,rfl,hV2,hI⟩
    case round=>
     clear hI hV2;obtain⟨i,l,z,rfl,hi,rfl,hV2,hI⟩:=hrel;by_cases hi5:i<5
     ·have hd5:decide ((i:Int) <5)=true:=by simp;omega
      cases hub:nM D i
      case false=>
       have hmv:Hid ((if nM D i=true then Value.pointer (some ⟨(Y'.m i).b,0,none⟩)else .pointer none)=.pointer none):=HD (if_neg (by simp[hub]));go_wp2_with(go_at_call 13;refine KR (iM hi5 hI a_) ?_;rw[hmv.out]);go_roundg (5- (i+1))
       case measure=>omega
       case rel=>exact⟨i+1,l,z,rfl,by omega,rfl,hV2,hI⟩
      case true=>
       have hu:D.up i=true:=by rw[nM,Bool.and_eq_true]at hub;exact hub.1
       have hmv:Hid ((if nM D i=true then Value.pointer (some ⟨(Y'.m i).b,0,none⟩)else .pointer none)=.pointer (some ⟨(Y'.m i).b,0,none⟩)):=HD (if_pos hub);go_upto_region 17 with(go_at_call 13;refine KR (iM hi5 hI a_) ?_;rw[hmv.out])
       go_wp2_with fail
       go_loopg [10,37] 5 (λkk s10 s37 wr=>∃(q:Nat) (l:List Int) (z:List Bool),kk=5-q∧q<=5∧s37=.int .i64 (q:Int)∧Hid (VI D p∧GK l z p)∧Inv [g] w0 wr [bb b1 55 z,ib b0 53 l,bF X Y' D,gU g og])
       case atStart=>exact⟨0,l,z,rfl,by omega,rfl,hV2,hI⟩
       case round=>
        clear hI hV2;obtain⟨q,l,z,rfl,hq,rfl,hV2,hI⟩:=hrel;by_cases hk5:q<5
        ·have hd6:decide ((q:Int) <5)=true:=by simp;omega
         obtain⟨r,hr⟩:=EH (abZ (D.S i).aT (q:Int));obtain⟨sv,hs⟩:=EH (aeZ (D.S i).sl (q:Int));obtain⟨⟨_,e2,e3⟩,_⟩:=hV2.out.1.up i hi5 hu;have U1:r=rowAt (p i).aT q:=by rw[<-hr.out,Cy _ hk5,e2]
         have hsp:sv=gb (p i).sl q:=by rw[<-hs.out,WL _ hk5,e3]
         have hrl:r.length=174:=by rw[<-hr.out];exact ab0 _ (hc2.out.up i hi5 hu).len.aT
         have hll:l.length=4350:=hV2.out.2.1;have hzl:z.length=25:=hV2.out.2.2.1;obtain⟨hv1,hv2⟩:=aiI hV2.out.2 hi5 hk5 U1 hsp;have hput:Hid (GK (dK l (i*870+q*174) r) (z.set (i*5+q) sv) p):=HD (aiH hV2.out.2 hi5 hk5 U1 hsp hrl);have how:Hid (D.up q=true->decide (gi (D.S q).own 0<gi r 0)=false):=HD λh=>decide_eq_false (by
          have:=ae1 hV2.out.1 hi5 hk5 hu h;rw[<-hr.out,Cy _ hk5];omega)
         clear U1 hsp e2 e3;go_upto_region 21 with(first|go_at_call 20;refine KE (OO hi5 hu hI a_ hr.out hs.out) ?_;intro w1 hI|refine YS ?_;intro w hI|refine YX ?_;intro bx w hI)
         (obtain⟨b9,hbx⟩:=EZ bx;subst hbx)
         rcases hv2 with hzv| ⟨hzv,hst,ho2⟩
         case' inl=>
          refine ZT [8,9,13,14,15,16,17,18,25,26,27,28] 29 hI ?_;intro wd hI
          (repeat(first| ((with_reducible refine zR RF RF RF RF ?_);(simp only[QN])) | ((with_reducible refine tZ RF RF (by exact trivial) ?_);(simp only[QN])) | (refine ZA ?_;go_wp2_with(with_reducible refine afT (off:=i*5+q) hzv hI RF aM (aQ.out (t:=4)) OM ?_);refine gz ?_) | (refine ZC ?_;go_wp2_with(refine YL ?_);refine fZ ?_)));refine dN ?_
         case' inr=>
          subst hst;have hne:decide (r=sub l (i*870+q*174) 174)=true:=decide_eq_true ho2;clear ho2
          refine ZT [8,9,13,14,15,16,17,18,25,26,27,28] 29 hI ?_;intro wd hI
          (repeat(refine ZQ ?_;go_wp2_with(first|with_reducible refine afT (off:=i*5+q) hzv hI RF aM (aQ.out (t:=4)) OM ?_|refine YL ?_);refine ZP ?_))
         all_goals
          clear hv1 hzv;go_upto_region 23 with fail;cases ae2:nM D q
          case' false=>
           have hmk:Hid ((if nM D q=true then Value.pointer (some ⟨(Y'.m q).b,0,none⟩)else .pointer none)=.pointer none):=HD (if_neg (by simp[ae2]));go_upto_region 24 with(go_at_call 13;refine KR (iM hk5 hI nz) ?_;rw[hmk.out])
           (refine ZR [0,1,2,6,8,9] [3,4] [6] [0,1,2,3,4,5,6,7,8,9] (λw=>Inv [g] w0 w [ib b9 41 r,bb b1 55 z,ib b0 53 l,bF X Y' D,gU g og]) hI ?_;intro wd hI)
           (repeat(first| ((with_reducible refine zR RF RF RF RF ?_);(simp only[QN])) | ((with_reducible refine tZ RF RF (by exact(hI.sub SB)) ?_);(simp only[QN])) | (refine ZA ?_;go_wp2_with(fail);refine gz ?_)));refine dN ?_
          case' true=>
           have huk:D.up q=true:=by rw[nM,Bool.and_eq_true]at ae2;exact ae2.1
           have hmk:Hid ((if nM D q=true then Value.pointer (some ⟨(Y'.m q).b,0,none⟩)else .pointer none)=.pointer (some ⟨(Y'.m q).b,0,none⟩)):=HD (if_pos ae2);obtain⟨O,hO⟩:=EH ((D.S q).own);have hol:O.length=174:=by rw[<-hO.out];exact(hc2.out.up q hk5 huk).len.own
           have hgt:decide (gi O 0<gi r 0)=false:=by rw[<-hO.out];exact how.out huk
           go_upto_region 24 with(go_at_call 13;refine KR (iM hk5 hI nz) ?_;rw[hmk.out])
           (refine ZR [0,1,2,6,8,9] [3,4] [6] [0,1,2,3,4,5,6,7,8,9] (λw=>Inv [g] w0 w [ib b9 41 r,bb b1 55 z,ib b0 53 l,bF X Y' D,gU g og]) hI ?_;intro wd hI)
           (repeat(first| (refine ZA ?_;go_wp2_with(fail);refine gz ?_) | (refine ZB ?_;go_wp2_with(go_at_call 16;refine KE (Lj hk5 huk hI nz hO.out) ?_;intro w1 hI);(refine iU (by exact(hI.sub SB)) ?_)) | (refine ZC ?_;go_wp2_with(with_reducible refine av (yfv RF hol) ?_);refine fZ ?_) | ((refine iA RF RF RF RF (by exact(hI.sub SB)) (by intro w (hI:Inv _ _ w _);first|with_reducible exact LW hI| (unfold gu;go_simp;with_reducible rfl)) ?_);(simp only[QN]))));refine dN ?_
          all_goals
           go_upto_region 26 with fail
           (refine ZR [8,10,11] [2,3,5,9] [8] [0,1,2,3,4,5,6,7,9,8,10,11] (λw=>Inv [g] w0 w [ib b9 41 r,bb b1 55 z,bF X Y' D,gU g og]) hI ?_;intro wd hI)
           (repeat(first| (refine ZA ?_;go_wp2_with((with_reducible refine CP (off:=i*5+q) hI RF RF jo (aQ.out (t:=4)) OM ?_);intro w hI);refine gz ?_) | (refine ZB ?_;go_wp2_with(refine YS ?_;intro w hI);(refine iU (by exact(hI.sub SB)) ?_)) | (refine ZC ?_;go_wp2_with(refine YL ?_);refine fZ ?_) | ((refine iA RF RF RF RF (by exact(hI.sub SB)) (by intro w (hI:Inv _ _ w _);first| (unfold gu;go_simp;(rw[if_pos OM];done)) | (unfold gu;go_simp;with_reducible rfl)) ?_);(simp only[QN]))));refine dN ?_
           go_wp2_with fail;go_roundg (5- (q+1))
           case measure=>omega
           case rel=>exact⟨q+1,_,_,rfl,by omega,rfl,HD ⟨hV2.out.1,hput.out⟩,hI.sub SB⟩
        ·obtain rfl:q=5:=by omega
         go_wp2_with(fail);go_roundg (5- (i+1))
         case measure=>omega
         case rel=>exact⟨i+1,l,z,rfl,by omega,rfl,hV2,hI⟩
     ·obtain rfl:i=5:=by omega
      go_wp2_with(fail);go_roundg (len- (k+1))
      case measure=>omega
      case rel=>exact⟨k+1,Y',l,z,p,rfl,by omega,rfl,by rw[hnx2.out];exact hV2,by rw[hnx2.out];exact hI⟩
   ·obtain rfl:k=len:=by omega
    go_wp2_with(fail);go_ret;exact⟨rfl,u6 hg hI nz⟩
 ·have hd:decide ((len:Int)<=1200)=false:=by simp;omega
  go_enter func6,ntmps6;exact W38
end
namespace wholeMirrors
open Go.ChangeShapes Go.WideShapes Go.ChangeAt Go.RowKit
theorem lifted(os:Os)(started:os.Started)(H:Type)(enc:TypeId×Value->H):
  ReturnsInHanded {} Tryz.checked os 6 .any (λw args=>(Rows.wholeMirrorsSpec.pre enc prog f6 [] false w args∧laidMetH prog Rows.wholeMirrorsRow.laid w)∧sizedMet enc prog f6 (OpenSpec.ofChange Rows.wholeMirrorsSpec) false w args) (Rows.wholeMirrorsSpec.post enc prog f6 false true false false):=by
 refine returnsInHanded_of_change_and (C:=Tryz.checked) (X:=λw _=>laidMetH prog Rows.wholeMirrorsRow.laid w) (λ_ _ _ hh h=>h.of_heap hh) agq started KF func6
  (ChangeSpec.witness_shaped (enc:=enc) (C:=Tryz.checked) (os:=os) (X:=λw _=>laidMetH prog Rows.wholeMirrorsRow.laid w) false (World.doorLaid prog 400 os) #[.slice none 0 0] 8 rfl (World.shaped_of_RefB KF KF) KF KF KF (GH os _)) ?_
 intro W base args ds gs before hval0 hW hcnd hsz0 hL _;have hval:∀(j:Nat) t v,f6.params[j]? =some t->args[j]? =some v->Value.okWide prog W .any base t v:=hval0;have hsz:(DataW.weightsEach prog (f6.params.toList++Rows.wholeMirrorsSpec.plain.varTypes prog) (ds++gs)).all (· <=reachBytes)=true:=hsz0;have hW':=hW;obtain⟨p,q,hA0,hV,rfl,hfz,hnd⟩:=hW;have hA:DataW.TrodAll enc prog W 0 (λ_=>true) true f6.params.toList args.toList ds p:=hA0;rw[params6]at hA hval hsz;obtain⟨v0,vs0,d0,ds0,p0,q0,hargs,rfl,rfl,h0,r0⟩:=trodAll_cons hA;obtain⟨rfl,rfl,rfl⟩:=trodAll_nil r0;obtain rfl:args=#[v0]:=by cases args;simp_all
 obtain⟨rfl,rfl⟩:=trodVars_none hV;have k0:=h0;have lt0:∀x∈p0,x.block<W.heap.size:=by obtain⟨m,hm⟩:=k0;exact DataW.trod_lt m _ _ _ hm
 obtain⟨a0,rfl,w0⟩:=JE aiC underlying22 (hval 0 22 v0 rfl rfl) h0 (λn hn=>by have:=List.all_eq_true.1 hsz _ (DataW.weights_mem_each (j:=0) (t:=22) rfl rfl n hn);simpa using this);clear hA0 hval0;obtain⟨row,hrow⟩:=w0.ints;obtain⟨g,og,hg,hT⟩:=Ry (GG hL);refine(Lp W a0.1 a0.2.1 a0.2.2.1 row hrow g og hg hT).mono λe W' ⟨he,bel⟩=>?_
 exact W36
theorem over:Rows.wholeMirrorsRow.holds Tryz.pinned (OpenSpec.ofChange Rows.wholeMirrorsSpec):=
 OpenClaim.holds_of_wide 6 f6 rfl rfl rfl rfl rfl rfl rfl ⟨rfl,rfl,rfl,rfl,rfl⟩ rfl rfl rfl rfl rfl KF func6 KF
  (of_decide_eq_true KF) (by unfold Func.isWrapper;rw[if_neg (by decide+kernel)];exact⟨rfl,rfl⟩)
  (λos started H enc _=>lifted os started H enc)
theorem proved:Rows.WholeMirrorsCardSaid:=
 Claim7.holds_tied_plain_at .later [] [.data,.data,.data] true (true, "34804500066b9c71cf38ff047d3a32a9bb5856fb1a39d40ea7cbbfce4c1cc454") true
  over (λ_ h=>by cases h) KF (λ_ h=>by cases h) wholeMirrors_row_tie rfl ⟨rfl,rfl⟩ KF rfl
  (λf fn hf hfn=>by
   obtain rfl:f=6:=Option.some.inj ((show prog.funcNamed "legatee/legateetop.WholeMirrors" =some 6 by kernel_rfl).symm.trans hf) |>.symm;obtain rfl:fn=f6:=(Option.some.inj (func6.symm.trans hfn)).symm;exact⟨by kernel_rfl,λj t ht=>by
    rw[params6]at ht;have hm:t∈[22]:=by simpa using Array.mem_of_getElem? ht
    obtain rfl:t=22:=by simpa using hm
    exact(show prog.wantsStandIn 22=false by kernel_rfl)⟩)
  KF
end wholeMirrors
#print axioms Go.Proofs.YtdakkaapokhnnaaGreatDoor.wholeMirrors.proved
