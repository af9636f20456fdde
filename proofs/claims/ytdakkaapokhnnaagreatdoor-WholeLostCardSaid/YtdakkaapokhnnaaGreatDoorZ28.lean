/- Contracts of functions. No condition. -/
import Derived.Test.YtdakkaapokhnnaaGreatDoorZ26
namespace Go.Proofs.YtdakkaapokhnnaaGreatDoor
open Go.RowKit Go.Proofs.Tryz
set_option maxRecDepth 100000
set_option maxHeartbeats 6400000
set_option linter.all false
def MF(C:CS)(i:Nat):Option RS:=if pM C i=true then some (C.S i)else qI (C.S i).D C.B
def r9(Y:CY)(C:CS)(bs:Nat->Nat)(i:Nat):Value:=if pM C i=true then .pointer (some ⟨(Y.m i).b,0,none⟩)else Et (bs i) (qI (C.S i).D C.B)
def uq(C:CS)(bs ls:Nat->Nat)(i:Nat):aG:=if pM C i=true then ru else aaY i (bs i) (ls i) (qI (C.S i).D C.B)
def mc(f:Nat->Value):List Value:=[f 0,f 1,f 2,f 3,f 4]
theorem Oq(f:Nat->Value){i:Nat}(hi:i<5):(mc f)[i]? =some (f i):=lt5 (p:=λi=>(mc f)[i]? =some (f i)) rfl rfl rfl rfl rfl hi
theorem Ot(f:Nat->Value)(v:Value){i:Nat}(hi:i<5):splice (mc f) i [v]=mc (gL f i v):=lt5 (p:=λi=>splice (mc f) i [v]=mc (gL f i v)) rfl rfl rfl rfl rfl hi
theorem zm{f g:Nat->Value}(h:∀i,i<5->f i=g i):mc f=mc g:=by simp[mc,h]
theorem Xl:(prog.info? 77).map (·.zero)=some (some (.agg (mc λ_=> .pointer none).toArray)):=by kernel_rfl
theorem Eu(b:Nat)(o:Option RS):(Et b o).oneCell'=true∧(Et b o).cells=#[Et b o]:=by cases o<;>exact⟨rfl,rfl⟩
theorem Xm(Y:CY)(C:CS)(bs:Nat->Nat)(i:Nat):(r9 Y C bs i).oneCell'=true∧(r9 Y C bs i).cells=#[r9 Y C bs i]:=by
 unfold r9;split
 ·exact⟨rfl,rfl⟩
 ·exact Eu _ _
def Le(Y:CY)(C:CS)(bs:Nat->Nat)(k:Nat)(j:Nat):Value:=if j<k then r9 Y C bs j else .pointer none
theorem Xn(Y:CY)(C:CS)(bs:Nat->Nat)(k b:Nat)(h:pM C k=false):∀j,j<5->gL (Le Y C bs k) k (Et b (qI (C.S k).D C.B)) j=Le Y C (gL bs k b) (k+1) j:=λj hj=>by
 unfold Le;by_cases hjk:j=k
 ·subst hjk;rw[bJ,if_pos (show j<j+1 by omega),r9,if_neg (by simp[h]),bJ]
 ·rw[bZ _ _ hjk,show r9 Y C (gL bs k b) j=r9 Y C bs j by unfold r9;rw[bZ _ _ hjk]]
  by_cases hl:j<k
  ·rw[if_pos hl,if_pos OM]
  ·rw[if_neg hl,if_neg OM]
theorem SY(Y:CY)(C:CS)(bs:Nat->Nat)(k:Nat)(h:pM C k=true):∀j,j<5->gL (Le Y C bs k) k (.pointer (some ⟨(Y.m k).b,0,none⟩)) j=Le Y C bs (k+1) j:=λj hj=>by
 unfold Le;by_cases hjk:j=k
 ·subst hjk;rw[bJ,if_pos (show j<j+1 by omega),r9,if_pos h]
 ·rw[bZ _ _ hjk]
  by_cases hl:j<k
  ·rw[if_pos hl,if_pos OM]
  ·rw[if_neg hl,if_neg OM]
theorem aa3{T:List Nat}{w0 w:World}{m:List aG}{fn:Func}{p b:Nat}{f:Nat->Value}{tm:Array Value}(hI:Inv T w0 w m)(h0:fn.results=#[.cell p 77])(hp:tm.getD p undef=.pointer (some ⟨b,0,none⟩))(hm:blk b 77 (mc f)∈m):(results fn tm).run prog w=.ok (.agg (mc f).toArray) w:=by
 have hl2:=g_ (P:=prog) (bG.out (P:=prog) (t:=77)) (hI.blk hm) 0 (by show 0+5<=5;omega);rw[show((mc f).drop 0).take 5=mc f from rfl]at hl2;simp only[Array.getD_eq_getD_getElem?]at hp;simp[results,h0,hp,hl2,asAddr]
section
variable {ops:Array Oper}{Q:Exit->Act->World->Prop}{a:Act}{rest:List Oper}{T:List Nat}{w0 w:World}{m m':List aG}{dst:Option Tmp}{ty:TypeId}{pos:String}{af:Array Edge}{b:Nat}{f:Nat->Value}
theorem agW{x:Operand}(hI:Inv T w0 w m)(hx:a.eval x=.pointer (some ⟨b,0,none⟩):=by exact RF)(hm:blk b 77 (mc f)∈m:=by exact MM)
  (k:wpList prog ops Q rest (a.put dst (.agg (mc f).toArray)) w):wpList prog ops Q (⟨dst,.load 77 x,ty,pos,af,none⟩::rest) a w:=
 bL hI hx hm (bG.out (P:=prog) (t:=77)) (by show 0+5<=5;omega) k
theorem agX{x y:Operand}{g:Nat->Value}(hI:Inv T w0 w m)(h1:∀u∈mc f,u.oneCell'=true)(hx:a.eval x=.pointer (some ⟨b,0,none⟩):=by exact RF)(hv:a.eval y=.agg (mc f).toArray:=by exact RF)
  (hu:aR (blk b 77 (mc g)) (blk b 77 (mc f)) m m':=by exact UU)
  (k:∀w',Inv T w0 w' m'->wpList prog ops Q rest (a.put dst undef) w'):wpList prog ops Q (⟨dst,.store 77 x y,ty,pos,af,none⟩::rest) a w:=
 aN hI hx (cs:=mc g) (vs:=mc f) (by rw[hv];rfl) (by rw[show splice (mc g) 0 (mc f)=mc f from rfl];exact hu) (bG.out (P:=prog) (t:=77)).size rfl (by show 0+5<=5;omega) h1 k
theorem Gz{x y:Operand}{k0:IntKind}{i:Nat}(hi:i<5)(hx:a.eval x=.agg (mc f).toArray:=by exact RF)(hy:a.eval y=.int k0 (i:Int):=by exact RF)
  (k:wpList prog ops Q rest (a.put dst (f i)) w):wpList prog ops Q (⟨dst,.index 77 x y,ty,pos,af,none⟩::rest) a w:=by
 refine au (v:=f i) ?_ k;unfold fP execOp;have hv:(mc f)[(i:Int).toNat*1]? =some (f i):=by rw[Int.toNat_natCast,Nat.mul_one];exact Oq f hi
 simp only[hx,hy,Sem.run_bind,sw (zL.out (P:=prog) (t:=77)) (by omega:(0:Int)<=(i:Int)) (by omega:(i:Int) < (5:Nat)),pJ (aO.out (P:=prog) (t:=32)) hv,Result.andThen_ok];rfl
end
section
variable (w0:World)(X:CX)(Y:CY)(C:CS)(hI:Inv (bg X Y C).own w0 w0 [bg X Y C])
include hI
theorem Ev:Calls prog 32 #[.pointer (some ⟨X.cb,0,none⟩)] w0 λe w'=>∃bs ls,e=.returned (.agg (mc (r9 Y C bs)).toArray)∧Inv (bg X Y C).own w0 w' [fQ (List.range 5) (uq C bs ls),bg X Y C]:=by
 go_enter func32,ntmps32;go_upto_region 1 with((with_reducible refine aL hI Xl rfl ?_);intro br w hI)
 go_wp2_with((with_reducible refine aL hI Xl rfl ?_);intro bx w hI);have hst:Inv (bg X Y C).own w0 w [fQ (List.range 0) (uq C (λ_=>0) (λ_=>0)),blk bx 77 (mc (Le Y C (λ_=>0) 0)),blk br 77 (mc λ_=> .pointer none),bg X Y C]:=by
  rw[show mc (Le Y C (λ_=>0) 0)=mc (λ_=> .pointer none)from zm λj _=>by unfold Le;rw[if_neg OM]];exact hI.acF _
 clear hI
 go_loopg [4,5] 5 (λkk s4 s5 wr=>∃(k:Nat) (bs ls:Nat->Nat),kk=5-k∧k<=5∧s5=.int .i64 (k:Int)∧Inv (bg X Y C).own w0 wr [fQ (List.range k) (uq C bs ls),blk bx 77 (mc (Le Y C bs k)),blk br 77 (mc λ_=> .pointer none),bg X Y C])
 case atStart=>exact⟨0,_,_,rfl,by omega,rfl,hst⟩
 case round=>
  clear hst;obtain⟨k,bs,ls,rfl,hk,rfl,hI⟩:=hrel;by_cases h5:k=5
  ·subst h5
   rw[show mc (Le Y C bs 5)=mc (r9 Y C bs)from zm λj hj=>by unfold Le;rw[if_pos hj]]at hI;have h1:∀u∈mc (r9 Y C bs),u.oneCell'=true:=λu hu=>by
    simp only[mc,List.mem_cons,List.not_mem_nil,or_false]at hu;rcases hu with rfl|rfl|rfl|rfl|rfl<;>exact(Xm Y C bs _).1
   go_wp2_with(first|with_reducible refine agW hI (k:=?_)|(with_reducible refine agX hI h1 (k:=?_));intro w hI);exact bodyPost_ret (aa3 hI rfl rfl aX) rfl ⟨bs,ls,rfl,hI.sub (.cons_cons _ (.cons _ (.cons _ (.refl _))))⟩
  ·have hk5:k<5:=by omega
   have hd:decide ((k:Int) <5)=true:=by simp;omega
   have ea:(Le Y C bs k) k=.pointer none:=by unfold Le;rw[if_neg OM]
   obtain⟨g,hg⟩:=EH (Le Y C bs k);rw[hg.out]at hI;cases hu:pM C k
   ·have hmv:Hid ((if pM C k=true then Value.pointer (some ⟨(Y.m k).b,0,none⟩)else .pointer none)=.pointer none):=HD (if_neg (by simp[hu]))
    have hvc:(Value.pointer none).cells=#[.pointer none]:=rfl;have hlq:(mc (gL g k (.pointer none)))[k]? =some (.pointer none):=by rw[Oq _ hk5,bJ]
    obtain⟨o,ho⟩:=EH (qI (C.S k).D C.B);clear ea;go_wp2_with(first|go_at_call 13;refine KR (um hk5 hI mU) ?_;rw[hmv.out]|(refine aN (b:=bx) (off:=k) (e:=77) (n:=1) (cs:=mc g) (vs:=[_]) hI rfl hvc (by rw[Ot g _ hk5];(with_reducible exact iR)) (aO.out (P:=prog) (t:=32)).size rfl (by show k+1<=5;omega) (by intro u hu;rw[List.mem_singleton.1 hu];rfl) ?_);intro w hI|with_reducible refine au (Om (b:=bx) (off:=k) hI RF aM aO.out hlq) ?_|go_at_call 59;refine KR (aaL hk5 hI mU) ?_|go_at_call 60;(with_reducible refine(aaZ _ k (X.d k) (X.mr k) (Y.m k).wb (C.S k).D C.B (Ea hk5 hI mU).1.ok.UX ((KA hk5).own hI mU)).mono ?_);rw[ho.out];rintro e w1 ⟨b,l,rfl,hJ⟩;replace hI:=(KA hk5).more hI mU hJ;clear hJ|(refine aN (b:=bx) (off:=k) (e:=77) (n:=1) (cs:=mc (gL g k (.pointer none))) (vs:=[_]) hI rfl (Eu _ _).2 (by rw[Ot _ _ hk5];(with_reducible exact pg)) (aO.out (P:=prog) (t:=32)).size rfl (by show k+1<=5;omega) (by intro u hu;rw[List.mem_singleton.1 hu];exact(Eu _ _).1) ?_);intro w hI|refine YL ?_);go_roundg (5- (k+1))
    case measure=>omega
    case rel=>
     refine⟨k+1,gL bs k b,gL ls k l,rfl,by omega,rfl,?_⟩;rw[show mc (Le Y C (gL bs k b) (k+1))=mc (gL (gL g k (.pointer none)) k (Et b o))from(zm λj hj=>by
      rw[<-Xn Y C bs k b hu j hj,hg.out,ho.out];by_cases hjk:j=k
      ·subst hjk;rw[bJ,bJ]
      ·rw[bZ _ _ hjk,bZ _ _ hjk,bZ _ _ hjk]).symm.symm]
     rw[List.range_succ];have hI2:Inv (bg X Y C).own w0 w [aaY k b l o,fQ (List.range k) (uq C bs ls),blk bx 77 (mc (gL (gL g k (.pointer none)) k (Et b o))),blk br 77 (mc λ_=> .pointer none),bg X Y C]:=hI;refine hI2.more SI ?_ (λj hj=>?_) aR.here
     ·unfold uq;rw[if_neg (by simp[hu]),bJ,bJ,ho.out]
     ·have:j≠k:=by have:=List.mem_range.1 hj;omega
      unfold uq;rw[bZ _ _ this,bZ _ _ this]
   ·have hmv:Hid ((if pM C k=true then Value.pointer (some ⟨(Y.m k).b,0,none⟩)else .pointer none)=.pointer (some ⟨(Y.m k).b,0,none⟩)):=HD (if_pos hu)
    have hvc:(Value.pointer (some ⟨(Y.m k).b,0,none⟩)).cells=#[.pointer (some ⟨(Y.m k).b,0,none⟩)]:=rfl;have hlq:(mc (gL g k (.pointer (some ⟨(Y.m k).b,0,none⟩))))[k]? =some (.pointer (some ⟨(Y.m k).b,0,none⟩)):=by rw[Oq _ hk5,bJ]
    clear ea;go_wp2_with(first|go_at_call 13;refine KR (um hk5 hI mU) ?_;rw[hmv.out]|(refine aN (b:=bx) (off:=k) (e:=77) (n:=1) (cs:=mc g) (vs:=[_]) hI rfl hvc (by rw[Ot g _ hk5];(with_reducible exact iR)) (aO.out (P:=prog) (t:=32)).size rfl (by show k+1<=5;omega) (by intro u hu;rw[List.mem_singleton.1 hu];rfl) ?_);intro w hI|with_reducible refine au (Om (b:=bx) (off:=k) hI RF aM aO.out hlq) ?_);go_roundg (5- (k+1))
    case measure=>omega
    case rel=>
     refine⟨k+1,bs,ls,rfl,by omega,rfl,?_⟩;rw[show mc (Le Y C bs (k+1))=mc (gL g k (.pointer (some ⟨(Y.m k).b,0,none⟩)))from zm λj hj=>by rw[<-SY Y C bs k hu j hj,hg.out]];rw[List.range_succ];refine hI.aeK.more SI ?_ (λj hj=>?_) aR.here
     ·unfold uq;rw[if_pos hu]
     ·rfl
end
section
open B (fH nT)
abbrev Lf(S:RS)(who:Int):List Int:=C.rowOf S.bV who
abbrev aix(S:RS)(who:Int):Bool:=C.fJ S.sl who
abbrev aa4(m:List Int)(who:Int)(x:List Int):List Int:=C.ic m who x
abbrev aiy(m:List Int)(who:Int)(x:List Int):Bool:=C.nE m who x
theorem zn(b e:Nat)(m:List Int):nz b e [] [] m []=ib b e m:=by simp[nz,ib,mix]
theorem aa5(w0:World)(b e:Nat)(m:List Int)(zF:m.length=870)(hI:Inv (ib b e m).own w0 w0 [ib b e m])(who:Int)(x:List Int)(hx:x.length=174):
  Calls prog 48 #[.pointer (some ⟨b,0,none⟩),.int .i64 who,ia x] w0 λen w'=>en=.returned (.bool (aiy m who x))∧Inv (ib b e m).own w0 w' [ib b e (aa4 m who x)]:=by
 rw[<-zn,<-zn]at*;exact C.PV w0 b 0 e [] [] m zF rfl hI who x hx
section
variable {T:List Nat}{w0 w:World}{m:List aG}{X:CX}{Y:CY}{C:CS}{bs ls:Nat->Nat}{i:Nat}{S:RS}
theorem Xo{k:Nat}{args:Array Value->Array Value}{R:Value}(hi:i<5)(hS:MF C i=some S)(hI:Inv T w0 w m)(hc:bg X Y C∈m)(hf:fQ (List.range 5) (uq C bs ls)∈m){v:Value}(hv:r9 Y C bs i=v)
  (hg:∀(f b l vb rc:Nat) (ra:Option Addr) (Z:aG),Inv (two (rb f b l vb ra rc S) Z).own w w [two (rb f b l vb ra rc S) Z]->Calls prog k (args #[.pointer (some ⟨b,0,none⟩)]) w λe w'=>e=.returned R∧Inv (two (rb f b l vb ra rc S) Z).own w w' [two (rb f b l vb ra rc S) Z]):
  Calls prog k (args #[v]) w λe w'=>e=.returned R∧Inv T w0 w' m:=by
 subst hv;unfold MF at hS;unfold r9;by_cases hu:pM C i=true
 ·rw[if_pos hu]at hS|-
  cases hS;have hp:zH (upr X Y C i) (bg X Y C):=zb hi (by rw[pM,Bool.and_eq_true]at hu;exact hu.1);exact(hg _ _ _ _ _ _ _ (hp.own hI hc)).mono λe w' h=>⟨h.1,hp.same hI hc h.2⟩
 ·rw[if_neg hu]at hS|-
  have hp:zH (two (rb i (bs i) (ls i) 0 none 0 S) (lI True)) (fQ (List.range 5) (uq C bs ls)):=by
   refine zH.fQ (i:=i) ?_ (rY hi);unfold uq;rw[if_neg hu,hS];exact zH.refl _
  rw[hS];exact(hg _ _ _ _ _ _ _ (hp.own hI hf)).mono λe w' h=>⟨h.1,hp.same hI hf h.2⟩
theorem wI(hi:i<5)(hS:MF C i=some S)(hI:Inv T w0 w m)(hc:bg X Y C∈m)(hf:fQ (List.range 5) (uq C bs ls)∈m){v:Value}(hv:r9 Y C bs i=v):
  Calls prog 15 #[v] w λe w'=>e=.returned (ia S.view)∧Inv T w0 w' m:=
 Xo (args:=id) hi hS hI hc hf hv λf b l vb rc ra Z h=>Xk w f b l vb rc ra S Z h
theorem Xp(hi:i<5)(hS:MF C i=some S)(hI:Inv T w0 w m)(hc:bg X Y C∈m)(hf:fQ (List.range 5) (uq C bs ls)∈m){v:Value}(hv:r9 Y C bs i=v)(who:Int):
  Calls prog 20 #[v,.int .i64 who] w λe w'=>e=.returned (.tuple #[ia (Lf S who),.bool (aix S who)])∧Inv T w0 w' m:=
 Xo (args:=λa=>a.push (.int .i64 who)) hi hS hI hc hf hv λf b l vb rc ra Z h=>Oo w f b l vb rc ra S Z h who
theorem GA(h:MF C i=none):r9 Y C bs i=.pointer none:=by
 unfold MF at h;unfold r9;by_cases hu:pM C i=true
 ·rw[if_pos hu]at h;cases h
 ·rw[if_neg hu]at h|-;rw[h];rfl
theorem GD(h:MF C i=some S):∃b,r9 Y C bs i=.pointer (some ⟨b,0,none⟩):=by
 unfold MF at h;unfold r9;by_cases hu:pM C i=true
 ·rw[if_pos hu];exact⟨_,rfl⟩
 ·rw[if_neg hu]at h|-;rw[h];exact⟨_,rfl⟩
end
def ou(S:RS)(bk:List Int):Nat->List Int
 |0=>bk
 |j+1=>aa4 (ou S bk j) (j:Int) (Lf S (j:Int))
def Xq(o:Option RS)(bk:List Int):List Int:=match o with
 |none=>bk
 |some S=>ou S bk 5
def lh(C:CS):Nat->List Int
 |0=>aj 870
 |i+1=>Xq (MF C i) (lh C i)
def nJ(C:CS):List Int:=lh C 5
section
variable (w0:World)(X:CX)(Y:CY)(C:CS)(hM:∀i,i<5->∀S,MF C i=some S->dB S)(hI:Inv (bg X Y C).own w0 w0 [bg X Y C])
include hI hM
theorem BF:Calls prog 21 #[.pointer (some ⟨X.cb,0,none⟩)] w0 λe w'=>∃b,e=.returned (.pointer (some ⟨b,0,none⟩))∧Inv (bg X Y C).own w0 w' [ib b 96 (nJ C),bg X Y C]:=by
 unfold nJ;go_enter func21,ntmps21;go_wp2_with(first|go_at_call 32;refine KK hI (Ev _ X Y C (hI.at_ aM)) ?_;intro bs ls w1 hI|(with_reducible refine Cb hI (k:=?_));intro bo w hI)
 go_loopg [5,6,8,12] 5 (λkk s5 s6 s8 s12 wr=>∃(i:Nat) (bk:List Int),kk=5-i∧i<=5∧s12=.int .i64 (i:Int)∧Hid (lh C i=bk∧bk.length=870)∧Inv (bg X Y C).own w0 wr [fQ (List.range 5) (uq C bs ls),ib bo 96 bk,bg X Y C])
 case atStart=>exact⟨0,_,rfl,by omega,rfl,HD ⟨rfl,aa 870⟩,hI⟩
 case round=>
  clear hI;obtain⟨i,bk,rfl,hi,rfl,hb,hI⟩:=hrel;by_cases h5:i=5
  ·subst h5
   go_wp2_with(fail);go_ret;rw[hb.out.1];exact⟨bo,rfl,hI.tl⟩
  ·have hi5:i<5:=by omega
   have hd:decide ((i:Int) <5)=true:=by simp;omega
   obtain⟨o,I6⟩:=EH (MF C i);cases o with
   |none=>
    have hp:=HD (GA (Y:=Y) (bs:=bs) I6.out);have hb2:Hid (lh C (i+1)=bk∧bk.length=870):=HD ⟨by rw[lh,I6.out,hb.out.1];rfl,hb.out.2⟩;go_wp2_with((with_reducible refine Gz (i:=i) hi5 (k:=?_));rw[hp.out]);go_roundg (5- (i+1))
    case measure=>omega
    case rel=>exact⟨i+1,bk,rfl,by omega,rfl,hb2,hI⟩
   |some S=>
    obtain⟨pb,hpb⟩:=GD (Y:=Y) (bs:=bs) I6.out;have hp:=HD hpb;have zF:=(hM i hi5 S I6.out).bV;clear hpb;go_wp2_with((with_reducible refine Gz (i:=i) hi5 (k:=?_));rw[hp.out])
    go_loopg [6,8,17] 5 (λkk s6 s8 s17 wr=>∃(j:Nat) (bj:List Int),kk=5-j∧j<=5∧s17=.int .i64 (j:Int)∧Hid (ou S bk j=bj∧bj.length=870)∧Inv (bg X Y C).own w0 wr [fQ (List.range 5) (uq C bs ls),ib bo 96 bj,bg X Y C])
    case atStart=>exact⟨0,bk,rfl,by omega,rfl,HD ⟨rfl,hb.out.2⟩,hI⟩
    case round=>
     clear hI;obtain⟨j,bj,rfl,hj,rfl,hbj,hI⟩:=hrel;by_cases aeP:j=5
     ·subst aeP
      have hb2:Hid (lh C (i+1)=bj∧bj.length=870):=HD ⟨by rw[lh,I6.out,hb.out.1];exact hbj.out.1,hbj.out.2⟩;go_wp2_with(fail);go_roundg (5- (i+1))
      case measure=>omega
      case rel=>exact⟨i+1,bj,rfl,by omega,rfl,hb2,hI⟩
     ·have MK:j<5:=by omega
      have hdj:decide ((j:Int) <5)=true:=by simp;omega
      have hrl:(Lf S (j:Int)).length=174:=j_ zF MK;have hbn:Hid (ou S bk (j+1)=aa4 bj (j:Int) (Lf S (j:Int))∧(aa4 bj (j:Int) (Lf S (j:Int))).length=870):=HD ⟨by rw[ou,hbj.out.1],xW hbj.out.2 hrl⟩;go_wp2_with(first|go_at_call 20;refine KE (Xp hi5 I6.out hI aX aA hp.out _) ?_;intro w1 hI|go_at_call 48;refine KC pg hI (aa5 _ bo 96 bj hbj.out.2 (hI.at_ aX) (j:Int) (Lf S (j:Int)) (j_ zF MK)) ?_;intro w1 hI|(with_reducible refine Mq hI (vs:=Lf S (j:Int)) (zs:=aj 174) (k:=?_);intro w hI)|with_reducible refine YI hI (zs:=Lf S (j:Int)) (k:=?_)|refine YX ?_;intro bx w hI);go_roundg (5- (j+1))
      case measure=>omega
      case rel=>exact⟨j+1,_,rfl,by omega,rfl,hbn,hI.sub SB⟩
end
end
section
open B (fH nT)
theorem aiz:prog.underlying 30=some (.struct (prog.fieldsOf 30)):=by kernel_rfl
theorem aiA:(prog.fieldsOf 30)[0]? =some (((prog.fieldsOf 30)[0]?).getD default):=by kernel_rfl
theorem aiB:(((prog.fieldsOf 30)[0]?).getD default).type=3:=by kernel_rfl
theorem aiC:(((prog.fieldsOf 30)[0]?).getD default).offset=0:=by kernel_rfl
theorem acx{ops:Array Oper}{Q:Exit->Act->World->Prop}{a:Act}{rest:List Oper}{w:World}{dst:Option Tmp}{pos:String}{af:Array Edge}{x:Operand}{ty:TypeId}{zs:List Int}(hx:a.eval x=ia zs)(hl:zs.length=7)
  (k:wpList prog ops Q rest (a.put dst (.int .i64 (gi zs 0))) w):wpList prog ops Q (⟨dst,.field 30 x 0,ty,pos,af,none⟩::rest) a w:=
 xw hx aiz aiA aiB aiC (aO.out (t:=3)) OM k
def zo(o:Option RS)(p:List Int×Bool):List Int×Bool:=match o with
 |none=>p
 |some S=>if p.2=false∨gi p.1 0<gi S.view 0 then(S.view,true)else p
def ky(C:CS):Nat->List Int×Bool
 |0=>(fH,false)
 |i+1=>zo (MF C i) (ky C i)
def qJ(C:CS):List Int:=(ky C 5).1
section
variable (w0:World)(X:CX)(Y:CY)(C:CS)(hM:∀i,i<5->∀S,MF C i=some S->dB S)(hI:Inv (bg X Y C).own w0 w0 [bg X Y C])
include hI hM
theorem Ou:Calls prog 12 #[.pointer (some ⟨X.cb,0,none⟩)] w0 λe w'=>e=.returned (ia (qJ C))∧Inv (bg X Y C).own w0 w' [bg X Y C]:=by
 unfold qJ;have hfl:fH.length=7:=rfl;go_enter func12,ntmps12;go_upto_region 1 with((with_reducible refine Cb hI (k:=?_));intro br w hI)
 go_wp2_with(first|go_at_call 32;refine KK hI (Ev _ X Y C (hI.at_ aX)) ?_;intro bs ls w1 hI|go_at_call 31;refine KD hI (nT _) ?_;intro w1 hI|(with_reducible refine Cb hI (k:=?_));intro bl w hI|refine YS ?_;intro w hI)
 go_loopg [4,6,10] 5 (λkk s4 s6 s10 wr=>∃(i:Nat) (v:List Int) (kn:Bool),kk=5-i∧i<=5∧s10=.int .i64 (i:Int)∧s4=.bool kn∧Hid (ky C i=(v,kn)∧v.length=7)∧Inv (bg X Y C).own w0 wr [fQ (List.range 5) (uq C bs ls),ib bl 30 v,ib br 30 (aj 7),bg X Y C])
 case atStart=>exact⟨0,_,false,rfl,by omega,rfl,rfl,HD ⟨rfl,rfl⟩,hI⟩
 case round=>
  clear hI;obtain⟨i,v,kn,rfl,hi,rfl,rfl,hv,hI⟩:=hrel;by_cases h5:i=5
  ·subst h5
   have hvl:=hv.out.2;go_wp2_with(first|refine YL ?_|refine YS ?_;intro w hI);rw[hv.out.1];exact bodyPost_ret (dI hI rfl rfl aX (bG.out (t:=30)) hvl) rfl ⟨rfl,hI.sub SB⟩
  ·have hi5:i<5:=by omega
   have hd:decide ((i:Int) <5)=true:=by simp;omega
   obtain⟨o,I6⟩:=EH (MF C i);cases o with
   |none=>
    have hp:=HD (GA (Y:=Y) (bs:=bs) I6.out);have hb2:Hid (ky C (i+1)=(v,kn)∧v.length=7):=HD ⟨by rw[ky,I6.out,hv.out.1];rfl,hv.out.2⟩;go_upto_region 5 with((with_reducible refine Gz (i:=i) hi5 (k:=?_));rw[hp.out])
    (refine ZR [0,1,2,3,4,5,7,11,12,13] [9,10] [7] [0,1,2,3,4,5,6,9,10,7,8,11,12,13] (λw=>Inv (bg X Y C).own w0 w [fQ (List.range 5) (uq C bs ls),ib bl 30 v,ib br 30 (aj 7),bg X Y C]) hI ?_;intro wd hI)
    (repeat(first|refine ZS ?_|refine ZQ ?_;go_wp2_with(fail);refine ZP ?_))
    go_wp2_with(fail);go_roundg (5- (i+1))
    case measure=>omega
    case rel=>exact⟨i+1,v,kn,rfl,by omega,rfl,rfl,hb2,hI⟩
   |some S=>
    obtain⟨pb,hpb⟩:=GD (Y:=Y) (bs:=bs) I6.out;have hp:=HD hpb;have hvl:=(hM i hi5 S I6.out).view;have ajr:=hv.out.2;clear hpb;cases kn
    ·have hb2:Hid (ky C (i+1)=(S.view,true)∧S.view.length=7):=HD ⟨by rw[ky,I6.out,hv.out.1];rfl,hvl⟩
     go_upto_region 5 with((with_reducible refine Gz (i:=i) hi5 (k:=?_));rw[hp.out])
     (refine ZR [0,1,2,3,4,5,7,11,12,13] [9,10] [7] [0,1,2,3,4,5,6,9,10,7,8,11,12,13] (λw=>Inv (bg X Y C).own w0 w [fQ (List.range 5) (uq C bs ls),ib bl 30 v,ib br 30 (aj 7),bg X Y C]) hI ?_;intro wd hI)
     (repeat(first|refine ZS ?_|refine ZQ ?_;go_wp2_with(fail);refine ZP ?_))
     go_wp2_with(first|go_at_call 15;refine KE (wI hi5 I6.out hI mU aA hp.out) ?_;intro w1 hI|refine YS ?_;intro w hI);go_roundg (5- (i+1))
     case measure=>omega
     case rel=>exact⟨i+1,S.view,true,rfl,by omega,rfl,rfl,hb2,hI⟩
    ·obtain⟨q,hq⟩:=EH (decide (gi v 0<gi S.view 0))
     have hq2:=hq.out;cases q
     ·have hb2:Hid (ky C (i+1)=(v,true)∧v.length=7):=HD ⟨by rw[ky,I6.out,hv.out.1,zo];exact if_neg (by simpa using hq.out),hv.out.2⟩
      go_upto_region 5 with((with_reducible refine Gz (i:=i) hi5 (k:=?_));rw[hp.out])
      (refine ZR [0,1,2,3,4,5,7,11,12,13] [9,10] [7] [0,1,2,3,4,5,6,9,10,7,8,11,12,13] (λw=>Inv (bg X Y C).own w0 w [fQ (List.range 5) (uq C bs ls),ib bl 30 v,ib br 30 (aj 7),bg X Y C]) hI ?_;intro wd hI)
      (repeat(first|refine ZS ?_|refine ZQ ?_;go_wp2_with(first|go_at_call 15;refine KE (wI hi5 I6.out hI mU aA hp.out) ?_;intro w1 hI|with_reducible refine acx (zs:=S.view) RF hvl (k:=?_));refine ZP ?_))
      go_wp2_with(fail);go_roundg (5- (i+1))
      case measure=>omega
      case rel=>exact⟨i+1,v,true,rfl,by omega,rfl,rfl,hb2,hI⟩
     ·have hb2:Hid (ky C (i+1)=(S.view,true)∧S.view.length=7):=HD ⟨by rw[ky,I6.out,hv.out.1,zo];exact if_pos (by simpa using hq.out),hvl⟩
      go_upto_region 5 with((with_reducible refine Gz (i:=i) hi5 (k:=?_));rw[hp.out])
      (refine ZR [0,1,2,3,4,5,7,11,12,13] [9,10] [7] [0,1,2,3,4,5,6,9,10,7,8,11,12,13] (λw=>Inv (bg X Y C).own w0 w [fQ (List.range 5) (uq C bs ls),ib bl 30 v,ib br 30 (aj 7),bg X Y C]) hI ?_;intro wd hI)
      (repeat(first|refine ZS ?_|refine ZQ ?_;go_wp2_with(first|go_at_call 15;refine KE (wI hi5 I6.out hI mU aA hp.out) ?_;intro w1 hI|with_reducible refine acx (zs:=S.view) RF hvl (k:=?_));refine ZP ?_))
      go_wp2_with(first|go_at_call 15;refine KE (wI hi5 I6.out hI mU aA hp.out) ?_;intro w1 hI|refine YS ?_;intro w hI);go_roundg (5- (i+1))
      case measure=>omega
      case rel=>exact⟨i+1,S.view,true,rfl,by omega,rfl,rfl,hb2,hI⟩
end
end
section
open B (fH nT dY)
theorem GG(w0:World)(v:List Int)(who:Int)(hv:v.length=7)(hw:Hid (dU v)){h:Int}{q:Bool}(hr:dY v who=(h,q)):
  Calls prog 17 #[ia v,.int .i64 who] w0 λe w'=>e=.returned (.tuple #[.int .i64 h,.bool q])∧Below w0.heap.size w0 w':=lY w0 v who hv hw _ hr
theorem aeQ{ops:Array Oper}{Q:Exit->Act->World->Prop}{a:Act}{rest:List Oper}{w:World}{dst:Option Tmp}{ty:TypeId}{pos:String}{af:Array Edge}{x y:Operand}{k0:IntKind}{zs:List Int}{i:Nat}(hi:i<5)(hl:zs.length=5)(hx:a.eval x=ia zs:=by exact RF)(hy:a.eval y=.int k0 (i:Int):=by exact RF)
  (k:wpList prog ops Q rest (a.put dst (.int .i64 (gi zs i))) w):wpList prog ops Q (⟨dst,.index 28 x y,ty,pos,af,none⟩::rest) a w:=
 aft hx hy OM OM hl k
def owF(v:List Int)(i:Nat):Int:=if(dY v (i:Int)).2=true then(dY v (i:Int)).1 else(i:Int)
def Iz(v:List Int):Nat->List Int
 |0=>aj 5
 |i+1=>(Iz v i).set i (owF v i)
theorem Lh(v:List Int):∀i,(Iz v i).length=5
 |0=>aa 5
 |i+1=>by rw[Iz,List.length_set];exact Lh v i
def zq(v:List Int):List Int:=Iz v 5
theorem Xr(w0:World)(v:List Int)(hvl:v.length=7)(h64:Hid (dU v)):Calls prog 57 #[ia v] w0 λe w'=>e=.returned (ia (zq v))∧Below w0.heap.size w0 w':=by
 have hI:=Inv.start w0;unfold zq;go_enter func57,ntmps57;go_upto_region 1 with(first|(with_reducible refine Cb hI (k:=?_));intro br w hI|(with_reducible refine afs hI (k:=?_));intro bv w hI)
 go_wp2_with((with_reducible refine Cb hI (k:=?_));intro bl w hI)
 go_loopg [4,5,6,7] 5 (λkk s4 s5 s6 s7 wr=>∃(i:Nat) (zs:List Int),kk=5-i∧i<=5∧s7=.int .i64 (i:Int)∧Hid (Iz v i=zs∧zs.length=5)∧Inv [] w0 wr [ib bl 28 zs,ib br 28 (aj 5),ib bv 30 v])
 case atStart=>exact⟨0,_,rfl,by omega,rfl,HD ⟨rfl,aa 5⟩,hI⟩
 case round=>
  clear hI;obtain⟨i,zs,rfl,hi,rfl,hz,hI⟩:=hrel;have hzl:=hz.out.2;by_cases h5:i=5
  ·subst h5
   go_wp2_with(first|refine YL ?_|refine YS ?_;intro w hI);rw[hz.out.1];exact bodyPost_ret (dI hI rfl rfl aM (bG.out (t:=28)) hzl) rfl ⟨rfl,hI.below⟩
  ·have hi5:i<5:=by omega
   have hd:decide ((i:Int) <5)=true:=by simp;omega
   obtain⟨h,q,hh⟩:∃h q,Hid (dY v (i:Int)=(h,q)):=⟨_,_,HD rfl⟩;cases q
   ·have hb2:Hid (Iz v (i+1)=zs.set i (i:Int)∧(zs.set i (i:Int)).length=5):=HD ⟨by rw[Iz,hz.out.1,owF,hh.out];rfl,by rw[List.length_set];exact hzl⟩
    go_wp2_with(first|go_at_call 17;refine KD hI (GG _ v (i:Int) hvl h64 hh.out) ?_;intro w1 hI|refine YL ?_|refine YS ?_;intro w hI);go_roundg (5- (i+1))
    case measure=>omega
    case rel=>exact⟨i+1,_,rfl,by omega,rfl,hb2,hI⟩
   ·have hb2:Hid (Iz v (i+1)=zs.set i h∧(zs.set i h).length=5):=HD ⟨by rw[Iz,hz.out.1,owF,hh.out];rfl,by rw[List.length_set];exact hzl⟩
    go_wp2_with(first|go_at_call 17;refine KD hI (GG _ v (i:Int) hvl h64 hh.out) ?_;intro w1 hI|refine YL ?_|refine YS ?_;intro w hI);go_roundg (5- (i+1))
    case measure=>omega
    case rel=>exact⟨i+1,_,rfl,by omega,rfl,hb2,by rw[show zs.set i h=(zs.set i (i:Int)).set i h by rw[List.set_set]];exact hI⟩
theorem aa6(w0:World)(b e:Nat)(m:List Int)(hk:C.Bk m)(hI:Inv (ib b e m).own w0 w0 [ib b e m])(iK key:Int):
  Calls prog 56 #[.pointer (some ⟨b,0,none⟩),.int .i64 iK,.int .i64 key] w0 λen w'=>en=.returned (ia (C.sW m iK key))∧Inv (ib b e m).own w0 w' [ib b e m]:=by
 rw[<-zn]at*;exact C.H_ w0 b 0 e [] [] m hk rfl hI iK key
abbrev Xt(m:List Int)(iK key:Int):List Int:=C.sW m iK key
theorem Xu{m:List Int}(h:C.Bk m)(iK key:Int):(Xt m iK key).length=7:=(C.nZ h iK key).1
abbrev Ov(m:List Int):Prop:=C.Bk m
def Li(m:List Int)(key:Int):Nat->List Int
 |0=>aj 35
 |i+1=>dF (Li m key i) (i*7) (Xt m (i:Int) key)
def acy(cs:List Int)(i o:Nat)(ss:List Int):List Int:=ss.set o (wrap64 (gi ss o+wrap64 (gi cs (i*7) -gi cs (i*7+1))))
def qK(cs:List Int)(i o:Nat)(ss:List Int):Nat->List Int
 |0=>acy cs i o ss
 |j+1=>(qK cs i o ss j).set o (wrap64 (gi (qK cs i o ss j) o+wrap64 (gi cs (j*7+2+i) -gi cs (i*7+2+j))))
def zt(cs os:List Int):Nat->List Int
 |0=>aj 5
 |i+1=>if gi os i<0∨5<=gi os i then zt cs os i else qK cs i (gi os i).toNat (zt cs os i) 5
theorem ym(cs:List Int)(i o:Nat){ss:List Int}(h:ss.length=5):∀j,(qK cs i o ss j).length=5
 |0=>by rw[qK,acy,List.length_set];exact h
 |j+1=>by rw[qK,List.length_set];exact ym cs i o h j
def BG(C:CS)(key:Nat):List Int:=zt (Li (nJ C) (key:Int) 5) (zq (qJ C)) 5
theorem Ew(cs os:List Int):∀i,(zt cs os i).length=5
 |0=>aa 5
 |i+1=>by
  rw[zt];split
  ·exact Ew cs os i
  ·exact ym cs i _ (Ew cs os i) 5
section
variable (w0:World)(X:CX)(Y:CY)(C:CS)(hM:∀i,i<5->∀S,MF C i=some S->dB S)(hI:Inv (bg X Y C).own w0 w0 [bg X Y C])
variable (aeR:Ov (nJ C))(hvl:(qJ C).length=7)(h64:Hid (dU (qJ C)))
include hI hM aeR hvl h64
theorem Xv(key:Nat)(hk4:key<4):Calls prog 27 #[.pointer (some ⟨X.cb,0,none⟩),.int .i64 (key:Int)] w0 λe w'=>e=.returned (ia (BG C key))∧Inv (bg X Y C).own w0 w' [bg X Y C]:=by
 have hd0:decide ((key:Int) <0)=false:=by simp
 have hd4:decide ((4:Int)<=(key:Int))=false:=by simp;omega
 obtain⟨tr,htr⟩:=EH (nJ C);have hBk:Hid (Ov tr):=HD (by rw[<-htr.out];exact aeR);clear aeR;unfold BG;rw[htr.out];go_enter func27,ntmps27;go_upto_region 1 with((with_reducible refine Cb hI (k:=?_));intro br w hI)
 go_upto_region 5 with(first|(with_reducible refine Cb hI (k:=?_));intro bl w hI|(go_at_call 21;(with_reducible refine(BF _ X Y C hM (hI.at_ aX)).mono ?_);rintro e w1 ⟨bt,rfl,hJ⟩;replace hI:=hI.Ml hJ pg;clear hJ);rw[htr.out]at hI|refine YL ?_)
 go_wp2_with((with_reducible refine Cb hI (k:=?_));intro bc w hI)
 go_loopg [8,21] 5 (λkk s8 s21 wr=>∃(i:Nat) (zs:List Int),kk=5-i∧i<=5∧s21=.int .i64 (i:Int)∧Hid (Li tr (key:Int) i=zs∧zs.length=35)∧Inv (bg X Y C).own w0 wr [ib bc 118 zs,ib bt 96 tr,ib bl 28 (aj 5),ib br 28 (aj 5),bg X Y C])
 case atStart=>exact⟨0,_,rfl,by omega,rfl,HD ⟨rfl,aa 35⟩,hI⟩
 case round=>
  clear hI;obtain⟨i,zs,rfl,hi,rfl,hz,hI⟩:=hrel;have hzl:=hz.out.2;by_cases h5:i=5
  ·subst h5
   go_wp2_with(first|go_at_call 12;refine KC uu4 hI (Ou _ X Y C hM (hI.at_ mm4)) ?_;intro w1 hI|go_at_call 57;refine KD hI (Xr _ (qJ C) hvl h64) ?_;intro w1 hI);have aa7:(zq (qJ C)).length=5:=Lh _ 5;obtain⟨os,hos⟩:=EH (zq (qJ C));rw[hos.out]at aa7;rw[hos.out]
   go_loopg [9,10,11,34] 5 (λkk s9 s10 s11 Yu wr=>∃(i:Nat) (ss:List Int),kk=5-i∧i<=5∧Yu=.int .i64 (i:Int)∧Hid (zt zs os i=ss∧ss.length=5)∧Inv (bg X Y C).own w0 wr [ib bc 118 zs,ib bt 96 tr,ib bl 28 ss,ib br 28 (aj 5),bg X Y C])
   case atStart=>exact⟨0,_,rfl,by omega,rfl,HD ⟨rfl,aa 5⟩,hI⟩
   case round=>
    clear hI;obtain⟨i,ss,rfl,hi,rfl,hs,hI⟩:=hrel;have hsl:=hs.out.2;by_cases h5:i=5
    ·subst h5
     go_wp2_with(first|refine YL ?_|refine YS ?_;intro w hI);rw[hz.out.1,hos.out,hs.out.1];exact bodyPost_ret (dI hI rfl rfl mU (bG.out (t:=28)) hsl) rfl ⟨rfl,hI.sub SB⟩
    ·have hi5:i<5:=by omega
     have hd:decide ((i:Int) <5)=true:=by simp;omega
     obtain⟨oz,hoz⟩:=EH (gi os i);by_cases hr:oz<0∨5<=oz
     ·have hs2:Hid (zt zs os (i+1)=ss∧ss.length=5):=HD ⟨by rw[zt,hoz.out,if_pos hr,hs.out.1],hsl⟩
      by_cases hn:oz<0
      ·have hd1:decide (oz<0)=true:=by simpa using hn
       clear hr hn;go_wp2_with((with_reducible refine aeQ (i:=i) hi5 aa7 (k:=?_));rw[hoz.out]);go_roundg (5- (i+1))
       case measure=>omega
       case rel=>exact⟨i+1,ss,rfl,by omega,rfl,hs2,hI⟩
      ·have hd1:decide (oz<0)=false:=by simpa using hn
       have hd2:decide (5<=oz)=true:=by simp;omega
       clear hr hn;go_wp2_with(first|(with_reducible refine aeQ (i:=i) hi5 aa7 (k:=?_));rw[hoz.out]|refine YL ?_);go_roundg (5- (i+1))
       case measure=>omega
       case rel=>exact⟨i+1,ss,rfl,by omega,rfl,hs2,hI⟩
     ·obtain⟨o,ho⟩:∃o:Nat,oz=(o:Int):=⟨oz.toNat,by omega⟩
      subst ho;have ho5:o<5:=by omega
      have hd1:decide ((o:Int) <0)=false:=by simp
      have hd2:decide ((5:Int)<=(o:Int))=false:=by simp;omega
      have hs2:Hid (zt zs os (i+1)=qK zs i o ss 5):=HD (by rw[zt,hoz.out,if_neg hr,hs.out.1,Int.toNat_natCast]);clear hr;go_upto_region 15 with(first|(with_reducible refine aeQ (i:=i) hi5 aa7 (k:=?_));rw[hoz.out]|refine YL ?_)
      refine ZT [12,13,14] 15 hI ?_;intro wd hI
      (repeat(refine ZQ ?_;go_wp2_with(first|refine YS ?_;intro w hI|refine YL ?_);refine ZP ?_))
      go_wp2_with(fail)
      go_loopg [11,58] 5 (λkk s11 s58 wr=>∃(j:Nat) (sj:List Int),kk=5-j∧j<=5∧s58=.int .i64 (j:Int)∧Hid (qK zs i o ss j=sj∧sj.length=5)∧Inv (bg X Y C).own w0 wr [ib bc 118 zs,ib bt 96 tr,ib bl 28 sj,ib br 28 (aj 5),bg X Y C])
      case atStart=>exact⟨0,_,rfl,by omega,rfl,HD ⟨rfl,ym zs i o hsl 0⟩,hI⟩
      case round=>
       clear hI;obtain⟨j,sj,rfl,hj,rfl,hsj,hI⟩:=hrel;have ag2:=hsj.out.2;by_cases aeP:j=5
       ·subst aeP
        have hs3:Hid (zt zs os (i+1)=sj∧sj.length=5):=HD ⟨by rw[hs2.out,hsj.out.1],ag2⟩;go_wp2_with(fail);go_roundg (5- (i+1))
        case measure=>omega
        case rel=>exact⟨i+1,sj,rfl,by omega,rfl,hs3,hI⟩
       ·have MK:j<5:=by omega
        have hdj:decide ((j:Int) <5)=true:=by simp;omega
        have hs3:Hid (qK zs i o ss (j+1)=sj.set o (wrap64 (gi sj o+wrap64 (gi zs (j*7+2+i) -gi zs (i*7+2+j))))∧(sj.set o (wrap64 (gi sj o+wrap64 (gi zs (j*7+2+i) -gi zs (i*7+2+j))))).length=5):=HD ⟨by rw[qK,hsj.out.1],by rw[List.length_set];exact ag2⟩;go_upto_region 19 with(fail)
        refine ZT [16,17,18] 19 hI ?_;intro wd hI
        (repeat(refine ZQ ?_;go_wp2_with(first|refine YS ?_;intro w hI|refine YL ?_);refine ZP ?_))
        go_wp2_with(fail);go_roundg (5- (j+1))
        case measure=>omega
        case rel=>exact⟨j+1,_,rfl,by omega,rfl,hs3,hI⟩
  ·have hi5:i<5:=by omega
   have hd:decide ((i:Int) <5)=true:=by simp;omega
   have hcl:(Xt tr (i:Int) (key:Int)).length=7:=Xu hBk.out _ _;have hz2:Hid (Li tr (key:Int) (i+1)=dF zs (i*7) (Xt tr (i:Int) (key:Int))∧(dF zs (i*7) (Xt tr (i:Int) (key:Int))).length=35):=HD ⟨by rw[Li,hz.out.1],by rw[aY];omega⟩;go_wp2_with(first|go_at_call 56;refine KC iR hI (aa6 _ bt 96 tr hBk.out (hI.at_ aM) (i:Int) (key:Int)) ?_;intro w1 hI|refine YS ?_;intro w hI);go_roundg (5- (i+1))
   case measure=>omega
   case rel=>exact⟨i+1,_,rfl,by omega,rfl,hz2,hI⟩
end
end
