/- Contracts of functions. No condition. -/
import Derived.Test.YtdakkaapokhnnaaGreatDoorZ06
namespace Go.Proofs.YtdakkaapokhnnaaGreatDoor
open Go.RowKit Go.Proofs.Tryz
set_option maxRecDepth 100000
set_option maxHeartbeats 6400000
set_option linter.all false
namespace B
def wU(v c:List Int):List Int:=(v.set 1 (bits BinOp.or IntKind.i64 (gi v 1) (2^ (gi c 1).toNat))).set 0 (wrap64 (gi v 0+1))
def za(v c:List Int):List Int:=(lv (v.set 1 (bits BinOp.andNot IntKind.i64 (gi v 1) (2^ (gi c 1).toNat))) (gi c 1).toNat (gi c 2).toNat 5).set 0 (wrap64 (gi v 0+1))
theorem MP(w0 v c)(hv:v.length=7)(hc:c.length=3)(hw:Hid (∀i,-9223372036854775808<=gi v i∧gi v i<=9223372036854775807))(h1:aL (gi c 1)=true)(h2:aL (gi c 2)=true)(hk:gi c 0=0)(hh:(dw v (gi c 1)).2=false)(hm:aI v (gi c 1)=false):
  Calls prog 84 #[ia v,ia c] w0 λe w'=>e=.returned (.tuple #[ia (wU v c),.int .i64 0])∧Below w0.heap.size w0 w':=by
 have hI:=Inv.start w0;obtain⟨k,hk5,hke⟩:=mR h1;have wL:(k:Int).toNat=k:=by simp
 have hsh:(k:Nat) <64:=by omega
 have hk0:(gi c 0==0)=true:=by simp[hk]
 have Zd:wU v c=(v.set 1 (bits BinOp.or IntKind.i64 (gi v 1) (2^k))).set 0 (wrap64 (gi v 0+1)):=by unfold wU;rw[hke];simp
 have hg0:∀u,gi (v.set 1 u) 0=gi v 0:=λu=>by simp[gi,List.getElem?_set]
 replace Zd:=HD Zd;rw[hke]at h1 hh hm;clear hk;go_enter func84,ntmps84;go_upto_region 9 with(first|refine YL ?_|refine YX ?_;intro bx w hI|go_at_call 34;refine KR (eT _ _) ?_|go_at_call 17;refine KD hI (zW _ v _ hv hw) ?_;intro w1 hI|go_at_call 14;refine KD hI (fO _ v _ hv) ?_;intro w1 hI)
 (try simp only[QN])
 (obtain⟨mE,rF⟩:=iO hI;refine aJ (C:=λw'=>Inv _ _ w' _) [7] (λw'=>Inv _ _ w' (List.eraseIdx (mE) 2)) hI.drew (λw' h=>Inv.sub h (by subst rF;((try simp only[xA]);repeat(first|exact List.Sublist.slnil|with_reducible apply List.Sublist.cons_cons|apply List.Sublist.cons)))) mixed KF ?_;subst rF;clear hI;(repeat(first| ((with_reducible apply dL);rfl;rfl;rfl;(focus(intro w (hI:Inv _ _ w _);go_wp2_with(refine YS ?_;intro w hI);(try simp only[QN]);exact⟨rfl,rfl,hI⟩));(exact⟨undef,rfl⟩);(focus(intro w (hI:Inv _ _ w _);exact Inv.sub hI SB))) | ((with_reducible apply bu);rfl;rfl;(focus(intro w (hI:Inv _ _ w _);go_wp2_with(refine YL ?_);(try simp only[QN]);exact⟨rfl,rfl,hI⟩));(exact⟨_,rfl⟩))));(refine bH ?_;intro w (hI:Inv _ _ w _)))
 go_wp2_with(first|refine YL ?_|refine YS ?_;intro w hI);have hwr:wrap64 (2^k)=2^k:=by
  have:k=0∨k=1∨k=2∨k=3∨k=4:=by omega
  rcases this with rfl|rfl|rfl|rfl|rfl<;>(unfold wrap64;decide)
 rw[hwr,<-Zd.out]at hI;exact bodyPost_ret (aH hI rfl rfl aC n_ (by rw[Zd.out];simpa using hv)) rfl ⟨rfl,hI.below⟩
theorem Kh(w0 v c)(hv:v.length=7)(hc:c.length=3)(h1:aL (gi c 1)=true)(h2:aL (gi c 2)=true)(hk0:(gi c 0==0)=false)(hk1:(gi c 0==1)=true)(hm:aI v (gi c 1)=true)(hm2:aI v (gi c 2)=true)(hd:(gi c 2==gi c 1)=false):
  Calls prog 84 #[ia v,ia c] w0 λe w'=>e=.returned (.tuple #[ia (za v c),.int .i64 0])∧Below w0.heap.size w0 w':=by
 have hI:=Inv.start w0;obtain⟨k,hk5,hke⟩:=mR h1;obtain⟨d,hd5,hde⟩:=mR h2;have wL:(k:Int).toNat=k:=by simp
 have hsh:(k:Nat) <64:=by omega
 have Zd:za v c=(lv (v.set 1 (bits BinOp.andNot IntKind.i64 (gi v 1) (2^k))) k d 5).set 0 (wrap64 (gi v 0+1)):=by unfold za;rw[hke,hde];simp
 replace Zd:=HD Zd;rw[hke]at h1 hm hd;rw[hde]at h2 hm2 hd;go_enter func84,ntmps84;go_upto_region 13 with(first|refine YL ?_|refine YX ?_;intro bx w hI|go_at_call 34;refine KR (eT _ _) ?_|go_at_call 14;refine KD hI (fO _ v _ hv) ?_;intro w1 hI)
 (try simp only[QN])
 (obtain⟨mE,rF⟩:=iO hI;refine aJ (C:=λw'=>Inv _ _ w' _) [7] (λw'=>Inv _ _ w' (List.eraseIdx (mE) 2)) hI.drew (λw' h=>Inv.sub h (by subst rF;((try simp only[xA]);repeat(first|exact List.Sublist.slnil|with_reducible apply List.Sublist.cons_cons|apply List.Sublist.cons)))) mixed KF ?_;subst rF;clear hI;(repeat(first| ((with_reducible apply dL);rfl;rfl;rfl;(focus(intro w (hI:Inv _ _ w _);go_wp2_with(refine YS ?_;intro w hI);(try simp only[QN]);exact⟨rfl,rfl,hI⟩));(exact⟨undef,rfl⟩);(focus(intro w (hI:Inv _ _ w _);exact Inv.sub hI SB))) | ((with_reducible apply bu);rfl;rfl;(focus(intro w (hI:Inv _ _ w _);go_wp2_with(refine YL ?_);(try simp only[QN]);exact⟨rfl,rfl,hI⟩));(exact⟨_,rfl⟩))));(refine bH ?_;intro w (hI:Inv _ _ w _)))
 go_wp2_with(refine YL ?_);have hwr:wrap64 (2^k)=2^k:=by
  have:k=0∨k=1∨k=2∨k=3∨k=4:=by omega
  rcases this with rfl|rfl|rfl|rfl|rfl<;>(unfold wrap64;decide)
 rw[hwr]at hI|-;obtain⟨b1,b2,b3,h3,h4,h5⟩:=nm3 hI;subst h3 h4 h5;obtain⟨v1,hv1⟩:=EZ (v.set 1 (bits BinOp.andNot IntKind.i64 (gi v 1) (2^k)));rw[<-hv1]at hI Zd|-;have hg0:gi v1 0=gi v 0:=by rw[hv1];simp[gi,List.getElem?_set]
 have hl1:v1.length=7:=by rw[hv1];simpa using hv
 have hgs:∀j:Nat,gi (sub v1 2 5) j=gi v1 (2+j)∨5<=j:=by
  intro j;by_cases h:j<5
  ·left;simp[gi,sub,h]
  ·right;omega
 clear hv1 hm hm2
 go_loopg [8,9,79] 5 (λn p q i wr=>∃j:Nat,n=5-j∧j<=5∧i=.int .i64 j∧Inv [] w0 wr [ib b1 30 (au 7),ib b2 48 c,ib b3 30 (lv v1 k d j)])
 case atStart=>exact⟨0,rfl,by omega,rfl,hI⟩
 case round=>
  clear hI;obtain⟨j,rfl,hj,rfl,hI⟩:=hrel;have hlj:=Br v1 k d j;by_cases GV:j<5
  ·have hg:gi (sub v1 2 5) j=gi v1 (2+j):=by have:=hgs j;omega
   by_cases hjk:j=k
   ·have hs:lv v1 k d (j+1)=(lv v1 k d j).set (2+j) (d+1):=by rw[lv,if_pos (Or.inl hjk)]
    have alx:((j:Int)==k)=true:=by simp[hjk]
    clear hjk;go_wp2_with(first|refine YL ?_|refine YS ?_;intro w hI);go_roundg (5- (j+1))
    case measure=>omega
    case rel=>exact⟨j+1,rfl,by omega,by go_num,by rw[hs];exact hI⟩
   ·have alx:((j:Int)==k)=false:=by simp;omega
    by_cases hjh:gi v1 (2+j)=k+1
    ·have hs:lv v1 k d (j+1)=(lv v1 k d j).set (2+j) (d+1):=by rw[lv,if_pos (Or.inr hjh)]
     have kI:(gi (sub v1 2 5) j==(k:Int)+1)=true:=by rw[hg];simp[hjh]
     clear hjk hjh hg hgs;go_wp2_with(first|refine YL ?_|refine YS ?_;intro w hI);go_roundg (5- (j+1))
     case measure=>omega
     case rel=>exact⟨j+1,rfl,by omega,by go_num,by rw[hs];exact hI⟩
    ·have hs:lv v1 k d (j+1)=lv v1 k d j:=by rw[lv,if_neg (λh=>h.elim hjk hjh)]
     have kI:(gi (sub v1 2 5) j==(k:Int)+1)=false:=by rw[hg];simpa using hjh
     clear hjk hjh hg hgs;go_wp2_with(refine YL ?_);go_roundg (5- (j+1))
     case measure=>omega
     case rel=>exact⟨j+1,rfl,by omega,by go_num,by rw[hs];exact hI⟩
  ·obtain rfl:j=5:=by omega
   have hg5:∀i,i<2->gi (lv v1 k d 5) i=gi v1 i:=by
    intro i hi;have:∀j,gi (lv v1 k d j) i=gi v1 i:=by
     intro j
     induction j with
     |zero=>rfl
     |succ j ih=>
      unfold lv
      split
      ·rw[<-ih];unfold gi;rw[List.getD_eq_getElem?_getD,List.getElem?_set_ne OM,<-List.getD_eq_getElem?_getD]
      ·exact ih
    exact this 5
   have amo:=(hg5 0 OM).trans hg0;clear hgs hg5;go_wp2_with(first|refine YL ?_|refine YS ?_;intro w hI);rw[<-Zd.out]at hI;exact bodyPost_ret (aH hI rfl rfl aC n_ (by rw[Zd.out];simpa using hlj.trans hl1)) rfl ⟨rfl,hI.below⟩
def bK(v c:List Int):List Int×Int:=if Vi v c=true then(wU v c,0)else if WU v c=true then(za v c,0)else(au 7,5)
theorem agG(w0 v c)(hv:v.length=7)(hc:c.length=3)(hw:Hid (∀i,-9223372036854775808<=gi v i∧gi v i<=9223372036854775807)):
  Calls prog 84 #[ia v,ia c] w0 λe w'=>e=.returned (.tuple #[ia (bK v c).1,.int .i64 (bK v c).2])∧Below w0.heap.size w0 w':=by
 have no:Vi v c=false->WU v c=false->lY w0 v c->Calls prog 84 #[ia v,ia c] w0 λe w'=>e=.returned (.tuple #[ia (bK v c).1,.int .i64 (bK v c).2])∧Below w0.heap.size w0 w':=by
  intro a b h;rw[show bK v c=(au 7,5)from by grind[B.bK]];exact h
 cases h1:aL (gi c 1)
 ·grind[B.Vi,B.WU,B.XP]
 cases h2:aL (gi c 2)
 ·grind[B.Vi,B.WU,B.XQ]
 cases hk:(gi c 0==0)
 ·grind[B.Vi,B.WU,B.XU,B.XV,B.XW,B.bK,B.Kh,B.XX]
 ·have b:WU v c=false:=by grind[B.WU]
  cases hh:(dw v (gi c 1)).2
  ·cases hm:aI v (gi c 1)
   ·have a:Vi v c=true:=by grind[B.Vi]
    rw[show bK v c=(wU v c,0)from by grind[B.bK]];exact MP w0 v c hv hc hw h1 h2 (eq_of_beq hk) hh hm
   grind[B.Vi,B.XT]
  grind[B.Vi,B.XR]
theorem pJ(v c)(hv:v.length=7):(bK v c).1.length=7:=by
 grind[B.bK,B.wU,B.za,B.Br,ag]
end B
