/- Contracts of functions. No condition. -/
import Derived.Test.YtdakkaapokhnnaaGreatDoorZ03
import Derived.Test.YtdakkaapokhnnaaGreatDoorZ04
namespace Go.Proofs.YtdakkaapokhnnaaGreatDoor
open Go.RowKit Go.Proofs.Tryz
set_option maxRecDepth 100000
set_option maxHeartbeats 6400000
set_option linter.all false
namespace B
theorem ahQ:fe prog 30 7:=by unfold fe;kernel_rfl
theorem ahR:fe prog 28 5:=by unfold fe;kernel_rfl
theorem ahS:fe prog 48 3:=by unfold fe;kernel_rfl
theorem afw:fe prog 91 2:=by unfold fe;kernel_rfl
theorem ai3:dC prog 30:=by unfold dC;kernel_rfl
theorem ahT:dC prog 28:=by unfold dC;kernel_rfl
theorem ahI:dC prog 91:=by unfold dC;kernel_rfl
def aP(n:Int):Bool:=decide (0<=n)&&decide (n<5)
theorem dW{n:Int}(h:aP n=true):0<=n∧n<5:=by simpa[aP]using h
theorem lN{n:Int}(h:aP n=true):∃k:Nat,k<5∧n=k:=⟨n.toNat,by have:=dW h;omega,by have:=dW h;omega⟩
theorem dR(w:World)(n:Int):Calls prog 34 #[.int .i64 n] w λe w'=>e=.returned (.bool (aP n))∧w'=w:=by
 by_cases h:0<=n
 ·go_enter func34,ntmps34
  exact W79
 ·go_enter func34,ntmps34
  exact W58
def aI(v:List Int)(who:Int):Bool:=aP who&&bt (gi v 1) who.toNat
theorem gU(w0:World)(v:List Int)(who:Int)(hv:v.length=7):Calls prog 14 #[ia v,.int .i64 who] w0 λe w'=>e=.returned (.bool (aI v who))∧Below w0.heap.size w0 w':=by
 have hI:=Inv.start w0;cases hm:aP who
 ·have hf:Hid (aI v who=false):=HD (by unfold aI;rw[hm];rfl)
  go_enter func14,ntmps14;go_wp2_with(first|refine YX ?_;intro bx w hI|go_at_call 34;refine KR (dR _ _) ?_);exact W87
 ·obtain⟨k,hk,rfl⟩:=lN hm
  have hf:Hid (aI v k=bt (gi v 1) k):=HD (by unfold aI;rw[hm];rfl);have hbt:=CE (gi v 1) k;go_enter func14,ntmps14;go_wp2_with(first|refine YL ?_|refine YX ?_;intro bx w hI|go_at_call 34;refine KR (dR _ _) ?_);exact W87
def dY(v:List Int)(who:Int):Int×Bool:=if aP who=true∧1<=gi v (2+who.toNat)then(gi v (2+who.toNat) -1,true)else(0,false)
theorem yH(w0:World)(v:List Int)(who:Int)(hv:v.length=7)(hw:Hid (∀i,-9223372036854775808<=gi v i∧gi v i<=9223372036854775807)):
  Calls prog 17 #[ia v,.int .i64 who] w0 λe w'=>e=.returned (.tuple #[.int .i64 (dY v who).1,.bool (dY v who).2])∧Below w0.heap.size w0 w':=by
 have hI:=Inv.start w0;cases hm:aP who
 ·rw[show dY v who=(0,false)from by unfold dY;rw[hm];simp]
  go_enter func17,ntmps17;go_wp2_with(first|refine YX ?_;intro bx w hI|go_at_call 34;refine KR (dR _ _) ?_)
  go_ret2
  exact⟨rfl,hI.below⟩
 ·obtain⟨k,hk,rfl⟩:=lN hm
  have vg:(k:Int).toNat=k:=by simp
  have hb:=(hw.out (2+k)).2;by_cases h1:1<=gi v (2+k)
  ·rw[show dY v k=(gi v (2+k) -1,true)from by unfold dY;rw[if_pos ⟨hm,by simpa using h1⟩];simp]
   exact W73
  ·rw[show dY v k=(0,false)from by unfold dY;rw[if_neg (λh=>h1 (by simpa using h.2))]]
   exact W73
def fH:List Int:=[1,7,0,0,0,0,0]
theorem nT(w0:World):Calls prog 31 #[] w0 λe w'=>e=.returned (ia fH)∧Below w0.heap.size w0 w':=by
 have hI:=Inv.start w0;go_enter func31,ntmps31;go_wp2_with(first|(with_reducible refine uB (vs:=fH) hI RF RF jy mX RF RF ?_;intro w hI)|refine YX ?_;intro bx w hI);exact bodyPost_ret (dI hI rfl rfl aA mX rfl) rfl ⟨rfl,hI.below⟩
def w_(v c:List Int):List Int:=(v.set 1 (bits BinOp.or IntKind.i64 (gi v 1) (2^ (gi c 1).toNat))).set 0 (gi v 0+1)
def kW(w0:World)(v c:List Int):Prop:=Calls prog 84 #[ia v,ia c] w0 λe w'=>e=.returned (.tuple #[ia (aj 7),.int .i64 5])∧Below w0.heap.size w0 w'
theorem Ur(w0:World)(v c:List Int)(hv:v.length=7)(hc:c.length=3)(h1:aP (gi c 1)=false):kW w0 v c:=by
 exact W30
theorem Us(w0:World)(v c:List Int)(hv:v.length=7)(hc:c.length=3)(h1:aP (gi c 1)=true)(h2:aP (gi c 2)=false):kW w0 v c:=by
 exact W30
theorem Ut(w0:World)(v c:List Int)(hv:v.length=7)(hc:c.length=3)(hw:Hid (∀i,-9223372036854775808<=gi v i∧gi v i<=9223372036854775807))(h1:aP (gi c 1)=true)(h2:aP (gi c 2)=true)
  (hk:(gi c 0==0)=true) (hh:(dY v (gi c 1)).2=true):kW w0 v c:=by
 have hI:=Inv.start w0;unfold kW;go_enter func84,ntmps84;go_wp2_with(first|refine YL ?_|refine YS ?_;intro w hI|refine YX ?_;intro bx w hI|go_at_call 34;refine KR (dR _ _) ?_|go_at_call 17;refine KD hI (yH _ v _ hv hw) ?_;intro w1 hI);exact afG
theorem Uu(w0:World)(v c:List Int)(hv:v.length=7)(hc:c.length=3)(hw:Hid (∀i,-9223372036854775808<=gi v i∧gi v i<=9223372036854775807))(h1:aP (gi c 1)=true)(h2:aP (gi c 2)=true)
  (hk:(gi c 0==0)=true) (hh:(dY v (gi c 1)).2=false) (hm:aI v (gi c 1)=true):kW w0 v c:=by
 have hI:=Inv.start w0;unfold kW;go_enter func84,ntmps84;go_wp2_with(first|refine YL ?_|refine YS ?_;intro w hI|refine YX ?_;intro bx w hI|go_at_call 34;refine KR (dR _ _) ?_|go_at_call 17;refine KD hI (yH _ v _ hv hw) ?_;intro w1 hI|go_at_call 14;refine KD hI (gU _ v _ hv) ?_;intro w1 hI);exact afG
theorem Uv(w0:World)(v c:List Int)(hv:v.length=7)(hc:c.length=3)(h1:aP (gi c 1)=true)(h2:aP (gi c 2)=true)
  (hk:(gi c 0==0)=false) (hk1:(gi c 0==1)=false):kW w0 v c:=by
 exact W30
theorem Uw(w0:World)(v c:List Int)(hv:v.length=7)(hc:c.length=3)(h1:aP (gi c 1)=true)(h2:aP (gi c 2)=true)
  (hk:(gi c 0==0)=false) (hk1:(gi c 0==1)=true) (hm:aI v (gi c 1)=false):kW w0 v c:=by
 exact W20
theorem Ux(w0:World)(v c:List Int)(hv:v.length=7)(hc:c.length=3)(h1:aP (gi c 1)=true)(h2:aP (gi c 2)=true)
  (hk:(gi c 0==0)=false) (hk1:(gi c 0==1)=true) (hm:aI v (gi c 1)=true) (hm2:aI v (gi c 2)=false):kW w0 v c:=by
 exact W20
theorem Uy(w0:World)(v c:List Int)(hv:v.length=7)(hc:c.length=3)(h1:aP (gi c 1)=true)(h2:aP (gi c 2)=true)
  (hk:(gi c 0==0)=false) (hk1:(gi c 0==1)=true) (hm:aI v (gi c 1)=true) (hm2:aI v (gi c 2)=true) (hd:(gi c 2==gi c 1)=true):kW w0 v c:=by
 exact W20
end B
namespace B
theorem nm3{T:List Nat}{w0 w:World}{a b c:Nat}{e1 e2 e3:TypeId}{z1 z2 z3:List Int}(_:Inv T w0 w [ib a e1 z1,ib b e2 z2,ib c e3 z3]):∃a' b' c',a'=a∧b'=b∧c'=c:=⟨a,b,c,rfl,rfl,rfl⟩
def lv(v:List Int)(k d:Nat):Nat->List Int
 |0=>v
 |j+1=>if j=k∨gi v (2+j)=k+1 then(lv v k d j).set (2+j) (d+1)else lv v k d j
theorem zT(v:List Int)(k d j:Nat):(lv v k d j).length=v.length:=by
 induction j with
 |zero=>rfl
 |succ j ih=>unfold lv;split<;>simp[ih]
def xg(v c:List Int):List Int:=(lv (v.set 1 (bits BinOp.andNot IntKind.i64 (gi v 1) (2^ (gi c 1).toNat))) (gi c 1).toNat (gi c 2).toNat 5).set 0 (gi v 0+1)
def I4(v c:List Int):Bool:=aP (gi c 1)&&aP (gi c 2)&&(gi c 0==0)&& !(dY v (gi c 1)).2&& !aI v (gi c 1)
def JQ(v c:List Int):Bool:=aP (gi c 1)&&aP (gi c 2)&&(gi c 0==1)&&aI v (gi c 1)&&aI v (gi c 2)&& !(gi c 2==gi c 1)
def PH(v c:List Int):List Int×Int:=if I4 v c=true then(w_ v c,0)else if JQ v c=true then(xg v c,0)else(aj 7,5)
end B
namespace B
theorem ado:∀m:Fin 32,∀k:Fin 5,bits BinOp.or IntKind.i64 ((m.val:Nat):Int) (2^k.val)=(if bt ((m.val:Nat):Int) k.val=true then((m.val:Nat):Int)else((m.val+2^k.val:Nat):Int)):=by decide+kernel
theorem adp:∀m:Fin 32,∀k:Fin 5,bits BinOp.andNot IntKind.i64 ((m.val:Nat):Int) (2^k.val)=(if bt ((m.val:Nat):Int) k.val=true then((m.val-2^k.val:Nat):Int)else((m.val:Nat):Int)):=by decide+kernel
theorem aaa:∀m:Fin 32,∀k:Fin 5,bt ((m.val:Nat):Int) k.val=false->(m.val+2^k.val<32∧∀i:Fin 5,bt ((m.val+2^k.val:Nat):Int) i.val=(bt ((m.val:Nat):Int) i.val||i==k)):=by decide+kernel
theorem aab:∀m:Fin 32,∀k:Fin 5,bt ((m.val:Nat):Int) k.val=true->((∀d:Fin 5,d≠k->bt ((m.val:Nat):Int) d.val=true->1<=m.val-2^k.val)∧∀i:Fin 5,bt ((m.val-2^k.val:Nat):Int) i.val=(bt ((m.val:Nat):Int) i.val&& !(i==k))):=by decide+kernel
structure Good (v:List Int) (n:Int):Prop where
 len:v.length=7
 ep:gi v 0=n
 mem:∃m:Nat,1<=m∧m<32∧gi v 1=m
 aac:∀i<5,gi v (2+i)≠0->aI v (gi v (2+i) -1)=true∧aI v i=false
theorem Good.first:Good fH 1:=⟨by decide,by decide,⟨7,by decide,by decide,by decide⟩,by decide⟩
theorem iJ{v:List Int}{i:Nat}(hi:i<5):aI v i=bt (gi v 1) i:=by
 have h5:(i:Int) <5:=by omega
 unfold aI aP;simp[h5]
theorem adq{v:List Int}{i:Nat}(h:v.length<=i):gi v i=0:=by
 exact afQ
theorem Good.range{v:List Int}{n:Int}(h:Good v n)(h0:-9223372036854775808<=n)(h1:n<=9223372036854775807):∀i,-9223372036854775808<=gi v i∧gi v i<=9223372036854775807:=by
 intro i;obtain⟨m,hm0,hm1,hm⟩:=h.mem;by_cases hi:i<7
 ·by_cases h2:2<=i
  ·have:=h.aac (i-2) OM
   rw[show 2+(i-2)=i from by omega]at this;by_cases hz:gi v i=0
   ·omega
   ·have:=(this hz).1
    have hm:=dW (by unfold aI at this;simpa using(Bool.and_eq_true _ _▸this).1);omega
  ·have:i=0∨i=1:=by omega
   rcases this with rfl|rfl
   ·rw[h.ep];omega
   ·omega
 ·rw[adq (by have:=h.len;omega)];omega
theorem sS{v:List Int}{i:Nat}{x:Int}(h:i<v.length):gi (v.set i x) i=x:=by simp[gi,List.getElem?_set,h]
theorem mJ{v:List Int}{i j:Nat}{x:Int}(h:i≠j):gi (v.set i x) j=gi v j:=by
 unfold gi;rw[List.getD_eq_getElem?_getD,List.getElem?_set_ne h,<-List.getD_eq_getElem?_getD]
theorem Vp(v:List Int)(k d j i:Nat)(hi:i<2∨2+j<=i):gi (lv v k d j) i=gi v i:=by
 induction j with
 |zero=>rfl
 |succ j ih=>unfold lv;split;(rw[mJ OM];exact ih OM);(exact ih OM)
theorem agi(v:List Int)(k d:Nat)(hv:v.length=7)(j i:Nat)(hj:j<=5)(hi:i<j):gi (lv v k d j) (2+i)=if i=k∨gi v (2+i)=k+1 then(d:Int)+1 else gi v (2+i):=by
 induction j with
 |zero=>omega
 |succ j ih=>
  by_cases hij:i=j
  ·subst hij
   unfold lv
   split
   ·exact sS (by rw[zT];omega)
   ·exact Vp _ _ _ _ _ OM
  ·have:=ih OM OM
   rw[<-this]
   conv=>lhs;unfold lv
   split
   ·exact mJ OM
   ·rfl
theorem adr{v c:List Int}(h:I4 v c=true):∃k d:Nat,k<5∧d<5∧gi c 0=0∧gi c 1=k∧gi c 2=d∧(dY v (gi c 1)).2=false∧aI v (gi c 1)=false:=by
 simp only[I4,Bool.and_eq_true,Bool.not_eq_true',beq_iff_eq]at h;obtain⟨⟨⟨⟨h1,h2⟩,h3⟩,h4⟩,h5⟩:=h;obtain⟨k,hk,e1⟩:=lN h1;obtain⟨d,hd,e2⟩:=lN h2;exact⟨k,d,hk,hd,h3,e1,e2,h4,h5⟩
theorem ads{v c:List Int}(h:JQ v c=true):∃k d:Nat,k<5∧d<5∧d≠k∧gi c 0=1∧gi c 1=k∧gi c 2=d∧aI v k=true∧aI v d=true:=by
 simp only[JQ,Bool.and_eq_true,Bool.not_eq_true',beq_iff_eq,beq_eq_false_iff_ne]at h;obtain⟨⟨⟨⟨⟨h1,h2⟩,h3⟩,h4⟩,h5⟩,h6⟩:=h;obtain⟨k,hk,e1⟩:=lN h1;obtain⟨d,hd,e2⟩:=lN h2;rw[e1,e2]at h6;rw[e1]at h4;rw[e2]at h5;exact⟨k,d,hk,hd,by omega,h3,e1,e2,h4,h5⟩
theorem JR{v c:List Int}{n:Int}(g:Good v n){k m:Nat}(hk:k<5)(hm:m<32)(em:gi v 1=m)(e1:gi c 1=k)(hb:aI v k=false):
  (w_ v c).length=7∧gi (w_ v c) 0=n+1∧gi (w_ v c) 1=((m+2^k:Nat):Int)∧∀i,gi (w_ v c) (2+i)=gi v (2+i):=by
 have hl:=g.len;rw[iJ hk,em]at hb;have ht:=ado ⟨m,hm⟩ ⟨k,hk⟩;simp only[hb]at ht;refine⟨by unfold w_;simpa using hl,by unfold w_;rw[sS (by simp;omega),g.ep],?_,?_⟩
 ·unfold w_
  rw[mJ OM,sS OM,e1,em];simpa using ht
 ·intro i
  unfold w_;rw[mJ OM,mJ OM]
theorem JS{v c:List Int}{n:Int}(g:Good v n){k d m:Nat}(hk:k<5)(hm:m<32)(em:gi v 1=m)(e1:gi c 1=k)(e2:gi c 2=d)(hb:aI v k=true):
  (xg v c).length=7∧gi (xg v c) 0=n+1∧gi (xg v c) 1=((m-2^k:Nat):Int)∧∀i<5,gi (xg v c) (2+i)=if i=k∨gi v (2+i)=k+1 then(d:Int)+1 else gi v (2+i):=by
 have hl:=g.len;rw[iJ hk,em]at hb;have ht:=adp ⟨m,hm⟩ ⟨k,hk⟩;simp only[hb]at ht;refine⟨by unfold xg;simpa[zT]using hl,by unfold xg;rw[sS (by simp[zT];omega),g.ep],?_,?_⟩
 ·unfold xg
  rw[mJ OM,Vp _ _ _ _ _ OM,sS OM,e1,em];simpa using ht
 ·intro i hi
  unfold xg;rw[mJ OM,agi _ _ _ (by simpa using hl) 5 i OM hi,mJ OM,e1,e2];simp
theorem mem_of{v:List Int}{x:Int}(h:aI v x=true):∃k:Nat,k<5∧x=k∧bt (gi v 1) k=true:=by
 have hm:aP x=true:=by unfold aI at h;simp only[Bool.and_eq_true]at h;exact h.1
 obtain⟨k,hk,rfl⟩:=lN hm;exact⟨k,hk,rfl,by rw[iJ hk]at h;exact h⟩
theorem Good.join{v c:List Int}{n:Int}(g:Good v n)(h:I4 v c=true):Good (w_ v c) (n+1):=by
 obtain⟨k,d,hk,hd,e0,e1,e2,hh,hb⟩:=adr h;obtain⟨m,hm0,hm1,em⟩:=g.mem;rw[e1]at hb hh;obtain⟨hl,h0,h1,h2⟩:=JR g hk hm1 em e1 hb;have hb':=hb;rw[iJ hk,em]at hb';obtain⟨ht,ht2⟩:=aaa ⟨m,hm1⟩ ⟨k,hk⟩ hb';simp only at ht;have hp:=Nat.two_pow_pos k;generalize hq:2^k=q at*;refine⟨hl,h0,⟨m+q,by omega,ht,h1⟩,?_⟩;intro i hi hz;rw[h2]at hz|-;obtain⟨a,b⟩:=g.aac i hi hz;obtain⟨x,hx,ex,bx⟩:=mem_of a;rw[iJ hi,em]at b;have hki:i≠k:=by
  rintro rfl;have h5:(i:Int) <5:=by omega
  have hmk:aP (i:Int)=true:=by simp[aP,h5]
  have:1<=gi v (2+i):=by omega
  rw[dY,if_pos ⟨hmk,by simpa using this⟩]at hh;exact Bool.noConfusion hh
 rw[ex,iJ hx,iJ hi,h1];have q1:=ht2 ⟨x,hx⟩;have q2:=ht2 ⟨i,hi⟩;simp only at q1 q2;rw[q1,q2,b,<-em,bx];simp[hki]
theorem Good.leave{v c:List Int}{n:Int}(g:Good v n)(h:JQ v c=true):Good (xg v c) (n+1):=by
 obtain⟨k,d,hk,hd,hdk,e0,e1,e2,hb,hbd⟩:=ads h;obtain⟨m,hm0,hm1,em⟩:=g.mem;obtain⟨hl,h0,h1,h2⟩:=JS g hk hm1 em e1 e2 hb;rw[iJ hk,em]at hb;rw[iJ hd,em]at hbd;obtain⟨ht,ht2⟩:=aab ⟨m,hm1⟩ ⟨k,hk⟩ hb;have hge:=ht ⟨d,hd⟩ (by simpa using hdk) hbd;simp only at hge;refine⟨hl,h0,⟨m-2^k,hge,Nat.lt_of_le_of_lt (Nat.sub_le _ _) hm1,h1⟩,?_⟩;intro i hi hz;rw[h2 i hi]at hz|-;have q2:=ht2 ⟨i,hi⟩;simp only at q2;by_cases hc:i=k∨gi v (2+i)=k+1
 ·rw[if_pos hc]at hz|-
  have q1:=ht2 ⟨d,hd⟩;simp only at q1;rw[show(d:Int)+1-1=d from by omega,iJ hd,iJ hi,h1,q1,q2,hbd];refine⟨by simpa using hdk,?_⟩;rcases hc with rfl|hc
  ·simp
  ·have:=(g.aac i hi OM).2
   rw[iJ hi,em]at this;rw[this];rfl
 ·rw[if_neg hc]at hz|-
  obtain⟨a,b⟩:=g.aac i hi hz;obtain⟨x,hx,ex,bx⟩:=mem_of a;rw[iJ hi,em]at b;have q1:=ht2 ⟨x,hx⟩;simp only at q1;rw[ex,iJ hx,iJ hi,h1,q1,q2,b,<-em,bx];refine⟨?_,rfl⟩;have:x≠k:=by rintro rfl;exact hc (Or.inr OM)
  simpa using this
theorem Good.next{v:List Int}{n:Int}(g:Good v n)(c:List Int):((PH v c).2=0∧Good (PH v c).1 (n+1))∨PH v c=(aj 7,5):=by
 unfold PH
 split
 ·left;exact⟨rfl,g.join (by assumption)⟩
 ·split
  ·left;exact⟨rfl,g.leave (by assumption)⟩
  ·right;rfl
end B
namespace B
theorem ug(w0:World)(v:List Int)(p:Int)(hv:v.length=7):
  Calls prog 181 #[ia v,.int .i64 p] w0 λe w'=>e=.returned (.bool (gN p (gi v 1)))∧Below w0.heap.size w0 w':=by
 have hI:=Inv.start w0;go_enter func181,ntmps181;go_wp2_with(first|with_reducible refine YL ?_|(with_reducible refine YX ?_);intro bx w hI|go_at_call 189;refine KD hI (Uq _ _ _) ?_;intro w1 hI);go_ret;exact⟨rfl,hI.below⟩
end B
namespace B
structure wR (w:World) (a:Option Addr) (len k:Nat) (row:Nat->List Int):Prop where
 reach:len<=140737488351232
 row:∀i,i<len->(row i).length=k∧(∀j,-9223372036854775808<=gi (row i) j∧gi (row i) j<=9223372036854775807)∧∃b off,a=some ⟨b,off,none⟩∧mW w b (off+i*k) ((row i).map (Value.int .i64))
theorem Fb.ints{w:World}{a:Option Addr}{len c k:Nat}{row:Nat->List Value}(h:Fb w a len c (List.replicate k Mf) row):∃r,wR w a len k r:=by
 exact W28
theorem wR.later{w w0:World}{a:Option Addr}{len k:Nat}{row:Nat->List Int}{m:List aG}(h:wR w0 a len k row)(hI:Inv [] w0 w m):wR w a len k row:=
 ⟨h.reach,λi hi=>⟨(h.row i hi).1,(h.row i hi).2.1,by
  obtain⟨b,off,h1,h2⟩:=(h.row i hi).2.2;exact⟨b,off,h1,h2.later hI SI⟩⟩⟩
end B
namespace C
section
variable {P:Program}{ops:Array Oper}{Q:Exit->Act->World->Prop}{a:Act}{rest:List Oper}{w:World}{dst:Option Tmp}{ty:TypeId}{pos:String}{af:Array Edge}
theorem Dp{x:Operand}{t n b off:Nat}{e:TypeId}{zs:List Int}{fr:Nat×Nat}(hb:w.heap[b]? =some (.cells (zs.map (Value.int .i64)).toArray e fr))(hx:a.eval x=.pointer (some ⟨b,off,none⟩))(hT:fw P t n)(hl:off+n<=zs.length)
  (k:wpList P ops Q rest (a.put dst (ia (sub zs off n))) w):wpList P ops Q (⟨dst,.load t x,ty,pos,af,none⟩::rest) a w:=by
 refine au (v:=ia (sub zs off n)) ?_ k;unfold fP execOp;simp only[hx,Instr.loadAt,Instr.sureAddr,Sem.run_bind,Sem.run_pure,Result.andThen_ok,g_ hT hb off (by simpa using hl)];rw[<-List.map_drop,<-List.map_take];rfl
end
theorem xk(l:List Int)(j:Nat)(h:j<l.length):(l.take (j+1)).sum=(l.take j).sum+gi l j:=by
 rw[List.take_succ_eq_append_getElem h,List.sum_append];simp[gi,h]
theorem Dq(l:List Int)(M:Int)(hM:0<=M)(h:∀g∈l,0<=g∧g<=M):∀j,j<=l.length->0<=(l.take j).sum∧(l.take j).sum<=j*M
 |0,_=>by simp
 |j+1,hj=>by
  have:=Dq l M hM h j OM;have hg:=h _ (zX l j OM);rw[xk l j OM];have e:((j+1:Nat):Int)*M=j*M+M:=by rw[Int.natCast_add];rw[Int.add_mul];simp
  rw[e];omega
theorem FT(w:World)(b off t tt:Nat)(x:List Int)(e:TypeId)(hb:w.heap[b]? =some (.cells (x.map (Value.int .i64)).toArray e (0,0)))(ht:w.cell? ⟨t,0,none⟩=some (.int .i64 tt))(hto:tt<5)
  (hl:off+7<=x.length) (hg:∀g∈sub x (off+2) 5,JZ g):
  Calls prog 148 #[.pointer (some ⟨b,off,none⟩),.pointer (some ⟨t,0,none⟩)] w λe w'=>e=.returned (.tuple #[.int .i64 (sub x (off+2) 5).sum,.pointer (some ⟨b,off+2+tt,none⟩)])∧Below w.heap.size w w':=by
 have hd:w.drew.cell? ⟨t,0,none⟩=some (.int .i64 tt):=ht;have hgl:(sub x (off+2) 5).length=5:=by rw[ay];omega
 have hbd:=Dq _ 1099511627776 OM hg;have hoff:off+2+5<=x.length:=by omega
 have ajg:(tt:Int) <5:=by omega
 have hall:(sub x (off+2) 5).take 5=sub x (off+2) 5:=List.take_of_length_le OM;have hst:=λj h=>xk (sub x (off+2) 5) j h
 clear hg;go_enter func148,ntmps148;go_wp2_with(with_reducible refine Dp hb RF abU OM ?_);generalize hl2:sub x (off+2) 5=l at*;replace hl2:=HD hl2;replace hst:=HD hst
 go_loopg [5,7,12] 5 (λkk s q i wr=>∃(j:Nat),kk=5-j∧j<=5∧i=.int .i64 j∧s=.int .i64 (l.take j).sum∧wr=w)
 case atStart=>exact⟨0,rfl,by omega,rfl,rfl,rfl⟩
 case round=>
  obtain⟨j,rfl,hj,rfl,rfl,hwr⟩:=hrel;rw[hwr];clear hwr;obtain⟨hb0,hb1⟩:=hbd j OM;by_cases MK:j<5
  ·have h1:=hst.out j OM
   obtain⟨hc0,hc1⟩:=hbd (j+1) OM;rw[h1]at hc0 hc1;have h2:=HD h1;have vg:(j:Int).toNat=j:=by simp
   clear h1 hbd;go_wp2_with(with_reducible refine uC RF RF TL nS OM OM OM ?_);go_roundg (5- (j+1))
   case measure=>omega
   case rel=>exact⟨j+1,rfl,by omega,by go_num,by rw[h2.out];(done),rfl⟩
  ·obtain rfl:j=5:=by omega
   clear hbd;go_wp2_with fail
   go_quiet (fail)
   go_wp2_with fail
   go_ret2
   rw[hl2.out];exact⟨by rw[hall];rfl,bdn _ _⟩
theorem J2(w0:World)(x:List Int)(key n:Int)(t tt:Nat)(hx:x.length=174)(hk:0<=key∧key<4)(hn:1<=n∧n<=1099511627776)(ht:w0.cell? ⟨t,0,none⟩=some (.int .i64 tt))(hto:tt<5)(hg:∀g∈sub x (1+key.toNat*7+2) 5,JZ g)(hgt:1099511627776-n< (sub x (1+key.toNat*7+2) 5).sum):
  Calls prog 145 #[ia x,.int .i64 key,.int .i64 n,.func (.func 148) #[] #[.pointer (some ⟨t,0,none⟩)]] w0 λe w'=>e=.returned (.tuple #[ia (aj 174),.int .i64 6])∧Below w0.heap.size w0 w':=by
 have hI:=Inv.start w0;obtain⟨hk0,hk1⟩:=hk;replace hg:=HD hg;replace ht:=HD ht;go_enter func145,ntmps145;go_wp2_with(first|refine YX ?_;intro bx w hI|refine YL ?_|refine YS ?_;intro w hI|go_at_call 148;refine KD hI (FT _ _ (1+key.toNat*7) t tt x _ (hI.ibk aM) (hI.cell ht.out) hto OM hg.out) ?_;intro w1 hI);exact Ui
theorem wy(x:List Int)(key n tt:Int)(hx:x.length=174):(lQ x key n tt).1.length=174:=by
 unfold lQ
 split
 ·split
  ·simp[aa]
  ·simp[oH,hx]
 ·simp[aa]
end C
section
open B (aI aP)
def okH(v:List Int)(i:Nat):Bool:=gi v (2+i)==0|| (aI v (gi v (2+i) -1)&& !aI v i)
def xV(v:List Int)(j:Nat):Bool:=(List.range j).all (okH v)
def F6(v:List Int):Bool:=decide (1<=gi v 0)&&decide (1<=gi v 1)&&decide (gi v 1<32)
def lG(v:List Int):Bool:=F6 v&&xV v 5
theorem Kh(v:List Int)(j:Nat):xV v (j+1)=(xV v j&&okH v j):=by simp[xV,List.range_succ]
theorem VU{v:List Int}{j:Nat}(hj:j<5)(h:okH v j=false):xV v 5=false:=by
 cases hb:xV v 5
 ·rfl
 ·simp only[xV,List.all_eq_true,List.mem_range]at hb
  rw[hb j hj]at h;cases h
theorem y7(w0:World)(v:List Int)(who:Int)(b:Bool)(hv:v.length=7)(hb:aI v who=b):Calls prog 14 #[ia v,.int .i64 who] w0 λe w'=>e=.returned (.bool b)∧Below w0.heap.size w0 w':=by
 subst hb;exact B.gU w0 v who hv
theorem gP(w0:World)(v:List Int)(hv:v.length=7)(hw:∀i,-9223372036854775808<gi v i∧gi v i<=9223372036854775807):
  Calls prog 142 #[ia v] w0 λe w'=>e=.returned (.bool (lG v))∧Below w0.heap.size w0 w':=by
 have hI:=Inv.start w0;cases h1:decide (gi v 0<1)
 ·cases h2:decide (gi v 1<1)
  ·cases h3:decide (32<=gi v 1)
   ·have hh:Hid (F6 v=true):=HD (by simp at h1 h2 h3;simp[F6];omega)
    go_enter func142,ntmps142;go_upto_region 4 with(first|with_reducible refine YL ?_|(with_reducible refine YX ?_);intro bx w hI)
    go_loopg [3,4,20] 5 (λkk s3 s4 s20 wr=>∃j:Nat,kk=5-j∧j<=5∧s20=.int .i64 j∧Hid (xV v j=true)∧Inv [] w0 wr [ib bx 30 v])
    case atStart=>exact⟨0,by omega,by omega,rfl,HD rfl,hI⟩
    case round=>
     clear hI h1 h2 h3;obtain⟨j,rfl,hj,rfl,hto,hI⟩:=hrel;by_cases hlj:j<5
     ·have hsl:(sub v 2 5).length=5:=by rw[ay];omega
      obtain⟨x,hx⟩:=EH (gi v (2+j));have hx5:Hid (gi (sub v 2 5) j=x):=HD (by rw[nQ v 2 5 j hlj];exact hx.out);have hxr:-9223372036854775808<x∧x<=9223372036854775807:=by rw[<-hx.out];exact hw _
      clear hw;cases h0:(x != 0)
      ·have hnx:Hid (xV v (j+1)=true):=HD (by rw[Kh,hto.out,okH,hx.out];simp at h0;simp[h0])
       go_wp2_with(first|rw[hx5.out]|with_reducible refine YL ?_);go_roundg (5- (j+1))
       case measure=>omega
       case rel=>exact⟨j+1,by omega,by omega,by go_num,hnx,hI⟩
      ·cases hm1:aI v (x-1)
       ·have hnx:Hid (lG v=false):=HD (by rw[lG,VU hlj (by rw[okH,hx.out,hm1];simpa using h0)];simp)
        replace hm1:=HD hm1;go_wp2_with(first|rw[hx5.out]|go_at_call 14;refine KD hI (y7 _ v _ _ hv hm1.out) ?_;intro w1 hI|with_reducible refine YL ?_);go_ret;exact⟨by rw[hnx.out];rfl,hI.below⟩
       ·cases hm2:aI v j
        ·have hnx:Hid (xV v (j+1)=true):=HD (by rw[Kh,hto.out,okH,hx.out,hm1,hm2];simp)
         replace hm1:=HD hm1;replace hm2:=HD hm2;go_wp2_with(first|rw[hx5.out]|go_at_call 14;refine KD hI (y7 _ v _ _ hv hm1.out) ?_;intro w1 hI|go_at_call 14;refine KD hI (y7 _ v _ _ hv hm2.out) ?_;intro w1 hI|with_reducible refine YL ?_);go_roundg (5- (j+1))
         case measure=>omega
         case rel=>exact⟨j+1,by omega,by omega,by go_num,hnx,hI⟩
        ·have hnx:Hid (lG v=false):=HD (by rw[lG,VU hlj (by rw[okH,hx.out,hm2];simpa using h0)];simp)
         replace hm1:=HD hm1;replace hm2:=HD hm2;go_wp2_with(first|rw[hx5.out]|go_at_call 14;refine KD hI (y7 _ v _ _ hv hm1.out) ?_;intro w1 hI|go_at_call 14;refine KD hI (y7 _ v _ _ hv hm2.out) ?_;intro w1 hI|with_reducible refine YL ?_);go_ret;exact⟨by rw[hnx.out];rfl,hI.below⟩
     ·obtain rfl:j=5:=by omega
      have hf:Hid (lG v=true):=HD (by rw[lG,hh.out,hto.out];rfl);go_wp2_with fail;go_ret;exact⟨by rw[hf.out];rfl,hI.below⟩
   ·have hf:Hid (lG v=false):=HD (by simp at h3;simp[lG,F6];omega)
    exact W44
  ·have hf:Hid (lG v=false):=HD (by simp at h2;simp[lG,F6];omega)
   exact W44
 ·have hf:Hid (lG v=false):=HD (by simp at h1;simp[lG,F6];omega)
  exact W44
theorem DL(w0:World)(v' v:List Int)(h:v'=v)(hv:v.length=7)(hw:∀i,-9223372036854775808<gi v i∧gi v i<=9223372036854775807):
  Calls prog 142 #[ia v'] w0 λe w'=>e=.returned (.bool (lG v))∧Below w0.heap.size w0 w':=by
 subst h;exact gP w0 v' hv hw
def Ia(who:Int):List Int:=[(who+1) %5,(who+2) %5]
theorem aaq(w0:World)(who:Int)(hm:aP who=true):Calls prog 121 #[.int .i64 who] w0 λe w'=>∃a c,e=.returned (.slice a 2 c)∧
  Inv [] w0 w' [bf 3 1 (.slice a 2 c) 2 ((Ia who).map (Value.int .i64))]:=by
 have hI:=(Inv.start w0).Av 3 1;obtain⟨h0,h5⟩:=B.dW hm;go_enter func121,ntmps121;go_upto_region 5 with(go_at_call 34;refine KR (B.dR _ _) ?_)
 go_loopg [3,4] 2 (λkk s3 s4 wr=>∃(j:Nat) (a:Option Addr) (c:Nat),kk=2-j∧j<=2∧s4=.int .i64 ((j:Int)+1)∧s3=.slice a j c∧Inv [] w0 wr [bf 3 1 (.slice a j c) j (((Ia who).take j).map (Value.int .i64))])
 case atStart=>exact⟨0,none,0,by omega,by omega,rfl,rfl,hI⟩
 case round=>
  clear hI;obtain⟨j,a,c,rfl,hj,rfl,rfl,hI⟩:=hrel;by_cases hlj:j<2
  ·have hmod:Hid ((who+((j:Int)+1)).tmod 5=(who+((j:Int)+1)) %5):=HD (Int.tmod_eq_emod_of_nonneg OM)
   have hnx:Hid (((Ia who).take (j+1)).map (Value.int .i64)=((Ia who).take j).map (Value.int .i64)++[Value.int .i64 ((who+((j:Int)+1)) %5)]):=HD (by
    match j,hlj with
    |0,_=>simp[Ia]
    |1,_=>simp[Ia])
   go_wp2_with(first|(with_reducible refine Ms hI (k:=?_);intro b2 w hI)|(with_reducible refine az (q:=1) hI RF RF (tK.out (t:=74)) (by intro r';exact aR.there aR.here) (hI.rd aA) RF (by simp[Value.oneCell']) MX OM ?_;intro a2 c2 w hI));go_roundg (2- (j+1))
   case measure=>omega
   case rel=>exact⟨j+1,a2,c2,by omega,by omega,by go_num,rfl,by rw[hnx.out];exact hI.sub SB⟩
  ·obtain rfl:j=2:=by omega
   go_wp2_with fail;go_ret;exact⟨a,c,rfl,hI⟩
end
