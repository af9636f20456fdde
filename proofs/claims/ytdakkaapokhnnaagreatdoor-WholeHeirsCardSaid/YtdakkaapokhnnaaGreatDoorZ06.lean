/- Contracts of functions. No condition. -/
import Derived.Test.YtdakkaapokhnnaaGreatDoorZ03
import Derived.Test.YtdakkaapokhnnaaGreatDoorZ04
import Derived.Test.YtdakkaapokhnnaaGreatDoorZ05
namespace Go.Proofs.YtdakkaapokhnnaaGreatDoor
open Go.RowKit Go.Proofs.Tryz
set_option maxRecDepth 100000
set_option maxHeartbeats 6400000
set_option linter.all false
namespace B
def aL(n:Int):Bool:=decide (0<=n)&&decide (n<5)
theorem dV{n}(h:aL n=true):0<=n∧n<5:=by grind[B.aL]
theorem mR{n}(h:aL n=true):∃k:Nat,k<5∧n=k:=⟨n.toNat,by have:=dV h;omega,by have:=dV h;omega⟩
theorem eT(w n):Calls prog 34 #[.int .i64 n] w λe w'=>e=.returned (.bool (aL n))∧w'=w:=by
 by_cases h:0<=n
 ·go_enter func34,ntmps34
  exact W75
 ·go_enter func34,ntmps34
  exact W56
def aI(v:List Int)(who:Int):Bool:=aL who&&bt (gi v 1) who.toNat
theorem fO(w0 v who)(hv:v.length=7):Calls prog 14 #[ia v,.int .i64 who] w0 λe w'=>e=.returned (.bool (aI v who))∧Below w0.heap.size w0 w':=by
 have hI:=Inv.start w0;cases hm:aL who
 ·have hf:Hid (aI v who=false):=HD (by unfold aI;rw[hm];rfl)
  go_enter func14,ntmps14;go_wp2_with(first|refine YX ?_;intro bx w hI|go_at_call 34;refine KR (eT _ _) ?_);exact W85
 ·obtain⟨k,hk,rfl⟩:=mR hm
  have hf:Hid (aI v k=bt (gi v 1) k):=HD (by unfold aI;rw[hm];rfl);have hbt:=En (gi v 1) k;go_enter func14,ntmps14;go_wp2_with(first|refine YL ?_|refine YX ?_;intro bx w hI|go_at_call 34;refine KR (eT _ _) ?_);exact W85
def dw(v:List Int)(who:Int):Int×Bool:=if aL who=true∧1<=gi v (2+who.toNat)then(gi v (2+who.toNat) -1,true)else(0,false)
theorem zW(w0 v who)(hv:v.length=7)(hw:Hid (∀i,-9223372036854775808<=gi v i∧gi v i<=9223372036854775807)):
  Calls prog 17 #[ia v,.int .i64 who] w0 λe w'=>e=.returned (.tuple #[.int .i64 (dw v who).1,.bool (dw v who).2])∧Below w0.heap.size w0 w':=by
 have hI:=Inv.start w0;cases hm:aL who
 ·rw[show dw v who=(0,false)from by unfold dw;rw[hm];simp]
  go_enter func17,ntmps17;go_wp2_with(first|refine YX ?_;intro bx w hI|go_at_call 34;refine KR (eT _ _) ?_)
  go_ret2
  exact⟨rfl,hI.below⟩
 ·obtain⟨k,hk,rfl⟩:=mR hm
  have wL:(k:Int).toNat=k:=by simp
  have hb:=(hw.out (2+k)).2;by_cases h1:1<=gi v (2+k)
  ·rw[show dw v k=(gi v (2+k) -1,true)from by unfold dw;rw[if_pos ⟨hm,by simpa using h1⟩];simp]
   exact W69
  ·rw[show dw v k=(0,false)from by unfold dw;rw[if_neg (λh=>h1 (by simpa using h.2))]]
   exact W69
def eu:List Int:=[1,7,0,0,0,0,0]
theorem pF(w0):Calls prog 31 #[] w0 λe w'=>e=.returned (ia eu)∧Below w0.heap.size w0 w':=by
 have hI:=Inv.start w0;go_enter func31,ntmps31;go_wp2_with(first|(with_reducible refine vP (vs:=eu) hI RF RF jR n_ RF RF ?_;intro w hI)|refine YX ?_;intro bx w hI);exact bodyPost_ret (dY hI rfl rfl aC n_ rfl) rfl ⟨rfl,hI.below⟩
def Cc(v c:List Int):List Int:=(v.set 1 (bits BinOp.or IntKind.i64 (gi v 1) (2^ (gi c 1).toNat))).set 0 (gi v 0+1)
def lY(w0:World)(v c:List Int):Prop:=Calls prog 84 #[ia v,ia c] w0 λe w'=>e=.returned (.tuple #[ia (au 7),.int .i64 5])∧Below w0.heap.size w0 w'
theorem XP(w0 v c)(hv:v.length=7)(hc:c.length=3)(h1:aL (gi c 1)=false):lY w0 v c:=by
 exact W29
theorem XQ(w0 v c)(hv:v.length=7)(hc:c.length=3)(h1:aL (gi c 1)=true)(h2:aL (gi c 2)=false):lY w0 v c:=by
 exact W29
theorem XR(w0 v c)(hv:v.length=7)(hc:c.length=3)(hw:Hid (∀i,-9223372036854775808<=gi v i∧gi v i<=9223372036854775807))(h1:aL (gi c 1)=true)(h2:aL (gi c 2)=true)(hk:(gi c 0==0)=true)(hh:(dw v (gi c 1)).2=true):lY w0 v c:=by
 have hI:=Inv.start w0;unfold lY;go_enter func84,ntmps84;go_wp2_with(first|refine YL ?_|refine YS ?_;intro w hI|refine YX ?_;intro bx w hI|go_at_call 34;refine KR (eT _ _) ?_|go_at_call 17;refine KD hI (zW _ v _ hv hw) ?_;intro w1 hI);exact ai4
theorem XT(w0 v c)(hv:v.length=7)(hc:c.length=3)(hw:Hid (∀i,-9223372036854775808<=gi v i∧gi v i<=9223372036854775807))(h1:aL (gi c 1)=true)(h2:aL (gi c 2)=true)(hk:(gi c 0==0)=true)(hh:(dw v (gi c 1)).2=false)(hm:aI v (gi c 1)=true):lY w0 v c:=by
 have hI:=Inv.start w0;unfold lY;go_enter func84,ntmps84;go_wp2_with(first|refine YL ?_|refine YS ?_;intro w hI|refine YX ?_;intro bx w hI|go_at_call 34;refine KR (eT _ _) ?_|go_at_call 17;refine KD hI (zW _ v _ hv hw) ?_;intro w1 hI|go_at_call 14;refine KD hI (fO _ v _ hv) ?_;intro w1 hI);exact ai4
theorem XU(w0 v c)(hv:v.length=7)(hc:c.length=3)(h1:aL (gi c 1)=true)(h2:aL (gi c 2)=true)(hk:(gi c 0==0)=false)(hk1:(gi c 0==1)=false):lY w0 v c:=by
 exact W29
theorem XV(w0 v c)(hv:v.length=7)(hc:c.length=3)(h1:aL (gi c 1)=true)(h2:aL (gi c 2)=true)(hk:(gi c 0==0)=false)(hk1:(gi c 0==1)=true)(hm:aI v (gi c 1)=false):lY w0 v c:=by
 exact W20
theorem XW(w0 v c)(hv:v.length=7)(hc:c.length=3)(h1:aL (gi c 1)=true)(h2:aL (gi c 2)=true)(hk:(gi c 0==0)=false)(hk1:(gi c 0==1)=true)(hm:aI v (gi c 1)=true)(hm2:aI v (gi c 2)=false):lY w0 v c:=by
 exact W20
theorem XX(w0 v c)(hv:v.length=7)(hc:c.length=3)(h1:aL (gi c 1)=true)(h2:aL (gi c 2)=true)(hk:(gi c 0==0)=false)(hk1:(gi c 0==1)=true)(hm:aI v (gi c 1)=true)(hm2:aI v (gi c 2)=true)(hd:(gi c 2==gi c 1)=true):lY w0 v c:=by
 exact W20
end B
namespace B
theorem nm3{T w0 w a b c e1 e2 e3 z1 z2 z3}(_:Inv T w0 w [ib a e1 z1,ib b e2 z2,ib c e3 z3]):∃a' b' c',a'=a∧b'=b∧c'=c:=by grind
def lv(v:List Int)(k d:Nat):Nat->List Int
 |0=>v
 |j+1=>if j=k∨gi v (2+j)=k+1 then(lv v k d j).set (2+j) (d+1)else lv v k d j
theorem Br(v k d j):(lv v k d j).length=v.length:=by
 induction j with
 |zero=>rfl
 |succ j ih=>grind[B.lv]
def Cf(v c:List Int):List Int:=(lv (v.set 1 (bits BinOp.andNot IntKind.i64 (gi v 1) (2^ (gi c 1).toNat))) (gi c 1).toNat (gi c 2).toNat 5).set 0 (gi v 0+1)
def Vi(v c:List Int):Bool:=aL (gi c 1)&&aL (gi c 2)&&(gi c 0==0)&& !(dw v (gi c 1)).2&& !aI v (gi c 1)
def WU(v c:List Int):Bool:=aL (gi c 1)&&aL (gi c 2)&&(gi c 0==1)&&aI v (gi c 1)&&aI v (gi c 2)&& !(gi c 2==gi c 1)
def qM(v c:List Int):List Int×Int:=if Vi v c=true then(Cc v c,0)else if WU v c=true then(Cf v c,0)else(au 7,5)
end B
namespace B
theorem agC:∀m:Fin 32,∀k:Fin 5,bits BinOp.or IntKind.i64 ((m.val:Nat):Int) (2^k.val)=(if bt ((m.val:Nat):Int) k.val=true then((m.val:Nat):Int)else((m.val+2^k.val:Nat):Int)):=by decide+kernel
theorem agD:∀m:Fin 32,∀k:Fin 5,bits BinOp.andNot IntKind.i64 ((m.val:Nat):Int) (2^k.val)=(if bt ((m.val:Nat):Int) k.val=true then((m.val-2^k.val:Nat):Int)else((m.val:Nat):Int)):=by decide+kernel
theorem adj:∀m:Fin 32,∀k:Fin 5,bt ((m.val:Nat):Int) k.val=false->(m.val+2^k.val<32∧∀i,bt ((m.val+2^k.val:Nat):Int) i.val=(bt ((m.val:Nat):Int) i.val||i==k)):=by decide+kernel
theorem adk:∀m:Fin 32,∀k:Fin 5,bt ((m.val:Nat):Int) k.val=true->((∀d,d≠k->bt ((m.val:Nat):Int) d.val=true->1<=m.val-2^k.val)∧∀i,bt ((m.val-2^k.val:Nat):Int) i.val=(bt ((m.val:Nat):Int) i.val&& !(i==k))):=by decide+kernel
structure Good (v:List Int) (n:Int):Prop where
 len:v.length=7
 ep:gi v 0=n
 mem:∃m:Nat,1<=m∧m<32∧gi v 1=m
 CW:∀i<5,gi v (2+i)≠0->aI v (gi v (2+i) -1)=true∧aI v i=false
theorem Good.first:Good eu 1:=⟨by decide,by decide,⟨7,by decide,by decide,by decide⟩,by decide⟩
theorem j4{v}{i:Nat}(hi:i<5):aI v i=bt (gi v 1) i:=by
 grind[B.aI,B.aL]
theorem agE{v i}(h:v.length<=i):gi v i=0:=by
 grind[gi]
theorem Good.range{v n}(h:Good v n)(h0:-9223372036854775808<=n)(h1:n<=9223372036854775807):∀i,-9223372036854775808<=gi v i∧gi v i<=9223372036854775807:=by
 intro i;obtain⟨m,hm0,hm1,hm⟩:=h.mem;by_cases hi:i<7
 ·by_cases h2:2<=i
  ·have:=h.CW (i-2) OM
   rw[show 2+(i-2)=i from by omega]at this;by_cases hz:gi v i=0
   ·omega
   ·have:=(this hz).1
    have hm:=dV (by simpa using(Bool.and_eq_true _ _▸this).1);omega
  ·have:i=0∨i=1:=by omega
   rcases this with rfl|rfl
   ·rw[h.ep];omega
   ·omega
 grind[B.agE,B.Good.len]
theorem uC{v:List Int}{i x}(h:i<v.length):gi (v.set i x) i=x:=by grind[gi]
theorem uD{v i j x}(h:i≠j):gi (v.set i x) j=gi v j:=by
 grind[gi]
theorem Y8(v k d j i)(hi:i<2∨2+j<=i):gi (lv v k d j) i=gi v i:=by
 induction j with
 |zero=>rfl
 |succ j ih=>grind[B.lv,B.uD]
theorem ajz(v k d)(hv:v.length=7)(j i)(hj:j<=5)(hi:i<j):gi (lv v k d j) (2+i)=if i=k∨gi v (2+i)=k+1 then(d:Int)+1 else gi v (2+i):=by
 induction j with
 |zero=>omega
 |succ j ih=>
  grind[B.lv,B.uC,B.Br,B.Y8,B.uD]
theorem P7{v c}(h:Vi v c=true):∃k d:Nat,k<5∧d<5∧gi c 0=0∧gi c 1=k∧gi c 2=d∧(dw v (gi c 1)).2=false∧aI v (gi c 1)=false:=by
 simp only[Vi,Bool.and_eq_true,Bool.not_eq_true',beq_iff_eq]at h;obtain⟨⟨⟨⟨h1,h2⟩,h3⟩,h4⟩,h5⟩:=h;obtain⟨k,hk,e1⟩:=mR h1;obtain⟨d,hd,e2⟩:=mR h2;exact⟨k,d,hk,hd,h3,e1,e2,h4,h5⟩
theorem P8{v c}(h:WU v c=true):∃k d:Nat,k<5∧d<5∧d≠k∧gi c 0=1∧gi c 1=k∧gi c 2=d∧aI v k=true∧aI v d=true:=by
 simp only[WU,Bool.and_eq_true,Bool.not_eq_true',beq_iff_eq,beq_eq_false_iff_ne]at h;obtain⟨⟨⟨⟨⟨h1,h2⟩,h3⟩,h4⟩,h5⟩,h6⟩:=h;obtain⟨k,hk,e1⟩:=mR h1;obtain⟨d,hd,e2⟩:=mR h2;rw[e1]at h4;rw[e2]at h5;exact⟨k,d,hk,hd,by omega,h3,e1,e2,h4,h5⟩
theorem Cg{v c n}(g:Good v n){k m:Nat}(hk:k<5)(hm:m<32)(em:gi v 1=m)(e1:gi c 1=k)(hb:aI v k=false):
  (Cc v c).length=7∧gi (Cc v c) 0=n+1∧gi (Cc v c) 1=((m+2^k:Nat):Int)∧∀i,gi (Cc v c) (2+i)=gi v (2+i):=by
 have hl:=g.len;rw[j4 hk,em]at hb;have ht:=agC ⟨m,hm⟩ ⟨k,hk⟩
 grind[B.Cc,B.uC,B.Good.ep,B.uD]
theorem Ch{v c n}(g:Good v n){k d m:Nat}(hk:k<5)(hm:m<32)(em:gi v 1=m)(e1:gi c 1=k)(e2:gi c 2=d)(hb:aI v k=true):
  (Cf v c).length=7∧gi (Cf v c) 0=n+1∧gi (Cf v c) 1=((m-2^k:Nat):Int)∧∀i<5,gi (Cf v c) (2+i)=if i=k∨gi v (2+i)=k+1 then(d:Int)+1 else gi v (2+i):=by
 have hl:=g.len;rw[j4 hk,em]at hb;have ht:=agD ⟨m,hm⟩ ⟨k,hk⟩
 grind[B.Cf,B.Br,B.uC,B.Good.ep,B.uD,B.Y8,B.ajz]
theorem mem_of{v x}(h:aI v x=true):∃k:Nat,k<5∧x=k∧bt (gi v 1) k=true:=by
 have hm:aL x=true:=by simp_all[B.aI]
 grind[B.mR,B.j4]
theorem Good.join{v c n}(g:Good v n)(h:Vi v c=true):Good (Cc v c) (n+1):=by
 obtain⟨k,d,hk,hd,e0,e1,e2,hh,hb⟩:=P7 h;obtain⟨m,hm0,hm1,em⟩:=g.mem;rw[e1]at hb hh;obtain⟨hl,h0,h1,h2⟩:=Cg g hk hm1 em e1 hb;have hb':=hb;rw[j4 hk,em]at hb';obtain⟨ht,ht2⟩:=adj ⟨m,hm1⟩ ⟨k,hk⟩ hb';generalize hq:2^k=q at*;refine⟨hl,h0,⟨m+q,by omega,ht,h1⟩,?_⟩;intro i hi hz;rw[h2]at hz|-;obtain⟨a,b⟩:=g.CW i hi hz;obtain⟨x,hx,ex,bx⟩:=mem_of a;rw[j4 hi,em]at b;have hki:i≠k:=by
  rintro rfl;have h5:(i:Int) <5:=by omega
  have hmk:aL (i:Int)=true:=by simp[aL,h5]
  have:1<=gi v (2+i):=by omega
  simp_all[B.dw.eq_1]
 rw[ex,j4 hx,j4 hi,h1];have q1:=ht2 ⟨x,hx⟩;have q2:=ht2 ⟨i,hi⟩
 grind
theorem Good.leave{v c n}(g:Good v n)(h:WU v c=true):Good (Cf v c) (n+1):=by
 obtain⟨k,d,hk,hd,hdk,e0,e1,e2,hb,hbd⟩:=P8 h;obtain⟨m,hm0,hm1,em⟩:=g.mem;obtain⟨hl,h0,h1,h2⟩:=Ch g hk hm1 em e1 e2 hb;rw[j4 hk,em]at hb;rw[j4 hd,em]at hbd;obtain⟨ht,ht2⟩:=adk ⟨m,hm1⟩ ⟨k,hk⟩ hb;have hge:=ht ⟨d,hd⟩ (by grind) hbd;refine⟨hl,h0,⟨m-2^k,hge,Nat.lt_of_le_of_lt (Nat.sub_le _ _) hm1,h1⟩,?_⟩;intro i hi hz;rw[h2 i hi]at hz|-;have q2:=ht2 ⟨i,hi⟩;by_cases hc:i=k∨gi v (2+i)=k+1
 ·rw[if_pos hc]at hz|-
  have q1:=ht2 ⟨d,hd⟩;rw[show(d:Int)+1-1=d from by omega,j4 hd,j4 hi,h1,q1,q2,hbd];refine⟨by grind,?_⟩;rcases hc with rfl|hc
  ·simp
  ·have:=(g.CW i hi OM).2
   grind[B.j4]
 ·rw[if_neg hc]at hz|-
  obtain⟨a,b⟩:=g.CW i hi hz;obtain⟨x,hx,ex,bx⟩:=mem_of a;have q1:=ht2 ⟨x,hx⟩
  grind[B.j4]
theorem Good.next{v n}(g:Good v n)(c):((qM v c).2=0∧Good (qM v c).1 (n+1))∨qM v c=(au 7,5):=by
 grind[B.qM,B.Good.join,B.Good.leave]
end B
namespace B
theorem vB(w0 v p)(hv:v.length=7):
  Calls prog 181 #[ia v,.int .i64 p] w0 λe w'=>e=.returned (.bool (eB p (gi v 1)))∧Below w0.heap.size w0 w':=by
 have hI:=Inv.start w0;go_enter func181,ntmps181;go_wp2_with(first|with_reducible refine YL ?_|(with_reducible refine YX ?_);intro bx w hI|go_at_call 189;refine KD hI (XN _ _ _) ?_;intro w1 hI);go_ret;exact⟨rfl,hI.below⟩
end B
namespace B
structure uE (w:World) (a:Option Addr) (len k:Nat) (row:Nat->List Int):Prop where
 reach:len<=140737488351232
 row:∀i,i<len->(row i).length=k∧(∀j,-9223372036854775808<=gi (row i) j∧gi (row i) j<=9223372036854775807)∧∃b off,a=some ⟨b,off,none⟩∧ng w b (off+i*k) ((row i).map (Value.int .i64))
theorem Ho.ints{w a len c k row}(h:Ho w a len c (List.replicate k O1) row):∃r,uE w a len k r:=by
 exact W28
theorem uE.later{w w0 a len k row m}(h:uE w0 a len k row)(hI:Inv [] w0 w m):uE w a len k row:=
 ⟨h.reach,λi hi=>⟨(h.row i hi).1,(h.row i hi).2.1,by
  grind[B.uE.row,ng.later]⟩⟩
end B
namespace B
theorem ajA:prog.underlying 208=some (.struct (prog.fieldsOf 208)):=by kernel_rfl
theorem alq:(prog.fieldsOf 208).toList.map (placeOf prog)=[(0,7),(7,2),(9,3),(12,2),(14,1),(15,1),(16,1)]:=by kernel_rfl
theorem alr:(prog.fieldsOf 208).toList.all (λf=>(prog.info? f.type).isSome)=true:=by kernel_rfl
theorem als:afl prog 208 16 1:=by unfold afl;kernel_rfl
theorem adm(v b c)(hv:v.length=7)(hb:b.length=2)(hc:c.length=3)(w):(Instr.build 208 #[(0,ia v),(1,ia b),(2,ia c)]).run prog w=.ok (.agg (mix (v++b++c++[0,0,0,0]) [false]).toArray) w:=by
 have hz2:(prog.info? 208).map (·.zero)=some (some (.agg (mix (au 16) (List.replicate 1 false)).toArray)):=als;obtain⟨inf,JL,hz'⟩:=Option.map_eq_some_iff.1 hz2;have hzv:(zeroValue 208).run prog w=.ok (.agg (mix (au 16) (List.replicate 1 false)).toArray) w:=by simp[zeroValue,typeInfo,JL,hz']
 have hr:=mZ (P:=prog) (prog.fieldsOf 208).toList (List.all_eq_true.1 alr) w;rw[alq]at hr;simp only[Instr.build,Sem.run_bind,hzv,Result.andThen_ok,run_underlying ajA];rw[<-Array.toArray_toList (xs:=prog.fieldsOf 208),List.mapM_toArray];simp only[Sem.run_map,hr]
 match v,hv with
 | [a0,a1,a2,a3,a4,a5,a6],_=>
  match b,hb with
  | [b0,b1],_=>
   match c,hc with
   | [c0,c1,c2],_=>simp[Instr.fill,ia,mix,au,List.replicate,Value.cells]
section
variable {P:Program}{ops:Array Oper}{Q:Exit->Act->World->Prop}{a:Act}{rest:List Oper}{T:List Nat}{w0 w:World}{m m':List bT}{dst:Option Tmp}{ty:TypeId}{pos:String}{af:Array Edge}
theorem ER{x y z v b c}(hx:a.eval x=ia v)(hy:a.eval y=ia b)(hz:a.eval z=ia c)(hv:v.length=7)(hb:b.length=2)(hc:c.length=3)(k:wpList prog ops Q rest (a.put dst (.agg (mix (v++b++c++[0,0,0,0]) [false]).toArray)) w):wpList prog ops Q (⟨dst,.build 208 #[(0,x),(1,y),(2,z)],ty,pos,af,none⟩::rest) a w:=by
 refine av ?_ k;unfold gu execOp
 simp_all[B.adm]
theorem Kg{x t zs bs}(hI:Inv T w0 w m)(hv:a.eval x=.agg (mix zs bs).toArray)(k:∀b w',Inv T w0 w' (yD b t zs bs::m)->wpList P ops Q rest (a.put dst (.pointer (some ⟨b,0,none⟩))) w'):wpList P ops Q (⟨dst,.box t x,ty,pos,af,none⟩::rest) a w:=
 bX hI (cs:=mix zs bs) (by rw[hv];rfl) k
theorem bV{x}{t b off j:Nat}{e zs bs v}(hI:Inv T w0 w m)(hx:a.eval x=.pointer (some ⟨b,off,none⟩))(hm:yD b e zs bs∈m)(hT:iY P t)(hl:off=zs.length+j)(hj:j<bs.length)(hv:gb bs j=v)(k:wpList P ops Q rest (a.put dst (.bool v)) w):wpList P ops Q (⟨dst,.load t x,ty,pos,af,none⟩::rest) a w:=
 wP hI hx hm hT hl hj (by grind)
end
theorem SY(w x y)(hx:x.length=2)(hy:y.length=2):Calls prog 180 #[ia x,ia y] w λe w'=>e=.returned (.bool (kM (gi x 0) (gi x 1) (gi y 0) (gi y 1)))∧Below w.heap.size w w':=by
 match x,hx with
 | [r1,w1],_=>
  match y,hy with
  | [r2,w2],_=>exact ML w r1 w1 r2 w2
def kF(v b c:List Int):List Int:=v++b++c++[0,0,0,0]
theorem adn(w0 v b c)(hv:v.length=7)(hb:b.length=2)(hc:c.length=3):
  Calls prog 127 #[ia v,ia b,ia c] w0 λe w'=>∃p,e=.returned (.pointer (some ⟨p,0,none⟩))∧Inv [] w0 w' [yD p 208 (kF v b c) [false]]:=by
 have hI:=Inv.start w0;go_enter func127,ntmps127;go_wp2_with(first|refine YX ?_;intro bx w hI|refine YL ?_|with_reducible refine ER RF RF RF hv hb hc ?_|(with_reducible refine Kg hI RF ?_);intro bx w hI);go_ret;exact⟨_,rfl,hI.sub (.cons_cons _ (.cons _ (.cons _ (.cons _ .slnil))))⟩
section
variable (w0:World)(b:Nat)(e0:TypeId)(zs:List Int)(p:Bool)(hzl:zs.length=16)(hb:w0.heap[b]? =some (.cells (mix zs [p]).toArray e0 (0,0)))
include hzl hb
theorem MN:Calls prog 129 #[.pointer (some ⟨b,0,none⟩)] w0 λe w'=>e=.returned (.bool p)∧Step [b] w0 w'∧w'.heap[b]? =some (.cells (mix zs [p]).toArray e0 (0,0)):=by
 have hI:=Ag hb;have hs:gb [p] 0=p:=rfl;go_enter func129,ntmps129;go_wp2_with(with_reducible refine bV hI RF aC (by exact uZ) (by rw[hzl]) SI hs ?_);go_ret;exact⟨rfl,hI.end_,hI.mbk aC⟩
theorem P9:Calls prog 83 #[.pointer (some ⟨b,0,none⟩)] w0 λe w'=>e=.returned (ia (sub zs 9 3))∧Step [b] w0 w'∧w'.heap[b]? =some (.cells (mix zs [p]).toArray e0 (0,0)):=by
 have hI:=Ag hb;have hsl:(sub zs 9 3).length=3:=by rw[az];omega
 go_enter func83,ntmps83;go_wp2_with(first|refine YX ?_;intro bx w hI|with_reducible refine bL hI RF aM (by with_reducible exact DZ) OM ?_|refine YS ?_;intro w hI);exact bodyPost_ret (dY hI rfl rfl aC DZ hsl) rfl ⟨rfl,hI.end_,hI.mbk aM⟩
theorem P_:Calls prog 128 #[.pointer (some ⟨b,0,none⟩)] w0 λe w'=>e=.returned (ia (sub zs 7 2))∧Step [b] w0 w'∧w'.heap[b]? =some (.cells (mix zs [p]).toArray e0 (0,0)):=by
 have hI:=Ag hb;have hsl:(sub zs 7 2).length=2:=by rw[az];omega
 go_enter func128,ntmps128;go_wp2_with(first|refine YX ?_;intro bx w hI|with_reducible refine bL hI RF aM (by with_reducible exact iB) OM ?_|refine YS ?_;intro w hI);exact bodyPost_ret (dY hI rfl rfl aC iB hsl) rfl ⟨rfl,hI.end_,hI.mbk aM⟩
theorem Za(who bl had c)(alu:bl.length=2)(Zb:had.length=2)(hc3:c.length=3)(hno:p=true∨(p=false∧decide (bl=sub zs 7 2)=false)∨(p=false∧decide (bl=sub zs 7 2)=true∧aI (sub zs 0 7) who=false)):
  Calls prog 157 #[.pointer (some ⟨b,0,none⟩),.int .i64 who,ia bl,ia had,ia c] w0 λe w'=>e=.returned (.bool false)∧Step [b] w0 w'∧w'.heap[b]? =some (.cells (mix zs [p]).toArray e0 (0,0)):=by
 have hI:=Ag hb;have hvl:(sub zs 0 7).length=7:=by rw[az];omega
 have hb2:(sub zs 7 2).length=2:=by rw[az];omega
 rcases hno with rfl| ⟨rfl,hd⟩ | ⟨rfl,hd,hmem⟩
 ·have hs:gb [true] 0=true:=rfl
  go_enter func157,ntmps157;go_upto_region 1 with(refine YX ?_;intro bx w hI)
  (try simp only[QN])
  (refine aJ (C:=λw'=>Inv _ _ w' _) [] (λw'=>Inv _ _ w' _) hI.drew (λ_ h=>h) mixed KF ?_;clear hI;(repeat(first| ((with_reducible refine rq RF ?_);simp only[QN]) | ((with_reducible apply bu);rfl;rfl;(focus(intro w (hI:Inv _ _ w _);go_wp2_with(with_reducible refine bV hI RF nz (by exact uZ) (by rw[hzl]) SI hs ?_);(try simp only[QN]);exact⟨rfl,rfl,hI⟩));(exact⟨_,rfl⟩))));(refine bH ?_;intro w (hI:Inv _ _ w _)))
  exact W90
 ·have hs:gb [false] 0=false:=rfl
  go_enter func157,ntmps157;go_upto_region 1 with(refine YX ?_;intro bx w hI)
  (try simp only[QN])
  (refine aJ (C:=λw'=>Inv _ _ w' _) [] (λw'=>Inv _ _ w' _) hI.drew (λ_ h=>h) mixed KF ?_;clear hI;(repeat(first| ((with_reducible refine rq RF ?_);simp only[QN]) | ((with_reducible apply bu);rfl;rfl;(focus(intro w (hI:Inv _ _ w _);go_wp2_with(first|with_reducible refine bL hI RF nz (by with_reducible exact iB) OM ?_|with_reducible refine bV hI RF nz (by exact uZ) (by rw[hzl]) SI hs ?_|refine YL ?_);(try simp only[QN]);exact⟨rfl,rfl,hI⟩));(exact⟨_,rfl⟩)) | ((with_reducible apply dG);rfl;rfl;(focus(intro D w hD hE;have hI:Inv _ _ w _:=hE;(try simp only[xA]at hI);go_wp2_with(with_reducible refine kv RF RF (by with_reducible exact iB) (by with_reducible exact lW) OM UM ?_);(try simp only[QN]);exact⟨rfl,rfl,hD⟩));(exact⟨_,rfl⟩))));(refine bH ?_;intro w (hI:Inv _ _ w _)))
  exact W90
 ·have hs:gb [false] 0=false:=rfl
  have he:bl=sub zs 7 2:=of_decide_eq_true hd;subst he;replace hmem:=HD hmem;clear hd;go_enter func157,ntmps157;go_upto_region 1 with(refine YX ?_;intro bx w hI)
  (try simp only[QN])
  (refine aJ (C:=λw'=>Inv _ _ w' _) [] (λw'=>Inv _ _ w' _) hI.drew (λ_ h=>h) mixed KF ?_;clear hI;(repeat(first| ((with_reducible apply bu);rfl;rfl;(focus(intro w (hI:Inv _ _ w _);go_wp2_with(first|with_reducible refine bL hI RF nz (by first|with_reducible exact n_|with_reducible exact iB) OM ?_|with_reducible refine bV hI RF nz (by exact uZ) (by rw[hzl]) SI hs ?_|refine YL ?_|go_at_call 14;refine(fO _ (sub zs 0 7) _ hvl).mono ?_;rw[hmem.out];rintro e w1 ⟨rfl,hw1⟩;replace hI:=hI.call hw1;clear hw1);(try simp only[QN]);exact⟨rfl,rfl,hI⟩));(exact⟨_,rfl⟩)) | ((with_reducible apply dG);rfl;rfl;(focus(intro D w hD hE;have hI:Inv _ _ w _:=hE;(try simp only[xA]at hI);go_wp2_with(with_reducible refine jW RF RF (by with_reducible exact iB) (by with_reducible exact lW) UM ?_);(try simp only[QN]);exact⟨rfl,rfl,hD⟩));(exact⟨_,rfl⟩))));(refine bH ?_;intro w (hI:Inv _ _ w _)))
  exact W90
theorem Zc(who bl)(alu:bl.length=2)(hno:p=false∨(p=true∧decide (bl=sub zs 7 2)=false)∨(p=true∧decide (bl=sub zs 7 2)=true∧aI (sub zs 0 7) who=false)):
  Calls prog 158 #[.pointer (some ⟨b,0,none⟩),.int .i64 who,ia bl] w0 λe w'=>e=.returned (.bool false)∧Step [b] w0 w'∧w'.heap[b]? =some (.cells (mix zs [p]).toArray e0 (0,0)):=by
 have hI:=Ag hb;have hvl:(sub zs 0 7).length=7:=by rw[az];omega
 have hb2:(sub zs 7 2).length=2:=by rw[az];omega
 rcases hno with rfl| ⟨rfl,hd⟩ | ⟨rfl,hd,hmem⟩
 ·have hs:gb [false] 0=false:=rfl
  go_enter func158,ntmps158;go_upto_region 1 with(refine YX ?_;intro bx w hI)
  (try simp only[QN])
  (refine aJ (C:=λw'=>Inv _ _ w' _) [] (λw'=>Inv _ _ w' _) hI.drew (λ_ h=>h) mixed KF ?_;clear hI;(repeat(first| ((with_reducible refine rq RF ?_);simp only[QN]) | ((with_reducible apply bu);rfl;rfl;(focus(intro w (hI:Inv _ _ w _);go_wp2_with(with_reducible refine bV hI RF aM (by exact uZ) (by rw[hzl]) SI hs ?_);(try simp only[QN]);exact⟨rfl,rfl,hI⟩));(exact⟨_,rfl⟩))));(refine bH ?_;intro w (hI:Inv _ _ w _)))
  exact W91
 ·have hs:gb [true] 0=true:=rfl
  go_enter func158,ntmps158;go_upto_region 1 with(refine YX ?_;intro bx w hI)
  (try simp only[QN])
  (refine aJ (C:=λw'=>Inv _ _ w' _) [] (λw'=>Inv _ _ w' _) hI.drew (λ_ h=>h) mixed KF ?_;clear hI;(repeat(first| ((with_reducible refine rq RF ?_);simp only[QN]) | ((with_reducible apply bu);rfl;rfl;(focus(intro w (hI:Inv _ _ w _);go_wp2_with(first|with_reducible refine bL hI RF aM (by with_reducible exact iB) OM ?_|with_reducible refine bV hI RF aM (by exact uZ) (by rw[hzl]) SI hs ?_|refine YL ?_);(try simp only[QN]);exact⟨rfl,rfl,hI⟩));(exact⟨_,rfl⟩)) | ((with_reducible apply dG);rfl;rfl;(focus(intro D w hD hE;have hI:Inv _ _ w _:=hE;(try simp only[xA]at hI);go_wp2_with(with_reducible refine kv RF RF (by with_reducible exact iB) (by with_reducible exact lW) OM UM ?_);(try simp only[QN]);exact⟨rfl,rfl,hD⟩));(exact⟨_,rfl⟩))));(refine bH ?_;intro w (hI:Inv _ _ w _)))
  exact W91
 ·have hs:gb [true] 0=true:=rfl
  have he:bl=sub zs 7 2:=of_decide_eq_true hd;subst he;replace hmem:=HD hmem;clear hd;go_enter func158,ntmps158;go_upto_region 1 with(refine YX ?_;intro bx w hI)
  (try simp only[QN])
  (refine aJ (C:=λw'=>Inv _ _ w' _) [] (λw'=>Inv _ _ w' _) hI.drew (λ_ h=>h) mixed KF ?_;clear hI;(repeat(first| ((with_reducible apply bu);rfl;rfl;(focus(intro w (hI:Inv _ _ w _);go_wp2_with(first|with_reducible refine bL hI RF aM (by first|with_reducible exact n_|with_reducible exact iB) OM ?_|with_reducible refine bV hI RF aM (by exact uZ) (by rw[hzl]) SI hs ?_|refine YL ?_|go_at_call 14;refine(fO _ (sub zs 0 7) _ hvl).mono ?_;rw[hmem.out];rintro e w1 ⟨rfl,hw1⟩;replace hI:=hI.call hw1;clear hw1);(try simp only[QN]);exact⟨rfl,rfl,hI⟩));(exact⟨_,rfl⟩)) | ((with_reducible apply dG);rfl;rfl;(focus(intro D w hD hE;have hI:Inv _ _ w _:=hE;(try simp only[xA]at hI);go_wp2_with(with_reducible refine jW RF RF (by with_reducible exact iB) (by with_reducible exact lW) UM ?_);(try simp only[QN]);exact⟨rfl,rfl,hD⟩));(exact⟨_,rfl⟩))));(refine bH ?_;intro w (hI:Inv _ _ w _)))
  exact W91
end
def dC(zs:List Int)(i k:Nat):List Int:=zs.set i (bits BinOp.or IntKind.i64 (gi zs i) (2^k))
theorem Ai{k}(hk:k<5):wrap64 (2^k)=2^k:=by
 exact W92
theorem Vj(w0 b e0 zs)(hzl:zs.length=16)(hb:w0.heap[b]? =some (.cells (mix zs [true]).toArray e0 (0,0)))(k:Nat)(hk:k<5)(wT:aI (sub zs 0 7) k=true):
  Calls prog 158 #[.pointer (some ⟨b,0,none⟩),.int .i64 k,ia (sub zs 7 2)] w0 λe w'=>e=.returned (.bool (eB (gi (dC zs 15 k) 15) (gi (sub (dC zs 15 k) 0 7) 1)))∧Step [b] w0 w'∧w'.heap[b]? =some (.cells (mix (dC zs 15 k) [true]).toArray e0 (0,0)):=by
 have hI:=Ag hb;have hvl:(sub zs 0 7).length=7:=by rw[az];omega
 have hb2:(sub zs 7 2).length=2:=by rw[az];omega
 have hs:gb [true] 0=true:=rfl;have hmem:=HD wT;have hwr:=HD (Ai hk);have wL:(k:Int).toNat=k:=by simp
 have hsh:(k:Nat) <64:=by omega
 have hz0:dC zs 15 k=zs.set 15 (bits BinOp.or IntKind.i64 (gi zs 15) (2^k)):=rfl;replace hz0:=HD hz0;clear wT;go_enter func158,ntmps158;go_upto_region 1 with(refine YX ?_;intro bx w hI)
 (try simp only[QN])
 (refine aJ (C:=λw'=>Inv _ _ w' _) [] (λw'=>Inv _ _ w' _) hI.drew (λ_ h=>h) mixed KF ?_;clear hI;(repeat(first| ((with_reducible apply bu);rfl;rfl;(focus(intro w (hI:Inv _ _ w _);go_wp2_with(first|with_reducible refine bL hI RF aM (by first|with_reducible exact n_|with_reducible exact iB) OM ?_|with_reducible refine bV hI RF aM (by exact uZ) (by rw[hzl]) SI hs ?_|refine YL ?_|go_at_call 14;refine(fO _ (sub zs 0 7) _ hvl).mono ?_;rw[hmem.out];rintro e w1 ⟨rfl,hw1⟩;replace hI:=hI.call hw1;clear hw1);(try simp only[QN]);exact⟨rfl,rfl,hI⟩));(exact⟨_,rfl⟩)) | ((with_reducible apply dG);rfl;rfl;(focus(intro D w hD hE;have hI:Inv _ _ w _:=hE;(try simp only[xA]at hI);go_wp2_with(with_reducible refine jW RF RF (by with_reducible exact iB) (by with_reducible exact lW) UM ?_);(try simp only[QN]);exact⟨rfl,rfl,hD⟩));(exact⟨_,rfl⟩))));(refine bH ?_;intro w (hI:Inv _ _ w _)))
 go_upto_region 3 with fail
 (try simp only[QN])
 (obtain⟨mE,rF⟩:=iO hI;refine aJ (C:=λw'=>Inv _ _ w' _) [9] (λw'=>Inv _ _ w' (List.eraseIdx mE 1)) hI.drew (λw' h=>Inv.sub h (by subst rF;((try simp only[xA]);repeat(first|exact List.Sublist.slnil|with_reducible apply List.Sublist.cons_cons|apply List.Sublist.cons)))) mixed KF ?_;subst rF;clear hI;(repeat(first| ((with_reducible apply dL);rfl;rfl;rfl;(focus(intro w (hI:Inv _ _ w _);go_wp2_with((with_reducible refine l6 hI RF RF jo (by with_reducible exact pz) OM ?_);intro w hI);(try simp only[QN]);exact⟨rfl,rfl,hI⟩));(exact⟨undef,rfl⟩);(focus(intro w (hI:Inv _ _ w _);exact Inv.sub hI SB))) | ((with_reducible apply bu);rfl;rfl;(focus(intro w (hI:Inv _ _ w _);go_wp2_with(with_reducible refine gL hI RF aM (by with_reducible exact pz) OM ?_);(try simp only[QN]);exact⟨rfl,rfl,hI⟩));(exact⟨_,rfl⟩))));(refine bH ?_;intro w (hI:Inv _ _ w _)))
 rw[hwr.out,<-hz0.out]at hI;have MO:(dC zs 15 k).length=16:=by unfold dC;rw[List.length_set];exact hzl
 clear hzl hvl hb2 hmem hz0 hs;generalize hgz:dC zs 15 k=z2 at*;replace hgz:=HD hgz;have hzl:=MO;have hv2:(sub z2 0 7).length=7:=by rw[az];omega
 go_upto_region 4 with fail
 (try simp only[QN])
 (refine aJ (C:=λw'=>Inv _ _ w' _) [] (λw'=>Inv _ _ w' _) hI.drew (λ_ h=>h) mixed KF ?_;clear hI;(repeat((with_reducible apply bu);rfl;rfl;(focus(intro w (hI:Inv _ _ w _);go_wp2_with(first|with_reducible refine bL hI RF aM (by with_reducible exact n_) OM ?_|with_reducible refine gL hI RF aM (by with_reducible exact pz) OM ?_|go_at_call 181;refine KD hI (vB _ (sub z2 0 7) _ hv2) ?_;intro w1 hI);(try simp only[QN]);exact⟨rfl,rfl,hI⟩));(exact⟨_,rfl⟩)));(refine bH ?_;intro w (hI:Inv _ _ w _)))
 go_wp2_with fail;go_ret;rw[hgz.out];exact⟨rfl,hI.end_,hI.mbk aM⟩
theorem Vk(w0 b e0 zs)(hzl:zs.length=16)(hb:w0.heap[b]? =some (.cells (mix zs [false]).toArray e0 (0,0)))(k:Nat)(hk:k<5)(wT:aI (sub zs 0 7) k=true)(had c)(Zb:had.length=2)(hc3:c.length=3)(hh:gi had 0<=0):
  Calls prog 157 #[.pointer (some ⟨b,0,none⟩),.int .i64 k,ia (sub zs 7 2),ia had,ia c] w0 λe w'=>e=.returned (.bool (eB (gi (dC zs 14 k) 14) (gi (sub (dC zs 14 k) 0 7) 1)))∧Step [b] w0 w'∧w'.heap[b]? =some (.cells (mix (dC zs 14 k) [eB (gi (dC zs 14 k) 14) (gi (sub (dC zs 14 k) 0 7) 1)]).toArray e0 (0,0)):=by
 have hI:=Ag hb;have hvl:(sub zs 0 7).length=7:=by rw[az];omega
 have hb2:(sub zs 7 2).length=2:=by rw[az];omega
 have hs:gb [false] 0=false:=rfl;have hmem:=HD wT;have hwr:=HD (Ai hk);have wL:(k:Int).toNat=k:=by simp
 have hsh:(k:Nat) <64:=by omega
 have hh0:decide (0<gi had 0)=false:=by simp;omega
 have hz0:dC zs 14 k=zs.set 14 (bits BinOp.or IntKind.i64 (gi zs 14) (2^k)):=rfl;replace hz0:=HD hz0;clear wT hh;go_enter func157,ntmps157;go_upto_region 1 with(refine YX ?_;intro bx w hI)
 (try simp only[QN])
 (refine aJ (C:=λw'=>Inv _ _ w' _) [] (λw'=>Inv _ _ w' _) hI.drew (λ_ h=>h) mixed KF ?_;clear hI;(repeat(first| ((with_reducible apply bu);rfl;rfl;(focus(intro w (hI:Inv _ _ w _);go_wp2_with(first|with_reducible refine bL hI RF nz (by first|with_reducible exact n_|with_reducible exact iB) OM ?_|with_reducible refine bV hI RF nz (by exact uZ) (by rw[hzl]) SI hs ?_|refine YL ?_|go_at_call 14;refine(fO _ (sub zs 0 7) _ hvl).mono ?_;rw[hmem.out];rintro e w1 ⟨rfl,hw1⟩;replace hI:=hI.call hw1;clear hw1);(try simp only[QN]);exact⟨rfl,rfl,hI⟩));(exact⟨_,rfl⟩)) | ((with_reducible apply dG);rfl;rfl;(focus(intro D w hD hE;have hI:Inv _ _ w _:=hE;(try simp only[xA]at hI);go_wp2_with(with_reducible refine jW RF RF (by with_reducible exact iB) (by with_reducible exact lW) UM ?_);(try simp only[QN]);exact⟨rfl,rfl,hD⟩));(exact⟨_,rfl⟩))));(refine bH ?_;intro w (hI:Inv _ _ w _)))
 go_upto_region 3 with fail
 (try simp only[QN])
 (obtain⟨mE,rF⟩:=iO hI;refine aJ (C:=λw'=>Inv _ _ w' _) [9] (λw'=>Inv _ _ w' (List.eraseIdx mE 3)) hI.drew (λw' h=>Inv.sub h (by subst rF;((try simp only[xA]);repeat(first|exact List.Sublist.slnil|with_reducible apply List.Sublist.cons_cons|apply List.Sublist.cons)))) mixed KF ?_;subst rF;clear hI;(repeat(first| ((with_reducible apply dL);rfl;rfl;rfl;(focus(intro w (hI:Inv _ _ w _);go_wp2_with((with_reducible refine l6 hI RF RF WQ (by with_reducible exact pz) OM ?_);intro w hI);(try simp only[QN]);exact⟨rfl,rfl,hI⟩));(exact⟨undef,rfl⟩);(focus(intro w (hI:Inv _ _ w _);exact Inv.sub hI SB))) | ((with_reducible apply bu);rfl;rfl;(focus(intro w (hI:Inv _ _ w _);go_wp2_with(with_reducible refine gL hI RF nz (by with_reducible exact pz) OM ?_);(try simp only[QN]);exact⟨rfl,rfl,hI⟩));(exact⟨_,rfl⟩))));(refine bH ?_;intro w (hI:Inv _ _ w _)))
 rw[hwr.out,<-hz0.out]at hI;have MO:(dC zs 14 k).length=16:=by unfold dC;rw[List.length_set];exact hzl
 clear hzl hvl hb2 hmem hz0 hs;generalize hgz:dC zs 14 k=z2 at*;replace hgz:=HD hgz;have hzl:=MO;have hv2:(sub z2 0 7).length=7:=by rw[az];omega
 go_upto_region 4 with fail
 (try simp only[QN])
 (refine aJ (C:=λw'=>Inv _ _ w' _) [] (λw'=>Inv _ _ w' _) hI.drew (λ_ h=>h) mixed KF ?_;clear hI;(repeat(first| ((with_reducible refine rq RF ?_);simp only[QN]) | ((with_reducible apply bu);rfl;rfl;(focus(intro w (hI:Inv _ _ w _);go_wp2_with(refine YL ?_);(try simp only[QN]);exact⟨rfl,rfl,hI⟩));(exact⟨_,rfl⟩))));(refine bH ?_;intro w (hI:Inv _ _ w _)))
 go_upto_region 6 with fail
 (try simp only[QN])
 (obtain⟨mE,rF⟩:=iO hI;refine aJ (C:=λw'=>Inv _ _ w' _) [12] (λw'=>Inv _ _ w' (List.eraseIdx mE 3)) hI.drew (λw' h=>Inv.sub h (by subst rF;((try simp only[xA]);repeat(first|exact List.Sublist.slnil|with_reducible apply List.Sublist.cons_cons|apply List.Sublist.cons)))) mixed KF ?_;subst rF;clear hI;(repeat(first| ((with_reducible apply dL);rfl;rfl;rfl;(focus(intro w (hI:Inv _ _ w _);go_wp2_with((with_reducible refine qF (j:=0) hI RF RF (by rw[hzl]) WQ (by exact uZ) SI ?_);intro w hI);(try simp only[QN]);exact⟨rfl,rfl,hI⟩));(exact⟨undef,rfl⟩);(focus(intro w (hI:Inv _ _ w _);exact Inv.sub hI SB))) | ((with_reducible apply bu);rfl;rfl;(focus(intro w (hI:Inv _ _ w _);go_wp2_with(first|with_reducible refine bL hI RF nz (by with_reducible exact n_) OM ?_|with_reducible refine gL hI RF nz (by with_reducible exact pz) OM ?_|go_at_call 181;refine KD hI (vB _ (sub z2 0 7) _ hv2) ?_;intro w1 hI);(try simp only[QN]);exact⟨rfl,rfl,hI⟩));(exact⟨_,rfl⟩))));(refine bH ?_;intro w (hI:Inv _ _ w _)))
 exact W50
end B
section
open B (aI aL)
def okH(v:List Int)(i:Nat):Bool:=gi v (2+i)==0|| (aI v (gi v (2+i) -1)&& !aI v i)
def zH(v:List Int)(j:Nat):Bool:=(List.range j).all (okH v)
def Fx(v:List Int):Bool:=decide (1<=gi v 0)&&decide (1<=gi v 1)&&decide (gi v 1<32)
def ll(v:List Int):Bool:=Fx v&&zH v 5
theorem M_(v j):zH v (j+1)=(zH v j&&okH v j):=by grind[zH]
theorem ZH{v j}(hj:j<5)(h:okH v j=false):zH v 5=false:=by
 grind[zH]
theorem Al(w0 v who b)(hv:v.length=7)(hb:aI v who=b):Calls prog 14 #[ia v,.int .i64 who] w0 λe w'=>e=.returned (.bool b)∧Below w0.heap.size w0 w':=by
 grind[B.fO]
theorem iC(w0 v)(hv:v.length=7)(hw:∀i,-9223372036854775808<gi v i∧gi v i<=9223372036854775807):
  Calls prog 142 #[ia v] w0 λe w'=>e=.returned (.bool (ll v))∧Below w0.heap.size w0 w':=by
 have hI:=Inv.start w0;cases h1:decide (gi v 0<1)
 ·cases h2:decide (gi v 1<1)
  ·cases h3:decide (32<=gi v 1)
   ·have hh:Hid (Fx v=true):=HD (by simp at h1 h2 h3;simp[Fx];omega)
    go_enter func142,ntmps142;go_upto_region 4 with(first|with_reducible refine YL ?_|(with_reducible refine YX ?_);intro bx w hI)
    go_loopg [3,4,20] 5 (λkk s3 s4 s20 wr=>∃j:Nat,kk=5-j∧j<=5∧s20=.int .i64 j∧Hid (zH v j=true)∧Inv [] w0 wr [ib bx 30 v])
    case atStart=>exact⟨0,by omega,by omega,rfl,HD rfl,hI⟩
    case round=>
     clear hI h1 h2 h3;obtain⟨j,rfl,hj,rfl,hto,hI⟩:=hrel;by_cases hlj:j<5
     ·have hsl:(sub v 2 5).length=5:=by rw[az];omega
      obtain⟨x,hx⟩:=EH (gi v (2+j));have hx5:Hid (gi (sub v 2 5) j=x):=HD (by rw[gy v 2 5 j hlj];exact hx.out);have hxr:-9223372036854775808<x∧x<=9223372036854775807:=by rw[<-hx.out];exact hw _
      clear hw;cases h0:(x != 0)
      ·have hnx:Hid (zH v (j+1)=true):=HD (by rw[M_,hto.out,okH,hx.out];simp at h0;simp[h0])
       go_wp2_with(first|rw[hx5.out]|with_reducible refine YL ?_);go_roundg (5- (j+1))
       case measure=>omega
       case rel=>exact⟨j+1,by omega,by omega,by go_num,hnx,hI⟩
      ·cases hm1:aI v (x-1)
       ·have hnx:Hid (ll v=false):=HD (by rw[ll,ZH hlj (by rw[okH,hx.out,hm1];simpa using h0)];simp)
        replace hm1:=HD hm1;go_wp2_with(first|rw[hx5.out]|go_at_call 14;refine KD hI (Al _ v _ _ hv hm1.out) ?_;intro w1 hI|with_reducible refine YL ?_);go_ret;exact⟨by rw[hnx.out];rfl,hI.below⟩
       ·cases hm2:aI v j
        ·have hnx:Hid (zH v (j+1)=true):=HD (by rw[M_,hto.out,okH,hx.out,hm1,hm2];simp)
         replace hm1:=HD hm1;replace hm2:=HD hm2;go_wp2_with(first|rw[hx5.out]|go_at_call 14;refine KD hI (Al _ v _ _ hv hm1.out) ?_;intro w1 hI|go_at_call 14;refine KD hI (Al _ v _ _ hv hm2.out) ?_;intro w1 hI|with_reducible refine YL ?_);go_roundg (5- (j+1))
         case measure=>omega
         case rel=>exact⟨j+1,by omega,by omega,by go_num,hnx,hI⟩
        ·have hnx:Hid (ll v=false):=HD (by rw[ll,ZH hlj (by rw[okH,hx.out,hm2];simpa using h0)];simp)
         replace hm1:=HD hm1;replace hm2:=HD hm2;go_wp2_with(first|rw[hx5.out]|go_at_call 14;refine KD hI (Al _ v _ _ hv hm1.out) ?_;intro w1 hI|go_at_call 14;refine KD hI (Al _ v _ _ hv hm2.out) ?_;intro w1 hI|with_reducible refine YL ?_);go_ret;exact⟨by rw[hnx.out];rfl,hI.below⟩
     ·obtain rfl:j=5:=by omega
      have hf:Hid (ll v=true):=HD (by rw[ll,hh.out,hto.out];rfl);go_wp2_with fail;go_ret;exact⟨by rw[hf.out];rfl,hI.below⟩
   ·have hf:Hid (ll v=false):=HD (by simp at h3;simp[ll,Fx];omega)
    exact W45
  ·have hf:Hid (ll v=false):=HD (by simp at h2;simp[ll,Fx];omega)
   exact W45
 ·have hf:Hid (ll v=false):=HD (by simp at h1;simp[ll,Fx];omega)
  exact W45
theorem Fy(w0 v' v)(h:v'=v)(hv:v.length=7)(hw:∀i,-9223372036854775808<gi v i∧gi v i<=9223372036854775807):
  Calls prog 142 #[ia v'] w0 λe w'=>e=.returned (.bool (ll v))∧Below w0.heap.size w0 w':=by
 grind[iC]
def Qn(who:Int):List Int:=[(who+1) %5,(who+2) %5]
theorem adz(w0 who)(hm:aL who=true):Calls prog 121 #[.int .i64 who] w0 λe w'=>∃a c,e=.returned (.slice a 2 c)∧
  Inv [] w0 w' [bD 3 1 (.slice a 2 c) 2 ((Qn who).map (Value.int .i64))]:=by
 have hI:=(Inv.start w0).BZ 3 1;obtain⟨h0,h5⟩:=B.dV hm;go_enter func121,ntmps121;go_upto_region 5 with(go_at_call 34;refine KR (B.eT _ _) ?_)
 go_loopg [3,4] 2 (λkk s3 s4 wr=>∃(j:Nat) (a:Option Addr) (c:Nat),kk=2-j∧j<=2∧s4=.int .i64 ((j:Int)+1)∧s3=.slice a j c∧Inv [] w0 wr [bD 3 1 (.slice a j c) j (((Qn who).take j).map (Value.int .i64))])
 case atStart=>exact⟨0,none,0,by omega,by omega,rfl,rfl,hI⟩
 case round=>
  clear hI;obtain⟨j,a,c,rfl,hj,rfl,rfl,hI⟩:=hrel;by_cases hlj:j<2
  ·have hmod:Hid ((who+((j:Int)+1)).tmod 5=(who+((j:Int)+1)) %5):=HD (Int.tmod_eq_emod_of_nonneg OM)
   have hnx:Hid (((Qn who).take (j+1)).map (Value.int .i64)=((Qn who).take j).map (Value.int .i64)++[Value.int .i64 ((who+((j:Int)+1)) %5)]):=HD (by
    match j,hlj with
    |0,_=>simp[Qn]
    |1,_=>simp[Qn])
   go_wp2_with(first|(with_reducible refine Pb hI (k:=?_);intro b2 w hI)|(with_reducible refine aA (q:=1) hI RF RF (uQ.out (t:=74)) (by intro r';exact aU.there aU.here) (hI.rd aC) RF (by simp[Value.oneCell']) MX OM ?_;intro a2 c2 w hI));go_roundg (2- (j+1))
   case measure=>omega
   case rel=>exact⟨j+1,a2,c2,by omega,by omega,by go_num,rfl,by rw[hnx.out];exact hI.sub SB⟩
  ·obtain rfl:j=2:=by omega
   go_wp2_with fail;go_ret;exact⟨a,c,rfl,hI⟩
end
