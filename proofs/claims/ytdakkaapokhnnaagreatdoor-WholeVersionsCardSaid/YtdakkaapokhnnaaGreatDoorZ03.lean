/- Contracts of functions. No condition. -/
import Derived.Test.YtdakkaapokhnnaaGreatDoorZ02
namespace Go.Proofs.YtdakkaapokhnnaaGreatDoor
open Go.RowKit Go.Proofs.Tryz
set_option maxRecDepth 100000
set_option maxHeartbeats 6400000
set_option linter.all false
theorem Eh(n):bits .and .i64 n 1=n%2:=by
 show IntKind.i64.wrap (((BitVec.ofInt 64 n &&& BitVec.ofInt 64 1).toNat:Nat):Int)=_;exact W96
def bt(x:Int)(i:Nat):Bool:=x/2^i%2==1
theorem Pt(x i)(hi:i<5):(BitVec.ofInt 64 x).getLsbD i=bt x i:=by
 rw[BitVec.getLsbD,Nat.testBit_eq_decide_div_mod_eq,BitVec.toNat_ofInt];unfold bt;have:i=0∨i=1∨i=2∨i=3∨i=4:=by omega
 grind
theorem Bh(x y i)(hi:i<5):bt (bits .and .i64 x y) i=(bt x i&&bt y i):=by
 rw[<-Pt x i hi,<-Pt y i hi,<-BitVec.getLsbD_and,<-Pt _ i hi];have h:BitVec.ofInt 64 (bits .and .i64 x y)=(BitVec.ofInt 64 x &&& BitVec.ofInt 64 y):=by
  apply BitVec.eq_of_toNat_eq;show(BitVec.ofInt 64 (IntKind.i64.wrap (((BitVec.ofInt 64 x &&& BitVec.ofInt 64 y).toNat:Nat):Int))).toNat=_;generalize BitVec.ofInt 64 x &&& BitVec.ofInt 64 y=r;simp[IntKind.wrap,IntKind.bits,IntKind.signed];omega
 rw[h]
namespace B
def ic(n:Int):Bool:=decide (0<=n)&&decide (n<=1099511627776)
theorem iC(w n):Calls prog 161 #[.int .i64 n] w λe w'=>e=.returned (.bool (ic n))∧w'=w:=by
 exact W58
theorem Ei{n}(h:ic n=true):0<=n∧n<=1099511627776:=by grind[B.ic]
def qK(s:Int):List Int->Int×Int
 | []=>(s,0)
 |z::zs=>if ic z=true then(if 1099511627776-s<z then(0,6)else qK (s+z) zs)else(0,5)
def su(zs:List Int):Int×Int:=qK 0 zs
theorem Sm(w a c zs)(hr:Rd w a (zs.map iv))(hl:zs.length<=140737488351232):
  Calls prog 162 #[.slice a zs.length c] w λe w'=>e=.returned (.tuple #[.int .i64 (su zs).1,.int .i64 (su zs).2])∧w'=w:=by
 go_enter func162,ntmps162
 go_wp2
 go_loop [4,9] (λs i=>∃(j:Nat) (x:Int),j<=zs.length∧i=.int .i64 j∧s=.int .i64 x∧0<=x∧x<=1099511627776∧su zs=qK x (zs.drop j)) (λ_ i=>zs.length- (intOf i).toNat)
 case atStart=>exact⟨0,0,by omega,rfl,rfl,by omega,by omega,rfl⟩
 case round=>
  obtain⟨j,x,hj,rfl,rfl,h0,h1,hx⟩:=hrel;by_cases hlj:j<zs.length
  ·obtain⟨b,off,rfl,hc⟩:=hr j (iv zs[j]) (by simp[hlj])
   rw[List.drop_eq_getElem_cons hlj]at hx;generalize zs[j]=z at*;simp only[iv]at hc;simp only[qK]at hx;have HX:=HD hx;clear hx hr;cases hz:ic z
   ·have XM:Hid (su zs=(0,5)):=by have:=HX.out;rw[hz]at this;exact this
    clear HX;go_wp2_with(go_at_call 161;refine KR (iC _ _) ?_)
    go_ret2
    exact⟨by rw[XM.out];rfl,rfl⟩
   ·have h2:=Ei hz
    by_cases hgt:1099511627776-x<z
    ·have XM:Hid (su zs=(0,6)):=by have:=HX.out;rw[hz,if_pos rfl,if_pos hgt]at this;exact this
     clear HX;go_wp2_with(go_at_call 161;refine KR (iC _ _) ?_)
     go_ret2
     exact⟨by rw[XM.out];rfl,rfl⟩
    ·have XM:Hid (su zs=qK (x+z) (zs.drop (j+1))):=by have:=HX.out;rw[hz,if_pos rfl,if_neg hgt]at this;exact this
     clear HX;go_wp2_with(go_at_call 161;refine KR (iC _ _) ?_)
     go_round
     case rel=>exact⟨j+1,x+z,by omega,by go_num,by go_num,by omega,by omega,XM.out⟩
     case measure=>simp[intOf];omega
  ·obtain rfl:j=zs.length:=by omega
   have HX:Hid (su zs=(x,0)):=HD (by rw[hx];simp[qK]);clear hx
   go_wp2
   go_ret2
   exact⟨by rw[HX.out];rfl,rfl⟩
theorem Ej:wy prog 74 3 1 8 (.int .i64 0):=⟨by kernel_rfl,by kernel_rfl,by kernel_rfl,by decide⟩
def fA(x:Int)(j:Nat):List Int:=((List.range j).filter (bt x)).map (λ(i:Nat)=>(i:Int))
theorem Em(x j):fA x (j+1)=fA x j++(if bt x j=true then [(j:Int)]else []):=by
 grind[B.fA,List.range_succ]
theorem Bi(x j):(fA x j).length<=j:=by
 grind[B.fA]
theorem En(x j):(bits BinOp.and IntKind.i64 (x/2^j) 1==1)=bt x j:=by
 rw[Eh];rfl
theorem JX(w0 x):Calls prog 55 #[.int .i64 x] w0 λe w'=>
  ∃a c,e=.returned (.slice a (fA x 5).length c)∧Inv [] w0 w' [bD 3 1 (.slice a (fA x 5).length c) (fA x 5).length ((fA x 5).map (Value.int .i64))]:=by
 have hI:=(Inv.start w0).BZ 3 1;go_enter func55,ntmps55
 go_wp2
 go_loopg [3,5] 5 (λk s i wr=>∃(j:Nat) (a:Option Addr) (c:Nat),k=5-j∧j<=5∧i=.int .i64 j∧s=.slice a (fA x j).length c∧Inv [] w0 wr [bD 3 1 (.slice a (fA x j).length c) (fA x j).length ((fA x j).map (Value.int .i64))])
 case atStart=>exact⟨0,none,0,rfl,by omega,rfl,by simp[fA],by simpa[fA]using hI⟩
 case round=>
  clear hI;obtain⟨j,a,c,rfl,hj,rfl,rfl,hI⟩:=hrel;by_cases hlj:j<5
  ·have hlen:=Bi x j
   have hs:=Em x j;have hbt:=En x j;cases hb:bt x j
   ·rw[hb]at hbt hs
    simp only[Bool.false_eq_true,if_false,List.append_nil]at hs;have hs2:=HD hs;clear hs hb
    go_wp2
    go_roundg (5- (j+1))
    case measure=>omega
    case rel=>exact⟨j+1,a,c,rfl,by omega,by go_num,by rw[hs2.out],by rw[hs2.out];exact hI⟩
   ·rw[hb]at hbt hs
    simp only[if_true]at hs;have hs2:=HD hs;clear hs hb;go_wp2_with(first|(with_reducible refine rz hI Ej RF ?_;intro _ w hI)|(with_reducible refine aA hI RF RF Ej (by intro r';exact aU.there aU.here) (hI.rd aC) RF (by simp[Value.oneCell']) MX OM ?_;intro a' c' w hI));go_roundg (5- (j+1))
    case measure=>omega
    case rel=>
     have e:(fA x (j+1)).length=(fA x j).length+1:=by rw[hs2.out];simp
     refine⟨j+1,a',c',rfl,by omega,by go_num,by rw[e],?_⟩;rw[e,hs2.out,List.map_append];exact hI.tl
  ·obtain rfl:j=5:=by omega
   go_wp2
   go_ret;exact⟨a,c,rfl,hI⟩
end B
namespace B
def eB(p q:Int):Bool:=decide ((fA q 5).length <2*(fA (bits BinOp.and IntKind.i64 p q) 5).length)
theorem XN(w0 p q):Calls prog 189 #[.int .i64 p,.int .i64 q] w0 λe w'=>e=.returned (.bool (eB p q))∧Below w0.heap.size w0 w':=by
 have hI:=Inv.start w0;have h1:=Bi q 5;have h2:=Bi (bits BinOp.and IntKind.i64 p q) 5;have hm:Hid (decide ((((fA q 5).length:Nat):Int) <2*(((fA (bits BinOp.and IntKind.i64 p q) 5).length:Nat):Int))=eB p q):=HD (by
  unfold eB;rw[Bool.eq_iff_iff];simp only[decide_eq_true_eq];omega)
 go_enter func189,ntmps189;go_wp2_with(go_at_call 55;refine(JX _ _).mono ?_;rintro e w1 ⟨a1,c1,rfl,hJ⟩;replace hI:=hI.seq hJ;clear hJ);go_ret;exact⟨fD hm.out,hI.below⟩
theorem Cb(x):(fA x 5).length=(bt x 0).toNat+(bt x 1).toNat+(bt x 2).toNat+(bt x 3).toNat+(bt x 4).toNat:=by
 simp only[Em,List.length_append]
 grind[B.fA]
theorem XO(a b q):(a&&q).toNat+(b&&q).toNat<=q.toNat+((a&&b)&&q).toNat:=by cases a<;>cases b<;>cases q<;>decide
theorem Pv(a b q)(h1:eB a q=true)(h2:eB b q=true):(fA (bits BinOp.and IntKind.i64 (bits BinOp.and IntKind.i64 a b) q) 5).length≠0:=by
 simp only[eB,decide_eq_true_eq,Cb,Bh _ _ 0 DC,Bh _ _ 1 DC,Bh _ _ 2 DC,Bh _ _ 3 DC,Bh _ _ 4 DC]at*;have e0:=XO (bt a 0) (bt b 0) (bt q 0);have e1:=XO (bt a 1) (bt b 1) (bt q 1);have e2:=XO (bt a 2) (bt b 2) (bt q 2);have e3:=XO (bt a 3) (bt b 3) (bt q 3);have e4:=XO (bt a 4) (bt b 4) (bt q 4);omega
end B
namespace C
def ic(n:Int):Bool:=decide (0<=n)&&decide (n<=1099511627776)
theorem Ei{n}(h:ic n=true):0<=n∧n<=1099511627776:=by grind[C.ic]
theorem iC(w n):Calls prog 161 #[.int .i64 n] w λe w'=>e=.returned (.bool (ic n))∧w'=w:=by
 exact W58
def aL(n:Int):Bool:=decide (0<=n)&&decide (n<5)
theorem dV{n}(h:aL n=true):0<=n∧n<5:=by grind[C.aL]
theorem eT(w n):Calls prog 132 #[.int .i64 n] w λe w'=>e=.returned (.bool (aL n))∧w'=w:=by
 by_cases h:0<=n
 ·go_enter func132,ntmps132
  exact W75
 ·go_enter func132,ntmps132
  exact W56
def oq(key n:Int):Bool:=decide (0<=key∧key<4∧1<=n∧n<=1099511627776)
theorem wQ{key n}(h:oq key n=true):0<=key∧key<4∧1<=n∧n<=1099511627776:=by grind[C.oq]
theorem nO(w key n):Calls prog 144 #[.int .i64 key,.int .i64 n] w λe w'=>e=.returned (.bool (oq key n))∧w'=w:=by
 by_cases h0:0<=key
 ·by_cases h1:key<4
  ·by_cases h2:1<=n
   ·have hr:Hid (ic n=oq key n):=HD (by simp[ic,oq,h0,h1,h2];omega)
    go_enter func144,ntmps144;go_wp2_with(go_at_call 161;refine KR (iC _ _) ?_);go_ret;exact⟨fD hr.out,rfl⟩
   ·exact W52
  ·exact W52
 ·exact W52
theorem bdn(w n):Below w.heap.size w (w.drewN n):=⟨rfl,rfl,rfl,Nat.le_refl _,λ_ _=>rfl⟩
theorem MB(w b off v)(hc:w.cell? ⟨b,off,none⟩=some (.int .i64 v)):Calls prog 146 #[.pointer (some ⟨b,off,none⟩)] w λe w'=>e=.returned (.tuple #[.int .i64 v,.pointer (some ⟨b,off,none⟩)])∧Below w.heap.size w w':=by
 have hd:w.drew.cell? ⟨b,off,none⟩=some (.int .i64 v):=hc;go_enter func146,ntmps146;exact ai8
theorem MC(w b off v)(hc:w.cell? ⟨b,off+1,none⟩=some (.int .i64 v)):Calls prog 147 #[.pointer (some ⟨b,off,none⟩)] w λe w'=>e=.returned (.tuple #[.int .i64 v,.pointer (some ⟨b,off+1,none⟩)])∧Below w.heap.size w w':=by
 have hd:w.drew.cell? ⟨b,off+1,none⟩=some (.int .i64 v):=hc;go_enter func147,ntmps147;exact ai8
theorem sO{T w0 w m b e zs i}(hI:Inv T w0 w m)(hm:ib b e zs∈m)(hi:i<zs.length):w.cell? ⟨b,i,none⟩=some (.int .i64 (gi zs i)):=by
 rw[qd (hI.blk hm)];simp[hi,gi]
def iw(x:List Int)(i:Nat)(n:Int):List Int:=(x.set i (gi x i+n)).set 0 (gi x 0+1)
theorem PU(w0 x key n)(hx:x.length=174)(hk:0<=key∧key<4)(hn:1<=n∧n<=1099511627776)(hgt:1099511627776-n<gi x (1+key.toNat*7)):
  Calls prog 145 #[ia x,.int .i64 key,.int .i64 n,.func (.func 146) #[] #[]] w0 λe w'=>e=.returned (.tuple #[ia (au 174),.int .i64 6])∧Below w0.heap.size w0 w':=by
 have hI:=Inv.start w0;obtain⟨hk0,hk1⟩:=hk;go_enter func145,ntmps145;go_wp2_with(first|refine YS ?_;intro w hI|refine YX ?_;intro bx w hI|refine YL ?_|go_at_call 146;refine KD hI (MB _ _ _ (gi x (1+key.toNat*7)) (sO hI aM OM)) ?_;intro w1 hI);exact XF
theorem PW(w0 x key n)(hx:x.length=174)(hk:0<=key∧key<4)(hn:1<=n∧n<=1099511627776)(hgt:1099511627776-n<gi x (1+key.toNat*7+1)):
  Calls prog 145 #[ia x,.int .i64 key,.int .i64 n,.func (.func 147) #[] #[]] w0 λe w'=>e=.returned (.tuple #[ia (au 174),.int .i64 6])∧Below w0.heap.size w0 w':=by
 have hI:=Inv.start w0;obtain⟨hk0,hk1⟩:=hk;go_enter func145,ntmps145;go_wp2_with(first|refine YS ?_;intro w hI|refine YX ?_;intro bx w hI|refine YL ?_|go_at_call 147;refine KD hI (MC _ _ _ (gi x (1+key.toNat*7+1)) (sO hI aM OM)) ?_;intro w1 hI);exact XF
def ui(x:List Int)(i:Nat)(key n:Int):List Int×Int:=if oq key n=true then(if 1099511627776-n<gi x i then(au 174,6)else(iw x i n,0))else(au 174,5)
def Wf(x:List Int):Prop:=∀i,-9223372036854775808<=gi x i∧gi x i<=9223372036854775807
theorem lD(x i key n)(hx:x.length=174):(ui x i key n).1.length=174:=by
 grind[C.ui,ag,C.iw]
end C
namespace C
theorem zY:(prog.info? 4).map (·.zero)=some (some (.bool false)):=by kernel_rfl
def qK(s:Int):List Int->Int×Int
 | []=>(s,0)
 |z::zs=>if ic z=true then(if 1099511627776-s<z then(0,6)else qK (s+z) zs)else(0,5)
def su(zs:List Int):Int×Int:=qK 0 zs
theorem Sm(w a c zs)(hr:Rd w a (zs.map (Value.int .i64)))(hl:zs.length<=140737488351232):
  Calls prog 162 #[.slice a zs.length c] w λe w'=>e=.returned (.tuple #[.int .i64 (su zs).1,.int .i64 (su zs).2])∧w'=w:=by
 go_enter func162,ntmps162
 go_wp2
 go_loop [4,9] (λs i=>∃(j:Nat) (x:Int),j<=zs.length∧i=.int .i64 j∧s=.int .i64 x∧0<=x∧x<=1099511627776∧su zs=qK x (zs.drop j)) (λ_ i=>zs.length- (intOf i).toNat)
 case atStart=>exact⟨0,0,by omega,rfl,rfl,by omega,by omega,rfl⟩
 case round=>
  obtain⟨j,x,hj,rfl,rfl,h0,h1,hx⟩:=hrel;by_cases hlj:j<zs.length
  ·obtain⟨b,off,rfl,hc⟩:=hr j (.int .i64 zs[j]) (by simp[hlj])
   rw[List.drop_eq_getElem_cons hlj]at hx;generalize zs[j]=z at*;simp only[qK]at hx;have HX:=HD hx;clear hx hr;cases hz:ic z
   ·have XM:Hid (su zs=(0,5)):=by have:=HX.out;rw[hz]at this;exact this
    clear HX;go_wp2_with(go_at_call 161;refine KR (iC _ _) ?_)
    go_ret2
    exact⟨by rw[XM.out];rfl,rfl⟩
   ·have h2:=Ei hz
    by_cases hgt:1099511627776-x<z
    ·have XM:Hid (su zs=(0,6)):=by have:=HX.out;rw[hz,if_pos rfl,if_pos hgt]at this;exact this
     clear HX;go_wp2_with(go_at_call 161;refine KR (iC _ _) ?_)
     go_ret2
     exact⟨by rw[XM.out];rfl,rfl⟩
    ·have XM:Hid (su zs=qK (x+z) (zs.drop (j+1))):=by have:=HX.out;rw[hz,if_pos rfl,if_neg hgt]at this;exact this
     clear HX;go_wp2_with(go_at_call 161;refine KR (iC _ _) ?_)
     go_round
     case rel=>exact⟨j+1,x+z,by omega,by go_num,by go_num,by omega,by omega,XM.out⟩
     case measure=>simp[intOf];omega
  ·obtain rfl:j=zs.length:=by omega
   have HX:Hid (su zs=(x,0)):=HD (by rw[hx];simp[qK]);clear hx
   go_wp2
   go_ret2
   exact⟨by rw[HX.out];rfl,rfl⟩
def stepG(p:Bool×Int)(g:Int):Bool×Int:=if p.1=true∧0<=g∧g<=1099511627776 then(true,p.2+g)else(false,p.2)
def ioB(c:List Int):Bool:=decide (0<=gi c 0∧gi c 0<=1099511627776∧0<=gi c 1∧gi c 1<=1099511627776)
def ags(k:Bool)(c:List Int):Bool:=((sub c 2 5).foldl stepG (k&&ioB c,0)).1&&decide (((sub c 2 5).foldl stepG (k&&ioB c,0)).2<=1099511627776)
def uA(c:List Int):Bool:=ags true c
theorem wR(s)(gs:List Int):gs.foldl stepG (false,s)=(false,s):=by
 induction gs with
 |nil=>rfl
 |cons g gs ih=>grind[C.stepG]
end C
namespace C
def EL(f:Nat->Bool)(n:Nat):Bool:=(List.range n).all f
theorem Ii(f n):EL f (n+1)=(EL f n&&f n):=by
 grind[C.EL]
theorem jZ(f n):EL f n=true↔∀i,i<n->f i=true:=by simp[EL]
def cellAt(cs:List Int)(i:Nat):List Int:=sub cs (i*7) 7
def cellsOf(x:List Int):List Int:=sub x 1 28
def leftOf(x:List Int)(i:Nat):List Int:=sub (sub x 34 140) (i*28) 28
def nG(cs:List Int):Bool:=EL (λj=>uA (cellAt cs j)) 4
def qh(x:List Int)(i:Nat):Bool:=decide (0<=gi x (29+i))&&(decide (0<gi x (29+i)) ||decide (leftOf x i=au 28))&&nG (leftOf x i)
def jm(x:List Int):Bool:=decide (0<=gi x 0)&&nG (cellsOf x)&&EL (qh x) 5
end C
namespace C
theorem YH(gs:List Int):∀s,(gs.foldl stepG (true,s)).1=true->s<=(gs.foldl stepG (true,s)).2:=by
 induction gs with
 |nil=>grind
 |cons g gs ih=>
  intro s h;by_cases hg:0<=g∧g<=1099511627776
  ·have e:stepG (true,s) g=(true,s+g):=by simp_all[C.stepG]
   grind
  simp_all[C.stepG,C.wR]
theorem YI(gs):∀s,0<=s->s<=1099511627776->decide ((qK s gs).2=0)=((gs.foldl stepG (true,s)).1&&decide ((gs.foldl stepG (true,s)).2<=1099511627776)):=by
 induction gs with
 |nil=>grind[C.qK]
 |cons g gs ih=>
  intro s h0 h1;rw[List.foldl_cons,qK];by_cases hg:0<=g∧g<=1099511627776
  ·have e:stepG (true,s) g=(true,s+g):=by simp_all[C.stepG]
   rw[e,if_pos (by grind[C.ic])];by_cases hgt:1099511627776-s<g
   ·rw[if_pos hgt]
    cases hk:(gs.foldl stepG (true,s+g)).1
    ·rfl
    ·have:=YH gs (s+g) hk
     grind
   grind
  simp_all[C.stepG,if_neg,C.wR,C.ic]
theorem YJ(c):uA c=(ic (gi c 0)&&ic (gi c 1)&&decide ((su (sub c 2 5)).2=0)):=by
 unfold uA ags su;have e:ioB c=(ic (gi c 0)&&ic (gi c 1)):=by
  unfold ioB ic
  grind
 cases h:(ic (gi c 0)&&ic (gi c 1))
 all_goals simp_all[C.wR,C.YI]
theorem afm{T w0 w m b e zs}(hI:Inv T w0 w m)(hm:ib b e zs∈m)(off n):Rd w (some ⟨b,off,none⟩) ((sub zs off n).map (Value.int .i64)):=by
 intro j u hj;rw[List.getElem?_map]at hj;obtain⟨z,hz,rfl⟩:=Option.map_eq_some_iff.1 hj;refine⟨b,off,rfl,?_⟩;simp only[sub,List.getElem?_take,List.getElem?_drop]at hz
 split at hz
 ·have hb:=hI.blk hm
  rw[qd hb,List.getElem?_map,hz];rfl
 grind
theorem afn(w a n c zs)(hn:zs.length=n)(hr:Rd w a (zs.map (Value.int .i64)))(hl:n<=140737488351232):
  Calls prog 162 #[.slice a n c] w λe w'=>e=.returned (.tuple #[.int .i64 (su zs).1,.int .i64 (su zs).2])∧w'=w:=by
 grind[C.Sm]
theorem pI(w0 cs)(hc:cs.length=28):
  Calls prog 130 #[ia cs] w0 λe w'=>e=.returned (.bool (nG cs))∧Below w0.heap.size w0 w':=by
 have hI:=Inv.start w0;go_enter func130,ntmps130;go_wp2_with(first|refine YL ?_|refine YX ?_;intro bx w hI)
 (obtain⟨b1,hbx⟩:=EZ bx;subst hbx)
 go_loopg [8] 4 (λkk i wr=>∃(j:Nat),kk=4-j∧j<=4∧i=.int .i64 j∧EL (λj=>uA (cellAt cs j)) j=true∧Inv [] w0 wr [ib b1 38 cs])
 case atStart=>exact⟨0,rfl,by omega,rfl,rfl,hI⟩
 case round=>
  clear hI;obtain⟨j,rfl,hj,rfl,ha,hI⟩:=hrel;by_cases hlj:j<4
  ·have wL:(j:Int).toNat=j:=by simp
   have hs:=Ii (λj=>uA (cellAt cs j)) j;rw[ha,Bool.true_and]at hs;have hce:=YJ (cellAt cs j);have hall:uA (cellAt cs j)=false->nG cs=false:=by
    intro h;cases hcs:nG cs
    ·rfl
    ·have:=(jZ _ 4).1 hcs j hlj
     rw[h]at this;cases this
   have hlen:(cellAt cs j).length=7:=by simp only[cellAt,az];omega
   have hcl:(sub (cellAt cs j) 2 5).length=5:=by rw[az];omega
   have he:sub cs (j*7) 7=cellAt cs j:=rfl;replace hs:=HD hs;replace hall:=HD hall;clear ha;generalize cellAt cs j=c at*;cases h0:ic (gi c 0)
   ·rw[h0]at hce
    replace hce:=HD hce;go_wp2_with(first|refine YL ?_|refine YS ?_;intro w hI|refine YX ?_;intro bx w hI|go_at_call 161;refine KR (iC _ _) ?_);go_ret;exact⟨fD (hall.out (by rw[hce.out];rfl)).symm,hI.below⟩
   ·cases h1:ic (gi c 1)
    ·rw[h0,h1]at hce
     replace hce:=HD hce;go_wp2_with(first|refine YL ?_|refine YS ?_;intro w hI|refine YX ?_;intro bx w hI|go_at_call 161;refine KR (iC _ _) ?_);go_ret;exact⟨fD (hall.out (by rw[hce.out];rfl)).symm,hI.below⟩
    ·rw[h0,h1,Bool.true_and,Bool.true_and]at hce
     by_cases ha:(su (sub c 2 5)).2=0
     ·have ha2:((su (sub c 2 5)).2 != 0)=false:=by simp[ha]
      rw[ha]at hce;replace hce:=HD hce;clear ha;go_wp2_with(first|refine YL ?_|refine YS ?_;intro w hI|refine YX ?_;intro bx w hI|go_at_call 161;refine KR (iC _ _) ?_|go_at_call 162;simp only[wL,he]at hI;refine(afn _ _ _ _ (sub c 2 5) hcl (afm hI aC 2 5) OM).mono ?_;rintro e w1 ⟨rfl,rfl⟩);go_roundg (4- (j+1))
      case measure=>omega
      case rel=>exact⟨j+1,rfl,by omega,by go_num,by rw[hs.out,hce.out];rfl,hI.tl⟩
     ·have ha2:((su (sub c 2 5)).2 != 0)=true:=by simp[ha]
      replace hce:Hid (uA c=false):=HD (by rw[hce];simp[ha]);clear ha;go_wp2_with(first|refine YL ?_|refine YS ?_;intro w hI|refine YX ?_;intro bx w hI|go_at_call 161;refine KR (iC _ _) ?_|go_at_call 162;simp only[wL,he]at hI;refine(afn _ _ _ _ (sub c 2 5) hcl (afm hI aC 2 5) OM).mono ?_;rintro e w1 ⟨rfl,rfl⟩);go_ret;exact⟨fD (hall.out hce.out).symm,hI.below⟩
  ·obtain rfl:j=4:=by omega
   replace ha:=HD ha;go_wp2_with(fail);go_ret;exact⟨fD ha.out.symm,hI.below⟩
theorem l7(x i)(h:i<5):leftOf x i=sub x (34+i*28) 28:=by
 grind[C.leftOf,sub,List.drop_take,List.drop_drop]
theorem jE(w0 x)(hx:x.length=174):
  Calls prog 90 #[ia x] w0 λe w'=>e=.returned (.bool (jm x))∧Below w0.heap.size w0 w':=by
 have hI:=Inv.start w0;by_cases hv:gi x 0<0
 ·have hf:Hid (jm x=false):=HD (by unfold jm;rw[show decide (0<=gi x 0)=false from by simp;omega];rfl)
  go_enter func90,ntmps90;go_wp2_with(first|refine YL ?_|refine YX ?_;intro bx w hI);exact W85
 ·cases hcs:nG (cellsOf x)
  ·have hf:Hid (jm x=false):=HD (by unfold jm;rw[hcs];simp)
   have he:sub x 1 28=cellsOf x:=rfl;have hcl:(cellsOf x).length=28:=by simp only[cellsOf,az];omega
   generalize cellsOf x=cx at*;go_enter func90,ntmps90;go_wp2_with(first|refine YL ?_|refine YX ?_;intro bx w hI|go_at_call 130;refine KD hI (pI _ cx hcl) ?_;intro w1 hI);exact W85
  ·have he:sub x 1 28=cellsOf x:=rfl
   have hcl:(cellsOf x).length=28:=by simp only[cellsOf,az];omega
   have hrow:jm x=EL (qh x) 5:=by unfold jm;rw[hcs,show decide (0<=gi x 0)=true from by simp;omega];rfl
   replace hrow:=HD hrow;generalize cellsOf x=cx at*;go_enter func90,ntmps90;go_wp2_with(first|refine YL ?_|refine YX ?_;intro bx w hI|go_at_call 130;refine KD hI (pI _ cx hcl) ?_;intro w1 hI)
   (obtain⟨b1,hbx⟩:=EZ bx;subst hbx)
   clear he hcl hcs
   go_loopg [16] 5 (λkk i wr=>∃(j:Nat),kk=5-j∧j<=5∧i=.int .i64 j∧EL (qh x) j=true∧Inv [] w0 wr [ib b1 41 x])
   case atStart=>exact⟨0,rfl,by omega,rfl,rfl,hI⟩
   case round=>
    clear hI;obtain⟨j,rfl,hj,rfl,ha,hI⟩:=hrel;by_cases hlj:j<5
    ·have wL:(j:Int).toNat=j:=by simp
     have hs:=Ii (qh x) j;rw[ha,Bool.true_and]at hs;have hall:qh x j=false->jm x=false:=by
      intro h;rw[hrow.out];cases hcs:EL (qh x) 5
      ·rfl
      ·have:=(jZ _ 5).1 hcs j hlj
       rw[h]at this;cases this
     have hel:sub x (34+j*28) 28=leftOf x j:=(l7 x j hlj).symm;have heh:gi (sub x 29 5) j=gi x (29+j):=gy x 29 5 j hlj;have hll:(leftOf x j).length=28:=by rw[<-hel,az];omega
     have hlb:qh x j=(decide (0<=gi x (29+j))&&(decide (0<gi x (29+j)) ||decide (leftOf x j=au 28))&&nG (leftOf x j)):=rfl;replace hs:=HD hs;replace hall:=HD hall;clear ha;generalize leftOf x j=l at*;generalize gi x (29+j)=h at*;by_cases h0:h<0
     ·have hf:Hid (qh x j=false):=HD (by rw[hlb,show decide (0<=h)=false from by simp;omega];rfl)
      clear hlb;go_wp2_with(refine YL ?_);go_ret;exact⟨fD (hall.out hf.out).symm,hI.below⟩
     ·cases hcl:nG l
      ·have hf:Hid (qh x j=false):=HD (by rw[hlb,hcl,Bool.and_false])
       clear hlb;go_wp2_with(first|refine YL ?_|go_at_call 130;refine KD hI (pI _ l hll) ?_;intro w1 hI);go_ret;exact⟨fD (hall.out hf.out).symm,hI.below⟩
      ·by_cases h1:0<h
       ·have hf:Hid (qh x j=true):=HD (by rw[hlb,hcl,show decide (0<=h)=true from by simp;omega,show decide (0<h)=true from by simpa using h1];rfl)
        have hh0:(h==0)=false:=by simp;omega
        clear hlb;go_wp2_with(first|refine YL ?_|go_at_call 130;refine KD hI (pI _ l hll) ?_;intro w1 hI);go_roundg (5- (j+1))
        case measure=>omega
        case rel=>exact⟨j+1,rfl,by omega,by go_num,by rw[hs.out,hf.out],hI⟩
       ·have hh0:h=0:=by omega
        have hh1:(h==0)=true:=by simp[hh0]
        by_cases hz:l=au 28
        ·have hf:Hid (qh x j=true):=HD (by rw[hlb,hcl,hh0,hz];simp)
         have hz2:decide (l=au 28)=true:=by simp[hz]
         clear hlb hz hh0;go_wp2_with(first|refine YL ?_|with_reducible refine kv RF RF (by with_reducible exact iB) (by with_reducible exact lW) UM NM ?_|go_at_call 130;refine KD hI (pI _ l hll) ?_;intro w1 hI);go_roundg (5- (j+1))
         case measure=>omega
         case rel=>exact⟨j+1,rfl,by omega,by go_num,by rw[hs.out,hf.out],hI⟩
        ·have hf:Hid (qh x j=false):=HD (by rw[hlb,hh0];simp[hz])
         have hz2:decide (l=au 28)=false:=by simp[hz]
         clear hlb hz hh0;go_wp2_with(first|refine YL ?_|with_reducible refine kv RF RF (by with_reducible exact iB) (by with_reducible exact lW) UM NM ?_|go_at_call 130;refine KD hI (pI _ l hll) ?_;intro w1 hI);go_ret;exact⟨fD (hall.out hf.out).symm,hI.below⟩
    ·obtain rfl:j=5:=by omega
     replace ha:=HD ha;go_wp2_with(fail);go_ret;exact⟨fD (by rw[hrow.out,ha.out]),hI.below⟩
end C
namespace C
def rowOf(zs:List Int)(who:Int):List Int:=if aL who=true then sub zs (who.toNat*174) 174 else au 174
theorem l8(zs who)(hz:zs.length=870):(rowOf zs who).length=174:=by
 unfold rowOf
 split
 ·rename_i h
  obtain⟨h0,h5⟩:=dV h
  grind[az]
 grind[ag]
end C
namespace C
def rM(x:List Int)(who jL key:Int):List Int×Int:=
 if aL who=true∧aL jL=true∧0<=key∧key<4 then
  (if jL=who then(sub x (1+key.toNat*7) 7,gi x 0)
   else if 0<gi x (29+jL.toNat)then(sub x (34+jL.toNat*28+key.toNat*7) 7,gi x (29+jL.toNat) -1)else(au 7,-1))
 else(au 7,-1)
theorem Vl(w0 x who jL key)(hx:x.length=174)(hc:aL who=false∨(aL who=true∧aL jL=false)∨(aL who=true∧aL jL=true∧key<0)∨(aL who=true∧aL jL=true∧4<=key∧¬key<0)):
  Calls prog 92 #[ia x,.int .i64 who,.int .i64 jL,.int .i64 key] w0 λe w'=>e=.returned (.tuple #[ia (au 7),.int .i64 (-1)])∧Below w0.heap.size w0 w':=by
 have hI:=Inv.start w0;have h7:=ag 7;rcases hc with h1| ⟨h1,h2⟩ | ⟨h1,h2,h3⟩ | ⟨h1,h2,h3,h4⟩
 all_goals
  go_enter func92,ntmps92;go_wp2_with(first|refine YL ?_|refine YS ?_;intro w hI|refine YX ?_;intro bx w hI|go_at_call 132;refine KR (eT _ _) ?_);exact bodyPost_ret (aH hI rfl rfl aC Hz (ag 7)) rfl ⟨rfl,hI.below⟩
theorem Ze(w0 x who key)(hx:x.length=174)(h1:aL who=true)(hk0:0<=key)(hk1:key<4):
  Calls prog 92 #[ia x,.int .i64 who,.int .i64 who,.int .i64 key] w0 λe w'=>e=.returned (.tuple #[ia (sub x (1+key.toNat*7) 7),.int .i64 (gi x 0)])∧Below w0.heap.size w0 w':=by
 have hI:=Inv.start w0;have h7:=ag 7;have hsl:(sub x (1+key.toNat*7) 7).length=7:=by rw[az];omega
 go_enter func92,ntmps92;go_upto_region 4 with(first|refine YL ?_|refine YX ?_;intro bx w hI|go_at_call 132;refine KR (eT _ _) ?_)
 (try simp only[QN])
 (obtain⟨mE,rF⟩:=iO hI;refine aJ (C:=λw'=>Inv _ _ w' _) [6] (λw'=>Inv _ _ w' (List.eraseIdx (mE) 0)) hI.drew (λw' h=>Inv.sub h (by subst rF;((try simp only[xA]);repeat(first|exact List.Sublist.slnil|with_reducible apply List.Sublist.cons_cons|apply List.Sublist.cons)))) mixed KF ?_;subst rF;clear hI;(repeat(first| ((with_reducible apply dL);rfl;rfl;rfl;(focus(intro w (hI:Inv _ _ w _);go_wp2_with(refine YS ?_;intro w hI);(try simp only[QN]);exact⟨rfl,rfl,hI⟩));(exact⟨undef,rfl⟩);(focus(intro w (hI:Inv _ _ w _);exact Inv.sub hI SB))) | ((with_reducible apply bu);rfl;rfl;(focus(intro w (hI:Inv _ _ w _);go_wp2_with(refine YL ?_);(try simp only[QN]);exact⟨rfl,rfl,hI⟩));(exact⟨_,rfl⟩)) | ((with_reducible apply dG);rfl;rfl;(focus(intro D w hD hE;have hI:Inv _ _ w _:=hE;(try simp only[xA]at hI);go_wp2_with(refine YL ?_);(try simp only[QN]);exact⟨rfl,rfl,hD⟩));(exact⟨_,rfl⟩))));(refine bH ?_;intro w (hI:Inv _ _ w _)))
 exact W94
theorem Vm(w0 x who jL key)(hx:x.length=174)(h1:aL who=true)(h2:aL jL=true)(hk0:0<=key)(hk1:key<4)(hne:jL≠who)(hh:0<gi x (29+jL.toNat))(hh2:gi x (29+jL.toNat)<=9223372036854775807):
  Calls prog 92 #[ia x,.int .i64 who,.int .i64 jL,.int .i64 key] w0 λe w'=>e=.returned (.tuple #[ia (sub x (34+jL.toNat*28+key.toNat*7) 7),.int .i64 (gi x (29+jL.toNat) -1)])∧Below w0.heap.size w0 w':=by
 have hI:=Inv.start w0;have h7:=ag 7;obtain⟨ho0,ho1⟩:=dV h2;have hsl:(sub x (34+jL.toNat*28+key.toNat*7) 7).length=7:=by rw[az];omega
 have hb:(jL==who)=false:=by simpa using hne
 go_enter func92,ntmps92;go_upto_region 6 with(first|refine YL ?_|refine YX ?_;intro bx w hI|go_at_call 132;refine KR (eT _ _) ?_)
 (try simp only[QN])
 (obtain⟨mE,rF⟩:=iO hI;refine aJ (C:=λw'=>Inv _ _ w' _) [11] (λw'=>Inv _ _ w' (List.eraseIdx (mE) 0)) hI.drew (λw' h=>Inv.sub h (by subst rF;((try simp only[xA]);repeat(first|exact List.Sublist.slnil|with_reducible apply List.Sublist.cons_cons|apply List.Sublist.cons)))) mixed KF ?_;subst rF;clear hI;(repeat(first| ((with_reducible apply dL);rfl;rfl;rfl;(focus(intro w (hI:Inv _ _ w _);go_wp2_with(refine YS ?_;intro w hI);(try simp only[QN]);exact⟨rfl,rfl,hI⟩));(exact⟨undef,rfl⟩);(focus(intro w (hI:Inv _ _ w _);exact Inv.sub hI SB))) | ((with_reducible apply bu);rfl;rfl;(focus(intro w (hI:Inv _ _ w _);go_wp2_with(refine YL ?_);(try simp only[QN]);exact⟨rfl,rfl,hI⟩));(exact⟨_,rfl⟩)) | ((with_reducible apply dG);rfl;rfl;(focus(intro D w hD hE;have hI:Inv _ _ w _:=hE;(try simp only[xA]at hI);go_wp2_with(refine YL ?_);(try simp only[QN]);exact⟨rfl,rfl,hD⟩));(exact⟨_,rfl⟩))));(refine bH ?_;intro w (hI:Inv _ _ w _)))
 exact W94
theorem Vn(w0 x who jL key)(hx:x.length=174)(h1:aL who=true)(h2:aL jL=true)(hk0:0<=key)(hk1:key<4)(hne:jL≠who)(hh:gi x (29+jL.toNat)<=0):
  Calls prog 92 #[ia x,.int .i64 who,.int .i64 jL,.int .i64 key] w0 λe w'=>e=.returned (.tuple #[ia (au 7),.int .i64 (-1)])∧Below w0.heap.size w0 w':=by
 have hI:=Inv.start w0;have h7:=ag 7;obtain⟨ho0,ho1⟩:=dV h2;have hb:(jL==who)=false:=by simpa using hne
 go_enter func92,ntmps92;go_wp2_with(first|refine YL ?_|refine YS ?_;intro w hI|refine YX ?_;intro bx w hI|go_at_call 132;refine KR (eT _ _) ?_);exact bodyPost_ret (aH hI rfl rfl aC Hz (ag 7)) rfl ⟨rfl,hI.below⟩
theorem Vo(w0 x who jL key)(hx:x.length=174)(hw:Wf x):
  Calls prog 92 #[ia x,.int .i64 who,.int .i64 jL,.int .i64 key] w0 λe w'=>e=.returned (.tuple #[ia (rM x who jL key).1,.int .i64 (rM x who jL key).2])∧Below w0.heap.size w0 w':=by
 by_cases hc:aL who=true∧aL jL=true∧0<=key∧key<4
 ·obtain⟨h1,h2,hk0,hk1⟩:=hc
  unfold rM;rw[if_pos ⟨h1,h2,hk0,hk1⟩];by_cases he:jL=who
  ·simp_all[C.Ze]
  ·rw[if_neg he]
   by_cases hh:0<gi x (29+jL.toNat)
   ·rw[if_pos hh]
    exact Vm w0 x who jL key hx h1 h2 hk0 hk1 he hh (hw _).2
   simp_all[if_neg,C.Vn]
 ·have e:rM x who jL key=(au 7,-1):=by unfold rM;grind
  grind[C.Vl]
theorem Il(x who jL key)(hx:x.length=174):(rM x who jL key).1.length=7:=by
 unfold rM
 split
 ·rename_i h
  obtain⟨h1,h2,h3,h4⟩:=h;obtain⟨ho0,ho1⟩:=dV h2
  grind[az,ag]
 grind[ag]
def Vp(x:List Int)(who:Int)(i:Nat):Bool:=decide ((i:Int)=who) ||decide (0<gi x (29+i))
def jT(x:List Int)(who:Int)(j:Nat):List Int:=((List.range j).filter (Vp x who)).map (λ(i:Nat)=>(i:Int))
theorem Qc(x who j):jT x who (j+1)=jT x who j++(if Vp x who j=true then [(j:Int)]else []):=by
 grind[C.jT,List.range_succ]
theorem Im(x who j):(jT x who j).length<=j:=by
 grind[C.jT]
theorem S9:wy prog 74 3 1 8 (.int .i64 0):=⟨by kernel_rfl,by kernel_rfl,by kernel_rfl,by decide⟩
theorem ado(w0 x who)(hx:x.length=174):Calls prog 149 #[ia x,.int .i64 who] w0 λe w'=>
  ∃a c,e=.returned (.slice a (jT x who 5).length c)∧Inv [] w0 w' [bD 3 1 (.slice a (jT x who 5).length c) (jT x who 5).length ((jT x who 5).map (Value.int .i64))]:=by
 have hI:=(Inv.start w0).BZ 3 1;go_enter func149,ntmps149;go_wp2_with(first|refine YL ?_|refine YX ?_;intro bx w hI)
 (obtain⟨b1,hbx⟩:=EZ bx;subst hbx)
 go_loopg [5,10] 5 (λkk s i wr=>∃(j:Nat) (a:Option Addr) (c:Nat),kk=5-j∧j<=5∧i=.int .i64 j∧s=.slice a (jT x who j).length c∧Inv [] w0 wr [ib b1 41 x,bD 3 1 (.slice a (jT x who j).length c) (jT x who j).length ((jT x who j).map (Value.int .i64))])
 case atStart=>exact⟨0,none,0,rfl,by omega,rfl,by simp[jT],by simpa[jT]using hI⟩
 case round=>
  clear hI;obtain⟨j,a,c,rfl,hj,rfl,rfl,hI⟩:=hrel;by_cases hlj:j<5
  ·have hlen:=Im x who j
   have hs:=Qc x who j;have wL:(j:Int).toNat=j:=by simp
   have heh:gi (sub x 29 5) j=gi x (29+j):=gy x 29 5 j hlj;have hop:Vp x who j=(decide ((j:Int)=who) ||decide (0<gi x (29+j))):=rfl;have h5l:(sub x 29 5).length=5:=by rw[az];omega
   by_cases h1:(j:Int)=who
   ·have hq:((j:Int)==who)=true:=by simpa using h1
    have ht:Vp x who j=true:=by rw[hop];simp[h1]
    rw[ht,if_pos rfl]at hs;replace hs:=HD hs;clear ht hop h1;go_wp2_with(first|refine YL ?_|(with_reducible refine rz hI S9 RF ?_;intro _ w hI)|(with_reducible refine aA hI RF RF S9 (by intro r';exact aU.there (aU.there aU.here)) (hI.rd aC) RF (by simp[Value.oneCell']) MX OM ?_;intro a' c' w hI));go_roundg (5- (j+1))
    case measure=>omega
    case rel=>
     have e:(jT x who (j+1)).length=(jT x who j).length+1:=by rw[hs.out];simp
     refine⟨j+1,a',c',rfl,by omega,by go_num,by rw[e],?_⟩;rw[e,hs.out,List.map_append];exact hI.tl
   ·have hq:((j:Int)==who)=false:=by simpa using h1
    by_cases h2:0<gi x (29+j)
    ·have ht:Vp x who j=true:=by rw[hop];simp[h2]
     rw[ht,if_pos rfl]at hs;replace hs:=HD hs;clear ht hop h1;generalize gi x (29+j)=hv at*;go_wp2_with(first|refine YL ?_|(with_reducible refine rz hI S9 RF ?_;intro _ w hI)|(with_reducible refine aA hI RF RF S9 (by intro r';exact aU.there (aU.there aU.here)) (hI.rd aC) RF (by simp[Value.oneCell']) MX OM ?_;intro a' c' w hI));go_roundg (5- (j+1))
     case measure=>omega
     case rel=>
      have e:(jT x who (j+1)).length=(jT x who j).length+1:=by rw[hs.out];simp
      refine⟨j+1,a',c',rfl,by omega,by go_num,by rw[e],?_⟩;rw[e,hs.out,List.map_append];exact hI.tl
    ·have ht:Vp x who j=false:=by rw[hop];simp[h1,h2]
     rw[ht,if_neg SI,List.append_nil]at hs;replace hs:=HD hs;clear ht hop h1;generalize gi x (29+j)=hv at*;go_wp2_with(refine YL ?_);go_roundg (5- (j+1))
     case measure=>omega
     case rel=>exact⟨j+1,a,c,rfl,by omega,by go_num,by rw[hs.out],by rw[hs.out];exact hI⟩
  ·obtain rfl:j=5:=by omega
   go_wp2
   go_ret;exact⟨a,c,rfl,hI.tl⟩
end C
namespace C
theorem Zf(n i):gi (au n) i=0:=by
 grind[gi,au]
theorem pK(x i j v):gi (x.set i v) j=if i=j∧j<x.length then v else gi x j:=by
 grind[gi]
theorem agH(x i n)(hl:0<x.length):gi (iw x i n) 0=gi x 0+1:=by
 simp_all[C.iw,C.pK]
end C
namespace C
theorem ajB(zs i):gi zs i=(zs[i]?).getD 0:=by grind[gi]
theorem getElem?_spl(zs vs off)(h:off+vs.length<=zs.length)(i):(dK zs off vs)[i]? =if off<=i∧i<off+vs.length then vs[i-off]? else zs[i]? :=by
 unfold dK;have hl:(zs.take off).length=off:=by grind
 grind
theorem Zg(zs vs off)(h:off+vs.length<=zs.length):(dK zs off vs).length=zs.length:=by grind[aY]
theorem Ki(zs vs off i)(h:off+vs.length<=zs.length):gi (dK zs off vs) i=if off<=i∧i<off+vs.length then gi vs (i-off)else gi zs i:=by
 grind[C.ajB,C.getElem?_spl]
theorem getElem?_sub(zs off n i):(sub zs off n)[i]? =if i<n then zs[off+i]? else none:=by
 grind[sub]
theorem l9(zs vs off)(h:off+vs.length<=zs.length):sub (dK zs off vs) off vs.length=vs:=by
 apply List.ext_getElem?;intro i;rw[getElem?_sub,getElem?_spl zs vs off h]
 grind
theorem jQ(zs vs off o n)(h:off+vs.length<=zs.length)(hd:o+n<=off∨off+vs.length<=o):sub (dK zs off vs) o n=sub zs o n:=by
 apply List.ext_getElem?;intro i;rw[getElem?_sub,getElem?_sub];by_cases hi:i<n
 ·rw[if_pos hi,if_pos hi,getElem?_spl zs vs off h,if_neg OM]
 grind
theorem fF(zs k o n v)(hd:k<o∨o+n<=k):sub (zs.set k v) o n=sub zs o n:=by
 apply List.ext_getElem?;intro i;rw[getElem?_sub,getElem?_sub]
 grind
def uF(y:List Int)(i:Nat)(h:Int)(l:List Int):List Int:=dK (y.set (29+i) h) (34+i*28) l
def gX(who:Int)(dead y:List Int)(j:Nat):List Int:=if(j:Int)≠who∧0<gi dead (29+j)∧gi y (29+j)=0 then uF y j (gi dead (29+j)) (leftOf dead j)else y
def iD(who:Int)(dead y:List Int):Nat->List Int
 |0=>y
 |j+1=>gX who dead (iD who dead y j) j
def Qd(x:List Int)(who:Int)(dead:List Int):List Int:=uF x who.toNat (gi dead 0+1) (cellsOf dead)
def vC(x:List Int)(who:Int)(dead:List Int):List Int:=(iD who dead (Qd x who dead) 5).set 0 (gi x 0+1)
def adp(x:List Int)(who:Int)(dead:List Int):List Int×Int:=
 if aL who=true then(if 0<gi x (29+who.toNat)then(au 174,8)else(vC x who dead,0))else(au 174,5)
theorem nP(x)(hx:x.length=174):(cellsOf x).length=28:=by grind[C.cellsOf,az]
theorem rO(x i)(hx:x.length=174)(hi:i<5):(leftOf x i).length=28:=by grind[C.l7,az]
theorem ow(y i h l)(hy:y.length=174)(hi:i<5)(hl:l.length=28):(uF y i h l).length=174:=by
 grind[C.uF,C.Zg]
theorem Zh(y i h l)(hy:y.length=174)(hi:i<5)(hl:l.length=28):gi (uF y i h l) 0=gi y 0:=by
 unfold uF;rw[Ki _ _ _ _ (by grind),if_neg OM,pK,if_neg OM]
theorem MQ(who dead y j)(hy:y.length=174)(hd:dead.length=174)(hj:j<5):(gX who dead y j).length=174∧gi (gX who dead y j) 0=gi y 0:=by
 grind[C.gX,C.ow,C.rO,C.Zh]
theorem um(who dead y)(hy:y.length=174)(hd:dead.length=174):∀j,j<=5->(iD who dead y j).length=174∧gi (iD who dead y j) 0=gi y 0
 |0,_=>⟨hy,rfl⟩
 |j+1,h=>by
  have ih:=um who dead y hy hd j OM;have:=MQ who dead _ j ih.1 hd OM;exact⟨this.1,this.2.trans ih.2⟩
theorem nm3{T w0 w a b c e1 e2 e3 z1 z2 z3}(_:Inv T w0 w [ib a e1 z1,ib b e2 z2,ib c e3 z3]):∃a' b' c',a'=a∧b'=b∧c'=c:=by grind
theorem agI(w0 x dead who)(hx:x.length=174)(hd:dead.length=174)(h1:aL who=false):
  Calls prog 125 #[ia x,.int .i64 who,ia dead] w0 λe w'=>e=.returned (.tuple #[ia (au 174),.int .i64 5])∧Below w0.heap.size w0 w':=by
 have hI:=Inv.start w0;have hn:=ag 174;go_enter func125,ntmps125;go_wp2_with(first|refine YS ?_;intro w hI|refine YX ?_;intro bx w hI|refine YL ?_|go_at_call 132;refine KR (eT _ _) ?_);exact XF
theorem Zi(w0 x dead who)(hx:x.length=174)(hd:dead.length=174)(h1:aL who=true)(hh:0<gi x (29+who.toNat)):
  Calls prog 125 #[ia x,.int .i64 who,ia dead] w0 λe w'=>e=.returned (.tuple #[ia (au 174),.int .i64 8])∧Below w0.heap.size w0 w':=by
 have hI:=Inv.start w0;have hn:=ag 174;obtain⟨ho0,ho1⟩:=dV h1;go_enter func125,ntmps125;go_wp2_with(first|refine YL ?_|refine YS ?_;intro w hI|refine YX ?_;intro bx w hI|go_at_call 132;refine KR (eT _ _) ?_);exact XF
theorem Zj(x who dead)(hx:x.length=174)(hd:dead.length=174)(h1:aL who=true):(vC x who dead).length=174:=by
 obtain⟨ho0,ho1⟩:=dV h1;unfold vC;exact W93
end C
namespace C
theorem Io(y i j h l)(hy:y.length=174)(hi:i<5)(hj:j<5)(hl:l.length=28):gi (uF y i h l) (29+j)=if j=i then h else gi y (29+j):=by
 unfold uF;rw[Ki _ _ _ _ (by grind),if_neg OM,pK];omega
theorem Ip(y i j h l)(hy:y.length=174)(hi:i<5)(hj:j<5)(hl:l.length=28):leftOf (uF y i h l) j=if j=i then l else leftOf y j:=by
 rw[l7 _ j hj,l7 _ j hj];unfold uF;by_cases he:j=i
 ·grind[C.l9]
 ·rw[if_neg he,jQ _ _ _ _ _ (by grind) OM,fF _ _ _ _ _ OM]
theorem ES(y i h l)(hy:y.length=174)(hi:i<5)(hl:l.length=28):cellsOf (uF y i h l)=cellsOf y:=by
 grind[C.cellsOf,C.uF,C.jQ,C.fF]
def cmB(who:Int)(dead y:List Int)(i:Nat):Prop:=(i:Int)≠who∧0<gi dead (29+i)∧gi y (29+i)=0
instance (who:Int) (dead y:List Int) (i:Nat):Decidable (cmB who dead y i):=by unfold cmB;infer_instance
theorem ET(who dead y)(hy:y.length=174)(hd:dead.length=174):∀k,k<=5->cellsOf (iD who dead y k)=cellsOf y∧∀i,i<5->
  gi (iD who dead y k) (29+i)=(if i<k∧cmB who dead y i then gi dead (29+i)else gi y (29+i))∧leftOf (iD who dead y k) i=(if i<k∧cmB who dead y i then leftOf dead i else leftOf y i)
 |0,_=>⟨rfl,λi _=>by exact⟨rfl,rfl⟩⟩
 |k+1,hk=>by
  obtain⟨hc,ih⟩:=ET who dead y hy hd k OM;have hl:=(um who dead y hy hd k OM).1;have hkk:=(ih k OM).1;rw[if_neg OM]at hkk;show cellsOf (gX who dead (iD who dead y k) k)=_∧∀i,i<5->gi (gX who dead (iD who dead y k) k) (29+i)=_∧leftOf (gX who dead (iD who dead y k) k) i=_;by_cases hcm:cmB who dead y k
  ·rw[show gX who dead (iD who dead y k) k=uF (iD who dead y k) k (gi dead (29+k)) (leftOf dead k)from by unfold gX;rw[if_pos (by rw[hkk];exact hcm)]]
   refine⟨(ES _ k _ _ hl OM (rO dead k hd OM)).trans hc,λi hi=>?_⟩;rw[Io _ k i _ _ hl OM hi (rO dead k hd OM),Ip _ k i _ _ hl OM hi (rO dead k hd OM)]
   grind
  ·rw[show gX who dead (iD who dead y k) k=iD who dead y k from by unfold gX;rw[if_neg (by rw[hkk];exact hcm)]]
   grind
section
variable (x dead:List Int)(who:Int)(hx:x.length=174)(hd:dead.length=174)(h1:aL who=true)
include hx hd h1
theorem Zk:gi (vC x who dead) 0=gi x 0+1:=by
 obtain⟨ho0,ho1⟩:=dV h1;have hl:=(um who dead _ (ow x who.toNat (gi dead 0+1) (cellsOf dead) hx OM (nP dead hd)) hd 5 OM).1
 simp_all[C.vC,C.Qd,C.pK]
theorem EU:cellsOf (vC x who dead)=cellsOf x:=by
 grind[C.aL,C.ow,C.cellsOf,C.nP,C.ET,C.vC,C.Qd,C.fF,C.ES]
theorem S_(i)(hi:i<5):gi (vC x who dead) (29+i)=(if(i:Int)=who then gi dead 0+1 else if 0<gi dead (29+i)∧gi x (29+i)=0 then gi dead (29+i)else gi x (29+i))∧
  leftOf (vC x who dead) i=(if(i:Int)=who then cellsOf dead else if 0<gi dead (29+i)∧gi x (29+i)=0 then leftOf dead i else leftOf x i):=by
 obtain⟨ho0,ho1⟩:=dV h1;have hcl:=nP dead hd;have h0:=ow x who.toNat (gi dead 0+1) (cellsOf dead) hx OM hcl;obtain⟨ha,hb⟩:=(ET who dead _ h0 hd 5 OM).2 i hi;have e1:gi (vC x who dead) (29+i)=gi (iD who dead (Qd x who dead) 5) (29+i):=by unfold vC;rw[pK,if_neg OM]
 have e2:leftOf (vC x who dead) i=leftOf (iD who dead (Qd x who dead) 5) i:=by
  grind[C.l7,C.vC,C.fF]
 rw[e1,e2];have p1:=Io x who.toNat i (gi dead 0+1) (cellsOf dead) hx OM hi hcl;have p2:=Ip x who.toNat i (gi dead 0+1) (cellsOf dead) hx OM hi hcl;have e0:Qd x who dead=uF x who.toNat (gi dead 0+1) (cellsOf dead):=rfl;rw[e0,ha,hb];by_cases he:(i:Int)=who
 ·rw[if_pos he,if_pos he,if_neg (λh=>h.2.1 he),if_neg (λh=>h.2.1 he)]
  grind
 ·have:¬i=who.toNat:=by omega
  simp_all[C.cmB]
end
theorem pY{x}(h:jm x=true):0<=gi x 0∧nG (cellsOf x)=true∧∀i,i<5->qh x i=true:=by
 simp_all[C.jm,C.jZ]
theorem wV{x i}(h:qh x i=true):0<=gi x (29+i)∧(0<gi x (29+i)∨leftOf x i=au 28)∧nG (leftOf x i)=true:=by
 simp_all[C.qh]
theorem EW{x i}(h1:0<=gi x (29+i))(h2:0<gi x (29+i)∨leftOf x i=au 28)(h3:nG (leftOf x i)=true):qh x i=true:=by
 simp_all[C.qh]
theorem Qe(x dead who)(hx:x.length=174)(hd:dead.length=174)(h1:aL who=true)(hrx:jm x=true)(hrd:jm dead=true):jm (vC x who dead)=true:=by
 obtain⟨a1,a2,a3⟩:=pY hrx;obtain⟨b1,b2,b3⟩:=pY hrd;unfold jm;simp only[Bool.and_eq_true,decide_eq_true_eq];refine⟨⟨by grind[C.Zk],by grind[C.EU]⟩,(jZ _ 5).2 λi hi=>?_⟩;obtain⟨e1,e2⟩:=S_ x dead who hx hd h1 i hi;obtain⟨c1,c2,c3⟩:=wV (a3 i hi);obtain⟨d1,d2,d3⟩:=wV (b3 i hi);by_cases he:(i:Int)=who
 ·grind[C.EW]
 ·by_cases hc:0<gi dead (29+i)∧gi x (29+i)=0
  all_goals simp_all[C.EW]
end C
namespace C
def MR(g:Int):Prop:=0<=g∧g<=1099511627776
theorem Iq(gs:List Int):∀s,(∀g∈gs,MR g)->gs.foldl stepG (true,s)=(true,s+gs.sum):=by
 induction gs with
 |nil=>grind
 |cons g gs ih=>
  intro s h;have hg:=h g SI;rw[List.foldl_cons,show stepG (true,s) g=(true,s+g)from by unfold stepG;rw[if_pos ⟨rfl,hg.1,hg.2⟩],ih _ (λk hk=>h k (by simp[hk])),List.sum_cons]
  grind
theorem Vq(gs:List Int):∀s,(gs.foldl stepG (true,s)).1=true->∀g∈gs,MR g:=by
 induction gs with
 |nil=>grind
 |cons g gs ih=>
  intro s h;rw[List.foldl_cons]at h;by_cases hg:0<=g∧g<=1099511627776
  ·rw[show stepG (true,s) g=(true,s+g)from by simp_all[C.stepG]]at h
   intro k hk;rcases List.mem_cons.1 hk with rfl|hk
   ·exact hg
   grind
  simp_all[C.stepG,C.wR]
theorem xL(c):uA c=true↔MR (gi c 0)∧MR (gi c 1)∧(∀g∈sub c 2 5,MR g)∧(sub c 2 5).sum<=1099511627776:=by
 have hio:ioB c=true↔MR (gi c 0)∧MR (gi c 1):=by unfold ioB MR;grind
 unfold uA ags;cases h:ioB c
 ·grind[C.wR]
 ·constructor
  ·grind[C.Vq,C.Iq]
  grind[C.Iq]
theorem Qf(l:List Int)(h:∀g∈l,0<=g):0<=l.sum:=by
 induction l with
 |nil=>simp
 |cons a l ih=>rw[List.sum_cons];have:=ih (λg hg=>h g (by simp[hg]));have:=h a SI;omega
theorem agJ(l:List Int)(h:∀g∈l,0<=g):∀g∈l,g<=l.sum:=by
 induction l with
 |nil=>grind
 |cons a l ih=>
  have h0:=Qf l (λg hg=>h g (by simp[hg]));have h1:=h a SI
  grind
theorem adq(l):∀i v,i<l.length->(l.set i v).sum=l.sum-gi l i+v:=by
 induction l with
 |nil=>grind
 |cons a l ih=>
  intro i v h;cases i with
  |zero=>grind[gi]
  |succ i=>
   grind[gi]
theorem zV(zs off n f v):sub (zs.set (off+f) v) off n=(sub zs off n).set f v:=by
 apply List.ext_getElem?;intro i;rw[List.getElem?_set,getElem?_sub,getElem?_sub,List.getElem?_set,az]
 grind
theorem xM(x j)(h:j<4):cellAt (cellsOf x) j=sub x (1+j*7) 7:=by
 grind[C.cellAt,C.cellsOf,sub,List.drop_take,List.drop_drop]
theorem zb(l i)(h:i<l.length):gi l i∈l:=by
 simp[gi,h]
def cntF(x:List Int)(key f:Nat):Int:=if f<2 then gi x (1+key*7+f)else(sub x (1+key*7+2) 5).sum
theorem UD(c f n)(hc:c.length=7)(hf:f<7)(hn:1<=n)(h:uA c=true)(hr:(if f<2 then gi c f else(sub c 2 5).sum)<=1099511627776-n):uA (c.set f (gi c f+n))=true:=by
 rw[xL]at h|-;obtain⟨a,b,c1,c2⟩:=h;unfold MR at*;have hsl:(sub c 2 5).length=5:=by grind[az]
 by_cases h2:f<2
 ·rw[fF _ _ _ _ _ (.inl h2),pK,pK]
  grind
 ·obtain⟨t,rfl⟩:∃t,f=2+t:=⟨f-2,by omega⟩
  rw[zV,pK,if_neg OM,pK,if_neg OM];have hg:gi c (2+t)=gi (sub c 2 5) t:=(gy c 2 5 t OM).symm;have hle:=agJ _ (λg hg=>(c1 g hg).1) _ (zb (sub c 2 5) t OM)
  grind[C.zb,C.adq]
theorem Qg(x key f n)(hx:x.length=174)(hr:jm x=true)(hk:key<4)(hf:f<7)(hn:1<=n)(hc:cntF x key f<=1099511627776-n):jm (iw x (1+key*7+f) n)=true:=by
 obtain⟨a1,a2,a3⟩:=pY hr;unfold jm;simp only[Bool.and_eq_true,decide_eq_true_eq];refine⟨⟨by grind[C.agH],(jZ _ 4).2 λj hj=>?_⟩,(jZ _ 5).2 λi hi=>?_⟩
 ·have hcj:=(jZ _ 4).1 a2 j hj
  rw[xM _ j hj]at hcj|-;unfold iw;exact W42
 ·obtain⟨c1,c2,c3⟩:=wV (a3 i hi)
  have e1:gi (iw x (1+key*7+f) n) (29+i)=gi x (29+i):=by
   unfold iw;rw[pK,if_neg OM,pK,if_neg OM]
  grind[C.iw,C.l7,C.fF,C.EW]
def mF(x:List Int)(key n tt:Int):List Int×Int:=
 if aL tt=true∧oq key n=true then(if 1099511627776-n< (sub x (1+key.toNat*7+2) 5).sum then(au 174,6)else(iw x (1+key.toNat*7+2+tt.toNat) n,0))else(au 174,5)
end C
