/- Contracts of functions. No condition. -/
import Derived.Test.YtdakkaapokhnnaaGreatDoorZ02
namespace Go.Proofs.YtdakkaapokhnnaaGreatDoor
open Go.RowKit Go.Proofs.Tryz
set_option maxRecDepth 100000
set_option maxHeartbeats 6400000
set_option linter.all false
theorem Cy(n:Int):bits .and .i64 n 1=n%2:=by
 have h1:(BitVec.ofInt 64 n &&& BitVec.ofInt 64 1).toNat=(n%2).toNat:=by
  rw[BitVec.toNat_and];have e1:(BitVec.ofInt 64 1).toNat=1:=by decide
  rw[e1,Nat.and_one_is_mod,BitVec.toNat_ofInt];omega
 show IntKind.i64.wrap (((BitVec.ofInt 64 n &&& BitVec.ofInt 64 1).toNat:Nat):Int)=_;rw[h1];have:(0:Int)<=n%2∧n%2<2:=by omega
 rw[Int.toNat_of_nonneg this.1];exact acP
def bt(x:Int)(i:Nat):Bool:=x/2^i%2==1
namespace B
def gF(n:Int):Bool:=decide (0<=n)&&decide (n<=1099511627776)
theorem gP(w:World)(n:Int):Calls prog 161 #[.int .i64 n] w λe w'=>e=.returned (.bool (gF n))∧w'=w:=by
 exact W60
theorem Cz{n:Int}(h:gF n=true):0<=n∧n<=1099511627776:=by simpa[gF]using h
def pz(s:Int):List Int->Int×Int
 | []=>(s,0)
 |z::zs=>if gF z=true then(if 1099511627776-s<z then(0,6)else pz (s+z) zs)else(0,5)
def qN(zs:List Int):Int×Int:=pz 0 zs
theorem O_(w:World)(a:Option Addr)(c:Nat)(zs:List Int)(hr:Rd w a (zs.map iv))(hl:zs.length<=140737488351232):
  Calls prog 162 #[.slice a zs.length c] w λe w'=>e=.returned (.tuple #[.int .i64 (qN zs).1,.int .i64 (qN zs).2])∧w'=w:=by
 go_enter func162,ntmps162
 go_wp2
 go_loop [4,9] (λs i=>∃(j:Nat) (x:Int),j<=zs.length∧i=.int .i64 j∧s=.int .i64 x∧0<=x∧x<=1099511627776∧qN zs=pz x (zs.drop j)) (λ_ i=>zs.length- (intOf i).toNat)
 case atStart=>exact⟨0,0,by omega,rfl,rfl,by omega,by omega,rfl⟩
 case round=>
  obtain⟨j,x,hj,rfl,rfl,h0,h1,hx⟩:=hrel;by_cases hlj:j<zs.length
  ·obtain⟨b,off,rfl,hc⟩:=hr j (iv zs[j]) (by simp[hlj])
   rw[List.drop_eq_getElem_cons hlj]at hx;generalize zs[j]=z at*;simp only[iv]at hc;simp only[pz]at hx;have HX:=HD hx;clear hx hr;cases hz:gF z
   ·have Uo:Hid (qN zs=(0,5)):=by have:=HX.out;rw[hz]at this;exact this
    clear HX;go_wp2_with(go_at_call 161;refine KR (gP _ _) ?_)
    go_ret2
    exact⟨by rw[Uo.out];rfl,rfl⟩
   ·have h2:=Cz hz
    by_cases hgt:1099511627776-x<z
    ·have Uo:Hid (qN zs=(0,6)):=by have:=HX.out;rw[hz,if_pos rfl,if_pos hgt]at this;exact this
     clear HX;go_wp2_with(go_at_call 161;refine KR (gP _ _) ?_)
     go_ret2
     exact⟨by rw[Uo.out];rfl,rfl⟩
    ·have Uo:Hid (qN zs=pz (x+z) (zs.drop (j+1))):=by have:=HX.out;rw[hz,if_pos rfl,if_neg hgt]at this;exact this
     clear HX;go_wp2_with(go_at_call 161;refine KR (gP _ _) ?_)
     go_round
     case rel=>exact⟨j+1,x+z,by omega,by go_num,by go_num,by omega,by omega,Uo.out⟩
     case measure=>simp[intOf];omega
  ·obtain rfl:j=zs.length:=by omega
   have HX:Hid (qN zs=(x,0)):=HD (by rw[hx];simp[pz]);clear hx
   go_wp2
   go_ret2
   exact⟨by rw[HX.out];rfl,rfl⟩
theorem CB:uY prog 74 3 1 8 (.int .i64 0):=⟨by kernel_rfl,by kernel_rfl,by kernel_rfl,by decide⟩
def fq(x:Int)(j:Nat):List Int:=((List.range j).filter (bt x)).map (λ(i:Nat)=>(i:Int))
theorem MO(x:Int)(j:Nat):fq x (j+1)=fq x j++(if bt x j=true then [(j:Int)]else []):=by
 unfold fq;rw[List.range_succ,List.filter_append,List.map_append];congr 1;cases h:bt x j<;>simp[h]
theorem zN(x:Int)(j:Nat):(fq x j).length<=j:=by
 unfold fq;exact afP
theorem CE(x:Int)(j:Nat):(bits BinOp.and IntKind.i64 (x/2^j) 1==1)=bt x j:=by
 rw[Cy];rfl
theorem Hl(w0:World)(x:Int):Calls prog 55 #[.int .i64 x] w0 λe w'=>
  ∃a c,e=.returned (.slice a (fq x 5).length c)∧Inv [] w0 w' [bf 3 1 (.slice a (fq x 5).length c) (fq x 5).length ((fq x 5).map (Value.int .i64))]:=by
 have hI:=(Inv.start w0).Av 3 1;go_enter func55,ntmps55
 go_wp2
 go_loopg [3,5] 5 (λk s i wr=>∃(j:Nat) (a:Option Addr) (c:Nat),k=5-j∧j<=5∧i=.int .i64 j∧s=.slice a (fq x j).length c∧Inv [] w0 wr [bf 3 1 (.slice a (fq x j).length c) (fq x j).length ((fq x j).map (Value.int .i64))])
 case atStart=>exact⟨0,none,0,rfl,by omega,rfl,by simp[fq],by simpa[fq]using hI⟩
 case round=>
  clear hI;obtain⟨j,a,c,rfl,hj,rfl,rfl,hI⟩:=hrel;by_cases hlj:j<5
  ·have hlen:=zN x j
   have hs:=MO x j;have hbt:=CE x j;cases hb:bt x j
   ·rw[hb]at hbt hs
    simp only[Bool.false_eq_true,if_false,List.append_nil]at hs;have hs2:=HD hs;clear hs hb
    go_wp2
    go_roundg (5- (j+1))
    case measure=>omega
    case rel=>exact⟨j+1,a,c,rfl,by omega,by go_num,by rw[hs2.out],by rw[hs2.out];exact hI⟩
   ·rw[hb]at hbt hs
    simp only[if_true]at hs;have hs2:=HD hs;clear hs hb;go_wp2_with(first|(with_reducible refine qg hI CB RF ?_;intro _ w hI)|(with_reducible refine az hI RF RF CB (by intro r';exact aR.there aR.here) (hI.rd aA) RF (by simp[Value.oneCell']) MX OM ?_;intro a' c' w hI));go_roundg (5- (j+1))
    case measure=>omega
    case rel=>
     have e:(fq x (j+1)).length=(fq x j).length+1:=by rw[hs2.out];simp
     refine⟨j+1,a',c',rfl,by omega,by go_num,by rw[e],?_⟩;rw[e,hs2.out,List.map_append];exact hI.tl
  ·obtain rfl:j=5:=by omega
   go_wp2
   go_ret;exact⟨a,c,rfl,hI⟩
end B
namespace B
def gN(p q:Int):Bool:=decide ((fq q 5).length <2*(fq (bits BinOp.and IntKind.i64 p q) 5).length)
theorem Uq(w0:World)(p q:Int):Calls prog 189 #[.int .i64 p,.int .i64 q] w0 λe w'=>e=.returned (.bool (gN p q))∧Below w0.heap.size w0 w':=by
 have hI:=Inv.start w0;have h1:=zN q 5;have h2:=zN (bits BinOp.and IntKind.i64 p q) 5;have hm:Hid (decide ((((fq q 5).length:Nat):Int) <2*(((fq (bits BinOp.and IntKind.i64 p q) 5).length:Nat):Int))=gN p q):=HD (by
  unfold gN;rw[Bool.eq_iff_iff];simp only[decide_eq_true_eq];omega)
 go_enter func189,ntmps189;go_wp2_with(go_at_call 55;refine(Hl _ _).mono ?_;rintro e w1 ⟨a1,c1,rfl,hJ⟩;replace hI:=hI.seq hJ;clear hJ);go_ret;exact⟨eH hm.out,hI.below⟩
end B
namespace C
def gF(n:Int):Bool:=decide (0<=n)&&decide (n<=1099511627776)
theorem Cz{n:Int}(h:gF n=true):0<=n∧n<=1099511627776:=by simpa[gF]using h
theorem gP(w:World)(n:Int):Calls prog 161 #[.int .i64 n] w λe w'=>e=.returned (.bool (gF n))∧w'=w:=by
 exact W60
def aP(n:Int):Bool:=decide (0<=n)&&decide (n<5)
theorem dW{n:Int}(h:aP n=true):0<=n∧n<5:=by simpa[aP]using h
theorem dR(w:World)(n:Int):Calls prog 132 #[.int .i64 n] w λe w'=>e=.returned (.bool (aP n))∧w'=w:=by
 by_cases h:0<=n
 ·go_enter func132,ntmps132
  exact W79
 ·go_enter func132,ntmps132
  exact W58
def ng(key n:Int):Bool:=decide (0<=key∧key<4∧1<=n∧n<=1099511627776)
theorem vC{key n:Int}(h:ng key n=true):0<=key∧key<4∧1<=n∧n<=1099511627776:=by simpa[ng]using h
theorem mq(w:World)(key n:Int):Calls prog 144 #[.int .i64 key,.int .i64 n] w λe w'=>e=.returned (.bool (ng key n))∧w'=w:=by
 by_cases h0:0<=key
 ·by_cases h1:key<4
  ·by_cases h2:1<=n
   ·have hr:Hid (gF n=ng key n):=HD (by simp[gF,ng,h0,h1,h2];omega)
    go_enter func144,ntmps144;go_wp2_with(go_at_call 161;refine KR (gP _ _) ?_);go_ret;exact⟨eH hr.out,rfl⟩
   ·exact W52
  ·exact W52
 ·exact W52
theorem bdn(w:World)(n:Nat):Below w.heap.size w (w.drewN n):=⟨rfl,rfl,rfl,Nat.le_refl _,λ_ _=>rfl⟩
theorem JI(w:World)(b off:Nat)(v:Int)(hc:w.cell? ⟨b,off,none⟩=some (.int .i64 v)):Calls prog 146 #[.pointer (some ⟨b,off,none⟩)] w λe w'=>e=.returned (.tuple #[.int .i64 v,.pointer (some ⟨b,off,none⟩)])∧Below w.heap.size w w':=by
 have hd:w.drew.cell? ⟨b,off,none⟩=some (.int .i64 v):=hc;go_enter func146,ntmps146;exact afK
theorem JJ(w:World)(b off:Nat)(v:Int)(hc:w.cell? ⟨b,off+1,none⟩=some (.int .i64 v)):Calls prog 147 #[.pointer (some ⟨b,off,none⟩)] w λe w'=>e=.returned (.tuple #[.int .i64 v,.pointer (some ⟨b,off+1,none⟩)])∧Below w.heap.size w w':=by
 have hd:w.drew.cell? ⟨b,off+1,none⟩=some (.int .i64 v):=hc;go_enter func147,ntmps147;exact afK
theorem rq{T:List Nat}{w0 w:World}{m:List aG}{b:Nat}{e:TypeId}{zs:List Int}{i:Nat}(hI:Inv T w0 w m)(hm:ib b e zs∈m)(hi:i<zs.length):w.cell? ⟨b,i,none⟩=some (.int .i64 (gi zs i)):=by
 rw[mV (hI.blk hm)];simp[hi,gi]
def oH(x:List Int)(i:Nat)(n:Int):List Int:=(x.set i (gi x i+n)).set 0 (gi x 0+1)
theorem M_(w0:World)(x:List Int)(key n:Int)(hx:x.length=174)(hk:0<=key∧key<4)(hn:1<=n∧n<=1099511627776)(hgt:1099511627776-n<gi x (1+key.toNat*7)):
  Calls prog 145 #[ia x,.int .i64 key,.int .i64 n,.func (.func 146) #[] #[]] w0 λe w'=>e=.returned (.tuple #[ia (aj 174),.int .i64 6])∧Below w0.heap.size w0 w':=by
 have hI:=Inv.start w0;obtain⟨hk0,hk1⟩:=hk;go_enter func145,ntmps145;go_wp2_with(first|refine YS ?_;intro w hI|refine YX ?_;intro bx w hI|refine YL ?_|go_at_call 146;refine KD hI (JI _ _ _ (gi x (1+key.toNat*7)) (rq hI aM OM)) ?_;intro w1 hI);exact Ui
theorem Na(w0:World)(x:List Int)(key n:Int)(hx:x.length=174)(hk:0<=key∧key<4)(hn:1<=n∧n<=1099511627776)(hgt:1099511627776-n<gi x (1+key.toNat*7+1)):
  Calls prog 145 #[ia x,.int .i64 key,.int .i64 n,.func (.func 147) #[] #[]] w0 λe w'=>e=.returned (.tuple #[ia (aj 174),.int .i64 6])∧Below w0.heap.size w0 w':=by
 have hI:=Inv.start w0;obtain⟨hk0,hk1⟩:=hk;go_enter func145,ntmps145;go_wp2_with(first|refine YS ?_;intro w hI|refine YX ?_;intro bx w hI|refine YL ?_|go_at_call 147;refine KD hI (JJ _ _ _ (gi x (1+key.toNat*7+1)) (rq hI aM OM)) ?_;intro w1 hI);exact Ui
def xJ(x:List Int)(i:Nat)(key n:Int):List Int×Int:=if ng key n=true then(if 1099511627776-n<gi x i then(aj 174,6)else(oH x i n,0))else(aj 174,5)
def Wf(x:List Int):Prop:=∀i,-9223372036854775808<=gi x i∧gi x i<=9223372036854775807
theorem ny(x:List Int)(i:Nat)(key n:Int)(hx:x.length=174):(xJ x i key n).1.length=174:=by
 unfold xJ
 split
 ·split
  ·simp[aa]
  ·simp[oH,hx]
 ·simp[aa]
end C
namespace C
theorem yJ:(prog.info? 4).map (·.zero)=some (some (.bool false)):=by kernel_rfl
def pz(s:Int):List Int->Int×Int
 | []=>(s,0)
 |z::zs=>if gF z=true then(if 1099511627776-s<z then(0,6)else pz (s+z) zs)else(0,5)
def qN(zs:List Int):Int×Int:=pz 0 zs
theorem O_(w:World)(a:Option Addr)(c:Nat)(zs:List Int)(hr:Rd w a (zs.map (Value.int .i64)))(hl:zs.length<=140737488351232):
  Calls prog 162 #[.slice a zs.length c] w λe w'=>e=.returned (.tuple #[.int .i64 (qN zs).1,.int .i64 (qN zs).2])∧w'=w:=by
 go_enter func162,ntmps162
 go_wp2
 go_loop [4,9] (λs i=>∃(j:Nat) (x:Int),j<=zs.length∧i=.int .i64 j∧s=.int .i64 x∧0<=x∧x<=1099511627776∧qN zs=pz x (zs.drop j)) (λ_ i=>zs.length- (intOf i).toNat)
 case atStart=>exact⟨0,0,by omega,rfl,rfl,by omega,by omega,rfl⟩
 case round=>
  obtain⟨j,x,hj,rfl,rfl,h0,h1,hx⟩:=hrel;by_cases hlj:j<zs.length
  ·obtain⟨b,off,rfl,hc⟩:=hr j (.int .i64 zs[j]) (by simp[hlj])
   rw[List.drop_eq_getElem_cons hlj]at hx;generalize zs[j]=z at*;simp only[pz]at hx;have HX:=HD hx;clear hx hr;cases hz:gF z
   ·have Uo:Hid (qN zs=(0,5)):=by have:=HX.out;rw[hz]at this;exact this
    clear HX;go_wp2_with(go_at_call 161;refine KR (gP _ _) ?_)
    go_ret2
    exact⟨by rw[Uo.out];rfl,rfl⟩
   ·have h2:=Cz hz
    by_cases hgt:1099511627776-x<z
    ·have Uo:Hid (qN zs=(0,6)):=by have:=HX.out;rw[hz,if_pos rfl,if_pos hgt]at this;exact this
     clear HX;go_wp2_with(go_at_call 161;refine KR (gP _ _) ?_)
     go_ret2
     exact⟨by rw[Uo.out];rfl,rfl⟩
    ·have Uo:Hid (qN zs=pz (x+z) (zs.drop (j+1))):=by have:=HX.out;rw[hz,if_pos rfl,if_neg hgt]at this;exact this
     clear HX;go_wp2_with(go_at_call 161;refine KR (gP _ _) ?_)
     go_round
     case rel=>exact⟨j+1,x+z,by omega,by go_num,by go_num,by omega,by omega,Uo.out⟩
     case measure=>simp[intOf];omega
  ·obtain rfl:j=zs.length:=by omega
   have HX:Hid (qN zs=(x,0)):=HD (by rw[hx];simp[pz]);clear hx
   go_wp2
   go_ret2
   exact⟨by rw[HX.out];rfl,rfl⟩
def stepG(p:Bool×Int)(g:Int):Bool×Int:=if p.1=true∧0<=g∧g<=1099511627776 then(true,p.2+g)else(false,p.2)
def ioB(c:List Int):Bool:=decide (0<=gi c 0∧gi c 0<=1099511627776∧0<=gi c 1∧gi c 1<=1099511627776)
def ada(k:Bool)(c:List Int):Bool:=((sub c 2 5).foldl stepG (k&&ioB c,0)).1&&decide (((sub c 2 5).foldl stepG (k&&ioB c,0)).2<=1099511627776)
def oI(c:List Int):Bool:=ada true c
theorem vD(s:Int)(gs:List Int):gs.foldl stepG (false,s)=(false,s):=by
 induction gs with
 |nil=>rfl
 |cons g gs ih=>rw[List.foldl_cons,show stepG (false,s) g=(false,s)from by simp[stepG],ih]
end C
namespace C
def De(f:Nat->Bool)(n:Nat):Bool:=(List.range n).all f
theorem FM(f:Nat->Bool)(n:Nat):De f (n+1)=(De f n&&f n):=by
 unfold De;rw[List.range_succ,List.all_append];simp
theorem oJ(f:Nat->Bool)(n:Nat):De f n=true↔∀i,i<n->f i=true:=by simp[De]
def cellAt(cs:List Int)(i:Nat):List Int:=sub cs (i*7) 7
def cellsOf(x:List Int):List Int:=sub x 1 28
def leftOf(x:List Int)(i:Nat):List Int:=sub (sub x 34 140) (i*28) 28
def nV(cs:List Int):Bool:=De (λj=>oI (cellAt cs j)) 4
def qp(x:List Int)(i:Nat):Bool:=decide (0<=gi x (29+i))&&(decide (0<gi x (29+i)) ||decide (leftOf x i=aj 28))&&nV (leftOf x i)
def mi(x:List Int):Bool:=decide (0<=gi x 0)&&nV (cellsOf x)&&De (qp x) 5
end C
namespace C
theorem Va(gs:List Int):∀s,(gs.foldl stepG (true,s)).1=true->s<=(gs.foldl stepG (true,s)).2:=by
 induction gs with
 |nil=>intro s _;exact Int.le_refl _
 |cons g gs ih=>
  intro s h;rw[List.foldl_cons]at h|-;by_cases hg:0<=g∧g<=1099511627776
  ·have e:stepG (true,s) g=(true,s+g):=by unfold stepG;rw[if_pos ⟨rfl,hg.1,hg.2⟩]
   rw[e]at h|-;have:=ih (s+g) h;omega
  ·have e:stepG (true,s) g=(false,s):=by unfold stepG;rw[if_neg (λh=>hg h.2)]
   rw[e,vD]at h;cases h
theorem Vb(gs:List Int):∀s,0<=s->s<=1099511627776->decide ((pz s gs).2=0)=((gs.foldl stepG (true,s)).1&&decide ((gs.foldl stepG (true,s)).2<=1099511627776)):=by
 induction gs with
 |nil=>intro s h0 h1;simp[pz,h1]
 |cons g gs ih=>
  intro s h0 h1;rw[List.foldl_cons,pz];by_cases hg:0<=g∧g<=1099511627776
  ·have e:stepG (true,s) g=(true,s+g):=by unfold stepG;rw[if_pos ⟨rfl,hg.1,hg.2⟩]
   rw[e,if_pos (by simp[gF,hg.1,hg.2])];by_cases hgt:1099511627776-s<g
   ·rw[if_pos hgt]
    cases hk:(gs.foldl stepG (true,s+g)).1
    ·rfl
    ·have:=Va gs (s+g) hk
     rw[Bool.true_and];simp;omega
   ·rw[if_neg hgt,ih (s+g) OM OM]
  ·have e:stepG (true,s) g=(false,s):=by unfold stepG;rw[if_neg (λh=>hg h.2)]
   rw[e,vD,if_neg (by simp only[gF,Bool.and_eq_true,decide_eq_true_eq];exact hg)];rfl
theorem Vd(c:List Int):oI c=(gF (gi c 0)&&gF (gi c 1)&&decide ((qN (sub c 2 5)).2=0)):=by
 unfold oI ada qN;rw[Bool.true_and];have e:ioB c=(gF (gi c 0)&&gF (gi c 1)):=by
  unfold ioB gF;rw[Bool.eq_iff_iff];simp[and_assoc]
 rw[e];cases h:(gF (gi c 0)&&gF (gi c 1))
 ·simp[vD]
 ·rw[Vb _ 0 OM OM,Bool.true_and]
theorem ab4{T:List Nat}{w0 w:World}{m:List aG}{b:Nat}{e:TypeId}{zs:List Int}(hI:Inv T w0 w m)(hm:ib b e zs∈m)(off n:Nat):Rd w (some ⟨b,off,none⟩) ((sub zs off n).map (Value.int .i64)):=by
 intro j u hj;rw[List.getElem?_map]at hj;obtain⟨z,hz,rfl⟩:=Option.map_eq_some_iff.1 hj;refine⟨b,off,rfl,?_⟩;simp only[sub,List.getElem?_take,List.getElem?_drop]at hz
 split at hz
 ·have hb:=hI.blk hm
  rw[mV hb,List.getElem?_map,hz];rfl
 ·cases hz
theorem ab5(w:World)(a:Option Addr)(n c:Nat)(zs:List Int)(hn:zs.length=n)(hr:Rd w a (zs.map (Value.int .i64)))(hl:n<=140737488351232):
  Calls prog 162 #[.slice a n c] w λe w'=>e=.returned (.tuple #[.int .i64 (qN zs).1,.int .i64 (qN zs).2])∧w'=w:=by
 subst hn;exact O_ w a c zs hr hl
theorem nW(w0:World)(cs:List Int)(hc:cs.length=28):
  Calls prog 130 #[ia cs] w0 λe w'=>e=.returned (.bool (nV cs))∧Below w0.heap.size w0 w':=by
 have hI:=Inv.start w0;go_enter func130,ntmps130;go_wp2_with(first|refine YL ?_|refine YX ?_;intro bx w hI)
 (obtain⟨b1,hbx⟩:=EZ bx;subst hbx)
 go_loopg [8] 4 (λkk i wr=>∃(j:Nat),kk=4-j∧j<=4∧i=.int .i64 j∧De (λj=>oI (cellAt cs j)) j=true∧Inv [] w0 wr [ib b1 38 cs])
 case atStart=>exact⟨0,rfl,by omega,rfl,rfl,hI⟩
 case round=>
  clear hI;obtain⟨j,rfl,hj,rfl,ha,hI⟩:=hrel;by_cases hlj:j<4
  ·have vg:(j:Int).toNat=j:=by simp
   have hs:=FM (λj=>oI (cellAt cs j)) j;rw[ha,Bool.true_and]at hs;have hce:=Vd (cellAt cs j);have hall:oI (cellAt cs j)=false->nV cs=false:=by
    intro h;cases hcs:nV cs
    ·rfl
    ·have:=(oJ _ 4).1 hcs j hlj
     rw[h]at this;cases this
   have hlen:(cellAt cs j).length=7:=by simp only[cellAt,ay];omega
   have hcl:(sub (cellAt cs j) 2 5).length=5:=by rw[ay];omega
   have he:sub cs (j*7) 7=cellAt cs j:=rfl;replace hs:=HD hs;replace hall:=HD hall;clear ha;generalize cellAt cs j=c at*;cases h0:gF (gi c 0)
   ·rw[h0]at hce
    replace hce:=HD hce;go_wp2_with(first|refine YL ?_|refine YS ?_;intro w hI|refine YX ?_;intro bx w hI|go_at_call 161;refine KR (gP _ _) ?_);go_ret;exact⟨eH (hall.out (by rw[hce.out];rfl)).symm,hI.below⟩
   ·cases h1:gF (gi c 1)
    ·rw[h0,h1]at hce
     replace hce:=HD hce;go_wp2_with(first|refine YL ?_|refine YS ?_;intro w hI|refine YX ?_;intro bx w hI|go_at_call 161;refine KR (gP _ _) ?_);go_ret;exact⟨eH (hall.out (by rw[hce.out];rfl)).symm,hI.below⟩
    ·rw[h0,h1,Bool.true_and,Bool.true_and]at hce
     by_cases ha:(qN (sub c 2 5)).2=0
     ·have ha2:((qN (sub c 2 5)).2 != 0)=false:=by simp[ha]
      rw[ha]at hce;replace hce:=HD hce;clear ha;go_wp2_with(first|refine YL ?_|refine YS ?_;intro w hI|refine YX ?_;intro bx w hI|go_at_call 161;refine KR (gP _ _) ?_|go_at_call 162;simp only[vg,he]at hI;refine(ab5 _ _ _ _ (sub c 2 5) hcl (ab4 hI aA 2 5) OM).mono ?_;rintro e w1 ⟨rfl,rfl⟩);go_roundg (4- (j+1))
      case measure=>omega
      case rel=>exact⟨j+1,rfl,by omega,by go_num,by rw[hs.out,hce.out];rfl,hI.tl⟩
     ·have ha2:((qN (sub c 2 5)).2 != 0)=true:=by simp[ha]
      replace hce:Hid (oI c=false):=HD (by rw[hce];simp[ha]);clear ha;go_wp2_with(first|refine YL ?_|refine YS ?_;intro w hI|refine YX ?_;intro bx w hI|go_at_call 161;refine KR (gP _ _) ?_|go_at_call 162;simp only[vg,he]at hI;refine(ab5 _ _ _ _ (sub c 2 5) hcl (ab4 hI aA 2 5) OM).mono ?_;rintro e w1 ⟨rfl,rfl⟩);go_ret;exact⟨eH (hall.out hce.out).symm,hI.below⟩
  ·obtain rfl:j=4:=by omega
   replace ha:=HD ha;go_wp2_with(fail);go_ret;exact⟨eH ha.out.symm,hI.below⟩
theorem wu(x:List Int)(i:Nat)(h:i<5):leftOf x i=sub x (34+i*28) 28:=by
 unfold leftOf sub;rw[List.drop_take,List.drop_drop,List.take_take];congr 1;omega
theorem jb(w0:World)(x:List Int)(hx:x.length=174):
  Calls prog 90 #[ia x] w0 λe w'=>e=.returned (.bool (mi x))∧Below w0.heap.size w0 w':=by
 have hI:=Inv.start w0;by_cases hv:gi x 0<0
 ·have hf:Hid (mi x=false):=HD (by unfold mi;rw[show decide (0<=gi x 0)=false from by simp;omega];rfl)
  go_enter func90,ntmps90;go_wp2_with(first|refine YL ?_|refine YX ?_;intro bx w hI);exact W87
 ·cases hcs:nV (cellsOf x)
  ·have hf:Hid (mi x=false):=HD (by unfold mi;rw[hcs];simp)
   have he:sub x 1 28=cellsOf x:=rfl;have hcl:(cellsOf x).length=28:=by simp only[cellsOf,ay];omega
   generalize cellsOf x=cx at*;go_enter func90,ntmps90;go_wp2_with(first|refine YL ?_|refine YX ?_;intro bx w hI|go_at_call 130;refine KD hI (nW _ cx hcl) ?_;intro w1 hI);exact W87
  ·have he:sub x 1 28=cellsOf x:=rfl
   have hcl:(cellsOf x).length=28:=by simp only[cellsOf,ay];omega
   have hrow:mi x=De (qp x) 5:=by unfold mi;rw[hcs,show decide (0<=gi x 0)=true from by simp;omega];rfl
   replace hrow:=HD hrow;generalize cellsOf x=cx at*;go_enter func90,ntmps90;go_wp2_with(first|refine YL ?_|refine YX ?_;intro bx w hI|go_at_call 130;refine KD hI (nW _ cx hcl) ?_;intro w1 hI)
   (obtain⟨b1,hbx⟩:=EZ bx;subst hbx)
   clear he hcl hcs
   go_loopg [16] 5 (λkk i wr=>∃(j:Nat),kk=5-j∧j<=5∧i=.int .i64 j∧De (qp x) j=true∧Inv [] w0 wr [ib b1 41 x])
   case atStart=>exact⟨0,rfl,by omega,rfl,rfl,hI⟩
   case round=>
    clear hI;obtain⟨j,rfl,hj,rfl,ha,hI⟩:=hrel;by_cases hlj:j<5
    ·have vg:(j:Int).toNat=j:=by simp
     have hs:=FM (qp x) j;rw[ha,Bool.true_and]at hs;have hall:qp x j=false->mi x=false:=by
      intro h;rw[hrow.out];cases hcs:De (qp x) 5
      ·rfl
      ·have:=(oJ _ 5).1 hcs j hlj
       rw[h]at this;cases this
     have hel:sub x (34+j*28) 28=leftOf x j:=(wu x j hlj).symm;have heh:gi (sub x 29 5) j=gi x (29+j):=nQ x 29 5 j hlj;have hll:(leftOf x j).length=28:=by rw[<-hel,ay];omega
     have hlb:qp x j=(decide (0<=gi x (29+j))&&(decide (0<gi x (29+j)) ||decide (leftOf x j=aj 28))&&nV (leftOf x j)):=rfl;replace hs:=HD hs;replace hall:=HD hall;clear ha;generalize leftOf x j=l at*;generalize gi x (29+j)=h at*;by_cases h0:h<0
     ·have hf:Hid (qp x j=false):=HD (by rw[hlb,show decide (0<=h)=false from by simp;omega];rfl)
      clear hlb;go_wp2_with(refine YL ?_);go_ret;exact⟨eH (hall.out hf.out).symm,hI.below⟩
     ·cases hcl:nV l
      ·have hf:Hid (qp x j=false):=HD (by rw[hlb,hcl,Bool.and_false])
       clear hlb;go_wp2_with(first|refine YL ?_|go_at_call 130;refine KD hI (nW _ l hll) ?_;intro w1 hI);go_ret;exact⟨eH (hall.out hf.out).symm,hI.below⟩
      ·by_cases h1:0<h
       ·have hf:Hid (qp x j=true):=HD (by rw[hlb,hcl,show decide (0<=h)=true from by simp;omega,show decide (0<h)=true from by simpa using h1];rfl)
        have hh0:(h==0)=false:=by simp;omega
        clear hlb;go_wp2_with(first|refine YL ?_|go_at_call 130;refine KD hI (nW _ l hll) ?_;intro w1 hI);go_roundg (5- (j+1))
        case measure=>omega
        case rel=>exact⟨j+1,rfl,by omega,by go_num,by rw[hs.out,hf.out],hI⟩
       ·have hh0:h=0:=by omega
        have hh1:(h==0)=true:=by simp[hh0]
        by_cases hz:l=aj 28
        ·have hf:Hid (qp x j=true):=HD (by rw[hlb,hcl,hh0,hz];simp)
         have hz2:decide (l=aj 28)=true:=by simp[hz]
         clear hlb hz hh0;go_wp2_with(first|refine YL ?_|with_reducible refine jM RF RF (by with_reducible exact gM) (by with_reducible exact kU) UM NM ?_|go_at_call 130;refine KD hI (nW _ l hll) ?_;intro w1 hI);go_roundg (5- (j+1))
         case measure=>omega
         case rel=>exact⟨j+1,rfl,by omega,by go_num,by rw[hs.out,hf.out],hI⟩
        ·have hf:Hid (qp x j=false):=HD (by rw[hlb,hh0];simp[hz])
         have hz2:decide (l=aj 28)=false:=by simp[hz]
         clear hlb hz hh0;go_wp2_with(first|refine YL ?_|with_reducible refine jM RF RF (by with_reducible exact gM) (by with_reducible exact kU) UM NM ?_|go_at_call 130;refine KD hI (nW _ l hll) ?_;intro w1 hI);go_ret;exact⟨eH (hall.out hf.out).symm,hI.below⟩
    ·obtain rfl:j=5:=by omega
     replace ha:=HD ha;go_wp2_with(fail);go_ret;exact⟨eH (by rw[hrow.out,ha.out]),hI.below⟩
end C
namespace C
def rowOf(zs:List Int)(who:Int):List Int:=if aP who=true then sub zs (who.toNat*174) 174 else aj 174
theorem j_(zs:List Int)(who:Int)(hz:zs.length=870):(rowOf zs who).length=174:=by
 unfold rowOf
 split
 ·rename_i h
  obtain⟨h0,h5⟩:=dW h;rw[ay];omega
 ·exact aa 174
end C
namespace C
def qx(x:List Int)(who iK key:Int):List Int×Int:=
 if aP who=true∧aP iK=true∧0<=key∧key<4 then
  (if iK=who then(sub x (1+key.toNat*7) 7,gi x 0)
   else if 0<gi x (29+iK.toNat)then(sub x (34+iK.toNat*28+key.toNat*7) 7,gi x (29+iK.toNat) -1)else(aj 7,-1))
 else(aj 7,-1)
theorem Ry(w0:World)(x:List Int)(who iK key:Int)(hx:x.length=174)(hc:aP who=false∨(aP who=true∧aP iK=false)∨(aP who=true∧aP iK=true∧key<0)∨(aP who=true∧aP iK=true∧4<=key∧¬key<0)):
  Calls prog 92 #[ia x,.int .i64 who,.int .i64 iK,.int .i64 key] w0 λe w'=>e=.returned (.tuple #[ia (aj 7),.int .i64 (-1)])∧Below w0.heap.size w0 w':=by
 have hI:=Inv.start w0;have h7:=aa 7;rcases hc with h1| ⟨h1,h2⟩ | ⟨h1,h2,h3⟩ | ⟨h1,h2,h3,h4⟩
 all_goals
  go_enter func92,ntmps92;go_wp2_with(first|refine YL ?_|refine YS ?_;intro w hI|refine YX ?_;intro bx w hI|go_at_call 132;refine KR (dR _ _) ?_);exact bodyPost_ret (aF hI rfl rfl aA Fj (aa 7)) rfl ⟨rfl,hI.below⟩
theorem Vw(w0:World)(x:List Int)(who key:Int)(hx:x.length=174)(h1:aP who=true)(hk0:0<=key)(hk1:key<4):
  Calls prog 92 #[ia x,.int .i64 who,.int .i64 who,.int .i64 key] w0 λe w'=>e=.returned (.tuple #[ia (sub x (1+key.toNat*7) 7),.int .i64 (gi x 0)])∧Below w0.heap.size w0 w':=by
 have hI:=Inv.start w0;have h7:=aa 7;have hsl:(sub x (1+key.toNat*7) 7).length=7:=by rw[ay];omega
 go_enter func92,ntmps92;go_upto_region 4 with(first|refine YL ?_|refine YX ?_;intro bx w hI|go_at_call 132;refine KR (dR _ _) ?_)
 (try simp only[QN])
 (obtain⟨mE,qm⟩:=gX hI;refine aH (C:=λw'=>Inv _ _ w' _) [6] (λw'=>Inv _ _ w' (List.eraseIdx (mE) 0)) hI.drew (λw' h=>Inv.sub h (by subst qm;((try simp only[vV]);repeat(first|exact List.Sublist.slnil|with_reducible apply List.Sublist.cons_cons|apply List.Sublist.cons)))) mixed KF ?_;subst qm;clear hI;(repeat(first| ((with_reducible apply dw);rfl;rfl;rfl;(focus(intro w (hI:Inv _ _ w _);go_wp2_with(refine YS ?_;intro w hI);(try simp only[QN]);exact⟨rfl,rfl,hI⟩));(exact⟨undef,rfl⟩);(focus(intro w (hI:Inv _ _ w _);exact Inv.sub hI SB))) | ((with_reducible apply aZ);rfl;rfl;(focus(intro w (hI:Inv _ _ w _);go_wp2_with(refine YL ?_);(try simp only[QN]);exact⟨rfl,rfl,hI⟩));(exact⟨_,rfl⟩)) | ((with_reducible apply cZ);rfl;rfl;(focus(intro D w hD hE;have hI:Inv _ _ w _:=hE;(try simp only[vV]at hI);go_wp2_with(refine YL ?_);(try simp only[QN]);exact⟨rfl,rfl,hD⟩));(exact⟨_,rfl⟩))));(refine bn ?_;intro w (hI:Inv _ _ w _)))
 exact W96
theorem Rz(w0:World)(x:List Int)(who iK key:Int)(hx:x.length=174)(h1:aP who=true)(h2:aP iK=true)(hk0:0<=key)(hk1:key<4)(hne:iK≠who)(hh:0<gi x (29+iK.toNat))(Yw:gi x (29+iK.toNat)<=9223372036854775807):
  Calls prog 92 #[ia x,.int .i64 who,.int .i64 iK,.int .i64 key] w0 λe w'=>e=.returned (.tuple #[ia (sub x (34+iK.toNat*28+key.toNat*7) 7),.int .i64 (gi x (29+iK.toNat) -1)])∧Below w0.heap.size w0 w':=by
 have hI:=Inv.start w0;have h7:=aa 7;obtain⟨ho0,ho1⟩:=dW h2;have hsl:(sub x (34+iK.toNat*28+key.toNat*7) 7).length=7:=by rw[ay];omega
 have hb:(iK==who)=false:=by simpa using hne
 go_enter func92,ntmps92;go_upto_region 6 with(first|refine YL ?_|refine YX ?_;intro bx w hI|go_at_call 132;refine KR (dR _ _) ?_)
 (try simp only[QN])
 (obtain⟨mE,qm⟩:=gX hI;refine aH (C:=λw'=>Inv _ _ w' _) [11] (λw'=>Inv _ _ w' (List.eraseIdx (mE) 0)) hI.drew (λw' h=>Inv.sub h (by subst qm;((try simp only[vV]);repeat(first|exact List.Sublist.slnil|with_reducible apply List.Sublist.cons_cons|apply List.Sublist.cons)))) mixed KF ?_;subst qm;clear hI;(repeat(first| ((with_reducible apply dw);rfl;rfl;rfl;(focus(intro w (hI:Inv _ _ w _);go_wp2_with(refine YS ?_;intro w hI);(try simp only[QN]);exact⟨rfl,rfl,hI⟩));(exact⟨undef,rfl⟩);(focus(intro w (hI:Inv _ _ w _);exact Inv.sub hI SB))) | ((with_reducible apply aZ);rfl;rfl;(focus(intro w (hI:Inv _ _ w _);go_wp2_with(refine YL ?_);(try simp only[QN]);exact⟨rfl,rfl,hI⟩));(exact⟨_,rfl⟩)) | ((with_reducible apply cZ);rfl;rfl;(focus(intro D w hD hE;have hI:Inv _ _ w _:=hE;(try simp only[vV]at hI);go_wp2_with(refine YL ?_);(try simp only[QN]);exact⟨rfl,rfl,hD⟩));(exact⟨_,rfl⟩))));(refine bn ?_;intro w (hI:Inv _ _ w _)))
 exact W96
theorem RA(w0:World)(x:List Int)(who iK key:Int)(hx:x.length=174)(h1:aP who=true)(h2:aP iK=true)(hk0:0<=key)(hk1:key<4)(hne:iK≠who)(hh:gi x (29+iK.toNat)<=0):
  Calls prog 92 #[ia x,.int .i64 who,.int .i64 iK,.int .i64 key] w0 λe w'=>e=.returned (.tuple #[ia (aj 7),.int .i64 (-1)])∧Below w0.heap.size w0 w':=by
 have hI:=Inv.start w0;have h7:=aa 7;obtain⟨ho0,ho1⟩:=dW h2;have hb:(iK==who)=false:=by simpa using hne
 go_enter func92,ntmps92;go_wp2_with(first|refine YL ?_|refine YS ?_;intro w hI|refine YX ?_;intro bx w hI|go_at_call 132;refine KR (dR _ _) ?_);exact bodyPost_ret (aF hI rfl rfl aA Fj (aa 7)) rfl ⟨rfl,hI.below⟩
theorem RB(w0:World)(x:List Int)(who iK key:Int)(hx:x.length=174)(hw:Wf x):
  Calls prog 92 #[ia x,.int .i64 who,.int .i64 iK,.int .i64 key] w0 λe w'=>e=.returned (.tuple #[ia (qx x who iK key).1,.int .i64 (qx x who iK key).2])∧Below w0.heap.size w0 w':=by
 by_cases hc:aP who=true∧aP iK=true∧0<=key∧key<4
 ·obtain⟨h1,h2,hk0,hk1⟩:=hc
  unfold qx;rw[if_pos ⟨h1,h2,hk0,hk1⟩];by_cases he:iK=who
  ·subst he
   rw[if_pos rfl];exact Vw w0 x iK key hx h1 hk0 hk1
  ·rw[if_neg he]
   by_cases hh:0<gi x (29+iK.toNat)
   ·rw[if_pos hh]
    exact Rz w0 x who iK key hx h1 h2 hk0 hk1 he hh (hw _).2
   ·rw[if_neg hh]
    exact RA w0 x who iK key hx h1 h2 hk0 hk1 he OM
 ·have e:qx x who iK key=(aj 7,-1):=by unfold qx;rw[if_neg hc]
  rw[e];refine Ry w0 x who iK key hx ?_;cases h1:aP who
  ·exact .inl rfl
  ·cases h2:aP iK
   ·exact .inr (.inl ⟨rfl,rfl⟩)
   ·by_cases hk:key<0
    ·exact .inr (.inr (.inl ⟨rfl,rfl,hk⟩))
    ·exact .inr (.inr (.inr ⟨rfl,rfl,by
      by_cases h4:4<=key
      ·exact h4
      ·exact absurd ⟨h1,h2,by omega,by omega⟩ hc,hk⟩))
theorem FP(x:List Int)(who iK key:Int)(hx:x.length=174):(qx x who iK key).1.length=7:=by
 unfold qx
 split
 ·rename_i h
  obtain⟨h1,h2,h3,h4⟩:=h;obtain⟨ho0,ho1⟩:=dW h2
  split
  ·rw[ay];omega
  ·split
   ·rw[ay];omega
   ·exact aa 7
 ·exact aa 7
def Nr(x:List Int)(who:Int)(i:Nat):Bool:=decide ((i:Int)=who) ||decide (0<gi x (29+i))
def jv(x:List Int)(who:Int)(j:Nat):List Int:=((List.range j).filter (Nr x who)).map (λ(i:Nat)=>(i:Int))
theorem Ns(x:List Int)(who:Int)(j:Nat):jv x who (j+1)=jv x who j++(if Nr x who j=true then [(j:Int)]else []):=by
 unfold jv;rw[List.range_succ,List.filter_append,List.map_append];congr 1;cases h:Nr x who j<;>simp[h]
theorem FQ(x:List Int)(who:Int)(j:Nat):(jv x who j).length<=j:=by
 unfold jv;exact afP
theorem PK:uY prog 74 3 1 8 (.int .i64 0):=⟨by kernel_rfl,by kernel_rfl,by kernel_rfl,by decide⟩
theorem aag(w0:World)(x:List Int)(who:Int)(hx:x.length=174):Calls prog 149 #[ia x,.int .i64 who] w0 λe w'=>
  ∃a c,e=.returned (.slice a (jv x who 5).length c)∧Inv [] w0 w' [bf 3 1 (.slice a (jv x who 5).length c) (jv x who 5).length ((jv x who 5).map (Value.int .i64))]:=by
 have hI:=(Inv.start w0).Av 3 1;go_enter func149,ntmps149;go_wp2_with(first|refine YL ?_|refine YX ?_;intro bx w hI)
 (obtain⟨b1,hbx⟩:=EZ bx;subst hbx)
 go_loopg [5,10] 5 (λkk s i wr=>∃(j:Nat) (a:Option Addr) (c:Nat),kk=5-j∧j<=5∧i=.int .i64 j∧s=.slice a (jv x who j).length c∧Inv [] w0 wr [ib b1 41 x,bf 3 1 (.slice a (jv x who j).length c) (jv x who j).length ((jv x who j).map (Value.int .i64))])
 case atStart=>exact⟨0,none,0,rfl,by omega,rfl,by simp[jv],by simpa[jv]using hI⟩
 case round=>
  clear hI;obtain⟨j,a,c,rfl,hj,rfl,rfl,hI⟩:=hrel;by_cases hlj:j<5
  ·have hlen:=FQ x who j
   have hs:=Ns x who j;have vg:(j:Int).toNat=j:=by simp
   have heh:gi (sub x 29 5) j=gi x (29+j):=nQ x 29 5 j hlj;have hop:Nr x who j=(decide ((j:Int)=who) ||decide (0<gi x (29+j))):=rfl;have h5l:(sub x 29 5).length=5:=by rw[ay];omega
   by_cases h1:(j:Int)=who
   ·have hq:((j:Int)==who)=true:=by simpa using h1
    have ht:Nr x who j=true:=by rw[hop];simp[h1]
    rw[ht,if_pos rfl]at hs;replace hs:=HD hs;clear ht hop h1;go_wp2_with(first|refine YL ?_|(with_reducible refine qg hI PK RF ?_;intro _ w hI)|(with_reducible refine az hI RF RF PK (by intro r';exact aR.there (aR.there aR.here)) (hI.rd aA) RF (by simp[Value.oneCell']) MX OM ?_;intro a' c' w hI));go_roundg (5- (j+1))
    case measure=>omega
    case rel=>
     have e:(jv x who (j+1)).length=(jv x who j).length+1:=by rw[hs.out];simp
     refine⟨j+1,a',c',rfl,by omega,by go_num,by rw[e],?_⟩;rw[e,hs.out,List.map_append];exact hI.tl
   ·have hq:((j:Int)==who)=false:=by simpa using h1
    by_cases h2:0<gi x (29+j)
    ·have ht:Nr x who j=true:=by rw[hop];simp[h2]
     rw[ht,if_pos rfl]at hs;replace hs:=HD hs;clear ht hop h1;generalize gi x (29+j)=hv at*;go_wp2_with(first|refine YL ?_|(with_reducible refine qg hI PK RF ?_;intro _ w hI)|(with_reducible refine az hI RF RF PK (by intro r';exact aR.there (aR.there aR.here)) (hI.rd aA) RF (by simp[Value.oneCell']) MX OM ?_;intro a' c' w hI));go_roundg (5- (j+1))
     case measure=>omega
     case rel=>
      have e:(jv x who (j+1)).length=(jv x who j).length+1:=by rw[hs.out];simp
      refine⟨j+1,a',c',rfl,by omega,by go_num,by rw[e],?_⟩;rw[e,hs.out,List.map_append];exact hI.tl
    ·have ht:Nr x who j=false:=by rw[hop];simp[h1,h2]
     rw[ht,if_neg SI,List.append_nil]at hs;replace hs:=HD hs;clear ht hop h1;generalize gi x (29+j)=hv at*;go_wp2_with(refine YL ?_);go_roundg (5- (j+1))
     case measure=>omega
     case rel=>exact⟨j+1,a,c,rfl,by omega,by go_num,by rw[hs.out],by rw[hs.out];exact hI⟩
  ·obtain rfl:j=5:=by omega
   go_wp2
   go_ret;exact⟨a,c,rfl,hI.tl⟩
end C
namespace C
theorem Vx(n i:Nat):gi (aj n) i=0:=by
 unfold gi aj;rw[List.getD_eq_getElem?_getD];simp[List.getElem?_replicate]
 split<;>rfl
theorem xP(x:List Int)(i j:Nat)(v:Int):gi (x.set i v) j=if i=j∧j<x.length then v else gi x j:=by
 unfold gi;rw[List.getD_eq_getElem?_getD,List.getD_eq_getElem?_getD,List.getElem?_set];by_cases h:i=j
 ·subst h
  by_cases h2:i<x.length
  ·simp[h2]
  ·simp[h2]
 ·simp[h]
end C
namespace C
theorem ab8(zs:List Int)(i:Nat):gi zs i=(zs[i]?).getD 0:=by unfold gi;rw[List.getD_eq_getElem?_getD]
theorem getElem?_spl(zs vs:List Int)(off:Nat)(h:off+vs.length<=zs.length)(i:Nat):(dF zs off vs)[i]? =if off<=i∧i<off+vs.length then vs[i-off]? else zs[i]? :=by
 unfold dF;have hl:(zs.take off).length=off:=by simp;omega
 rw[List.append_assoc];by_cases h1:i<off
 ·rw[List.getElem?_append_left OM,List.getElem?_take,if_pos h1,if_neg OM]
 ·rw[List.getElem?_append_right OM,hl]
  by_cases h2:i<off+vs.length
  ·rw[List.getElem?_append_left OM,if_pos OM]
  ·rw[List.getElem?_append_right OM,List.getElem?_drop,if_neg OM]
   congr 1;omega
theorem Vy(zs vs:List Int)(off:Nat)(h:off+vs.length<=zs.length):(dF zs off vs).length=zs.length:=by rw[aY];omega
theorem Vz(zs vs:List Int)(off i:Nat)(h:off+vs.length<=zs.length):gi (dF zs off vs) i=if off<=i∧i<off+vs.length then gi vs (i-off)else gi zs i:=by
 rw[ab8,getElem?_spl zs vs off h]
 split<;>rw[ab8]
theorem getElem?_sub(zs:List Int)(off n i:Nat):(sub zs off n)[i]? =if i<n then zs[off+i]? else none:=by
 unfold sub;rw[List.getElem?_take,List.getElem?_drop]
theorem H6(zs vs:List Int)(off:Nat)(h:off+vs.length<=zs.length):sub (dF zs off vs) off vs.length=vs:=by
 apply List.ext_getElem?;intro i;rw[getElem?_sub,getElem?_spl zs vs off h];by_cases hi:i<vs.length
 ·rw[if_pos hi,if_pos OM];congr 1;omega
 ·rw[if_neg hi,List.getElem?_eq_none OM]
theorem xh(zs vs:List Int)(off o n:Nat)(h:off+vs.length<=zs.length)(hd:o+n<=off∨off+vs.length<=o):sub (dF zs off vs) o n=sub zs o n:=by
 apply List.ext_getElem?;intro i;rw[getElem?_sub,getElem?_sub];by_cases hi:i<n
 ·rw[if_pos hi,if_pos hi,getElem?_spl zs vs off h,if_neg OM]
 ·rw[if_neg hi,if_neg hi]
theorem lU(zs:List Int)(k o n:Nat)(v:Int)(hd:k<o∨o+n<=k):sub (zs.set k v) o n=sub zs o n:=by
 apply List.ext_getElem?;intro i;rw[getElem?_sub,getElem?_sub];by_cases hi:i<n
 ·rw[if_pos hi,if_pos hi,List.getElem?_set,if_neg OM]
 ·rw[if_neg hi,if_neg hi]
def Dn(y:List Int)(i:Nat)(h:Int)(l:List Int):List Int:=dF (y.set (29+i) h) (34+i*28) l
def jS(who:Int)(dead y:List Int)(j:Nat):List Int:=if(j:Int)≠who∧0<gi dead (29+j)∧gi y (29+j)=0 then Dn y j (gi dead (29+j)) (leftOf dead j)else y
def lV(who:Int)(dead y:List Int):Nat->List Int
 |0=>y
 |j+1=>jS who dead (lV who dead y j) j
theorem AF(x:List Int)(hx:x.length=174):(cellsOf x).length=28:=by simp only[cellsOf,ay];omega
theorem xQ(x:List Int)(i:Nat)(hx:x.length=174)(hi:i<5):(leftOf x i).length=28:=by rw[wu x i hi,ay];omega
theorem sU(y:List Int)(i:Nat)(h:Int)(l:List Int)(hy:y.length=174)(hi:i<5)(hl:l.length=28):(Dn y i h l).length=174:=by
 unfold Dn;rw[Vy _ _ _ (by rw[List.length_set,hy,hl];omega),List.length_set,hy]
theorem VA(y:List Int)(i:Nat)(h:Int)(l:List Int)(hy:y.length=174)(hi:i<5)(hl:l.length=28):gi (Dn y i h l) 0=gi y 0:=by
 unfold Dn;rw[Vz _ _ _ _ (by rw[List.length_set,hy,hl];omega),if_neg OM,xP,if_neg OM]
theorem JY(who:Int)(dead y:List Int)(j:Nat)(hy:y.length=174)(hd:dead.length=174)(hj:j<5):(jS who dead y j).length=174∧gi (jS who dead y j) 0=gi y 0:=by
 unfold jS
 split
 ·exact⟨sU y j _ _ hy hj (xQ dead j hd hj),VA y j _ _ hy hj (xQ dead j hd hj)⟩
 ·exact⟨hy,rfl⟩
theorem zU(who:Int)(dead y:List Int)(hy:y.length=174)(hd:dead.length=174):∀j,j<=5->(lV who dead y j).length=174∧gi (lV who dead y j) 0=gi y 0
 |0,_=>⟨hy,rfl⟩
 |j+1,h=>by
  have ih:=zU who dead y hy hd j OM;have:=JY who dead _ j ih.1 hd OM;exact⟨this.1,this.2.trans ih.2⟩
theorem nm3{T:List Nat}{w0 w:World}{a b c:Nat}{e1 e2 e3:TypeId}{z1 z2 z3:List Int}(_:Inv T w0 w [ib a e1 z1,ib b e2 z2,ib c e3 z3]):∃a' b' c',a'=a∧b'=b∧c'=c:=⟨a,b,c,rfl,rfl,rfl⟩
theorem adv(w0:World)(x dead:List Int)(who:Int)(hx:x.length=174)(hd:dead.length=174)(h1:aP who=false):
  Calls prog 125 #[ia x,.int .i64 who,ia dead] w0 λe w'=>e=.returned (.tuple #[ia (aj 174),.int .i64 5])∧Below w0.heap.size w0 w':=by
 have hI:=Inv.start w0;have hn:=aa 174;go_enter func125,ntmps125;go_wp2_with(first|refine YS ?_;intro w hI|refine YX ?_;intro bx w hI|refine YL ?_|go_at_call 132;refine KR (dR _ _) ?_);exact Ui
theorem VB(w0:World)(x dead:List Int)(who:Int)(hx:x.length=174)(hd:dead.length=174)(h1:aP who=true)(hh:0<gi x (29+who.toNat)):
  Calls prog 125 #[ia x,.int .i64 who,ia dead] w0 λe w'=>e=.returned (.tuple #[ia (aj 174),.int .i64 8])∧Below w0.heap.size w0 w':=by
 have hI:=Inv.start w0;have hn:=aa 174;obtain⟨ho0,ho1⟩:=dW h1;go_enter func125,ntmps125;go_wp2_with(first|refine YL ?_|refine YS ?_;intro w hI|refine YX ?_;intro bx w hI|go_at_call 132;refine KR (dR _ _) ?_);exact Ui
end C
namespace C
def cmB(who:Int)(dead y:List Int)(i:Nat):Prop:=(i:Int)≠who∧0<gi dead (29+i)∧gi y (29+i)=0
instance (who:Int) (dead y:List Int) (i:Nat):Decidable (cmB who dead y i):=by unfold cmB;infer_instance
theorem PL{x:List Int}(h:mi x=true):0<=gi x 0∧nV (cellsOf x)=true∧∀i,i<5->qp x i=true:=by
 unfold mi at h;simp only[Bool.and_eq_true,decide_eq_true_eq]at h;exact⟨h.1.1,h.1.2,(oJ _ 5).1 h.2⟩
theorem VC{x:List Int}{i:Nat}(h:qp x i=true):0<=gi x (29+i)∧(0<gi x (29+i)∨leftOf x i=aj 28)∧nV (leftOf x i)=true:=by
 unfold qp at h;simp only[Bool.and_eq_true,Bool.or_eq_true,decide_eq_true_eq]at h;exact⟨h.1.1,h.1.2,h.2⟩
end C
namespace C
def JZ(g:Int):Prop:=0<=g∧g<=1099511627776
theorem FR(gs:List Int):∀s,(∀g∈gs,JZ g)->gs.foldl stepG (true,s)=(true,s+gs.sum):=by
 induction gs with
 |nil=>intro s _;simp
 |cons g gs ih=>
  intro s h;have hg:=h g SI;rw[List.foldl_cons,show stepG (true,s) g=(true,s+g)from by unfold stepG;rw[if_pos ⟨rfl,hg.1,hg.2⟩],ih _ (λk hk=>h k (by simp[hk])),List.sum_cons];congr 1;omega
theorem RD(gs:List Int):∀s,(gs.foldl stepG (true,s)).1=true->∀g∈gs,JZ g:=by
 induction gs with
 |nil=>intro s _ g hg;simp at hg
 |cons g gs ih=>
  intro s h;rw[List.foldl_cons]at h;by_cases hg:0<=g∧g<=1099511627776
  ·rw[show stepG (true,s) g=(true,s+g)from by unfold stepG;rw[if_pos ⟨rfl,hg.1,hg.2⟩]]at h
   intro k hk;rcases List.mem_cons.1 hk with rfl|hk
   ·exact hg
   ·exact ih _ h k hk
  ·rw[show stepG (true,s) g=(false,s)from by unfold stepG;rw[if_neg (λh=>hg h.2)],vD]at h
   cases h
theorem zV(c:List Int):oI c=true↔JZ (gi c 0)∧JZ (gi c 1)∧(∀g∈sub c 2 5,JZ g)∧(sub c 2 5).sum<=1099511627776:=by
 have hio:ioB c=true↔JZ (gi c 0)∧JZ (gi c 1):=by unfold ioB JZ;simp[and_assoc]
 unfold oI ada;rw[Bool.true_and];cases h:ioB c
 ·rw[vD]
  constructor
  ·intro h;simp at h
  ·rintro⟨a,b,_⟩
   rw[hio.2 ⟨a,b⟩]at h;cases h
 ·have agk:=hio.1 h
  constructor
  ·intro h1
   simp only[Bool.and_eq_true,decide_eq_true_eq]at h1;have:=RD _ _ h1.1;rw[FR _ _ this]at h1;exact⟨agk.1,agk.2,this,by simpa using h1.2⟩
  ·rintro⟨_,_,c1,c2⟩
   rw[FR _ _ c1];simpa using c2
theorem Nt(l:List Int)(h:∀g∈l,0<=g):0<=l.sum:=by
 induction l with
 |nil=>simp
 |cons a l ih=>rw[List.sum_cons];have:=ih (λg hg=>h g (by simp[hg]));have:=h a SI;omega
theorem adw(l:List Int)(h:∀g∈l,0<=g):∀g∈l,g<=l.sum:=by
 induction l with
 |nil=>intro g hg;simp at hg
 |cons a l ih=>
  intro g hg;rw[List.sum_cons];have h0:=Nt l (λg hg=>h g (by simp[hg]));have h1:=h a SI;rcases List.mem_cons.1 hg with rfl|hg
  ·omega
  ·have:=ih (λg hg=>h g (by simp[hg])) g hg;omega
theorem aah(l:List Int):∀(i:Nat) (v:Int),i<l.length->(l.set i v).sum=l.sum-gi l i+v:=by
 induction l with
 |nil=>intro i v h;simp at h
 |cons a l ih=>
  intro i v h;cases i with
  |zero=>rw[List.set_cons_zero,List.sum_cons,List.sum_cons];simp[gi];omega
  |succ i=>
   rw[List.set_cons_succ,List.sum_cons,List.sum_cons,ih i v (by simpa using h)];have:gi (a::l) (i+1)=gi l i:=by simp[gi]
   rw[this];omega
theorem yX(zs:List Int)(off n f:Nat)(v:Int):sub (zs.set (off+f) v) off n=(sub zs off n).set f v:=by
 apply List.ext_getElem?;intro i;rw[List.getElem?_set,getElem?_sub,getElem?_sub,List.getElem?_set,ay];by_cases h:f=i
 ·subst h
  rw[if_pos rfl,if_pos rfl];by_cases h1:f<n
  ·rw[if_pos h1]
   by_cases h2:off+f<zs.length
   ·rw[if_pos h2,if_pos OM]
   ·rw[if_neg h2,if_neg OM]
  ·rw[if_neg h1,if_neg OM]
 ·have h2:¬off+f=off+i:=by omega
  rw[if_neg h,if_neg h2]
theorem zW(x:List Int)(j:Nat)(h:j<4):cellAt (cellsOf x) j=sub x (1+j*7) 7:=by
 unfold cellAt cellsOf sub;rw[List.drop_take,List.drop_drop,List.take_take];congr 1;omega
theorem zX(l:List Int)(i:Nat)(h:i<l.length):gi l i∈l:=by
 simp[gi,h]
def cntF(x:List Int)(key f:Nat):Int:=if f<2 then gi x (1+key*7+f)else(sub x (1+key*7+2) 5).sum
theorem RG(c:List Int)(f:Nat)(n:Int)(hc:c.length=7)(hf:f<7)(hn:1<=n)(h:oI c=true)(hr:(if f<2 then gi c f else(sub c 2 5).sum)<=1099511627776-n):oI (c.set f (gi c f+n))=true:=by
 rw[zV]at h|-;obtain⟨a,b,c1,c2⟩:=h;unfold JZ at*;have hsl:(sub c 2 5).length=5:=by rw[ay];omega
 by_cases h2:f<2
 ·rw[if_pos h2]at hr
  rw[lU _ _ _ _ _ (.inl h2),xP,xP];refine⟨?_,?_,c1,c2⟩
  ·by_cases h0:f=0
   ·subst h0;rw[if_pos ⟨rfl,by omega⟩];omega
   ·rw[if_neg OM];exact a
  ·by_cases h0:f=1
   ·subst h0;rw[if_pos ⟨rfl,by omega⟩];omega
   ·rw[if_neg OM];exact b
 ·rw[if_neg h2]at hr
  obtain⟨t,rfl⟩:∃t,f=2+t:=⟨f-2,by omega⟩;rw[yX,xP,if_neg OM,xP,if_neg OM];have hg:gi c (2+t)=gi (sub c 2 5) t:=(nQ c 2 5 t OM).symm;rw[hg];have hle:=adw _ (λg hg=>(c1 g hg).1) _ (zX (sub c 2 5) t OM);have h0:=c1 _ (zX (sub c 2 5) t OM);refine⟨a,b,λg hg2=>?_,?_⟩
  ·rcases List.mem_or_eq_of_mem_set hg2 with h|rfl
   ·exact c1 g h
   ·omega
  ·rw[aah _ _ _ OM];omega
def lQ(x:List Int)(key n tt:Int):List Int×Int:=
 if aP tt=true∧ng key n=true then(if 1099511627776-n< (sub x (1+key.toNat*7+2) 5).sum then(aj 174,6)else(oH x (1+key.toNat*7+2+tt.toNat) n,0))else(aj 174,5)
end C
section
variable {P:Program}{a:Act}{w:World}{dst:Option Tmp}{ty:TypeId}{pos:String}{af:Array Edge}
theorem Nz{t n:Nat}{ps:List (Nat×Operand)}{z:Value}{zc:List Value}(l:List (Nat×List Value))(hz:(P.info? t).map (·.zero)=some (some z))(hzc:z.cells=zc.toArray)(hn:zc.length=n)(hS:G7 P t)(hp:Ce P a t n ps l):
  fP P ⟨dst,.build t ps.toArray,ty,pos,af,none⟩ a w (.agg (Cc zc l).toArray):=by
 obtain⟨fs,hu,hK⟩:=hS;obtain⟨inf,zM,hz'⟩:=Option.map_eq_some_iff.1 hz;have hzv:(zeroValue t).run P w=.ok z w:=by simp[zeroValue,typeInfo,zM,hz']
 have hr:=l6 (P:=P) fs.toList (List.all_eq_true.1 hK) w;unfold fP execOp;simp only[List.map_toArray,Instr.build,Sem.run_bind,hzv,Result.andThen_ok,run_underlying hu];rw[<-Array.toArray_toList (xs:=fs),List.mapM_toArray];simp only[Sem.run_map,hr,hzc];have hf:=Cf (a:=a) hu ps l zc hn hp;simp[hf]
theorem V6{t n:Nat}{ps:List (Nat×Operand)}{l:List (Nat×List Int)}[hz:wW P t n][hS:sD P t](hp:xA P a t n ps l):fP P ⟨dst,.build t ps.toArray,ty,pos,af,none⟩ a w (ia (av (aj n) l)):=by
 have h:=Nz (dst:=dst) (ty:=ty) (pos:=pos) (af:=af) (w:=w) (z:=ia (aj n)) (zc:=(aj n).map (Value.int .i64)) _ hz.out rfl (by rw[List.length_map,aa]) hS.out hp.toC
 rwa [xB]at h
theorem ahL{t n i1 o1 q1:Nat}{x1:Operand}{v1:List Int}[hz:wW P t n][hS:sD P t][f1:dQ P t i1 o1 q1]
  (h1:kg (a.eval x1) v1:=by exact IS) (l1:v1.length=q1:=by exact LA) (b1:o1+q1<=n:=by exact WD):fP P ⟨dst,.build t #[(i1,x1)],ty,pos,af,none⟩ a w (ia (av (aj n) [(o1,v1)])):=
 V6 (ps:=[(i1,x1)]) (l:=[(o1,v1)]) (.cons h1 l1 b1 (.nil))
theorem Za{t n i1 i2 o1 o2 q1 q2:Nat}{x1 x2:Operand}{v1 v2:List Int}[hz:wW P t n][hS:sD P t][f1:dQ P t i1 o1 q1][f2:dQ P t i2 o2 q2]
  (h1:kg (a.eval x1) v1:=by exact IS) (l1:v1.length=q1:=by exact LA) (b1:o1+q1<=n:=by exact WD)
  (h2:kg (a.eval x2) v2:=by exact IS) (l2:v2.length=q2:=by exact LA) (b2:o2+q2<=n:=by exact WD):fP P ⟨dst,.build t #[(i1,x1),(i2,x2)],ty,pos,af,none⟩ a w (ia (av (aj n) [(o1,v1),(o2,v2)])):=
 V6 (ps:=[(i1,x1),(i2,x2)]) (l:=[(o1,v1),(o2,v2)]) (.cons h1 l1 b1 (.cons h2 l2 b2 (.nil)))
theorem afy{t n i1 i2 i3 o1 o2 o3 q1 q2 q3:Nat}{x1 x2 x3:Operand}{v1 v2 v3:List Int}[hz:wW P t n][hS:sD P t][f1:dQ P t i1 o1 q1][f2:dQ P t i2 o2 q2][f3:dQ P t i3 o3 q3]
  (h1:kg (a.eval x1) v1:=by exact IS) (l1:v1.length=q1:=by exact LA) (b1:o1+q1<=n:=by exact WD)
  (h2:kg (a.eval x2) v2:=by exact IS) (l2:v2.length=q2:=by exact LA) (b2:o2+q2<=n:=by exact WD)
  (h3:kg (a.eval x3) v3:=by exact IS) (l3:v3.length=q3:=by exact LA) (b3:o3+q3<=n:=by exact WD):fP P ⟨dst,.build t #[(i1,x1),(i2,x2),(i3,x3)],ty,pos,af,none⟩ a w (ia (av (aj n) [(o1,v1),(o2,v2),(o3,v3)])):=
 V6 (ps:=[(i1,x1),(i2,x2),(i3,x3)]) (l:=[(o1,v1),(o2,v2),(o3,v3)]) (.cons h1 l1 b1 (.cons h2 l2 b2 (.cons h3 l3 b3 (.nil))))
theorem ahM{t n i1 i2 i3 i4 o1 o2 o3 o4 q1 q2 q3 q4:Nat}{x1 x2 x3 x4:Operand}{v1 v2 v3 v4:List Int}[hz:wW P t n][hS:sD P t][f1:dQ P t i1 o1 q1][f2:dQ P t i2 o2 q2][f3:dQ P t i3 o3 q3][f4:dQ P t i4 o4 q4]
  (h1:kg (a.eval x1) v1:=by exact IS) (l1:v1.length=q1:=by exact LA) (b1:o1+q1<=n:=by exact WD)
  (h2:kg (a.eval x2) v2:=by exact IS) (l2:v2.length=q2:=by exact LA) (b2:o2+q2<=n:=by exact WD)
  (h3:kg (a.eval x3) v3:=by exact IS) (l3:v3.length=q3:=by exact LA) (b3:o3+q3<=n:=by exact WD)
  (h4:kg (a.eval x4) v4:=by exact IS) (l4:v4.length=q4:=by exact LA) (b4:o4+q4<=n:=by exact WD):fP P ⟨dst,.build t #[(i1,x1),(i2,x2),(i3,x3),(i4,x4)],ty,pos,af,none⟩ a w (ia (av (aj n) [(o1,v1),(o2,v2),(o3,v3),(o4,v4)])):=
 V6 (ps:=[(i1,x1),(i2,x2),(i3,x3),(i4,x4)]) (l:=[(o1,v1),(o2,v2),(o3,v3),(o4,v4)]) (.cons h1 l1 b1 (.cons h2 l2 b2 (.cons h3 l3 b3 (.cons h4 l4 b4 (.nil)))))
theorem ahN{t n i1 i2 i3 i4 i5 o1 o2 o3 o4 o5 q1 q2 q3 q4 q5:Nat}{x1 x2 x3 x4 x5:Operand}{v1 v2 v3 v4 v5:List Int}[hz:wW P t n][hS:sD P t][f1:dQ P t i1 o1 q1][f2:dQ P t i2 o2 q2][f3:dQ P t i3 o3 q3][f4:dQ P t i4 o4 q4][f5:dQ P t i5 o5 q5]
  (h1:kg (a.eval x1) v1:=by exact IS) (l1:v1.length=q1:=by exact LA) (b1:o1+q1<=n:=by exact WD)
  (h2:kg (a.eval x2) v2:=by exact IS) (l2:v2.length=q2:=by exact LA) (b2:o2+q2<=n:=by exact WD)
  (h3:kg (a.eval x3) v3:=by exact IS) (l3:v3.length=q3:=by exact LA) (b3:o3+q3<=n:=by exact WD)
  (h4:kg (a.eval x4) v4:=by exact IS) (l4:v4.length=q4:=by exact LA) (b4:o4+q4<=n:=by exact WD)
  (h5:kg (a.eval x5) v5:=by exact IS) (l5:v5.length=q5:=by exact LA) (b5:o5+q5<=n:=by exact WD):fP P ⟨dst,.build t #[(i1,x1),(i2,x2),(i3,x3),(i4,x4),(i5,x5)],ty,pos,af,none⟩ a w (ia (av (aj n) [(o1,v1),(o2,v2),(o3,v3),(o4,v4),(o5,v5)])):=
 V6 (ps:=[(i1,x1),(i2,x2),(i3,x3),(i4,x4),(i5,x5)]) (l:=[(o1,v1),(o2,v2),(o3,v3),(o4,v4),(o5,v5)]) (.cons h1 l1 b1 (.cons h2 l2 b2 (.cons h3 l3 b3 (.cons h4 l4 b4 (.cons h5 l5 b5 (.nil))))))
end
def nor:aG:=⟨[],λ_=>True,λ_ _ _ h=>h⟩
theorem Inv.nor{T:List Nat}{w0 w:World}{m:List aG}(h:Inv T w0 w m):Inv T w0 w (Go.Proofs.YtdakkaapokhnnaaGreatDoor.nor::m):=
 h.turn (λhs y hy=>by
  rcases List.mem_cons.1 hy with rfl|hy
  ·trivial
  ·exact hs _ hy) (by simp[owned,Go.Proofs.YtdakkaapokhnnaaGreatDoor.nor])
section
variable {P:Program}{ops:Array Oper}{T:List Nat}{w0:World}{m:List aG}
def rF(P:Program)(ops:Array Oper)(T:List Nat)(w0:World)(m:List aG)(o:Oper)(v:Value)(a:Act):Prop:=
 (Region.wanted o (yielded ops a.tmps)=true∧∀ex w,Inv T w0 w (ex::m)->o.wp P a w (λa' w'=>a'=a.put o.dst v∧Inv T w0 w' (ex::m)) (λ_ _ _=>False))∨(Region.wanted o (yielded ops a.tmps)=false∧v=undef)
theorem N9{a b:Act}{d:Option Tmp}{u v:Value}(h:a.put d u=a.put d v)(hs:b.tmps.size=a.tmps.size):b.put d u=b.put d v:=by
 cases d with
 |none=>rfl
 |some d=>
  have h1:=congrArg (λx:Act=>x.tmps[d]?) h;simp only[Act.put,Array.getElem?_setIfInBounds_self]at h1;simp only[Act.put];congr 1;by_cases hd:d<a.tmps.size
  ·rw[if_pos hd,if_pos hd]at h1
   cases h1;rfl
  ·have h2:b.tmps.size<=d:=by rw[hs];exact Nat.le_of_not_lt hd
   rw[Array.setIfInBounds_eq_of_size_le h2,Array.setIfInBounds_eq_of_size_le h2]
theorem KZ(a:Act)(d:Option Tmp)(u:Value):(a.put d u).tmps.size=a.tmps.size:=by cases d<;>simp[Act.put]
theorem SQ{o:Oper}{v:Value}{a b:Act}{w:World}{E:World->Prop}(he:execOp b.eval o=execOp a.eval o)(hsz:b.tmps.size=a.tmps.size)
  (h:o.wp P a w (λa' w'=>a'=a.put o.dst v∧E w') (λ_ _ _=>False)):
  o.wp P b w (λa' w'=>a'=b.put o.dst v∧E w') (λ_ _ _=>False):=by
 unfold Oper.wp at h|-;rw[he];generalize(execOp a.eval o).run P w=r at h|-;have key:∀x w',a.put o.dst x=a.put o.dst v∧E w'->b.put o.dst x=b.put o.dst v∧E w':=λx w' hh=>⟨N9 hh.1 hsz,hh.2⟩
 cases r with
 |ok n w'=>
  cases n<;>simp only[Oper.upon]at h|-
  case value x=>exact key x w' h
  case skip=>exact key _ w' h
  case defer df=>
   exfalso;have h1:=congrArg (λx:Act=>x.defers.length) h.1;cases hd:o.dst<;>simp[Act.put,hd]at h1
  case enter f args=>
   refine h.mono λe w'' hh=>?_
   cases e with
   |returned x=>exact key x w'' hh
   |panicked c=>exact hh
   |outgrown=>exact hh
  case row r args=>exact h.mono λx w'' hh=>key x w'' hh
 |halt x w'=>cases x<;>simp only[Oper.upon]at h|-
theorem rF.to{o:Oper}{v:Value}{a b:Act}(he:execOp b.eval o=execOp a.eval o)(hsz:b.tmps.size=a.tmps.size)(hw:Region.wanted o (yielded ops b.tmps)=Region.wanted o (yielded ops a.tmps))(h:rF P ops T w0 m o v a):rF P ops T w0 m o v b:=by
 rcases h with⟨hw0,h⟩ | ⟨hw0,rfl⟩
 ·exact .inl ⟨hw.trans hw0,λex w hI=>SQ he hsz (h ex w hI)⟩
 ·exact .inr ⟨hw.trans hw0,rfl⟩
theorem rF.put{o oj:Oper}{u v:Value}{a:Act}(hap:oj.apart ops o=true)(hs:∀cs b,o.op≠ .select cs b)(h:rF P ops T w0 m o v a):rF P ops T w0 m o v (a.put oj.dst u):=by
 obtain⟨h1,h2,h3⟩:=Oper.apart_spec hap;exact h.to (execOp_put o hs a oj.dst u h1) (KZ _ _ _) (wanted_put o a oj.dst u h1)
theorem rF.back{o oj:Oper}{u v:Value}{a:Act}(hap:oj.apart ops o=true)(hs:∀cs b,o.op≠ .select cs b)(h:rF P ops T w0 m o v (a.put oj.dst u)):rF P ops T w0 m o v a:=by
 obtain⟨h1,h2,h3⟩:=Oper.apart_spec hap;exact h.to (execOp_put o hs a oj.dst u h1).symm (KZ _ _ _).symm (wanted_put o a oj.dst u h1).symm
theorem rF.op{Q:Exit->Act->World->Prop}{i:Nat}{o:Oper}{v:Value}{a:Act}{w:World}{ex:aG}{K:Act->World->Prop}(ho:ops[i]? =some o)(h:rF P ops T w0 m o v a)(hI:Inv T w0 w (ex::m))
  (hK:∀w',Inv T w0 w' (ex::m)->K (a.put o.dst v) w'):wpOp P ops Q i K a w:=by
 unfold wpOp;rw[ho];simp only;rcases h with⟨hw,h⟩ | ⟨hw,rfl⟩
 ·rw[if_pos hw]
  refine .inl ?_;have h:=h ex w hI;unfold Oper.wp at h|-;generalize(execOp a.eval o).run P w=r at h|-;have key:∀a' w',a'=a.put o.dst v∧Inv T w0 w' (ex::m)->K a' w':=λa' w' hh=>by rw[hh.1];exact hK w' hh.2
  cases r with
  |ok n w'=>
   cases n<;>simp only[Oper.upon]at h|-
   case value x=>exact key _ w' h
   case skip=>exact key _ w' h
   case defer df=>exact key _ w' h
   case enter f args=>
    refine h.mono λe w'' hh=>?_
    cases e with
    |returned x=>exact key _ w'' hh
    |panicked c=>exact hh.elim
    |outgrown=>obtain⟨_,_,hh⟩:=hh;exact hh.elim
   case row r args=>exact h.mono λx w'' hh=>key _ w'' hh
  |halt x w'=>cases x<;>simp only[Oper.upon]at h|-
 ·rw[if_neg (by rw[hw];simp)]
  exact hK w hI
def qG(P:Program)(ops:Array Oper)(T:List Nat)(w0:World)(m:List aG)(E:List Nat)(Fin:Act->Prop):List Nat->Act->Prop
 | [],a=>Fin a
 |i::is,a=>∃o v,ops[i]? =some o∧(rF P ops T w0 m o v a∧(E.elem i=true->EN (λ_=>True) P ops o v a))∧qG P ops T w0 m E Fin is (a.put o.dst v)
theorem EN.put{R:World->Prop}{o oj:Oper}{u v:Value}{a:Act}(hap:oj.apart ops o=true)(hs:∀cs b,o.op≠ .select cs b)(h:EN R P ops o v a):EN R P ops o v (a.put oj.dst u):=by
 obtain⟨h1,h2,h3⟩:=Oper.apart_spec hap;exact h.same (execOp_put o hs a oj.dst u h1) (wanted_put o a oj.dst u h1)
theorem EN.back{R:World->Prop}{o oj:Oper}{u v:Value}{a:Act}(hap:oj.apart ops o=true)(hs:∀cs b,o.op≠ .select cs b)(h:EN R P ops o v (a.put oj.dst u)):EN R P ops o v a:=by
 obtain⟨h1,h2,h3⟩:=Oper.apart_spec hap;exact h.same (execOp_put o hs a oj.dst u h1).symm (wanted_put o a oj.dst u h1).symm
def WR(ops:Array Oper)(i j:Nat):Bool:=match ops[i]?,ops[j]? with
 |some oi,some oj=>oi.apart ops oj&&oj.apart ops oi
 |_,_=>false
def zg(ops:Array Oper)(i j:Nat):Bool:= !zC ops ops.size i j&&(zC ops ops.size j i||WR ops i j)
def mO(ops:Array Oper):List Nat->Bool
 | []=>true
 |i::is=>is.all (zg ops i)&&mO ops is
theorem rZ:∀ {pre post:List Nat} {i:Nat},mO ops (pre++i::post)=true->(∀j∈pre,zg ops j i=true)∧mO ops (pre++post)=true
 | [],post,i,h=>by
  simp only[List.nil_append,mO,Bool.and_eq_true]at h;exact⟨by simp,h.2⟩
 |j::pre,post,i,h=>by
  simp only[List.cons_append,mO,Bool.and_eq_true,List.all_eq_true,List.mem_append,List.mem_cons]at h|-;obtain⟨h1,h2⟩:=rZ h.2;refine⟨λk hk=>?_,λk hk=>h.1 k ?_,h2⟩
  ·rcases hk with rfl|hk
   ·exact h.1 i (.inr (.inl rfl))
   ·exact h1 k hk
  ·rcases hk with hk|hk
   ·exact .inl hk
   ·exact .inr (.inr hk)
theorem Eo(hsel:∀(j:Nat) (o:Oper) cs b,ops[j]? =some o->o.op≠ .select cs b){E:List Nat}{Fin:Act->Prop}{i:Nat}{post:List Nat}:∀(pre:List Nat) (a:Act),(∀j∈pre,zC ops ops.size i j=false)->(∀j∈pre,zg ops j i=true)->qG P ops T w0 m E Fin (pre++i::post) a->
  ∃o v,ops[i]? =some o∧(rF P ops T w0 m o v a∧(E.elem i=true->EN (λ_=>True) P ops o v a))∧qG P ops T w0 m E Fin (pre++post) (a.put o.dst v):=by
 intro pre
 induction pre with
 |nil=>intro a _ _ h;exact h
 |cons j pre ih=>
  intro a hna hpo h;obtain⟨oj,vj,hoj,hyj,hj⟩:=h;have hp:=hpo j SI;simp only[zg,hna j SI,Bool.false_or,Bool.and_eq_true,Bool.not_eq_true']at hp;have hap:=hp.2;obtain⟨oi,vi,hoi,hyi,hi⟩:=ih (a.put oj.dst vj) (λk hk=>hna k (by simp[hk])) (λk hk=>hpo k (by simp[hk])) hj;unfold WR at hap;rw[hoj,hoi]at hap;simp only[Bool.and_eq_true]at hap;have hsi:=λcs b=>hsel i oi cs b hoi
  have hsj:=λcs b=>hsel j oj cs b hoj
  obtain⟨h1,h2,h3⟩:=Oper.apart_spec hap.1;refine⟨oi,vi,hoi,⟨hyi.1.back hap.1 hsi,λhe=>(hyi.2 he).back hap.1 hsi⟩,oj,vj,hoj,⟨hyj.1.put hap.2 hsj,λhe=>(hyj.2 he).put hap.2 hsj⟩,?_⟩;rw[<-Act.put_comm a vj vi h2];exact hi
theorem K3(TH:∀i o,ops[i]? =some o->∀e∈o.after,Region.binds .any e=true->e.on<i){listed:Array Bool}(hsz:listed.size=ops.size):∀n i,i<=n->i<ops.size->listed.getD i false=false->Region.ready .any ops listed≠[]:=by
 intro n
 induction n with
 |zero=>
  intro i hin hi hl h0;have:i∈Region.ready .any ops listed:=by
   rw[mem_ready];refine⟨by rw[jh OM];exact hl,ops[i],by simp[hi],λe he hb=>?_⟩;have:=TH i ops[i] (by simp[hi]) e (by simpa using he) hb;omega
  rw[h0]at this;cases this
 |succ n ih=>
  intro i hin hi hl h0;by_cases hall:∀e∈ops[i].after,Region.binds .any e=true->listed.getD e.on false=true
  ·have:i∈Region.ready .any ops listed:=by
    rw[mem_ready];exact⟨by rw[jh OM];exact hl,ops[i],by simp[hi],λe he hb=>hall e (by simpa using he) hb⟩
   rw[h0]at this;cases this
  ·obtain⟨e,he,hb,hle⟩:∃e∈ops[i].after,Region.binds .any e=true∧listed.getD e.on false=false:=by
    refine Classical.byContradiction λhn=>hall λe he hb=>?_
    cases hle:listed.getD e.on false
    ·exact absurd ⟨e,he,hb,hle⟩ hn
    ·rfl
   have hlt:=TH i ops[i] (by simp[hi]) e he hb;exact ih e.on OM OM hle h0
theorem vN{L:Array Bool}{i:Nat}{o:Oper}(hc:Closed ops L)(hoi:ops[i]? =some o)(hall:∀e∈o.after,Region.binds .any e=true->L.getD e.on false=true):Closed ops (L.setIfInBounds i true):=
 ⟨by simp[hc.1],λj oj hj hlj e he hb=>by
  by_cases hij:i=j
  ·subst hij
   obtain rfl:oj=o:=Option.some.inj (hj.symm.trans hoi);exact getD_set_true (hall e he hb)
  ·rw[getD_set_ne false hij]at hlj
   exact getD_set_true (hc.2 j oj hj hlj e he hb)⟩
theorem yh{L:Array Bool}{i k:Nat}(hc:L.size=ops.size)(hi:i<ops.size):(k<ops.size∧(L.setIfInBounds i true).getD k false=false)↔(k≠i∧k<ops.size∧L.getD k false=false):=by
 by_cases hik:i=k
 ·subst hik
  constructor
  ·rintro⟨_,hx⟩
   rw[show(L.setIfInBounds i true).getD i false=true by simp[hc,hi]]at hx;cases hx
  ·rintro⟨hx,_⟩;exact absurd rfl hx
 ·rw[getD_set_ne false hik]
  exact⟨λh=>⟨λe=>hik e.symm,h⟩,λh=>h.2⟩
theorem AX{S F G:List Nat}:∀ {l l':List Nat},l'.Sublist l->jA ops S F G l=true->jA ops S F G l'=true:=by
 intro l l' hs
 induction hs with
 |slnil=>exact λh=>h
 |cons a _ ih=>
  intro h;simp only[jA,Bool.and_eq_true]at h;exact ih h.2
 |cons_cons a hsub ih=>
  intro h;simp only[jA,Bool.and_eq_true,List.all_eq_true]at h|-;exact⟨λj hj=>h.1 j (hsub.subset hj),ih h.2⟩
theorem K4{Q:Exit->Act->World->Prop}{S F G L2 E:List Nat}{A:Nat}{oA:Oper}{vb:Nat->Value}{rb:Nat->aG}{dA:Option Tmp}{b:Nat}(hdA:oA.dst=dA)(hsel:∀(j:Nat) (o:Oper) cs b,ops[j]? =some o->o.op≠ .select cs b)
  (hES:∀i∈E,S.elem i=false) {w:World} (hI:Inv T w0 w (rb b::m)):∀(is:List Nat) (a:Act),(∀i∈is,i∈E)->(∀i∈is,∀o,ops[i]? =some o->oA.apart ops o=true)->
  qG P ops T w0 m E (λa'=>∀b w,Inv T w0 w (rb b::m)->jW P ops S F G (λ_=>True) Q L2 (a'.put dA (vb b)) w) is a->jW P ops S F G (λ_=>True) Q (is++L2) (a.put dA (vb b)) w
 | [],a,_,_,h=>h b w hI
 |i::is,a,hE,hA,h=>by
  obtain⟨o,v,ho,hy,hs⟩:=h;have hap:=hA i SI o ho;have hsi:=λcs b=>hsel i o cs b ho
  have hiE:=hE i SI;obtain⟨h1,h2,h3⟩:=Oper.apart_spec hap;refine⟨o,ho,.inr ⟨hES i hiE,λ_=>trivial,v,?_,?_⟩⟩
  ·have hy2:EN (λ_=>True) P ops o v (a.put dA (vb b)):=by rw[<-hdA];exact(hy.2 (by simpa using hiE)).put hap hsi
   rcases hy2 with⟨hw,hy2⟩ |hy2
   ·exact .inl ⟨hw,λx _=>hy2 x trivial⟩
   ·exact .inr hy2
  ·have e:(a.put dA (vb b)).put o.dst v=(a.put o.dst v).put dA (vb b):=by rw[<-hdA];exact Act.put_comm a (vb b) v h2
   show jW P ops S F G _ Q (is++L2) ((a.put dA (vb b)).put o.dst v) w;rw[e];exact K4 (A:=A) hdA hsel hES hI is _ (λk hk=>hE k (by simp[hk])) (λk hk=>hA k (by simp[hk])) hs
section
variable {Q:Exit->Act->World->Prop}{S F G L2 E L1:List Nat}{A:Nat}{oA:Oper}{vb:Nat->Value}{rb:Nat->aG}
 (hsel:∀(j:Nat) (o:Oper) cs b,ops[j]? =some o->o.op≠ .select cs b) (TH:∀i o,ops[i]? =some o->∀e∈o.after,Region.binds .any e=true->e.on<i)
include hsel TH
theorem N_{dA:Option Tmp}(hA:∀i o,ops[i]? =some o->i∉L2->i≠A->oA.apart ops o=true)(hdA:oA.dst=dA)(hES:∀i∈E,S.elem i=false)(hp2:jA ops S F G (L1.filter E.elem++L2)=true){b:Nat}:∀(fuel:Nat) (listed:Array Bool) (is:List Nat) (a:Act) (w:World),(is++L2).length=fuel->Closed ops listed->(is++L2).Nodup->
  (∀i,i∈is++L2↔(i<ops.size∧listed.getD i false=false))->mO ops is=true->(∀j∈L2,∀i∈is,E.elem i=true∨zC ops ops.size j i=true)->A∉is++L2->is.Sublist L1->Inv T w0 w (rb b::m)->
  qG P ops T w0 m E (λa'=>∀b w,Inv T w0 w (rb b::m)->jW P ops S F G (λ_=>True) Q L2 (a'.put dA (vb b)) w) is a->wpAny P .any ops Q fuel listed (a.put dA (vb b)) w:=by
 intro fuel
 induction fuel with
 |zero=>
  intro listed is a w hl hc hnd hm _ _ _ _ hI h;obtain⟨h1,h2⟩:is=[]∧L2=[]:=by
   rw[List.length_append]at hl;exact⟨List.eq_nil_of_length_eq_zero OM,List.eq_nil_of_length_eq_zero OM⟩
  subst h1;exact BU hsel TH 0 listed L2 _ w (by simpa using hl) hc (by simpa using hnd) (λi=>by simpa using hm i) (AX (List.sublist_append_right _ _) hp2) (h b w hI)
 |succ fuel ih=>
  intro listed is a w hl hc hnd hm hsp h2 hAn hsub hI h;by_cases WS:∀i∈is,E.elem i=true
  ·have hfil:is.filter E.elem=is:=List.filter_eq_self.2 WS
   have hps:jA ops S F G (is++L2)=true:=by
    refine AX (List.Sublist.append ?_ (List.Sublist.refl _)) hp2;rw[<-hfil];exact hsub.filter _
   refine BU hsel TH _ listed (is++L2) _ w hl hc hnd hm hps (K4 (A:=A) hdA hsel hES hI is a (λi hi=>by simpa using WS i hi) (λi hi o ho=>hA i o ho (λhx=>?_) (λe=>hAn (by rw[<-e];simp[hi]))) h);rw[List.nodup_append]at hnd;exact hnd.2.2 i hi i hx rfl
  ·obtain⟨i0,hi0,hl0⟩:∃i0∈is,E.elem i0=false:=by
    refine Classical.byContradiction λhn=>WS λi hi=>?_
    cases he:E.elem i
    ·exact absurd ⟨i,hi,he⟩ hn
    ·rfl
   refine⟨λh0=>?_,λi hi=>?_⟩
   ·have:=(hm i0).1 (by simp[hi0])
    exact absurd h0 (K3 TH hc.1 i0 i0 (Nat.le_refl _) this.1 this.2)
   ·obtain⟨h0,oi,hoi,hall⟩:=mem_ready.1 hi
    have hlt:=(Array.getElem?_eq_some_iff.1 hoi).1;have hmi:=(hm i).2 ⟨hlt,by rw[<-jh (by rw[hc.1];exact hlt)];exact h0⟩;have hnl:∀j,j∈is++L2->zC ops ops.size i j=false:=λj hj=>by
     cases hb:zC ops ops.size i j
     ·rfl
     ·have h1:=nP hc ops.size i j hb ⟨oi,hoi,hall⟩
      have h2:=((hm j).1 hj).2;rw[h1]at h2;cases h2
    have aeG:i∈is:=by
     rcases List.mem_append.1 hmi with h|h
     ·exact h
     ·exfalso
      have h1:=(h2 i h i0 hi0).resolve_left (by rw[hl0];simp);have h3:=hnl i0 (by simp[hi0]);rw[h1]at h3;cases h3
    obtain⟨pre,post,TI⟩:=List.append_of_mem aeG;rw[TI]at h hsp h2 hm hnd hl hAn hnl hsub;obtain⟨hpm,hpq⟩:=rZ hsp;obtain⟨o,v,ho,hy,hs⟩:=Eo hsel pre a (λj hj=>hnl j (by simp[hj])) hpm h;obtain rfl:o=oi:=Option.some.inj (ho.symm.trans hoi);have hiA:i≠A:=λe=>hAn (by rw[<-e];simp)
    have hiL:i∉L2:=λhx=>by
     rw[List.append_assoc,List.nodup_append]at hnd;have:=(List.nodup_cons.1 hnd.2.1).1;exact this (List.mem_append.2 (.inr hx))
    have hap:=hA i o hoi hiL hiA;obtain⟨h1,h2',h3⟩:=Oper.apart_spec hap;have hya:rF P ops T w0 m o v (a.put dA (vb b)):=by rw[<-hdA];exact hy.1.put hap (λcs b=>hsel i o cs b hoi)
    refine hya.op hoi hI λw' hI'=>?_
    have e:(a.put dA (vb b)).put o.dst v=(a.put o.dst v).put dA (vb b):=by rw[<-hdA];exact Act.put_comm a (vb b) v h2'
    rw[e];have hs1:(pre++post).Sublist (pre++i::post):=List.Sublist.append (List.Sublist.refl _) (List.sublist_cons_self _ _);have hs2:(pre++post++L2).Sublist (pre++i::post++L2):=List.Sublist.append hs1 (List.Sublist.refl _);refine ih (listed.setIfInBounds i true) (pre++post) _ w' ?_ (vN hc hoi hall) (hnd.sublist hs2) (λk=>?_) hpq (λj hj k hk=>h2 j hj k ?_) (λhx=>hAn (hs2.subset hx)) (hs1.trans hsub) hI' hs
    ·simp only[List.length_append,List.length_cons]at hl|-;omega
    ·rw[yh hc.1 hlt,<-hm k]
     have hni:i∉pre++post++L2:=by
      have hperm:(pre++i::post++L2).Perm (i::(pre++post++L2)):=by
       rw[List.append_assoc,List.append_assoc];exact List.perm_middle
      exact(List.nodup_cons.1 (hperm.nodup_iff.1 hnd)).1
     simp only[List.mem_append,List.mem_cons]at hni|-
     constructor
     ·intro hk
      refine⟨λe=>hni (e▸hk),?_⟩;rcases hk with(hk|hk) |hk
      ·exact .inl (.inl hk)
      ·exact .inl (.inr (.inr hk))
      ·exact .inr hk
     ·rintro⟨hne,(hk|hk|hk) |hk⟩
      ·exact .inl (.inl hk)
      ·exact absurd hk hne
      ·exact .inl (.inr hk)
      ·exact .inr hk
    ·exact hs1.subset hk
theorem Oa{dA:Option Tmp}(hoA:ops[A]? =some oA)(hA:∀i o,ops[i]? =some o->i∉L2->i≠A->oA.apart ops o=true)(hdA:oA.dst=dA)(hES:∀i∈E,S.elem i=false)(hp2:jA ops S F G (L1.filter E.elem++L2)=true)
  (hAw:∀a w,Inv T w0 w (nor::m)->Region.wanted oA (yielded ops a.tmps)=true∧oA.wp P a w (λa' w'=>∃b,a'=a.put dA (vb b)∧Inv T w0 w' (rb b::m)) (λ_ _ _=>False)):
  ∀(fuel:Nat) (listed:Array Bool) (is:List Nat) (a:Act) (w:World),(is++A::L2).length=fuel->Closed ops listed->(is++A::L2).Nodup->
  (∀i,i∈is++A::L2↔(i<ops.size∧listed.getD i false=false))->mO ops is=true->(∀j∈L2,(∀i∈is,E.elem i=true∨zC ops ops.size j i=true)∧zC ops ops.size j A=true)->is.Sublist L1->Inv T w0 w (nor::m)->
  qG P ops T w0 m E (λa'=>∀b w,Inv T w0 w (rb b::m)->jW P ops S F G (λ_=>True) Q L2 (a'.put dA (vb b)) w) is a->wpAny P .any ops Q fuel listed a w:=by
 intro fuel
 induction fuel with
 |zero=>
  intro listed is a w hl;simp only[List.length_append,List.length_cons]at hl;omega
 |succ fuel ih=>
  intro listed is a w hl hc hnd hm hsp h2 hsub hI h;refine⟨λh0=>?_,λi hi=>?_⟩
  ·have:=(hm A).1 SI
   exact absurd h0 (K3 TH hc.1 A A (Nat.le_refl _) this.1 this.2)
  ·obtain⟨h0,oi,hoi,hall⟩:=mem_ready.1 hi
   have hlt:=(Array.getElem?_eq_some_iff.1 hoi).1;have hmi:=(hm i).2 ⟨hlt,by rw[<-jh (by rw[hc.1];exact hlt)];exact h0⟩;have hnl:∀j,j∈is++A::L2->zC ops ops.size i j=false:=λj hj=>by
    cases hb:zC ops ops.size i j
    ·rfl
    ·have h1:=nP hc ops.size i j hb ⟨oi,hoi,hall⟩
     have h2:=((hm j).1 hj).2;rw[h1]at h2;cases h2
   have ajq:A∉is:=λhx=>by
    rw[List.nodup_append]at hnd;exact hnd.2.2 A hx A SI rfl
   by_cases hiA:i=A
   ·subst hiA
    obtain rfl:oA=oi:=Option.some.inj (hoA.symm.trans hoi);obtain⟨hw,hwp⟩:=hAw a w hI;unfold wpOp;rw[hoi];simp only;rw[if_pos hw];refine .inl ?_;have next:∀a' w',(∃b,a'=a.put dA (vb b)∧Inv T w0 w' (rb b::m))->wpAny P .any ops Q fuel (listed.setIfInBounds i true) a' w':=by
     rintro a' w' ⟨b,rfl,hI'⟩;have hperm:(is++i::L2).Perm (i::(is++L2)):=List.perm_middle;refine N_ hsel TH hA hdA hES hp2 fuel (listed.setIfInBounds i true) is a w' ?_ (vN hc hoi hall) (List.nodup_cons.1 (hperm.nodup_iff.1 hnd)).2 (λk=>?_) hsp (λj hj=>(h2 j hj).1) (List.nodup_cons.1 (hperm.nodup_iff.1 hnd)).1 hsub hI' h
     ·simp only[List.length_append,List.length_cons]at hl|-;omega
     ·rw[yh hc.1 hlt,<-hm k]
      have hni:=(List.nodup_cons.1 (hperm.nodup_iff.1 hnd)).1;rw[hperm.mem_iff,List.mem_cons]
      constructor
      ·intro hk;exact⟨λe=>hni (e▸hk),.inr hk⟩
      ·rintro⟨hne,hk|hk⟩
       ·exact absurd hk hne
       ·exact hk
    unfold Oper.wp at hwp|-;generalize(execOp a.eval oA).run P w=r at hwp|-;cases r with
    |ok n w'=>
     cases n<;>simp only[Oper.upon]at hwp|-
     case value x=>exact next _ w' hwp
     case skip=>exact next _ w' hwp
     case defer df=>exact next _ w' hwp
     case enter f args=>
      refine hwp.mono λe w'' hh=>?_
      cases e with
      |returned x=>exact next _ w'' hh
      |panicked c=>exact hh.elim
      |outgrown=>obtain⟨_,_,hh⟩:=hh;exact hh.elim
     case row r args=>exact hwp.mono λx w'' hh=>next _ w'' hh
    |halt x w'=>cases x<;>simp only[Oper.upon]at hwp|-
   ·have aeG:i∈is:=by
     rcases List.mem_append.1 hmi with h|h
     ·exact h
     ·exfalso
      rcases List.mem_cons.1 h with h|h
      ·exact hiA h
      ·have h1:=(h2 i h).2
       have h3:=hnl A SI;rw[h1]at h3;cases h3
    obtain⟨pre,post,TI⟩:=List.append_of_mem aeG;rw[TI]at h hsp h2 hm hnd hl hnl hsub;obtain⟨hpm,hpq⟩:=rZ hsp;obtain⟨o,v,ho,hy,hs⟩:=Eo hsel pre a (λj hj=>hnl j (by simp[hj])) hpm h;obtain rfl:o=oi:=Option.some.inj (ho.symm.trans hoi);refine hy.1.op hoi hI λw' hI'=>?_
    have hperm:(pre++i::post++A::L2).Perm (i::(pre++post++A::L2)):=by
     rw[List.append_assoc,List.append_assoc];exact List.perm_middle
    have aan:=List.nodup_cons.1 (hperm.nodup_iff.1 hnd);have hs1:(pre++post).Sublist (pre++i::post):=List.Sublist.append (List.Sublist.refl _) (List.sublist_cons_self _ _);refine ih (listed.setIfInBounds i true) (pre++post) _ w' ?_ (vN hc hoi hall) aan.2 (λk=>?_) hpq (λj hj=>⟨λk hk=>(h2 j hj).1 k ?_,(h2 j hj).2⟩) (hs1.trans hsub) hI' hs
    ·have:=hperm.length_eq
     simp only[List.length_cons]at this;omega
    ·rw[yh hc.1 hlt,<-hm k,hperm.mem_iff,List.mem_cons]
     constructor
     ·intro hk;exact⟨λe=>aan.1 (e▸hk),.inr hk⟩
     ·rintro⟨hne,hk|hk⟩
      ·exact absurd hk hne
      ·exact hk
    ·exact hs1.subset hk
end
def WT(ops:Array Oper)(S F G E L1:List Nat)(A:Nat)(L2:List Nat):Bool:=Region.noSelect ops&&(jA ops S F G (L1.filter E.elem++L2)&&E.all (λi=> !S.elem i))&&mO ops L1&&(List.range ops.size).all (λi=>(L1++A::L2).elem i)&&(L1++A::L2).all (λi=>decide (i<ops.size))&&
 decide (L1++A::L2).Nodup&&((List.range ops.size).all λk=>match ops[k]? with
  |none=>true
  |some o=>o.after.all λe=> !Region.binds .any e||decide (e.on<k))&&L1.all (λi=>match ops[A]?,ops[i]? with
  |some oA,some oi=>oA.apart ops oi
  |_,_=>false)&&L2.all (λj=>zC ops ops.size j A&&L1.all (λi=>E.elem i||zC ops ops.size j i))
theorem E8{id:Nat}{l:List Oper}{Q:Exit->Act->World->Prop}{a:Act}{w:World}(S F G E L1:List Nat)(A:Nat)(L2:List Nat)(oA:Oper)(vb:Nat->Value)(rb:Nat->aG)
  (hm:P.follows .mixedOrders=true) (hB:WT l.toArray S F G E L1 A L2=true) (hoA:l[A]? =some oA) (hI:Inv T w0 w m)
  (hAw:∀a w,Inv T w0 w (nor::m)->Region.wanted oA (yielded l.toArray a.tmps)=true∧oA.wp P a w (λa' w'=>∃b,a'=a.put oA.dst (vb b)∧Inv T w0 w' (rb b::m)) (λ_ _ _=>False))
  (h:qG P l.toArray T w0 m E (λa'=>∀b w,Inv T w0 w (rb b::m)->jW P l.toArray S F G (λ_=>True) Q L2 (a'.put oA.dst (vb b)) w) L1 a):(Code.region id l.toArray true).wp P Q a w:=by
 simp only[WT,Bool.and_eq_true,List.all_eq_true,decide_eq_true_eq]at hB;obtain⟨⟨⟨⟨⟨⟨⟨⟨h1,h2,hes⟩,hsp⟩,h3⟩,h4⟩,h5⟩,h6⟩,h7⟩,h8⟩:=hB;refine wp_region_any hm ?_;have agN:l.toArray[A]? =some oA:=by simpa using hoA
 refine Oa (P:=P) (T:=T) (w0:=w0) (m:=m) (rb:=rb) (vb:=vb) (Region.noSelect_spec h1) (λi o ho e he hb=>?_) agN (λi o ho hiL hiA=>?_) rfl (λi hi=>by simpa using hes i hi) h2 hAw _ _ L1 a _ ?_ ?_ h5 ?_ hsp ?_ (List.Sublist.refl _) hI.drew.nor h
 ·have hi:i<l.toArray.size:=(Array.getElem?_eq_some_iff.1 ho).1
  have h7:=h6 i (by simpa using hi);rw[ho]at h7;simp only[Array.all_eq_true_iff_forall_mem]at h7;have:=h7 e he;simpa[hb]using this
 ·have hi:i<l.toArray.size:=(Array.getElem?_eq_some_iff.1 ho).1
  have hmem:=h3 i (by simpa using hi);have agO:i∈L1++A::L2:=by simpa using hmem
  have hi1:i∈L1:=by
   rcases List.mem_append.1 agO with h|h
   ·exact h
   ·rcases List.mem_cons.1 h with h|h
    ·exact absurd h hiA
    ·exact absurd h hiL
  have:=h7 i hi1;rw[agN,ho]at this;exact this
 ·have hp:(L1++A::L2).Perm (List.range l.toArray.size):=(List.perm_ext_iff_of_nodup h5 List.nodup_range).2 λi=>⟨λhi=>by simpa using h4 i hi,λhi=>by simpa using h3 i hi⟩
  rw[hp.length_eq];simp
 ·refine⟨by simp,λj oj _ hj=>?_⟩
  exfalso;simp only[Array.getD_eq_getD_getElem?,Array.getElem?_replicate]at hj
  split at hj<;>simp at hj
 ·intro i
  constructor
  ·intro hi
   have:=h4 i hi;refine⟨this,?_⟩;simp at this;simp[this]
  ·rintro⟨hi,_⟩
   simpa using h3 i (by simpa using hi)
 ·intro j hj
  have:=h8 j hj;exact⟨λi hi=>by have:=this.2 i hi;simpa[Bool.or_eq_true]using this,this.1⟩
def agP(T:List Nat)(w0:World)(m:List aG)(ex:aG)(a:Act)(d:Option Tmp)(v:Value):Exit->Act->World->Prop:=λe a' w'=>e=.normal∧a'=a.put d v∧Inv T w0 w' (ex::m)
theorem WU{l:List Oper}{E:List Nat}{Fin:Act->Prop}{i:Nat}{is:List Nat}{a:Act}{v:Value}{dst:Option Tmp}{op:Op}{ty:TypeId}{pos:String}{af:Array Edge}{g:Option (Nat×Bool)}(ho:l[i]? =some ⟨dst,op,ty,pos,af,g⟩)(hE:E.elem i=false)(hw:Region.wanted ⟨dst,op,ty,pos,af,g⟩ (yielded l.toArray a.tmps)=true)
  (hy:∀ex w,Inv T w0 w (ex::m)->wpList P l.toArray (agP T w0 m ex a dst v) [⟨dst,op,ty,pos,af,none⟩] a w)
  (h:qG P l.toArray T w0 m E Fin is (a.put dst v)):qG P l.toArray T w0 m E Fin (i::is) a:=by
 refine⟨_,v,by simpa using ho,⟨.inl ⟨hw,λex w hI=>?_⟩,λh=>by rw[hE]at h;cases h⟩,h⟩;have h1:(⟨dst,op,ty,pos,af,none⟩:Oper).wp P a w (λa' w'=>a'=a.put dst v∧Inv T w0 w' (ex::m)) (λ_ _ _=>False):=ow (by simp[Region.wanted]) (hy ex w hI);exact Au h1
theorem QL{l:List Oper}{E:List Nat}{Fin:Act->Prop}{i:Nat}{is:List Nat}{a:Act}{v:Value}{dst:Option Tmp}{op:Op}{ty:TypeId}{pos:String}{af:Array Edge}{g:Option (Nat×Bool)}(ho:l[i]? =some ⟨dst,op,ty,pos,af,g⟩)(hw:Region.wanted ⟨dst,op,ty,pos,af,g⟩ (yielded l.toArray a.tmps)=true)
  (hy:∀w,fP P ⟨dst,op,ty,pos,af,none⟩ a w v)
  (h:qG P l.toArray T w0 m E Fin is (a.put dst v)):qG P l.toArray T w0 m E Fin (i::is) a:=by
 have hy2:EN (λ_=>True) P l.toArray ⟨dst,op,ty,pos,af,g⟩ v a:=.inl ⟨hw,λw _=>hy w⟩;refine⟨_,v,by simpa using ho,⟨.inl ⟨hw,λex w hI=>?_⟩,λ_=>hy2⟩,h⟩;unfold Oper.wp;rw[show(execOp a.eval ⟨dst,op,ty,pos,af,g⟩).run P w=.ok (.value v) w from hy w];exact⟨rfl,hI⟩
end
section
variable {P:Program}{T:List Nat}{w0:World}{m:List aG}{l:List Oper}
theorem aD{id:Nat}{Q:Exit->Act->World->Prop}{a:Act}{w:World}{t n:Nat}[hz:wW P t n]{dst:Option Tmp}{ty:TypeId}{pos:String}{af:Array Edge}(S F G E L1:List Nat)(A:Nat)(L2:List Nat)
  (hm:P.follows .mixedOrders=true) (hB:WT l.toArray S F G E L1 A L2=true) (hoA:l[A]? =some ⟨dst,.alloc t,ty,pos,af,none⟩) (hI:Inv T w0 w m)
  (h:qG P l.toArray T w0 m E (λa'=>∀b w,Inv T w0 w (ib b t (aj n)::m)->jW P l.toArray S F G (λ_=>True) Q L2 (a'.put dst (.pointer (some ⟨b,0,none⟩))) w) L1 a):(Code.region id l.toArray true).wp P Q a w:=by
 refine E8 S F G E L1 A L2 ⟨dst,.alloc t,ty,pos,af,none⟩ (λb=> .pointer (some ⟨b,0,none⟩)) (λb=>ib b t (aj n)) hm hB hoA hI (λa w hI=>⟨by simp[Region.wanted],?_⟩) h;refine ow (ops:=l.toArray) (by simp[Region.wanted]) (Cb hI λb w' hI'=>fB ⟨b,rfl,hI'.sub (.cons_cons _ (.cons _ (.refl _)))⟩)
def WV(T:List Nat)(w0:World)(m:List aG)(ex:aG)(a1:Act):Exit->Act->World->Prop:=λe a' w'=>e=.normal∧a'=a1∧Inv T w0 w' (ex::m)
theorem bB{ex:aG}{a1 a':Act}{w':World}(h:a'=a1)(hI:Inv T w0 w' (ex::m)):WV T w0 m ex a1 .normal a' w':=⟨rfl,h,hI⟩
theorem bC{E:List Nat}{Fin:Act->Prop}{i:Nat}{is:List Nat}{a a1:Act}{dst:Option Tmp}{op:Op}{ty:TypeId}{pos:String}{af:Array Edge}{g:Option (Nat×Bool)}(ho:l[i]? =some ⟨dst,op,ty,pos,af,g⟩)(hE:E.elem i=false)(hw:Region.wanted ⟨dst,op,ty,pos,af,g⟩ (yielded l.toArray a.tmps)=true)
  (hy:∀ex w,Inv T w0 w (ex::m)->wpList P l.toArray (WV T w0 m ex a1) [⟨dst,op,ty,pos,af,none⟩] a w)
  (hv:∃v,a1=a.put dst v) (h:qG P l.toArray T w0 m E Fin is a1):qG P l.toArray T w0 m E Fin (i::is) a:=by
 obtain⟨v,rfl⟩:=hv;exact WU ho hE hw hy h
theorem bH{E:List Nat}{Fin:Act->Prop}{a:Act}(h:Fin a):qG P l.toArray T w0 m E Fin [] a:=h
end
