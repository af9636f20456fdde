/- Contracts of functions. No condition. -/
import Derived.Shelf.Strconv.Itoa3
import Derived.Test.YtdakkaapokhnnaaGreatDoorZ28
import Derived.Test.YtdakkaapokhnnaaGreatDoorZ29
import Derived.Test.YtdakkaapokhnnaaGreatDoorZ30
namespace Go.Proofs.YtdakkaapokhnnaaGreatDoor
open Go.RowKit Go.Proofs.Tryz
set_option maxRecDepth 100000
set_option maxHeartbeats 6400000
set_option linter.all false
section
open Go.Shelf Go.RowKit
def Ij:Go.Shelf.Ren:=⟨fun|171=>54|243=>91|246=>131|283=>163|284=>164|285=>165|286=>166|129=>183|317=>182|318=>184|319=>185|320=>186|337=>190|338=>191|n=>n,fun|3=>3|9=>9|2=>2|4=>4|171=>238|0=>0|53=>239|37=>63|5=>5|173=>242|212=>262|51=>256|20=>20|213=>263|46=>175|232=>268|233=>169|n=>n,fun|17=>0|18=>1|19=>2|n=>n⟩
theorem Wz:Go.Proofs.LaysM.n171 prog Ij:={
 mixed:=by kernel_rfl
 f129:=func183.trans (congrArg some KF)
 f171:=func54.trans (congrArg some KF)
 f243:=func91.trans (congrArg some KF)
 f246:=func131.trans (congrArg some KF)
 f283:=func163.trans (congrArg some KF)
 f284:=func164.trans (congrArg some KF)
 f285:=func165.trans (congrArg some KF)
 f286:=func166.trans (congrArg some KF)
 f317:=func182.trans (congrArg some KF)
 f318:=func184.trans (congrArg some KF)
 f319:=func185.trans (congrArg some KF)
 f320:=func186.trans (congrArg some KF)
 f337:=func190.trans (congrArg some KF)
 f338:=func191.trans (congrArg some KF)
 t0:=underlying0
 a0:=isAgg0
 z0:=sizeOf0
 v0:=zeroValue0
 t2:=underlying2
 a2:=isAgg2
 z2:=sizeOf2
 v2:=zeroValue2
 t3:=underlying3
 a3:=isAgg3
 z3:=sizeOf3
 v3:=zeroValue3
 t4:=underlying4
 a4:=isAgg4
 z4:=sizeOf4
 v4:=zeroValue4
 t5:=underlying5
 a5:=isAgg5
 z5:=sizeOf5
 v5:=zeroValue5
 t9:=underlying9
 a9:=isAgg9
 z9:=sizeOf9
 v9:=zeroValue9
 t20:=underlying20
 a20:=isAgg20
 z20:=sizeOf20
 v20:=zeroValue20
 t37:=underlying63
 a37:=isAgg63
 z37:=sizeOf63
 v37:=zeroValue63
 t46:=underlying175
 a46:=isAgg175
 z46:=sizeOf175
 v46:=zeroValue175
 t51:=underlying256
 a51:=isAgg256
 z51:=sizeOf256
 v51:=zeroValue256
 t53:=underlying239
 a53:=isAgg239
 z53:=sizeOf239
 v53:=zeroValue239
 t171:=underlying238
 a171:=isAgg238
 z171:=sizeOf238
 v171:=zeroValue238
 t173:=underlying242
 a173:=isAgg242
 z173:=sizeOf242
 v173:=zeroValue242
 t212:=underlying262
 a212:=isAgg262
 z212:=sizeOf262
 v212:=zeroValue262
 t213:=underlying263
 a213:=isAgg263
 z213:=sizeOf263
 t232:=underlying268
 a232:=isAgg268
 z232:=sizeOf268
 v232:=zeroValue268
 t233:=underlying169
 a233:=isAgg169
 z233:=sizeOf169
 v233:=zeroValue169
 g17:=by kernel_rfl
 g18:=by kernel_rfl
 g19:=by kernel_rfl
 i0:=by kernel_rfl
 i2:=by kernel_rfl
 i3:=by kernel_rfl
 i4:=by kernel_rfl
 i5:=by kernel_rfl
 i9:=by kernel_rfl
 i20:=by kernel_rfl
 i37:=by kernel_rfl
 i46:=by kernel_rfl
 i51:=by kernel_rfl
 i53:=by kernel_rfl
 i171:=by kernel_rfl
 i173:=by kernel_rfl
 i212:=by kernel_rfl
 i232:=by kernel_rfl
 i233:=by kernel_rfl
 m17:=by kernel_rfl
 m18:=by kernel_rfl
 m19:=by kernel_rfl}
theorem NI(w:World)(n:Int)(h0:-9223372036854775808<=n)(h1:n<=9223372036854775807)(htab:Lib.TabIs prog w "internal/strconv.uint64pow10" .u64 Lib.pow10Tab):
  Calls prog 54 #[.int .i64 n] w λe w'=>e=.returned (.string ⟨(Lib.itoa n).toArray⟩)∧Below w.heap.size w w':=
 (Any.strconv_Itoa Wz n h0 h1 w htab).mono λe w' ⟨h,k,os,hw⟩=>⟨h,by rw[hw];exact Lib.below_grow _ _ (Nat.le_refl _) k os⟩
end
def Ky(g:Nat)(og:Obj):Prop:=∀w:World,w.heap[g]? =some og->Lib.TabIs prog w "internal/strconv.uint64pow10" .u64 Lib.pow10Tab
def iw(g:Nat)(og:Obj):aG:=⟨[g],λw=>w.heap[g]? =some og∧Ky g og,λw w' h ⟨h1,h2⟩=>⟨(h g SI).trans h1,h2⟩⟩
theorem WA{w:World}(h:Lib.TabIs prog w "internal/strconv.uint64pow10" .u64 Lib.pow10Tab):∃g og,w.heap[g]? =some og∧Ky g og:=by
 unfold Lib.TabIs World.var? at h;cases hg:prog.globalNamed "internal/strconv.uint64pow10" with
 |none=>rw[hg]at h;simp at h
 |some g=>
  rw[hg]at h;simp only[Option.bind_some]at h;cases ho:w.heap[g]? with
  |none=>rw[ho]at h;simp at h
  |some og=>
   refine⟨g,og,ho,λw' h'=>?_⟩;rw[ho]at h;unfold Lib.TabIs World.var?;rw[hg];simp only[Option.bind_some];rw[h'];exact h
theorem NJ{T:List Nat}{w0 w:World}{m:List aG}{g:Nat}{og:Obj}(hI:Inv T w0 w m)(hm:iw g og∈m):Lib.TabIs prog w "internal/strconv.uint64pow10" .u64 Lib.pow10Tab:=(hI.sat _ hm).2 w (hI.sat _ hm).1
def rE(zs:List Int):List UInt8:=zs.flatMap λn=>32::Lib.itoa n
def lZ(words:List UInt8)(zs:List Int):List UInt8:=words++rE zs++[10]
theorem NK(zs:List Int)(k:Nat)(z:Int)(h:zs[k]? =some z):rE (zs.take (k+1))=rE (zs.take k)++(32::Lib.itoa z):=by
 unfold rE;rw[List.take_add_one,h,List.flatMap_append];simp
theorem wF(x y:ByteArray):qQ (x++y)=qQ x++qQ y:=by unfold qQ;simp
abbrev spc(z:Int):ByteArray:=⟨#[32]⟩++⟨(Lib.itoa z).toArray⟩
theorem WB(z:Int):qQ (spc z)=32::Lib.itoa z:=by rw[wF];simp[qQ]
theorem aaJ(z:Int):(spc z).size=(Lib.itoa z).length+1:=by rw[<-pU,WB];rfl
theorem tq(zs:List Int)(h:dU zs):(rE zs).length<=22*zs.length:=by
 have:∀zs:List Int,(∀z∈zs,-9223372036854775808<=z∧z<=9223372036854775807)->(rE zs).length<=22*zs.length:=by
  intro zs
  induction zs with
  |nil=>intro _;simp[rE]
  |cons z zs ih=>
   intro hz;have h1:=Lib.itoa_length_le z (hz z SI).1 (hz z SI).2;have h2:=ih (λy hy=>hz y (by simp[hy]));unfold rE at h2|-;rw[List.flatMap_cons,List.length_append,List.length_cons,List.length_cons];omega
 exact this zs (λz hz=>by
  obtain⟨i,hi⟩:=List.getElem?_of_mem hz;have:=h i;unfold gi at this
  rwa [List.getD_eq_getElem?_getD,hi]at this)
section
variable (w0:World)(tb cb g:Nat)(og:Obj)(u:Bool)(a al:Option Addr)(c cl:Nat)(bs:List UInt8)(zs:List Int)(n:Nat)(hn:zs.length=n)(vL:Hid (dU zs))
variable (hI:Inv (two (xn tb cb u a c bs) (two (iw g og) (bf 3 1 (.slice al n cl) n (iz zs)))).own w0 w0 [two (xn tb cb u a c bs) (two (iw g og) (bf 3 1 (.slice al n cl) n (iz zs)))])
include hn vL hI
theorem Ik(words:ByteArray)(hw0:0<words.size)(hb:bs.length+words.size+22*n+1<=140737488355328):Calls prog 28 #[.pointer (some ⟨tb,0,none⟩),.string words,.slice al n cl] w0 λe w'=>∃a' c',e=.returned (.tuple #[])∧
  Inv (two (xn tb cb u a c bs) (two (iw g og) (bf 3 1 (.slice al n cl) n (iz zs)))).own w0 w' [two (xn tb cb true a' c' (bs++lZ (qQ words) zs)) (two (iw g og) (bf 3 1 (.slice al n cl) n (iz zs)))]:=by
 have hI2:=hI;generalize hT:(two (xn tb cb u a c bs) (two (iw g og) (bf 3 1 (.slice al n cl) n (iz zs)))).own=T at hI2|-;clear hI hT;replace hI2:=hI2.dz;have hI:Inv T w0 w0 [xn tb cb u a c bs,iw g og,bf 3 1 (.slice al n cl) n (iz zs)]:=by
  exact hI2.turn (λhs y hy=>by
   have h2:=hs (two (iw g og) (bf 3 1 (.slice al n cl) n (iz zs))) SI;simp only[List.mem_cons,List.not_mem_nil,or_false]at hy;rcases hy with rfl|rfl|rfl
   ·exact hs _ SI
   ·exact h2.1
   ·exact h2.2) (by simp[owned,two])
 clear hI2;have hnl:=tq zs vL.out;have hbk0:∀k,(bs++qQ words++rE (zs.take k)).length<=bs.length+words.size+22*n:=λk=>by
  have h1:=tq (zs.take k) (by
   intro i;by_cases hi:i<k
   ·have:gi (zs.take k) i=gi zs i:=by simp[gi,List.getElem?_take,hi]
    rw[this];exact vL.out i
   ·have:gi (zs.take k) i=0:=by unfold gi;rw[List.getD_eq_getElem?_getD,List.getElem?_eq_none (by rw[List.length_take];omega)];rfl
    rw[this];omega)
  rw[List.length_append,List.length_append,pU];have h2:(zs.take k).length<=zs.length:=by rw[List.length_take];omega
  omega
 rw[hn]at hnl;go_enter func28,ntmps28;go_wp2_with(go_at_call 58;refine KH hI (Ii _ tb cb u a c bs (hI.at_ aA) words hw0 OM) ?_;intro a1 c1 w1 hI);replace hI:Inv T w0 w1 [xn tb cb true a1 c1 (bs++qQ words++rE (zs.take 0)),iw g og,bf 3 1 (.slice al n cl) n (iz zs)]:=by
  rw[List.take_zero,show rE []=[]from rfl,List.append_nil];exact hI
 go_loopg [7,15] n (λkk s7 s15 wr=>∃(k:Nat) (ak:Option Addr) (ck:Nat) (bk:List UInt8),kk=n-k∧k<=n∧s15=.int .i64 (k:Int)∧Hid (bs++qQ words++rE (zs.take k)=bk)∧bk.length<=bs.length+words.size+22*n∧Inv T w0 wr [xn tb cb true ak ck bk,iw g og,bf 3 1 (.slice al n cl) n (iz zs)])
 case atStart=>exact⟨0,a1,c1,_,rfl,by omega,rfl,HD rfl,hbk0 0,hI⟩
 case round=>
  clear hI;obtain⟨k,ak,ck,bk,rfl,hk,rfl,hbk,hbl,hI⟩:=hrel;by_cases hkn:k=n
  ·subst hkn
   have hs1:0< (⟨#[10]⟩:ByteArray).size:=by decide
   have hs2:bk.length+(⟨#[10]⟩:ByteArray).size<=140737488355328:=by show bk.length+1<=_;omega
   go_wp2_with(go_at_call 58;refine KH hI (Ii _ tb cb true ak ck bk (hI.at_ aA) ⟨#[10]⟩ hs1 hs2) ?_;intro a1 c1 w1 hI);have e:bk++qQ ⟨#[10]⟩=bs++lZ (qQ words) zs:=by
    rw[<-hbk.out,<-hn,List.take_length];simp[lZ,qQ]
   rw[e]at hI;refine⟨rfl,_,gD KF _ _,a1,c1,rfl,?_⟩;exact hI.turn (λhs y hy=>by
    rw[List.mem_singleton.1 hy];exact⟨hs _ SI,hs _ SI,hs _ SI⟩) (by simp[owned,two])
  ·have hkl:k<n:=by omega
   have hd:decide ((k:Int) < (n:Int))=true:=by simp;omega
   obtain⟨z,aaK⟩:∃z,zs[k]? =some z:=⟨zs[k],by simp⟩;have hzk:(iz zs)[k]? =some (.int .i64 z):=by simp[iz,aaK]
   have hz:-9223372036854775808<=z∧z<=9223372036854775807:=by have:=vL.out k;unfold gi at this;rwa [List.getD_eq_getElem?_getD,aaK]at this
   have hzl:=Lib.itoa_length_le z hz.1 hz.2;obtain⟨ga,rfl⟩:=gu (a':=al) hI aX (by rw[jo];omega);have hb2:Hid (bs++qQ words++rE (zs.take (k+1))=bk++qQ (spc z)):=HD (by rw[NK zs k z aaK,<-List.append_assoc,hbk.out,WB]);have hb3:(bk++qQ (spc z)).length<=bs.length+words.size+22*n:=by rw[<-hb2.out];exact hbk0 _
   clear aaK;have hs1:0< (spc z).size:=by rw[aaJ];omega
   have hs2:bk.length+(spc z).size<=140737488355328:=by have:=hb3;rw[List.length_append,pU]at this;omega
   go_upto_region 4 with(with_reducible refine aJ hI RF aX (aO.out (t:=3)) hzk ?_)
   (refine ZR [4,6] [0,1,2] [4] [0,1,2,3,4,5,6] (λw=>Inv T w0 w [xn tb cb true ak ck bk,iw g og,bf 3 1 (.slice (some ⟨ga,0,none⟩) n cl) n (iz zs)]) hI ?_;intro wd hI)
   (repeat(first|refine ZS ?_|refine ZQ ?_;go_wp2_with(first|go_at_call 58;refine KH hI (Ii _ tb cb true ak ck bk (hI.at_ aA) (spc z) hs1 hs2) ?_;intro a1 c1 w1 hI|go_at_call 54;refine KD hI (NI _ z hz.1 hz.2 (NJ (g:=g) (og:=og) hI aM)) ?_;intro w1 hI);refine ZP ?_))
   go_wp2_with(fail);go_roundg (n- (k+1))
   case measure=>omega
   case rel=>exact⟨k+1,a1,c1,bk++qQ (spc z),rfl,by omega,rfl,hb2,hb3,hI⟩
end
section
open B (fH nT dY fq)
section
variable {ops:Array Oper}{Q:Exit->Act->World->Prop}{a:Act}{rest:List Oper}{T:List Nat}{w0 w:World}{m m':List aG}{dst:Option Tmp}{ty:TypeId}{pos:String}{af:Array Edge}{x y:Operand}
theorem Ow{P:Program}{gd:Option (Nat×Bool)}{t i off e:Nat}{zs:List Int}{fs:Array Field}{f:Field}(hx:a.eval x=ia zs)(hu:P.underlying t=some (.struct fs))(hf:fs[i]? =some f)(ht:f.type=e)(ho:f.offset=off)(hT:jg P e)(hl:off<zs.length):fP P ⟨dst,.field t x i,ty,pos,af,gd⟩ a w (.int .i64 (gi zs off)):=by
 exact W61
theorem yfv{gd:Option (Nat×Bool)}{zs:List Int}(hx:a.eval x=ia zs)(hl:zs.length=174):fP prog ⟨dst,.field 41 x 0,ty,pos,af,gd⟩ a w (.int .i64 (gi zs 0)):=
 Ow hx agY agZ ag0 ag1 (aO.out (t:=3)) OM
theorem Xw{tb cb c:Nat}{u:Bool}{al:Option Addr}{bs:List UInt8}(hI:Inv T w0 w m)(hx:a.eval x=.pointer (some ⟨tb,0,none⟩))(hm:xn tb cb u al c bs∈m)
  (k:wpList prog ops Q rest (a.put dst (.pointer (some ⟨cb,0,none⟩))) w):wpList prog ops Q (⟨dst,.load 26 x,ty,pos,af,none⟩::rest) a w:=by
 have hb:w.heap[tb]? =some (.cells (tcs tb cb u al bs.length c).toArray 70 (0,0)):=(hI.sat _ hm).1;refine au (v:=.pointer (some ⟨cb,0,none⟩)) ?_ k;unfold fP execOp;simp only[hx,Instr.loadAt,Instr.sureAddr,Sem.run_bind,Sem.run_pure,Result.andThen_ok,gI (P:=prog) (aO.out (t:=26)) hb 0 (v:=.pointer (some ⟨cb,0,none⟩)) rfl]
variable {X:CX}{Y:CY}{C:CS}{i:Nat}
theorem aa8(hi:i<5)(hu:C.up i=true)(hI:Inv T w0 w m)(hm:bg X Y C∈m){V:List Int}(hV:(C.S i).view=V):Calls prog 15 #[.pointer (some ⟨(Y.m i).b,0,none⟩)] w λe w'=>e=.returned (ia V)∧Inv T w0 w' m:=by
 subst hV;exact(Xk w _ _ _ _ _ _ _ _ ((zb hi hu).own hI hm)).mono λe w' h=>⟨h.1,(zb hi hu).same hI hm h.2⟩
theorem aeS(hi:i<5)(hu:C.up i=true)(hI:Inv T w0 w m)(hm:bg X Y C∈m){O:List Int}(hO:(C.S i).own=O):Calls prog 16 #[.pointer (some ⟨(Y.m i).b,0,none⟩)] w λe w'=>e=.returned (ia O)∧Inv T w0 w' m:=by
 subst hO;exact(agV w _ _ _ _ _ _ _ _ ((zb hi hu).own hI hm)).mono λe w' h=>⟨h.1,(zb hi hu).same hI hm h.2⟩
end
section
variable {T:List Nat}{w0 w:World}{m:List aG}{A B C D:aG}
theorem tl4(h:Inv T w0 w (D::A::B::C::m)):Inv T w0 w (two B (two C D)::A::m):=
 h.turn (λhs y hy=>by
  simp only[List.mem_cons]at hy;rcases hy with rfl|rfl|hy
  ·exact⟨hs _ SI,hs _ SI,hs _ SI⟩
  ·exact hs _ SI
  ·exact hs _ (by simp[hy])) (by
  rw[List.perm_iff_count];intro x;simp only[owned,two,List.flatMap_cons,List.count_append];omega)
theorem ag3(h:Inv T w0 w (two B (two C D)::A::m)):Inv T w0 w (A::B::C::m):=by
 have h2:Inv T w0 w (D::A::B::C::m):=h.turn (λhs y hy=>by
  have h1:=hs (two B (two C D)) SI;simp only[List.mem_cons]at hy;rcases hy with rfl|rfl|rfl|rfl|hy
  ·exact h1.2.2
  ·exact hs _ SI
  ·exact h1.1
  ·exact h1.2.1
  ·exact hs _ (by simp[hy])) (by
  rw[List.perm_iff_count];intro x;simp only[owned,two,List.flatMap_cons,List.count_append];omega)
 exact h2.sub (.cons _ (.refl _))
end
section
variable {T:List Nat}{w0 w:World}{m:List aG}{A B C D O:aG}
theorem tl5(h:Inv T w0 w (D::O::A::B::C::m)):Inv T w0 w (two B (two C D)::O::A::m):=
 h.turn (λhs y hy=>by
  simp only[List.mem_cons]at hy;rcases hy with rfl|rfl|rfl|hy
  ·exact⟨hs _ SI,hs _ SI,hs _ SI⟩
  ·exact hs _ SI
  ·exact hs _ SI
  ·exact hs _ (by simp[hy])) (by
  rw[List.perm_iff_count];intro x;simp only[owned,two,List.flatMap_cons,List.count_append];omega)
theorem ag4(h:Inv T w0 w (two B (two C D)::O::A::m)):Inv T w0 w (O::A::B::C::m):=by
 have h2:Inv T w0 w (D::O::A::B::C::m):=h.turn (λhs y hy=>by
  have h1:=hs (two B (two C D)) SI;simp only[List.mem_cons]at hy;rcases hy with rfl|rfl|rfl|rfl|rfl|hy
  ·exact h1.2.2
  ·exact hs _ SI
  ·exact hs _ SI
  ·exact h1.1
  ·exact h1.2.1
  ·exact hs _ (by simp[hy])) (by
  rw[List.perm_iff_count];intro x;simp only[owned,two,List.flatMap_cons,List.count_append];omega)
 exact h2.sub (.cons _ (.refl _))
end
theorem Xx:∀(l:List (List Int)) (k:Nat) (r:List Int),(∀q∈l,q.length=3)->l[k]? =some r->k*3+3<=(wS l).length∧((wS l).drop (k*3)).take 3=iz r
 | [],k,r,_,h=>by simp at h
 |q::l,0,r,h3,h=>by
  have hq:q=r:=by simpa using h
  subst hq;have hl:(iz q).length=3:=by rw[jo];exact h3 q SI
  unfold wS;rw[List.flatMap_cons];refine⟨by rw[List.length_append];omega,?_⟩;rw[Nat.zero_mul,List.drop_zero,<-hl,List.take_left]
 |q::l,k+1,r,h3,h=>by
  have hl:(iz q).length=3:=by rw[jo];exact h3 q SI
  obtain⟨a,b⟩:=Xx l k r (λx hx=>h3 x (by simp[hx])) (by simpa using h);unfold wS at a b|-;rw[List.flatMap_cons];refine⟨by rw[List.length_append];omega,?_⟩;rw[show(k+1)*3=(iz q).length+k*3 by omega,List.drop_append,List.drop_eq_nil_of_le OM,List.nil_append,show(iz q).length+k*3- (iz q).length=k*3 by omega];exact b
theorem ag5{r:List Int}(h:r.length=3):[gi r 0,gi r 1,gi r 2]=r:=by
 match r,h with
 | [a,b,c],_=>rfl
def uM(rs:List (List Int)):List UInt8:=rs.flatMap λr=>lZ [114,101,112,108,121] r
theorem GI(q:Int):∀x∈fq q 5,0<=x∧x<5:=λx hx=>by
 unfold B.fq at hx;obtain⟨i,hi,rfl⟩:=List.mem_map.1 hx;have:=List.mem_range.1 (List.mem_filter.1 hi).1;omega
theorem Xy(q:Int):(fq q 5).length<=5:=by
 unfold B.fq;rw[List.length_map];have:=List.length_filter_le (bt q) (List.range 5);simpa using this
theorem Ox(rp:List (List Int))(k:Nat)(r:List Int)(h:rp[k]? =some r):uM (rp.take (k+1))=uM (rp.take k)++lZ [114,101,112,108,121] r:=by
 unfold uM;rw[List.take_add_one,h,List.flatMap_append];simp
abbrev vO(i:Nat):ByteArray:=⟨#[109,97,99,104,105,110,101,32]⟩++⟨(Lib.itoa (i:Int)).toArray⟩
def txM:List UInt8:=[109,97,99,104,105,110,101,32]
def vP(i:Nat):List UInt8:=txM++Lib.itoa (i:Int)
theorem zu(i:Nat):qQ (vO i)=vP i:=by rw[wF];simp[qQ,vP,txM]
theorem acz:dU []:=pY 0
theorem Ak{i:Nat}(hi:i<5):8<=(vP i).length∧(vP i).length<=29:=by
 have:=Lib.itoa_length_le (i:Int) OM OM;unfold vP txM;rw[List.length_append];simp;omega
def rG(C:CS)(i:Nat):List UInt8:=
 (if pM C i=true then lZ (vP i++[32,117,112]) ([gi (C.S i).view 0,gi (C.S i).own 0]++fq (gi (C.S i).view 1) 5)else lZ (vP i++[32,100,111,119,110]) [])++uM (iO C i)
section
variable (w0:World)(X:CX)(Y:CY)(C:CS)(tb g:Nat)(og:Obj)(u:Bool)(a:Option Addr)(c:Nat)(bs:List UInt8)
variable (hI:Inv (two (bg X Y C) (two (xn tb X.cb u a c bs) (iw g og))).own w0 w0 [two (bg X Y C) (two (xn tb X.cb u a c bs) (iw g og))])
variable (i:Nat)(hi:i<5)(hp1:(C.past i).length<=1000000000)(hp2:(C.S i).aV.length<=1000000000)(hbl:bs.length<=100000000000000)
variable (EP:Hid (∀r∈iO C i,dU r))(h64:C.up i=true->Hid (dU (C.S i).view)∧Hid (dU (C.S i).own))
include hI hi hp1 hp2 hbl EP h64
theorem S_:Calls prog 26 #[.pointer (some ⟨tb,0,none⟩),.int .i64 (i:Int)] w0 λe w'=>∃a' c',e=.returned (.tuple #[])∧Inv (two (bg X Y C) (two (xn tb X.cb u a c bs) (iw g og))).own w0 w' [two (bg X Y C) (two (xn tb X.cb true a' c' (bs++rG C i)) (iw g og))]:=by
 have hI2:=hI;generalize hT:(two (bg X Y C) (two (xn tb X.cb u a c bs) (iw g og))).own=T at hI2|-;clear hI hT;have hI:Inv T w0 w0 [bg X Y C,xn tb X.cb u a c bs,iw g og]:=by
  exact hI2.turn (λhs y hy=>by
   have h2:=hs _ (List.mem_singleton.2 rfl);simp only[List.mem_cons,List.not_mem_nil,or_false]at hy;rcases hy with rfl|rfl|rfl
   ·exact h2.1
   ·exact h2.2.1
   ·exact h2.2.2) (by simp[owned,two])
 clear hI2;have hnl:=Ak hi;have hil:=Lib.itoa_length_le (i:Int) OM OM;cases hub:pM C i
 case' false=>
  have hmv:Hid ((if pM C i=true then Value.pointer (some ⟨(Y.m i).b,0,none⟩)else .pointer none)=.pointer none):=HD (if_neg (by simp[hub]));have hsz:(vO i++⟨#[32,100,111,119,110]⟩).size=(vP i).length+5:=by rw[<-pU,wF,zu,List.length_append];rfl
  have hs1:0< (vO i++⟨#[32,100,111,119,110]⟩).size:=by omega
  have hs2:bs.length+(vO i++⟨#[32,100,111,119,110]⟩).size+22*0+1<=140737488355328:=by omega
  have vL:=HD acz;go_enter func26,ntmps26;go_upto_region 3 with(first|go_at_call 54;refine KD hI (NI _ (i:Int) OM OM (NJ (g:=g) (og:=og) hI aX)) ?_;intro w1 hI|with_reducible refine Xw (tb:=tb) (cb:=X.cb) hI RF aM (k:=?_)|go_at_call 13;refine KR (um hi hI aA) ?_;rw[hmv.out])
  replace hI:Inv T w0 _ (bf 3 1 (.slice none 0 0) 0 (iz [])::_):=Inv.yn 3 1 hI;go_upto_region 7 with(go_at_call 28;replace hI:=tl4 hI;(with_reducible refine(Ik _ tb X.cb g og u a none c 0 bs [] 0 List.length_nil vL (hI.at_ aA) (vO i++⟨#[32,100,111,119,110]⟩) hs1 hs2).mono ?_);rintro e w1 ⟨a1,c1,rfl,hJ⟩;replace hI:=ag3 (hI.on hJ jy);clear hJ)
  obtain⟨b1,hb1⟩:=EH (bs++lZ (qQ (vO i++⟨#[32,100,111,119,110]⟩)) []);rw[hb1.out]at hI;have aiD:b1.length<=100000000000300:=by rw[<-hb1.out,lZ,List.length_append,List.length_append,List.length_append,pU,hsz,show(rE []).length=0 from rfl,show([10]:List UInt8).length=1 from rfl];omega
  have hmF:Hid (bs++rG C i=b1++uM (iO C i)):=HD (by
   rw[<-hb1.out,rG,hub,if_neg SI,wF,zu];simp[qQ])
  clear hb1 hs1 hs2 vL hsz hmv
 case' true=>
  have hu:C.up i=true:=by rw[pM,Bool.and_eq_true]at hub;exact hub.1
  have hmv:Hid ((if pM C i=true then Value.pointer (some ⟨(Y.m i).b,0,none⟩)else .pointer none)=.pointer (some ⟨(Y.m i).b,0,none⟩)):=HD (if_pos hub);obtain⟨_,hRL,_,_⟩:=uu hi hu hI aA;have hvl:=hRL.view;have hol:=hRL.own;obtain⟨ag6,ag7⟩:=h64 hu;obtain⟨V,hV⟩:=EH ((C.S i).view);obtain⟨O,hO⟩:=EH ((C.S i).own);rw[hV.out]at hvl ag6;rw[hO.out]at hol ag7;have hsl:=Xy (gi V 1);have hsz:(vO i++⟨#[32,117,112]⟩).size=(vP i).length+3:=by rw[<-pU,wF,zu,List.length_append];rfl
  have hs1:0< (vO i++⟨#[32,117,112]⟩).size:=by omega
  have hs2:bs.length+(vO i++⟨#[32,117,112]⟩).size+22*(2+(fq (gi V 1) 5).length)+1<=140737488355328:=by omega
  have h2n:([gi V 0,gi O 0]++fq (gi V 1) 5).length=2+(fq (gi V 1) 5).length:=by rw[List.length_append];rfl
  have vL:Hid (dU ([gi V 0,gi O 0]++fq (gi V 1) 5)):=HD (mf.2 λx hx=>by
   rcases List.mem_append.1 hx with hx|hx
   ·simp only[List.mem_cons,List.not_mem_nil,or_false]at hx
    rcases hx with rfl|rfl
    ·exact ag6.out 0
    ·exact ag7.out 0
   ·have:=GI _ x hx
    unfold oN;omega)
  go_enter func26,ntmps26;go_upto_region 5 with(first|go_at_call 54;refine KD hI (NI _ (i:Int) OM OM (NJ (g:=g) (og:=og) hI aX)) ?_;intro w1 hI|with_reducible refine Xw (tb:=tb) (cb:=X.cb) hI RF aM (k:=?_)|go_at_call 13;refine KR (um hi hI aA) ?_;rw[hmv.out]|go_at_call 15;refine KE (aa8 hi hu hI aA hV.out) ?_;intro w1 hI|refine YS ?_;intro w hI|refine YX ?_;intro bx w hI)
  (obtain⟨bv,hbx⟩:=EZ bx;subst hbx)
  refine qU (λw=>Inv T w0 w [ib bv 30 V,bg X Y C,xn tb X.cb u a c bs,iw g og]) mixed ?_;replace hI:=hI.drew;change qf _ _ _ _ _ _ _ _ (World.drew _);revert hI;generalize World.drew _=w9;intro hI
  (refine bU (i:=0) (v:=?_) rfl KF KF KF (λc a w hp=>hp) ⟨by rfl,?_⟩ ?_;rotate_left;focus(intro w _;go_simp;with_reducible rfl))
  (simp only[Act.put,List.setIfInBounds_toArray,QG,QS])
  (refine bU (i:=1) (v:=.int .i64 (gi V 0)) rfl KF KF KF (λc a w hp=>hp) ⟨by rfl,λw hC=>kG hC RF aA (aO.out (t:=3)) OM (by rfl)⟩ ?_)
  (simp only[Act.put,List.setIfInBounds_toArray,QG,QS])
  (refine bU (i:=2) (v:=?_) rfl KF KF KF (λc a w hp=>hp) ⟨by rfl,?_⟩ ?_;rotate_left;focus(intro w _;go_simp;with_reducible rfl))
  (simp only[Act.put,List.setIfInBounds_toArray,QG,QS])
  (refine bU (i:=6) (v:=?_) rfl KF KF KF (λc a w hp=>hp) ⟨by rfl,?_⟩ ?_;rotate_left;focus(intro w _;go_simp;with_reducible rfl))
  (simp only[Act.put,List.setIfInBounds_toArray,QG,QS])
  (refine bU (i:=7) (v:=.int .i64 (gi V 1)) rfl KF KF KF (λc a w hp=>hp) ⟨by rfl,λw hC=>kG hC RF aA (aO.out (t:=3)) OM (by rfl)⟩ ?_)
  (simp only[Act.put,List.setIfInBounds_toArray,QG,QS])
  refine iA (i:=3) KF hI ?_;refine ed (i:=3) (by rfl) RF ?_;go_wp2_with(go_at_call 16;refine KE (aeS hi hu hI aM hO.out) ?_;intro w1 hI);refine fB ?_
  (try(simp only[Act.put,List.setIfInBounds_toArray,QG,QS]))
  (refine bU (i:=4) (v:=.int .i64 (gi O 0)) rfl KF KF KF (λc a w hp=>hp) ⟨by rfl,λw hC=>yfv RF hol⟩ ?_)
  (simp only[Act.put,List.setIfInBounds_toArray,QG,QS])
  refine TF (i:=5) (j:=8) KF hI ?_ ?_
  case' refine_1=>
   refine ed (i:=5) (by rfl) RF ?_;go_wp2_with((with_reducible refine Ci hI (k:=?_));intro b2 w hI);refine fB ?_
   (try(simp only[Act.put,List.setIfInBounds_toArray,QG,QS]))
   refine iA (i:=8) KF (hI.sub SB) ?_;refine ed (i:=8) (by rfl) RF ?_;go_wp2_with(go_at_call 55;refine KO hI (B.Hl _ _) ?_;intro sa sc w1 hI);refine fB ?_
   (try(simp only[Act.put,List.setIfInBounds_toArray,QG,QS]))
   refine iA (i:=9) KF (hI.sub SB) ?_;refine ed (i:=9) (by rfl) RF ?_;go_wp2_with((with_reducible refine az (q:=(fq (gi V 1) 5).length) hI RF RF (tK.out (t:=74)) (by intro r';exact aR.there aR.here) (hI.rd aA) (by rw[List.length_map,Nat.mul_one]) (by intro u hu;obtain⟨z,_,rfl⟩:=List.mem_map.1 hu;with_unfolding_all rfl) MX OM ?_;intro a4 c4 w hI));refine fB ?_
   (try(simp only[Act.put,List.setIfInBounds_toArray,QG,QS]))
   refine iA (i:=10) KF (hI.sub SB) ?_;refine ed (i:=10) (by rfl) RF ?_;go_wp2_with(fail);refine fB ?_
   (try(simp only[Act.put,List.setIfInBounds_toArray,QG,QS]))
   refine vT KF (hI.sub SB) ?_ _;replace hI:=hI.sub (.cons _ (.cons_cons _ (.cons _ (.refl _))))
  case' refine_2=>
   refine ed (i:=8) (by rfl) RF ?_;go_wp2_with(go_at_call 55;refine KO hI (B.Hl _ _) ?_;intro sa sc w1 hI);refine fB ?_
   (try(simp only[Act.put,List.setIfInBounds_toArray,QG,QS]))
   refine iA (i:=5) KF (hI.sub SB) ?_;refine ed (i:=5) (by rfl) RF ?_;go_wp2_with((with_reducible refine Ci hI (k:=?_));intro b2 w hI);refine fB ?_
   (try(simp only[Act.put,List.setIfInBounds_toArray,QG,QS]))
   refine iA (i:=9) KF (hI.sub SB) ?_;refine ed (i:=9) (by rfl) RF ?_;go_wp2_with((with_reducible refine az (q:=(fq (gi V 1) 5).length) hI RF RF (tK.out (t:=74)) (by intro r';exact aR.here) (hI.rd aM) (by rw[List.length_map,Nat.mul_one]) (by intro u hu;obtain⟨z,_,rfl⟩:=List.mem_map.1 hu;with_unfolding_all rfl) MX OM ?_;intro a4 c4 w hI));refine fB ?_
   (try(simp only[Act.put,List.setIfInBounds_toArray,QG,QS]))
   refine iA (i:=10) KF (hI.sub SB) ?_;refine ed (i:=10) (by rfl) RF ?_;go_wp2_with(fail);refine fB ?_
   (try(simp only[Act.put,List.setIfInBounds_toArray,QG,QS]))
   refine vT KF (hI.sub SB) ?_ _;replace hI:=hI.sub (.cons_cons _ (.cons _ (.cons _ (.refl _))))
  all_goals
   replace hI:Inv T w0 _ (bf 3 1 (.slice a4 (2+(fq (gi V 1) 5).length) c4) (2+(fq (gi V 1) 5).length) (iz ([gi V 0,gi O 0]++fq (gi V 1) 5))::_):=hI;go_upto_region 7 with(go_at_call 28;replace hI:=tl4 hI;(with_reducible refine(Ik _ tb X.cb g og u a a4 c c4 bs ([gi V 0,gi O 0]++fq (gi V 1) 5) (2+(fq (gi V 1) 5).length) h2n vL (hI.at_ aA) (vO i++⟨#[32,117,112]⟩) hs1 hs2).mono ?_);rintro e w1 ⟨a1,c1,rfl,hJ⟩;replace hI:=ag3 (hI.on hJ jy);clear hJ)
   obtain⟨b1,hb1⟩:=EH (bs++lZ (qQ (vO i++⟨#[32,117,112]⟩)) ([gi V 0,gi O 0]++fq (gi V 1) 5));rw[hb1.out]at hI;have aiD:b1.length<=100000000000300:=by
    have:=tq _ vL.out;rw[h2n]at this;rw[<-hb1.out,lZ,List.length_append,List.length_append,List.length_append,pU,hsz,show([10]:List UInt8).length=1 from rfl];omega
   have hmF:Hid (bs++rG C i=b1++uM (iO C i)):=HD (by
    rw[<-hb1.out,rG,hub,if_pos rfl,wF,zu,hV.out,hO.out];simp[qQ])
   clear hb1 hs1 hs2 vL hsz hmv
 all_goals
  obtain⟨rp,ZF⟩:=EH (iO C i);obtain⟨n,hn⟩:=EQ rp.length;have hn0:(iO C i).length=n:=by rw[ZF.out];exact hn
  have hnb:n<=2000000000:=by rw[<-hn0,iO,List.length_append];split<;>(try simp only[List.length_nil])<;>omega
  have hr3:Hid (∀r∈rp,r.length=3):=HD (by
   rw[<-ZF.out];intro r hr;unfold iO at hr;rcases List.mem_append.1 hr with hr|hr
   ·exact wJ hi hI aA r hr
   ·by_cases hup:C.up i=true
    ·rw[if_pos hup]at hr;exact(uu hi hup hI aA).2.2.1 r hr
    ·rw[if_neg hup]at hr;simp at hr)
  rw[ZF.out]at hmF EP;go_wp2_with(first|with_reducible refine Xw (tb:=tb) (cb:=X.cb) hI RF aM (k:=?_)|go_at_call 43;(with_reducible refine(GH _ X Y C i hi (hI.at_ aA) hp1 hp2).mono ?_);rintro e w1 ⟨ra,rc,rfl,hJ⟩;rw[hn0,ZF.out]at hJ;replace hI:=hI.Ml hJ jy;clear hJ;(try rw[hn0]))
  go_loopg [49] n (λkk s49 wr=>∃(k:Nat) (ak:Option Addr) (ck:Nat) (bk:List UInt8),kk=n-k∧k<=n∧s49=.int .i64 (k:Int)∧Hid (b1++uM (rp.take k)=bk)∧bk.length<=b1.length+80*k∧Inv T w0 wr [bf 117 3 (.slice ra n rc) n (wS rp),bg X Y C,xn tb X.cb true ak ck bk,iw g og])
  case atStart=>exact⟨0,a1,c1,b1,rfl,by omega,rfl,HD (by simp[uM]),by omega,hI⟩
  case round=>
   clear hI;obtain⟨k,ak,ck,bk,rfl,hk,rfl,hbk,ajs,hI⟩:=hrel;by_cases hkn:k=n
   ·subst hkn
    have e:bs++rG C i=bk:=by rw[hmF.out,<-hbk.out,<-hn,List.take_length]
    clear hmF;go_wp2_with(fail);refine⟨rfl,_,gD KF _ _,ak,ck,rfl,?_⟩;rw[e];have h2:=hI.tl;exact h2.turn (λhs y hy=>by
     rw[List.mem_singleton.1 hy];exact⟨hs _ SI,hs _ SI,hs _ SI⟩) (by simp[owned,two])
   ·have hkl:k<n:=by omega
    have hd:decide ((k:Int) < (n:Int))=true:=by simp;omega
    obtain⟨r,hrk⟩:∃r,rp[k]? =some r:=⟨rp[k],by simp⟩;have hrl:=hr3.out r (List.mem_of_getElem? hrk);have vL:Hid (dU [gi r 0,gi r 1,gi r 2]):=HD (by rw[ag5 hrl];exact EP.out r (List.mem_of_getElem? hrk));obtain⟨MC,ME⟩:=Xx rp k r hr3.out hrk;obtain⟨rg,rfl⟩:=gu (a':=ra) hI aA OM;have hs1:0< (⟨#[114,101,112,108,121]⟩:ByteArray).size:=by decide
    have hs2:bk.length+(⟨#[114,101,112,108,121]⟩:ByteArray).size+22*3+1<=140737488355328:=by show bk.length+5+22*3+1<=_;omega
    have h3l:[gi r 0,gi r 1,gi r 2].length=3:=rfl;have hb2:Hid (b1++uM (rp.take (k+1))=bk++lZ (qQ ⟨#[114,101,112,108,121]⟩) [gi r 0,gi r 1,gi r 2]):=HD (by rw[Ox rp k r hrk,<-List.append_assoc,hbk.out,ag5 hrl];rfl);have hb3:(bk++lZ (qQ ⟨#[114,101,112,108,121]⟩) [gi r 0,gi r 1,gi r 2]).length<=b1.length+80*(k+1):=by
     have:=tq _ vL.out;rw[h3l]at this;rw[lZ,List.length_append,List.length_append,List.length_append,show(qQ ⟨#[114,101,112,108,121]⟩).length=5 from rfl,show([10]:List UInt8).length=1 from rfl];omega
    clear hrk;go_wp2_with(first|with_reducible refine fU (vs:=iz r) hI RF aA (bG.out (t:=117)) MC ME ?_|(with_reducible refine afu hI (k:=?_));intro b3 w hI|go_at_call 28;replace hI:=tl5 (D:=bf 3 1 (.slice (some ⟨b3,0,none⟩) 3 3) 3 (iz [gi r 0,gi r 1,gi r 2])) (hI.sub (.cons_cons _ (.cons _ (.refl _))));(with_reducible refine(Ik _ tb X.cb g og true ak (some ⟨b3,0,none⟩) ck 3 bk [gi r 0,gi r 1,gi r 2] 3 h3l vL (hI.at_ aA) ⟨#[114,101,112,108,121]⟩ hs1 hs2).mono ?_);rintro e w1 ⟨a2,c2,rfl,hJ⟩;replace hI:=ag4 (hI.on hJ jy);clear hJ|refine YL ?_|refine YS ?_;intro w hI|refine YX ?_;intro bx w hI);go_roundg (n- (k+1))
    case measure=>omega
    case rel=>exact⟨k+1,a2,c2,_,rfl,by omega,rfl,hb2,hb3,hI⟩
end
end
def Cv(C:CS)(z:List Int)(f:Nat):CS×Int:=if 0<=gi z 2∧gi z 2<5∧gi z 2≠gi z 1 then wU C (gi z 0) f (gi z 2).toNat (gi z 4)else(C,5)
section
variable (w0:World)(X:CX)(Y:CY)(C:CS)(z:List Int)(hz:z.length=11)(hI:Inv (bg X Y C).own w0 w0 [bg X Y C])
include hz hI
variable (i:Nat)(hi:i<5)(h1:gi z 1=(i:Int))
include hi h1
theorem afB(hN:Qq C.B)(hg:∀t,t<5->C.up t=true->dU (C.S t).view∧(C.S t).aV.length<=1000000000):
  Calls prog 40 #[.pointer (some ⟨X.cb,0,none⟩),ia z] w0 λe w'=>∃Y',e=.returned (.int .i64 (Cv C z i).2)∧Inv (bg X Y C).own w0 w' [bg X Y' (Cv C z i).1]:=by
 unfold Cv;by_cases h2:0<=gi z 2∧gi z 2<5
 ·obtain⟨t,ht⟩:∃t:Nat,gi z 2=(t:Int):=⟨(gi z 2).toNat,by omega⟩
  have mR:t<5:=by omega
  by_cases hne:i=t
  ·rw[if_neg (by rw[ht,h1,hne];simp)]
   exact(XU w0 X Y C z hz hI i t hi mR h1 ht hne).mono λe w' h=>⟨Y,h⟩
  ·rw[if_pos ⟨h2.1,h2.2,by omega⟩,show(gi z 2).toNat=t by omega]
   cases hB:C.B (i*5+t)with
   |nil=>
    rw[wU,hB];exact(Tq w0 X Y C z hz hI i t hi mR h1 ht hne hB).mono λe w' h=>⟨Y,h⟩
   |cons b0 bt=>
    by_cases h7:gi z 0=7
    ·rw[h7]
     exact abu w0 X Y C z hz hI i t hi mR h1 ht hne h7 b0 bt hB hN
    ·exact ae8 w0 X Y C z hz hI i t hi mR h1 ht hne (by simpa using h7) b0 bt hB hN (hg t mR)
 ·rw[if_neg (λh=>h2 ⟨h.1,h.2.1⟩)]
  exact(abt w0 X Y C z hz hI (HD (λh=>h2 ⟨h.2.2.1,h.2.2.2⟩))).mono λe w' h=>⟨Y,h⟩
theorem abB(h0:gi z 0=5)(hN:Hid (Qq C.B))(hgood:Hid (∀t,t<5->C.up t=true->dU (C.S t).view∧(C.S t).aV.length<=1000000000)):
  Calls prog 19 #[.pointer (some ⟨X.cb,0,none⟩),ia z] w0 λe w'=>∃Y',e=.returned (.int .i64 (Cv C z i).2)∧Inv (bg X Y C).own w0 w' [bg X Y' (Cv C z i).1]:=by
 exact W22
theorem abC(h0:gi z 0=6)(hN:Hid (Qq C.B))(hgood:Hid (∀t,t<5->C.up t=true->dU (C.S t).view∧(C.S t).aV.length<=1000000000)):
  Calls prog 19 #[.pointer (some ⟨X.cb,0,none⟩),ia z] w0 λe w'=>∃Y',e=.returned (.int .i64 (Cv C z i).2)∧Inv (bg X Y C).own w0 w' [bg X Y' (Cv C z i).1]:=by
 exact W22
theorem abD(h0:gi z 0=7)(hN:Hid (Qq C.B))(hgood:Hid (∀t,t<5->C.up t=true->dU (C.S t).view∧(C.S t).aV.length<=1000000000)):
  Calls prog 19 #[.pointer (some ⟨X.cb,0,none⟩),ia z] w0 λe w'=>∃Y',e=.returned (.int .i64 (Cv C z i).2)∧Inv (bg X Y C).own w0 w' [bg X Y' (Cv C z i).1]:=by
 exact W22
end
structure Yz (C:CS):Prop where
 net:Qq C.B
 view:∀t,t<5->C.up t=true->dU (C.S t).view
 aV:∀t,t<5->(C.S t).aV.length<=1000000000
 past:∀t,t<5->(C.past t).length<=1000000000
 own:∀t,t<5->C.up t=true->Go.Proofs.YtdakkaapokhnnaaGreatDoor.C.vG (C.S t).own
 book:∀t,t<5->C.up t=true->Go.Proofs.YtdakkaapokhnnaaGreatDoor.C.Bk (C.S t).book
 afc:∀t,t<5->C.up t=false->yQ (eP (C.S t).D)
theorem aiM(w0:World)(X:CX)(Y:CY)(C:CS)(z:List Int)(hz:z.length=11)(h64:∀i,-9223372036854775808<=gi z i∧gi z i<=9223372036854775807)(hC:Yz C)(hI:Inv (bg X Y C).own w0 w0 [bg X Y C]):
  Calls prog 19 #[.pointer (some ⟨X.cb,0,none⟩),ia z] w0 λe w'=>∃Y',e=.returned (.int .i64 (oD C z).2)∧Inv (bg X Y C).own w0 w' [bg X Y' (oD C z).1]:=by
 by_cases h1:0<=gi z 1∧gi z 1<5
 ·obtain⟨i,hi0⟩:∃i:Nat,gi z 1=(i:Int):=⟨(gi z 1).toNat,by omega⟩
  have hi:i<5:=by omega
  have hu:pM C i=true->C.up i=true:=λh=>by rw[pM,Bool.and_eq_true]at h;exact h.1
  have hcl:pM C i=true->dU (C.S i).view∧(C.S i).aV.length<=1000000000∧Go.Proofs.YtdakkaapokhnnaaGreatDoor.C.vG (C.S i).own∧Go.Proofs.YtdakkaapokhnnaaGreatDoor.C.Bk (C.S i).book:=
   λh=>⟨hC.view i hi (hu h),hC.aV i hi,hC.own i hi (hu h),hC.book i hi (hu h)⟩
  have hwy:5<=gi z 0∧gi z 0<8->oD C z=Cv C z i:=λh=>by
   rw[oD,if_neg OM];dsimp only;rw[if_neg OM,if_pos h,show(gi z 1).toNat=i by omega];rfl
  have hgw:Hid (∀t,t<5->C.up t=true->dU (C.S t).view∧(C.S t).aV.length<=1000000000):=HD λt ht hup=>⟨hC.view t ht hup,hC.aV t ht⟩
  by_cases c0:gi z 0=0
  ·exact OL w0 X Y C z hz hI i hi hi0 c0 hcl
  by_cases c1:gi z 0=1
  ·exact OO w0 X Y C z hz hI i hi hi0 c1 hcl
  by_cases c2:gi z 0=2
  ·exact OP w0 X Y C z hz hI i hi hi0 c2 hcl
  by_cases c3:gi z 0=3
  ·exact OQ w0 X Y C z hz hI i hi hi0 c3 hcl
  by_cases c4:gi z 0=4
  ·exact OT w0 X Y C z hz hI i hi hi0 c4 hcl
  by_cases c5:gi z 0=5
  ·rw[hwy OM];exact abB w0 X Y C z hz hI i hi hi0 c5 (HD hC.net) hgw
  by_cases c6:gi z 0=6
  ·rw[hwy OM];exact abC w0 X Y C z hz hI i hi hi0 c6 (HD hC.net) hgw
  by_cases c7:gi z 0=7
  ·rw[hwy OM];exact abD w0 X Y C z hz hI i hi hi0 c7 (HD hC.net) hgw
  by_cases c8:gi z 0=8
  ·exact abx w0 X Y C z hz hI i hi hi0 c8 (λh=>hC.view i hi (hu h))
  by_cases c9:gi z 0=9
  ·exact afa w0 X Y C z hz hI i hi hi0 c9 (HD (h64 4))
  by_cases c10:gi z 0=10
  ·exact X9 w0 X Y C z hz hI i hi hi0 c10 (hC.past i hi) (hC.aV i hi)
  by_cases c11:gi z 0=11
  ·exact XZ w0 X Y C z hz hI i hi hi0 c11 (HD (hC.afc i hi))
  ·exact abA w0 X Y C z hz hI i hi hi0 OM
 ·rw[oD,if_pos h1]
  exact(ae_ w0 X Y C z hz hI h1).mono λe w' h=>⟨Y,h⟩
theorem Yz.start:Yz C0 where
 net:=λ_=>⟨by simp[C0],λb hb=>by simp[C0]at hb⟩
 view:=λt _ _ i=>by
  show-9223372036854775808<=gi B.fH i∧gi B.fH i<=9223372036854775807;by_cases h:i<7
  ·have:i=0∨i=1∨i=2∨i=3∨i=4∨i=5∨i=6:=by omega
   rcases this with rfl|rfl|rfl|rfl|rfl|rfl|rfl<;>decide
  ·have h2:gi B.fH i=0:=by unfold gi;rw[List.getD_eq_getElem?_getD,List.getElem?_eq_none (l:=B.fH) (i:=i) (show 7<=i by omega)];rfl
   rw[h2];omega
 aV:=λt _=>by show([]:List (List Int)).length<=_;simp
 past:=λt _=>by simp[C0]
 own:=λt _ _=>by show C.nV (C.cellsOf (aj 174))=true;decide+kernel
 book:=λt _ _=>C.Bk.start
 afc:=λt _ h=>by cases h
section
open B (aI dY fH dX jL lC gN nX cz bQ nY)
theorem X_{S:RS}(h:Iw S){B:Nat->List (List UInt8)}(hB:Qq B):Iw {S with B:=B}:=
 ⟨Ww h.len B,h.ep,h.view,h.own,h.iM,h.bV,h.last,h.book,h.hi,hB⟩
theorem ahc{S:RS}(h:Iw S){D:DS}(hD:Hi D):Iw {S with D:=D}:=
 ⟨⟨h.len.view,h.len.own,h.len.bV,h.len.sl,h.len.acc,h.len.book,h.len.told,h.len.last,h.len.aK⟩,h.ep,h.view,h.own,h.iM,h.bV,h.last,h.book,hD,h.net⟩
theorem GK:dU fH:=mf.2 λx hx=>by
 have:x∈[(1:Int),7,0,0,0,0,0]:=hx;simp only[List.mem_cons,List.not_mem_nil,or_false]at this;unfold oN;omega
theorem GL{D:DS}(hD:Hi D)(cnt used:Nat){B:Nat->List (List UInt8)}(hB:Qq B):Iw (si D cnt used B) where
 len:=by
  have h:=Ws D cnt used B;exact⟨rfl,h.own,h.bV,h.sl,by show(pI _ _ _ _).length=8;simp[pI,aa],h.book,h.told,h.last,λp h=>by cases h⟩
 ep:=rfl
 view:=GK
 own:=by show C.nV (C.cellsOf (aj 174))=true;decide+kernel
 iM:=pY 174
 bV:=pY 870
 last:=pY 870
 book:=C.Bk.start
 hi:=hD
 net:=hB
theorem LK{S:RS}(h:Iw S){x:Rec}(hx:x.Ok):Iw (qC S x):=by
 have hl:=h.len;have h8:=hl.acc;cases x with
 |row r=>exact⟨⟨hl.view,hx.1,hl.bV,hl.sl,hl.acc,hl.book,hl.told,hl.last,hl.aK⟩,h.ep,h.view,C.aai hx.2.1,hx.2.2.1,h.bV,h.last,h.book,h.hi,h.net⟩
 |eD w r=>exact⟨⟨hl.view,hl.own,sQ hl.bV hx.2.1,hl.sl,hl.acc,hl.book,hl.told,hl.last,hl.aK⟩,h.ep,h.view,h.own,h.iM,Lb h.bV hx.2.2.2.1,h.last,h.book,h.hi,h.net⟩
 |bR w=>exact⟨⟨hl.view,hl.own,hl.bV,C.FN _ _ hl.sl,hl.acc,hl.book,hl.told,hl.last,hl.aK⟩,h.ep,h.view,h.own,h.iM,h.bV,h.last,h.book,h.hi,h.net⟩
 |tL e b=>
  have hb:b.length=2:=hx.2.1;exact⟨⟨hl.view,hl.own,hl.bV,hl.sl,by show(dF S.acc 1 b).length=8;rw[aY];omega,hl.book,hl.told,hl.last,hl.aK⟩,(wG OM OM).trans h.ep,h.view,h.own,h.iM,h.bV,h.last,h.book,h.hi,h.net⟩
 |take e b c=>
  have hb:b.length=2:=hx.2.1.1;have hc:c.length=3:=hx.2.2.1;have l1:(dF S.acc 1 b).length=8:=by rw[aY];omega
  have l2:(dF (dF S.acc 1 b) 3 b).length=8:=by rw[aY];omega
  exact⟨⟨hl.view,hl.own,hl.bV,hl.sl,by show(dF (dF (dF S.acc 1 b) 3 b) 5 c).length=8;rw[aY];omega,hl.book,hl.told,hl.last,hl.aK⟩,(wG OM OM).trans ((wG OM OM).trans ((wG OM OM).trans h.ep)),h.view,h.own,h.iM,h.bV,h.last,h.book,h.hi,h.net⟩
 |view v=>exact⟨⟨hx.1,hl.own,hl.bV,hl.sl,by show(pI _ _ _ _).length=8;simp[pI,aa],hl.book,hl.told,hl.last,λp h=>by cases h⟩,rfl,hx.2.2.1,h.own,h.iM,h.bV,h.last,h.book,h.hi,h.net⟩
theorem AZ:∀(l:List (List UInt8)) {S S':RS},Iw S->fM S l=some S'->Iw S'∧S'.waits=S.waits
 | [],S,S',h,e=>by cases e;exact⟨h,rfl⟩
 |b::l,S,S',h,e=>by
  obtain⟨x,hx,h2⟩:=Option.bind_eq_some_iff.1 e;obtain⟨a,b⟩:=AZ l (LK h (Wp hx)) h2;exact⟨a,b.trans (by cases x<;>rfl)⟩
theorem EE{D:DS}(hD:Hi D){B:Nat->List (List UInt8)}(hB:Qq B):Hi (jq D B).2.1∧∀S,(jq D B).1=some S->Iw S∧S.aV=[]∧S.waits=0∧S.B=B∧S.D=(jq D B).2.1:=by
 have ho:=aaU hD;unfold jq;cases e:dZ D with
 |mk o q=>
  obtain⟨D',er⟩:=q;rw[e]at ho;cases o with
  |none=>exact⟨ho,λS h=>by cases h⟩
  |some t=>
   obtain⟨bs,cnt,used⟩:=t;dsimp only;cases hr:fM (si D' cnt used B) bs with
   |none=>exact⟨ho,λS h=>by cases h⟩
   |some S=>
    refine⟨ho,λS' h=>?_⟩;cases h;obtain⟨a,b⟩:=AZ bs (GL ho cnt used hB) hr;obtain⟨k1,k2,k3,k4,k5⟩:=pW bs _ _ hr;exact⟨a,k4,b,k5,k1⟩
structure CI (n:Nat) (C:CS):Prop where
 net:Qq C.B
 up:∀t,t<5->C.up t=true->Iw (rs C t)
 hi:∀t,t<5->Hi (C.S t).D
 rep:∀t,t<5->(∀r∈C.past t,∀x∈r,oN x)∧(C.up t=true->WQ (C.S t))
 cnt:∀t,t<5->(C.past t).length+(if C.up t=true then Ma (C.S t)else 0)<=n∧(C.S t).aV.length<=n
section
variable {n k:Nat}{C:CS}
theorem CI.ok(h:CI n C)(hn:n<=1000000000):Yz C where
 net:=h.net
 view:=λt ht hu=>(h.up t ht hu).view
 aV:=λt ht=>by have:=(h.cnt t ht).2;omega
 past:=λt ht=>by have:=(h.cnt t ht).1;omega
 own:=λt ht hu=>(h.up t ht hu).own
 book:=λt ht hu=>(h.up t ht hu).book
 afc:=λt ht _=>Od (h.hi t ht)
theorem CI.le{m:Nat}(h:CI n C)(hm:n<=m):CI m C:=⟨h.net,h.up,h.hi,h.rep,λt ht=>by have:=h.cnt t ht;omega⟩
theorem OU(h:CI n C){t:Nat}(ht:t<5)(hu:C.up t=true){In:Nat->gZ->Prop}(hin:∀a M,In a M->M.Ok){S:RS}(hm:lH t In k (rs C t) S):CI (n+k) (rM C t S):=by
 have hS:=aaX hin hm (h.up t ht hu);have hp:=aaR hm;have e1:∀j,j≠t->(rM C t S).S j=C.S j:=λj hj=>bZ _ _ hj
 have e2:(rM C t S).S t=S:=bJ _ _ _;refine⟨hS.net,λj hj hu'=>?_,λj hj=>?_,λj hj=>⟨(h.rep j hj).1,λhu'=>?_⟩,λj hj=>?_⟩
 rotate_left 2
 ·by_cases hjt:j=t
  ·subst hjt;rw[e2];exact aaS hm ⟨((h.rep j hj).2 hu').w,((h.rep j hj).2 hu').r⟩
  ·rw[e1 j hjt];exact(h.rep j hj).2 hu'
 rotate_left 1
 ·by_cases hjt:j=t
  ·subst hjt;unfold rs;rw[e2];exact hS
  ·unfold rs;rw[e1 j hjt];exact X_ (h.up j hj hu') hS.net
 ·by_cases hjt:j=t
  ·subst hjt;rw[e2];exact hS.hi
  ·rw[e1 j hjt];exact h.hi j hj
 ·by_cases hjt:j=t
  ·subst hjt;rw[e2]
   have:=h.cnt j hj;rw[if_pos hu]at this;show(C.past j).length+(if C.up j=true then Ma S else 0)<=_∧_;rw[if_pos hu];have TI:Ma (rs C j)=Ma (C.S j):=rfl;have hr:S.aV.length<=Ma S:=Nat.le_add_right _ _;omega
  ·rw[e1 j hjt];have:=h.cnt j hj;show(C.past j).length+(if C.up j=true then _ else 0)<=_∧_;omega
theorem abE(h:CI n C){B:Nat->List (List UInt8)}(hB:Qq B):CI n {C with B:=B}:=
 ⟨hB,λt ht hu=>X_ (h.up t ht hu) hB,h.hi,h.rep,h.cnt⟩
theorem ahd(h:CI n C){i:Nat}{D:DS}(hD:Hi D):CI n (pV C i D):=by
 have e1:∀j,j≠i->(pV C i D).S j=C.S j:=λj hj=>bZ _ _ hj
 have e2:(pV C i D).S i={C.S i with D:=D}:=bJ _ _ _;refine⟨h.net,λj hj hu'=>?_,λj hj=>?_,λj hj=>⟨(h.rep j hj).1,λhu'=>?_⟩,λj hj=>?_⟩
 rotate_left 2
 ·by_cases hjt:j=i
  ·subst hjt;rw[e2];exact⟨((h.rep j hj).2 hu').w,((h.rep j hj).2 hu').r⟩
  ·rw[e1 j hjt];exact(h.rep j hj).2 hu'
 rotate_left 1
 ·by_cases hjt:j=i
  ·subst hjt;unfold rs;rw[e2];exact ahc (h.up j hj hu') hD
  ·unfold rs;rw[e1 j hjt];exact h.up j hj hu'
 ·by_cases hjt:j=i
  ·subst hjt;rw[e2];exact hD
  ·rw[e1 j hjt];exact h.hi j hj
 ·by_cases hjt:j=i
  ·subst hjt;rw[e2];exact h.cnt j hj
  ·rw[e1 j hjt];exact h.cnt j hj
theorem yo{i:Nat}(h:pM C i=true):C.up i=true:=by rw[pM,Bool.and_eq_true]at h;exact h.1
theorem Ya(h:CI n C){aeU:Bool}{f t:Nat}(hf:f<5)(ht:t<5)(b:List UInt8):CI n (o9 C aeU f t b).1:=by
 unfold o9;cases A.dZ (UInt8.ofNat f) (UInt8.ofNat t) b with
 |none=>exact h
 |some bs=>
  dsimp only
  split
  ·exact h
  ·rename_i hc
   cases e:Kr bs with
   |none=>exact h
   |some M=>
    have hok:=Wq e;have hu:C.up t=true:=yo (by simpa using λh=>hc (.inr h));have hM:=h.up t ht hu;exact OU (k:=0) h ht hu (In:=λa M'=>a=f∧M'=M) (λa M' hh=>by rw[hh.2];exact hok) (aeC ht hM.len hM.ep hf hok.len ⟨rfl,rfl⟩)
theorem afd(h:CI n C){kind:Int}{f t:Nat}(hf:f<5)(ht:t<5)(z:Int):CI n (wU C kind f t z).1:=by
 unfold wU;have hq:=h.net (f*5+t);cases e:C.B (f*5+t)with
 |nil=>exact h
 |cons b0 bt=>
  rw[e]at hq;dsimp only
  split
  ·split
   ·exact h
   ·rename_i h8
    refine abE h (Iu h.net ⟨?_,λb hb=>?_⟩)
    ·have:=hq.1
     simp only[List.length_append,List.length_cons,List.length_nil]at*;omega
    ·rcases List.mem_append.1 hb with hb|hb
     ·exact hq.2 b hb
     ·rw[List.mem_singleton.1 hb];exact hq.2 b0 SI
  ·generalize hk:((max z 0) % ((bt.length+1:Nat):Int)).toNat=k
   cases e2:(b0::bt).drop k++(b0::bt).take k with
   |nil=>exact h
   |cons b r=>
    have hall:∀x∈b::r,x.length<=100000:=λx hx=>by
     rw[<-e2]at hx;rcases List.mem_append.1 hx with hx|hx
     ·exact hq.2 x (List.mem_of_mem_drop hx)
     ·exact hq.2 x (List.mem_of_mem_take hx)
    have hlen:(b::r).length<=8:=by
     rw[<-e2,List.length_append,List.length_drop,List.length_take];have:=hq.1;omega
    refine Ya (C:={C with B:=gL C.B (f*5+t) r}) (abE h (Iu h.net ⟨?_,λx hx=>hall x (List.mem_cons_of_mem _ hx)⟩)) hf ht b;simp only[List.length_cons]at hlen;omega
theorem Yb(h:CI n C){i:Nat}(hi:i<5)(mask iQ cut:Int):CI n (uy C i mask iQ cut):=by
 have e1:∀j,j≠i->(uy C i mask iQ cut).S j=C.S j∧(uy C i mask iQ cut).up j=C.up j∧(uy C i mask iQ cut).past j=C.past j:=λj hj=>⟨bZ _ _ hj,bZ _ _ hj,bZ _ _ hj⟩
 have e2:(uy C i mask iQ cut).S i={C.S i with D:=rQ (C.S i).D mask iQ cut}:=bJ _ _ _;have e3:(uy C i mask iQ cut).up i=false:=bJ _ _ _;have e4:(uy C i mask iQ cut).past i=iO C i:=bJ _ _ _;refine⟨h.net,λj hj hu'=>?_,λj hj=>?_,λj hj=>?_,λj hj=>?_⟩
 rotate_left 2
 ·by_cases hjt:j=i
  ·subst hjt
   refine⟨λr hr=>?_,λhu'=>by rw[e3]at hu';cases hu'⟩;rw[e4]at hr;unfold iO at hr;rcases List.mem_append.1 hr with hr|hr
   ·exact(h.rep j hj).1 r hr
   ·split at hr
    ·rename_i hu;exact((h.rep j hj).2 hu).r r hr
    ·cases hr
  ·rw[(e1 j hjt).1,(e1 j hjt).2.1,(e1 j hjt).2.2];exact h.rep j hj
 rotate_left 1
 ·by_cases hjt:j=i
  ·subst hjt;rw[e3]at hu';cases hu'
  ·unfold rs;rw[(e1 j hjt).1];exact h.up j hj (by rw[<-(e1 j hjt).2.1];exact hu')
 ·by_cases hjt:j=i
  ·subst hjt;rw[e2];exact Xa (h.hi j hj) _ _ _
  ·rw[(e1 j hjt).1];exact h.hi j hj
 ·have:=h.cnt j hj
  by_cases hjt:j=i
  ·subst hjt;rw[e2,e3,e4]
   refine⟨?_,this.2⟩;simp only[Bool.false_eq_true,if_false];unfold iO;rw[List.length_append]
   split
   ·rename_i hu;rw[if_pos hu]at this
    have hr:(C.S j).aV.length<=Ma (C.S j):=Nat.le_add_right _ _;omega
   ·simp only[List.length_nil];omega
  ·rw[(e1 j hjt).1,(e1 j hjt).2.1,(e1 j hjt).2.2];exact this
theorem Yc(h:CI n C){i:Nat}(hi:i<5):CI n (k_ C i).1:=by
 unfold k_
 split
 ·exact h
 ·rename_i hu
  obtain⟨h1,h2⟩:=EE (h.hi i hi) h.net;cases e:jq (C.S i).D C.B with
  |mk o q=>
   obtain⟨D',er⟩:=q;rw[e]at h1 h2;cases o with
   |none=>exact ahd h h1
   |some S=>
    obtain⟨k1,k2,k3,k4,k5⟩:=h2 S rfl;have e1:∀j,j≠i->(BC C i S).S j=C.S j∧(BC C i S).up j=C.up j:=λj hj=>⟨bZ _ _ hj,bZ _ _ hj⟩
    have e2:(BC C i S).S i=S:=bJ _ _ _;refine⟨h.net,λj hj hu'=>?_,λj hj=>?_,λj hj=>⟨(h.rep j hj).1,λhu'=>?_⟩,λj hj=>?_⟩
    rotate_left 2
    ·by_cases hjt:j=i
     ·subst hjt;rw[e2];exact⟨by rw[k3];exact pG,λr hr=>by rw[k2]at hr;cases hr⟩
     ·rw[(e1 j hjt).1];exact(h.rep j hj).2 (by rw[<-(e1 j hjt).2];exact hu')
    rotate_left 1
    ·by_cases hjt:j=i
     ·subst hjt;unfold rs;rw[e2];exact X_ k1 h.net
     ·unfold rs;rw[(e1 j hjt).1];exact h.up j hj (by rw[<-(e1 j hjt).2];exact hu')
    ·by_cases hjt:j=i
     ·subst hjt;rw[e2];exact k1.hi
     ·rw[(e1 j hjt).1];exact h.hi j hj
    ·have:=h.cnt j hj
     by_cases hjt:j=i
     ·subst hjt;rw[e2]
      have hp:Ma S=0:=by unfold Ma;rw[k2,k3];rfl
      rw[hp,k2];show(C.past j).length+(if(BC C j S).up j=true then 0 else 0)<=n∧_;simp;omega
     ·rw[(e1 j hjt).1,(e1 j hjt).2];exact this
theorem acA(h:CI n C){z:List Int}(hz:z.length=11):CI (n+1) (oD C z).1:=by
 have nin:∀a M,(λ_ _=>False:Nat->gZ->Prop) a M->M.Ok:=λ_ _ h=>h.elim
 unfold oD;split
 ·exact h.le OM
 ·rename_i hm
  have hi:(gi z 1).toNat <5:=by omega
  dsimp only
  split
  ·split
   ·rename_i hu
    have hM:=h.up _ hi (yo hu);exact OU h hi (yo hu) nin (WO hi hM.len hM.ep hM.book (by rw[ay];omega))
   ·exact h.le OM
  ·split
   ·split
    ·exact(afd h hi OM _).le OM
    ·exact h.le OM
   ·split
    ·split
     ·rename_i hu
      have hM:=h.up _ hi (yo hu);exact(OU (k:=0) h hi (yo hu) nin (aeD hi hM.len hM.ep)).le OM
     ·exact h.le OM
    ·split
     ·have:=h.hi _ hi
      exact(ahd (D:={(C.S (gi z 1).toNat).D with armed:=true,left:=max (gi z 4) 0}) h ⟨this.w,this.s⟩).le OM
     ·split
      ·exact(Yb h hi _ _ _).le OM
      ·split
       ·exact(Yc h hi).le OM
       ·exact h.le OM
theorem IX:CI 0 C0 where
 net:=Yz.start.net
 up:=λt ht _=>GL (wH (by exact⟨λp hp=>(by cases hp),λk _=>rfl⟩)) 0 0 Yz.start.net
 hi:=λt ht=>wH (by exact⟨λp hp=>(by cases hp),λk _=>rfl⟩)
 rep:=λt ht=>⟨λr hr=>(by cases hr),λ_=>⟨pG,λr hr=>(by cases hr)⟩⟩
 cnt:=λt ht=>by simp[C0,si,Sc,rV,Ma]
def yt(C:CS)(l:List (List Int)):CS:=l.foldl (λC z=>(oD C z).1) C
theorem OV:∀(l:List (List Int)) {n:Nat} {C:CS},(∀z∈l,z.length=11)->CI n C->CI (n+l.length) (yt C l)
 | [],n,C,_,h=>h
 |z::l,n,C,hl,h=>by
  have h1:=OV l (λy hy=>hl y (List.mem_cons_of_mem _ hy)) (acA h (hl z SI));exact h1.le (by simp only[List.length_cons];omega)
end
end
section
open B (fH nT dY fq)
theorem Nh:(prog.info? 70).map (·.zero)=some (some (.agg #[.pointer none,.pointer none,.slice none 0 0])):=by kernel_rfl
theorem ahe:G7 prog 70:=⟨_,underlying70,by kernel_rfl⟩
theorem ahf:Ba prog 70 0 0 1:=⟨_,underlying70,by kernel_rfl⟩
theorem aiN{ops:Array Oper}{Q:Exit->Act->World->Prop}{a:Act}{rest:List Oper}{w:World}{dst:Option Tmp}{ty:TypeId}{pos:String}{af:Array Edge}{x:Operand}{cb:Nat}(h0:a.eval x=.pointer (some ⟨cb,0,none⟩))
  (k:wpList prog ops Q rest (a.put dst (.agg #[.pointer (some ⟨cb,0,none⟩),.pointer none,.slice none 0 0])) w):wpList prog ops Q (⟨dst,.build 70 #[(0,x)],ty,pos,af,none⟩::rest) a w:=
 ik (ps:=[(0,x)]) (n:=3) [(0,[.pointer (some ⟨cb,0,none⟩)])] Nh rfl (by rfl) ahe ⟨by rw[h0];rfl,ahf,Nat.le_of_ble_eq_true rfl,trivial⟩ k
section
variable {T:List Nat}{w0 w:World}{m:List aG}{A B C:aG}
theorem tm3(h:Inv T w0 w (A::B::C::m)):Inv T w0 w (two A (two B C)::m):=
 h.turn (λhs y hy=>by
  rcases List.mem_cons.1 hy with rfl|hy
  ·exact⟨hs _ SI,hs _ SI,hs _ SI⟩
  ·exact hs _ (by simp[hy])) (by
  rw[List.perm_iff_count];intro x;simp only[owned,two,List.flatMap_cons,List.count_append];omega)
theorem aiO(h:Inv T w0 w (two A (two B C)::m)):Inv T w0 w (A::B::C::m):=
 h.turn (λhs y hy=>by
  have h1:=hs (two A (two B C)) SI;simp only[List.mem_cons]at hy;rcases hy with rfl|rfl|rfl|hy
  ·exact h1.1
  ·exact h1.2.1
  ·exact h1.2.2
  ·exact hs _ (by simp[hy])) (by
  rw[List.perm_iff_count];intro x;simp only[owned,two,List.flatMap_cons,List.count_append];omega)
theorem ahg{b e:Nat}{zs:List Int}(hI:Inv T w0 w m)(hm:ib b e zs∈m):Rd w (some ⟨b,0,none⟩) (iz zs):=λj u hj=>by
 have hb:w.heap[b]? =some (.cells (zs.map (Value.int .i64)).toArray e (0,0)):=hI.blk hm;refine⟨b,0,rfl,?_⟩;have hj2:(zs.map (Value.int .i64))[j]? =some u:=hj;simp only[World.cell?,hb,Nat.zero_add];simpa using hj2
end
theorem abF(w0:World)(b e:Nat)(m:List Int)(hk:Ov m)(hI:Inv (ib b e m).own w0 w0 [ib b e m])(key:Int){r:Int}(hr:C.xV m key 5=r):
  Calls prog 29 #[.pointer (some ⟨b,0,none⟩),.int .i64 key] w0 λen w'=>en=.returned (.int .i64 r)∧Inv (ib b e m).own w0 w' [ib b e m]:=by
 subst hr;rw[<-zn]at*;exact C.PW w0 b 0 e [] [] m hk rfl hI key
abbrev afe(m:List Int)(key:Nat):Int:=C.xV m (key:Int) 5
structure QOk (S:RS):Prop where
 len:dB S
 view:dU S.view
 bV:dU S.bV
theorem GM{n:Nat}{C:CS}(h:CI n C){i:Nat}(hi:i<5){S:RS}(hS:MF C i=some S):QOk S:=by
 unfold MF at hS;by_cases hu:pM C i=true
 ·rw[if_pos hu]at hS
  cases hS;have:=h.up i hi (yo hu);have hl:=this.len;exact⟨⟨hl.view,hl.own,hl.bV,hl.sl,hl.acc,hl.book,hl.told,hl.last,hl.aK⟩,this.view,this.bV⟩
 ·rw[if_neg hu]at hS
  obtain⟨a,_⟩:=(EE (Aj (C.S i).D) h.net).2 S hS;exact⟨a.len,a.view,a.bV⟩
theorem Yd{zs:List Int}(h:dU zs)(w:Int):dU (C.rowOf zs w):=by
 unfold C.rowOf;split
 ·exact h.sub _ _
 ·exact pY 174
theorem LP{S:RS}(h:QOk S){bk:List Int}(hb:Ov bk):∀j,j<=5->Ov (ou S bk j)
 |0,_=>hb
 |j+1,hj=>(LP h hb j OM).merge _ _ (j_ h.len.bV OM) (Yd h.bV _)
theorem LQ{n:Nat}{C:CS}(h:CI n C):Ov (nJ C):=by
 have:∀i,i<=5->Ov (lh C i):=by
  intro i
  induction i with
  |zero=>exact λ_=>Go.Proofs.YtdakkaapokhnnaaGreatDoor.C.Bk.start
  |succ i ih=>
   intro hi;rw[lh];cases hS:MF C i with
   |none=>exact ih OM
   |some S=>exact LP (GM h OM hS) (ih OM) 5 OM
 exact this 5 OM
theorem Qw{n:Nat}{C:CS}(h:CI n C):(qJ C).length=7∧dU (qJ C):=by
 have:∀i,i<=5->(ky C i).1.length=7∧dU (ky C i).1:=by
  intro i
  induction i with
  |zero=>exact λ_=>⟨rfl,GK⟩
  |succ i ih=>
   intro hi;rw[ky];cases hS:MF C i with
   |none=>exact ih OM
   |some S=>
    have hq:=GM h OM hS;unfold zo;dsimp only
    split
    ·exact⟨hq.len.view,hq.view⟩
    ·exact ih OM
 exact this 5 OM
def zB(C:CS):Nat->List UInt8
 |0=>[]
 |i+1=>zB C i++rG C i
def cntF(C:CS)(k:Nat):List UInt8:=lZ [99,111,117,110,116,101,114] ([(k:Int),afe (nJ C) k]++BG C k)
def EF(C:CS):Nat->List UInt8
 |0=>zB C 5
 |k+1=>EF C k++cntF C k
def EG(C:CS):List UInt8:=EF C 4
theorem wM(ws:List UInt8){zs:List Int}(h:dU zs):(lZ ws zs).length<=ws.length+22*zs.length+1:=by
 have:=tq zs h;rw[lZ,List.length_append,List.length_append,show([10]:List UInt8).length=1 from rfl];omega
theorem GN:∀(rs:List (List Int)),(∀r∈rs,dU r∧r.length=3)->(uM rs).length<=80*rs.length
 | [],_=>by simp[uM]
 |r::rs,h=>by
  have h1:=wM [114,101,112,108,121] (h r SI).1;have h2:=GN rs (λq hq=>h q (by simp[hq]));have h3:=(h r SI).2;unfold uM at h2|-;rw[List.flatMap_cons,List.length_append,List.length_cons];simp only[List.length_cons,List.length_nil]at h1;omega
theorem abG{n:Nat}{C:CS}(h:CI n C){i:Nat}(hi:i<5):∀r∈iO C i,dU r:=λr hr=>by
 refine mf.2 λx hx=>?_
 unfold iO at hr;rcases List.mem_append.1 hr with hr|hr
 ·exact(h.rep i hi).1 r hr x hx
 ·by_cases hu:C.up i=true
  ·rw[if_pos hu]at hr;exact((h.rep i hi).2 hu).r r hr x hx
  ·rw[if_neg hu]at hr;simp at hr
theorem GQ(cs os:List Int):∀i,dU (zt cs os i)
 |0=>pY 5
 |i+1=>by
  have ih:=GQ cs os i;have hg:∀j o,dU (qK cs i o (zt cs os i) j):=by
   intro j o
   induction j with
   |zero=>exact nI ih (mo _) _
   |succ j ihj=>exact nI ihj (mo _) _
  rw[zt];split
  ·exact ih
  ·exact hg _ _
section
variable {n:Nat}(w0:World)(X:CX)(Y:CY)(C:CS)(g:Nat)(og:Obj)(hC:CI n C)(hn:n<=1000000000)
variable (hI0:Inv (two (bg X Y C) (iw g og)).own w0 w0 [two (bg X Y C) (iw g og)])
include hI0 hC hn
theorem Ye:Calls prog 10 #[.pointer (some ⟨X.cb,0,none⟩)] w0 λe w'=>e=.returned (.string ⟨(EG C).toArray⟩)∧Inv (two (bg X Y C) (iw g og)).own w0 w' [two (bg X Y C) (iw g og)]:=by
 have hI:=hI0.dz;generalize hT:(two (bg X Y C) (iw g og)).own=T at hI|-;clear hI0 hT;have hM:∀i,i<5->∀S,MF C i=some S->dB S:=λi hi S hS=>(GM hC hi hS).len
 have hp:∀i,i<5->(C.past i).length<=1000000000∧(C.S i).aV.length<=1000000000:=λi hi=>by have:=hC.cnt i hi;omega
 have EP:∀i,i<5->Hid (∀r∈iO C i,dU r):=λi hi=>HD (abG hC hi)
 have h64:∀i,i<5->C.up i=true->Hid (dU (C.S i).view)∧Hid (dU (C.S i).own):=λi hi hu=>⟨HD (hC.up i hi hu).view,HD (hC.up i hi hu).iM⟩
 have hr3:∀i,i<5->∀r∈iO C i,r.length=3:=λi hi r hr=>by
  unfold iO at hr;rcases List.mem_append.1 hr with hr|hr
  ·exact wJ hi hI aA r hr
  ·by_cases hup:C.up i=true
   ·rw[if_pos hup]at hr;exact(uu hi hup hI aA).2.2.1 r hr
   ·rw[if_neg hup]at hr;simp at hr
 have hmn:∀i,i<5->1<=(rG C i).length:=λi hi=>by
  have h3:=Ak hi;unfold rG;rw[List.length_append]
  split<;>(simp only[lZ,List.length_append];omega)
 have zF:∀i,i<5->(rG C i).length<=200000000000:=λi hi=>by
  have h1:=GN (iO C i) (λr hr=>⟨(EP i hi).out r hr,hr3 i hi r hr⟩);have h2:(iO C i).length<=2000000000:=by
   have:=hp i hi;rw[iO,List.length_append];split
   ·omega
   ·simp only[List.length_nil];omega
  have h3:=Ak hi;unfold rG;rw[List.length_append]
  split
  ·rename_i hu
   have hq:=h64 i hi (yo hu);have h5:=Xy (gi (C.S i).view 1);have h4:=wM (vP i++[32,117,112]) (zs:=[gi (C.S i).view 0,gi (C.S i).own 0]++fq (gi (C.S i).view 1) 5) (mf.2 λx hx=>by
    rcases List.mem_append.1 hx with hx|hx
    ·simp only[List.mem_cons,List.not_mem_nil,or_false]at hx
     rcases hx with rfl|rfl
     ·exact hq.1.out 0
     ·exact hq.2.out 0
    ·have:=GI _ x hx
     unfold oN;omega)
   simp only[List.length_append,List.length_cons,List.length_nil]at h4|-;omega
  ·have h4:=wM (vP i++[32,100,111,119,110]) acz
   simp only[List.length_append,List.length_cons,List.length_nil]at h4|-;omega
 have hBk:=LQ hC;obtain⟨hvl,hv64⟩:=Qw hC;replace hv64:=HD hv64;go_enter func10,ntmps10;go_wp2_with(first|with_reducible refine aiN (cb:=X.cb) RF ?_|(with_reducible refine bN (cs:=[.pointer (some ⟨X.cb,0,none⟩),.pointer none,.slice none 0 0]) hI RF ?_);intro tb w hI);have hst:Inv T w0 w [bg X Y C,xn tb X.cb false none 0 [],iw g og]:=by
  have h2:=Inv.yn 5 1 hI;exact h2.turn (λhs y hy=>by
   simp only[List.mem_cons,List.not_mem_nil,or_false]at hy;rcases hy with rfl|rfl|rfl
   ·exact hs _ SI
   ·exact⟨hs (blk tb 70 [.pointer (some ⟨X.cb,0,none⟩),.pointer none,.slice none 0 0]) SI,hs (bf 5 1 (.slice none 0 0) 0 []) SI⟩
   ·exact hs _ SI) (by
   rw[List.perm_iff_count];intro x;simp only[owned,two,List.flatMap_cons,List.flatMap_nil,List.count_append,blk,bf,Value.ownBlock];simp;omega)
 clear hI
 go_loopg [4,11] 5 (λkk s4 s11 wr=>∃(i:Nat) (u:Bool) (a:Option Addr) (c:Nat) (bk:List UInt8),kk=5-i∧i<=5∧s11=.int .i64 (i:Int)∧Hid (zB C i=bk)∧(i<=bk.length∧bk.length<=i*200000000000)∧Inv T w0 wr [bg X Y C,xn tb X.cb u a c bk,iw g og])
 case atStart=>exact⟨0,false,none,0,[],rfl,by omega,rfl,HD rfl,⟨by simp,by simp⟩,hst⟩
 case round=>
  clear hst;obtain⟨i,u,a,c,bk,rfl,hi,rfl,hbk,hbl,hI⟩:=hrel;by_cases h5:i=5
  ·subst h5
   clear zF hr3 hmn hp EP h64;go_wp2_with(go_at_call 21;(with_reducible refine(BF _ X Y C hM (hI.at_ aA)).mono ?_);rintro e w1 ⟨bt,rfl,hJ⟩;replace hI:=hI.Ml hJ jy;clear hJ)
   go_loopg [6,20] 4 (λkk s6 s20 wr=>∃(k:Nat) (u:Bool) (a:Option Addr) (c:Nat) (bj:List UInt8),kk=4-k∧k<=4∧s20=.int .i64 (k:Int)∧Hid (EF C k=bj)∧(1<=bj.length∧bj.length<=1000000000000+k*1000)∧Inv T w0 wr [ib bt 96 (nJ C),bg X Y C,xn tb X.cb u a c bj,iw g og])
   case atStart=>exact⟨0,u,a,c,bk,rfl,by omega,rfl,hbk,⟨by omega,by omega⟩,hI⟩
   case round=>
    clear hI hbl hbk;obtain⟨k,u,a,c,bj,rfl,hk,rfl,hbj,hbl,hI⟩:=hrel;by_cases h4:k=4
    ·subst h4
     have hne:bj≠[]:=λe=>by rw[e]at hbl;simp at hbl
     go_wp2_with(go_at_call 30;refine KC pg hI (Wy _ tb X.cb u a c bj (hI.at_ aX) hne) ?_;intro w1 hI);go_ret;refine⟨by rw[EG,hbj.out];rfl,?_⟩;have h2:=hI.tl;exact h2.turn (λhs y hy=>by
      rw[List.mem_singleton.1 hy];exact⟨hs _ SI,hs _ SI⟩) (by simp[owned,two,ru])
    ·have hk4:k<4:=by omega
     have hd:decide ((k:Int) <4)=true:=by simp;omega
     obtain⟨vk,hvk⟩:=EH (afe (nJ C) k);obtain⟨sh,hsh⟩:=EH (BG C k);have ahh:sh.length=5:=by rw[<-hsh.out];exact Ew _ _ 5
     have oF:dU sh:=by rw[<-hsh.out];exact GQ _ _ 5
     have hvb:=Go.Proofs.YtdakkaapokhnnaaGreatDoor.C.wD hBk (k:Int) 5;have vL:Hid (dU ([(k:Int),vk]++sh)):=HD (mf.2 λx hx=>by
      rcases List.mem_append.1 hx with hx|hx
      ·simp only[List.mem_cons,List.not_mem_nil,or_false]at hx
       rcases hx with rfl|rfl
       ·unfold oN;omega
       ·rw[<-hvk.out];unfold oN afe;omega
      ·exact mf.1 oF x hx)
     have h7n:([(k:Int),vk]++sh).length=7:=by rw[List.length_append,ahh];rfl
     have hs1:0< (⟨#[99,111,117,110,116,101,114]⟩:ByteArray).size:=by decide
     have hs2:bj.length+(⟨#[99,111,117,110,116,101,114]⟩:ByteArray).size+22*7+1<=140737488355328:=by show bj.length+7+22*7+1<=_;omega
     have hb2:Hid (EF C (k+1)=bj++lZ (qQ ⟨#[99,111,117,110,116,101,114]⟩) ([(k:Int),vk]++sh)):=HD (by rw[EF,hbj.out,cntF,hvk.out,hsh.out];rfl);have hb3:1<=(bj++lZ (qQ ⟨#[99,111,117,110,116,101,114]⟩) ([(k:Int),vk]++sh)).length∧(bj++lZ (qQ ⟨#[99,111,117,110,116,101,114]⟩) ([(k:Int),vk]++sh)).length<=1000000000000+(k+1)*1000:=by
      have:=wM (qQ ⟨#[99,111,117,110,116,101,114]⟩) vL.out;rw[h7n,show(qQ ⟨#[99,111,117,110,116,101,114]⟩).length=7 from rfl]at this;rw[List.length_append];omega
     clear hvb oF;go_upto_region 12 with(first|(go_at_call 27;refine KC iR hI (Xv _ X Y C hM (hI.at_ aM) hBk hvl hv64 k hk4) ?_;intro w1 hI);rw[hsh.out]|refine YS ?_;intro w hI|refine YX ?_;intro bx w hI)
     (refine ZR [4,5,7,8] [0,1,6] [4,5,7] [0,1,2,3,6,4,5,7,8] (λw=>Inv T w0 w [bg X Y C,xn tb X.cb u a c bj,iw g og]) hI ?_;intro wd hI)
     (repeat(first|refine ZS ?_|refine ZQ ?_;go_wp2_with(first|go_at_call 28;replace hI:=tl5 (D:=bf 3 1 (.slice a4 7 c4) 7 (iz ([(k:Int),vk]++sh))) (hI.sub (.cons_cons _ (.cons _ (.refl _))));(with_reducible refine(Ik _ tb X.cb g og u a a4 c c4 bj ([(k:Int),vk]++sh) 7 h7n vL (hI.at_ aA) ⟨#[99,111,117,110,116,101,114]⟩ hs1 hs2).mono ?_);rintro e w1 ⟨a1,c1,rfl,hJ⟩;replace hI:=ag4 (hI.on hJ jy);clear hJ|go_at_call 29;refine KC iR hI (abF _ bt 96 (nJ C) hBk (hI.at_ aM) (k:Int) hvk.out) ?_;intro w1 hI|(with_reducible refine Ci hI (k:=?_));intro b2 w hI|(with_reducible refine az (q:=5) hI RF RF (tK.out (t:=74)) (by intro r';exact aR.here) (ahg (b:=bx) (e:=28) (zs:=sh) hI aM) (by rw[jo,ahh]) (by intro u hu;obtain⟨z,_,rfl⟩:=List.mem_map.1 hu;with_unfolding_all rfl) MX OM ?_;intro a4 c4 w hI));refine ZP ?_))
     go_wp2_with(fail);go_roundg (4- (k+1))
     case measure=>omega
     case rel=>exact⟨k+1,true,a1,c1,_,rfl,by omega,rfl,hb2,hb3,hI⟩
  ·have hi5:i<5:=by omega
   have hd:decide ((i:Int) <5)=true:=by simp;omega
   have hb2:Hid (zB C (i+1)=bk++rG C i):=HD (by rw[zB,hbk.out]);have hb3:i+1<=(bk++rG C i).length∧(bk++rG C i).length<=(i+1)*200000000000:=by have:=zF i hi5;have:=hmn i hi5;rw[List.length_append];omega
   clear zF hr3 hmn;go_wp2_with(go_at_call 26;replace hI:=tm3 hI;(with_reducible refine(S_ _ X Y C tb g og u a c bk (hI.at_ aA) i hi5 (hp i hi5).1 (hp i hi5).2 OM (EP i hi5) (h64 i hi5)).mono ?_);rintro e w1 ⟨a1,c1,rfl,hJ⟩;replace hI:=aiO (hI.on hJ jy);clear hJ);go_roundg (5- (i+1))
   case measure=>omega
   case rel=>exact⟨i+1,true,a1,c1,_,rfl,by omega,rfl,hb2,hb3,hI⟩
end
end
def su:List Int:=[0,0,0,0,5,0,0,0,0,0,0]
theorem lq:su.length=11:=rfl
def Yf:List UInt8:=[0,0,5,0,1]
theorem acB:Yf.map bv=[.int .u8 0,.int .u8 0,.int .u8 5,.int .u8 0,.int .u8 1]:=by kernel_rfl
theorem Yg(w:World)(x y:Int)(hx:x=0)(hy:y=0):Calls prog 53 #[.int .i64 x,.int .i64 y] w λe w'=>e=.returned (.int .u8 0)∧Below w.heap.size w w':=by
 subst hx hy;have hI:=Inv.start w;go_enter func53,ntmps53;go_wp2_with(fail);go_ret;refine⟨?_,hI.below⟩;show Ending.returned (Value.int IntKind.u8 _)=_;congr 2
 kernel_rfl
section
variable (w0:World)(g:Nat)(hI:Inv (bf 50 11 (.slice (some ⟨g,0,none⟩) 1 1) 1 (iz su)).own w0 w0 [bf 50 11 (.slice (some ⟨g,0,none⟩) 1 1) 1 (iz su)])
include hI
theorem Yh:Calls prog 25 #[.slice (some ⟨g,0,none⟩) 1 1] w0 λe w'=>∃a c,e=.returned (.slice a 5 c)∧Inv (bf 50 11 (.slice (some ⟨g,0,none⟩) 1 1) 1 (iz su)).own w0 w' [bf 5 1 (.slice a 5 c) 5 (Yf.map bv)]:=by
 generalize hT:(bf 50 11 (.slice (some ⟨g,0,none⟩) 1 1) 1 (iz su)).own=T at hI|-;clear hT;have h5:=lq;have e0:(gi su 0==4)=false:=rfl;go_enter func25,ntmps25;go_wp2_with(fail)
 go_loopg [3,8] 1 (λkk s3 s8 wr=>∃k:Nat,kk=1-k∧k<=1∧s8=.int .i64 (k:Int)∧((k=0∧s3=.slice none 0 0∧Inv T w0 wr [bf 50 11 (.slice (some ⟨g,0,none⟩) 1 1) 1 (iz su)])∨(k=1∧∃a c,s3=.slice a 5 c∧Inv T w0 wr [bf 5 1 (.slice a 5 c) 5 (Yf.map bv)])))
 case atStart=>exact⟨0,rfl,by omega,rfl,.inl ⟨rfl,rfl,hI⟩⟩
 case round=>
  clear hI;obtain⟨k,rfl,hk,rfl,⟨rfl,rfl,hI⟩ | ⟨rfl,a,c,rfl,hI⟩⟩:=hrel
  ·replace hI:=Inv.yn 5 1 hI
   go_upto_region 5 with(first|with_reducible refine fU (vs:=iz su) hI RF aM (bG.out (t:=50)) (by with_unfolding_all decide) RF ?_|(with_reducible refine Mq (vs:=su) hI RF RF jy lq (aa _) ?_);intro w hI|refine YX ?_;intro bx w hI)
   (refine ZR [5,10,14,15,16] [0,6,7,8,9,11,12,13] [5,10,14] [0,1,2,3,4,6,7,8,9,11,12,13,5,10,14,15,16] (λw=>Inv T w0 w [ib bx 50 su]) hI ?_;intro wd hI)
   (repeat(first|refine ZS ?_|refine ZQ ?_;go_wp2_with(first|(with_reducible refine az (n:=0) (q:=3) (xs:=[]) hI RF RF (tK.out (t:=63)) (by intro r';exact pg) (hI.rd aA) RF (by simp[Value.oneCell']) MX OM ?_);intro a1 c1 w hI;simp only[Nat.zero_add,List.nil_append]at hI;simp only[Nat.zero_add]|go_at_call 53;refine KD hI (Yg _ _ _ RF RF) ?_;intro w1 hI|(with_reducible refine afu hI (k:=?_));intro b3 w hI|refine YL ?_);refine ZP ?_))
   go_upto_region 8 with(refine YL ?_)
   all_goals go_wp2_with(first|refine YL ?_|(with_reducible refine az (n:=3) (q:=2) hI RF RF (tK.out (t:=63)) (by intro r';exact Ty) (hI.rd aA) RF (by simp[Value.oneCell']) MX OM ?_);intro a1 c1 w hI;simp only[List.cons_append,List.nil_append]at hI|(with_reducible refine Ci hI (k:=?_));intro b2 w hI)
   rw[show IntKind.u8.wrap (gi su 4)=5 by kernel_rfl,show gi su 8%256=0 by kernel_rfl,show wrap64 (gi su 9+1) %256=1 by kernel_rfl]at hI
   all_goals (go_roundg 0)
   case measure=>omega
   case rel=>exact⟨1,rfl,by omega,rfl,.inr ⟨rfl,a1,c1,rfl,by rw[acB];exact hI.sub (List.Sublist.cons _ (List.Sublist.cons _ (List.Sublist.cons _ (List.Sublist.cons_cons _ (List.Sublist.cons _ List.Sublist.slnil)))))⟩⟩
  ·go_wp2_with(fail)
   go_ret;exact⟨a,c,rfl,hI⟩
end
theorem ahi(zs:List Int):∀u∈iz zs,u.oneCell'=true:=λu hu=>by obtain⟨z,_,rfl⟩:=List.mem_map.1 hu;rfl
theorem Yi:(prog.info? 50).map (·.zero)=some (some (.agg (iz (aj 11)).toArray)):=by kernel_rfl
theorem acC:G7 prog 50:=⟨_,underlying50,by kernel_rfl⟩
theorem Qx:Ba prog 50 0 0 1:=⟨_,underlying50,by kernel_rfl⟩
theorem abH:Ba prog 50 1 1 1:=⟨_,underlying50,by kernel_rfl⟩
theorem abI:Ba prog 50 2 2 1:=⟨_,underlying50,by kernel_rfl⟩
theorem abJ:Ba prog 50 4 4 1:=⟨_,underlying50,by kernel_rfl⟩
section
variable {ops:Array Oper}{Q:Exit->Act->World->Prop}{a:Act}{rest:List Oper}{T:List Nat}{w0 w:World}{m:List aG}{dst:Option Tmp}{ty:TypeId}{pos:String}{af:Array Edge}
theorem aff{x0 x4:Operand}{v0 v4:Int}(h0:a.eval x0=.int .i64 v0:=by exact RF)(h4:a.eval x4=.int .i64 v4:=by exact RF)
  (k:wpList prog ops Q rest (a.put dst (ia [v0,0,0,0,v4,0,0,0,0,0,0])) w):wpList prog ops Q (⟨dst,.build 50 #[(0,x0),(4,x4)],ty,pos,af,none⟩::rest) a w:=
 ik (ps:=[(0,x0),(4,x4)]) (n:=11) (zc:=iz (aj 11)) [(0,[.int .i64 v0]),(4,[.int .i64 v4])] Yi rfl (by rfl) acC
  ⟨by rw[h0];rfl,Qx,Nat.le_of_ble_eq_true rfl,by rw[h4];rfl,abJ,Nat.le_of_ble_eq_true rfl,trivial⟩ k
theorem afg{x0 x1 x2:Operand}{v0 v1 v2:Int}(h0:a.eval x0=.int .i64 v0:=by exact RF)(h1:a.eval x1=.int .i64 v1:=by exact RF)(h2:a.eval x2=.int .i64 v2:=by exact RF)
  (k:wpList prog ops Q rest (a.put dst (ia [v0,v1,v2,0,0,0,0,0,0,0,0])) w):wpList prog ops Q (⟨dst,.build 50 #[(0,x0),(1,x1),(2,x2)],ty,pos,af,none⟩::rest) a w:=
 ik (ps:=[(0,x0),(1,x1),(2,x2)]) (n:=11) (zc:=iz (aj 11)) [(0,[.int .i64 v0]),(1,[.int .i64 v1]),(2,[.int .i64 v2])] Yi rfl (by rfl) acC
  ⟨by rw[h0];rfl,Qx,Nat.le_of_ble_eq_true rfl,by rw[h1];rfl,abH,Nat.le_of_ble_eq_true rfl,by rw[h2];rfl,abI,Nat.le_of_ble_eq_true rfl,trivial⟩ k
theorem ahj{x:Operand}{zs:List Int}(hI:Inv T w0 w m)(hx:a.eval x=ia zs)(hl:zs.length=11)
  (k:∀b w',Inv T w0 w' (bf 50 11 (.slice (some ⟨b,0,none⟩) 1 1) 1 (iz zs)::m)->wpList prog ops Q rest (a.put dst (.slice (some ⟨b,0,none⟩) 1 1)) w'):
  wpList prog ops Q (⟨dst,.buildSlice 22 1 #[(0,x)],ty,pos,af,none⟩::rest) a w:=
 gJ (cs:=iz zs) hI (tK.out (t:=22)) DC DC (by
  have h:=foldl_set (iz zs) 0 (iz (aj 11)) 0 (by rw[jo,jo,hl,aa];decide);have e:((Array.range (1*11)).map ((ia (aj 11)).cells[· % (ia (aj 11)).cells.size]!))=(iz (aj 11)).toArray:=by kernel_rfl
  rw[e];have e2:splice (iz (aj 11)) 0 (iz zs)=iz zs:=by
   simp[splice,jo,hl,aa]
  rw[Nat.add_zero,e2]at h;simp only[List.map_toArray,List.map_cons,List.map_nil,hx,Instr.fill,Nat.zero_mul];rw[show(ia zs).cells=(iz zs).toArray from rfl,if_neg (by simp[jo,hl,aa])];rw[<-List.foldl_toArray,<-Array.zipIdx_toArray]at h;exact congrArg some h) (by rw[jo,hl]) k
end
section
variable (w0:World)(a0:Option Addr)(c0:Nat)(hI:Inv (bf 5 1 (.slice a0 5 c0) 5 (Yf.map bv)).own w0 w0 [bf 5 1 (.slice a0 5 c0) 5 (Yf.map bv)])
include hI
theorem Yl:Calls prog 52 #[.slice a0 5 c0] w0 λe w'=>∃g c,e=.returned (.slice (some ⟨g,0,none⟩) 1 c)∧Inv (bf 5 1 (.slice a0 5 c0) 5 (Yf.map bv)).own w0 w' [bf 50 11 (.slice (some ⟨g,0,none⟩) 1 c) 1 (iz su)]:=by
 obtain⟨g,rfl⟩:∃g,a0=some ⟨g,0,none⟩:=by
  rcases(hI.sat _ aA).2 with⟨_,hz⟩ | ⟨g,cap,cur,hv,_⟩
  ·exact absurd hz DC
  ·cases hv;exact⟨g,rfl⟩
 have hc5:5<=c0:=by
  rcases(hI.sat _ aA).2 with⟨_,hz⟩ | ⟨g,cap,cur,hv,_,_,h,_⟩
  ·exact absurd hz DC
  ·cases hv;omega
 generalize hT:(bf 5 1 (.slice (some ⟨g,0,none⟩) 5 c0) 5 (Yf.map bv)).own=T at hI|-;clear hT;rw[acB]at hI;have h5:=lq;have e0:(gi su 0==4)=false:=rfl;have e1:(gi su 0==10)=false:=rfl;go_enter func52,ntmps52;go_wp2_with(fail)
 go_loopg [0,3] 1 (λkk s0 s3 wr=>∃k:Nat,kk=1-k∧k<=1∧((k=0∧s0=.slice (some ⟨g,0,none⟩) 5 c0∧s3=.slice none 0 0∧Inv T w0 wr [bf 5 1 (.slice (some ⟨g,0,none⟩) 5 c0) 5 [.int .u8 0,.int .u8 0,.int .u8 5,.int .u8 0,.int .u8 1]])∨(k=1∧∃a c b d,s0=.slice a 0 c∧s3=.slice (some ⟨b,0,none⟩) 1 d∧Inv T w0 wr [bf 50 11 (.slice (some ⟨b,0,none⟩) 1 d) 1 (iz su)])))
 case atStart=>exact⟨0,rfl,by omega,.inl ⟨rfl,rfl,rfl,hI⟩⟩
 case round=>
  clear hI;obtain⟨k,rfl,hk,⟨rfl,rfl,rfl,hI⟩ | ⟨rfl,a,c,b,d,rfl,rfl,hI⟩⟩:=hrel
  ·replace hI:=Inv.yn 50 11 hI
   go_upto_region 4 with(fail)
   (refine ZR [25,26] [0,1,2,3,4,5,6,7,8,9,10,11,12,13,14,15,16,17,18,19,20,21,22,23,24] [25] [0,1,2,3,4,5,6,7,8,9,10,11,12,13,14,15,16,17,18,19,20,21,22,23,24,25,26] (λw=>Inv T w0 w [bf 5 1 (.slice (some ⟨g,0,none⟩) 5 c0) 5 [.int .u8 0,.int .u8 0,.int .u8 5,.int .u8 0,.int .u8 1]]) hI ?_;intro wd hI)
   (repeat(first| (refine ZA ?_;go_wp2_with((with_reducible refine Mq (vs:=su) hI RF (by with_unfolding_all kernel_rfl) jy lq (aa _) ?_);intro w hI);refine ji ?_) | (refine ZB ?_;go_wp2_with(refine YX ?_;intro bx w hI);(refine jN (hI.sub SB) ?_)) | ((refine jB RF RF RF RF (hI.sub SB) (by intro w (hI:Inv _ _ w _);first|with_reducible exact yE hI RF aA (aO.out (t:=5)) RF| (unfold fP;go_simp;with_reducible rfl)) ?_);(simp only[QN]))));refine fC ?_
   go_upto_region 6 with(refine YL ?_)
   go_wp2_with(first|with_reducible refine YI (zs:=su) hI (hl:=lq) (k:=?_)|(with_reducible refine ahj hI (zs:=su) RF lq ?_);intro b1 w hI|(with_reducible refine az (n:=0) (q:=1) (xs:=[]) (news:=iz su) hI RF RF (tK.out (t:=22)) (by intro r';exact pg) (hI.rd aA) RF (ahi su) MX OM ?_);intro a1 c1 w hI;simp only[Nat.zero_add,List.nil_append]at hI;simp only[Nat.zero_add])
   all_goals
    obtain⟨b,rfl⟩:∃b,a1=some ⟨b,0,none⟩:=by
     rcases(hI.sat _ aX).2 with⟨_,hz⟩ | ⟨b,cap,cur,hv,_⟩
     ·exact absurd hz DC
     ·cases hv;exact⟨b,rfl⟩
    go_roundg 0
    case measure=>omega
    case rel=>exact⟨1,rfl,by omega,.inr ⟨rfl,_,_,_,_,rfl,rfl,hI.sub (List.Sublist.cons _ (List.Sublist.cons _ (List.Sublist.cons_cons _ (List.Sublist.cons _ List.Sublist.slnil))))⟩⟩
  ·go_wp2_with(fail)
   go_ret;exact⟨b,d,rfl,hI⟩
end
theorem afh:Yz C0:=IX.ok OM
theorem afi(i:Nat):-9223372036854775808<=gi su i∧gi su i<=9223372036854775807:=by
 rcases Nat.lt_or_ge i 11 with h|h
 ·match i,h with
  |0,_|1,_|2,_|3,_|4,_|5,_|6,_|7,_|8,_|9,_|10,_=>decide
 ·have:gi su i=0:=by
   unfold gi;rw[List.getD_eq_getElem?_getD,List.getElem?_eq_none (by rw[lq];exact h)];rfl
  omega
theorem afj(w0:World)(X:CX)(Y:CY)(C:CS)(z:List Int)(D:CS)(hz:z.length=11)(h64:∀i,-9223372036854775808<=gi z i∧gi z i<=9223372036854775807)(hC:Yz C)(hD:D=(oD C z).1)(hI:Inv (bg X Y C).own w0 w0 [bg X Y C]):
  Calls prog 19 #[.pointer (some ⟨X.cb,0,none⟩),ia z] w0 λe w'=>∃Y' v,e=.returned (.int .i64 v)∧Inv (bg X Y C).own w0 w' [bg X Y' D]:=by
 refine(aiM w0 X Y C z hz h64 hC hI).mono λe w'=>?_
 rintro⟨Y',rfl,hJ⟩;exact⟨Y',_,rfl,hD▸hJ⟩
section
variable (w0:World)(X:CX)(Y:CY)(C:CS)(g c:Nat)(hC:Yz C)(hI0:Inv (two (bg X Y C) (bf 50 11 (.slice (some ⟨g,0,none⟩) 1 c) 1 (iz su))).own w0 w0 [two (bg X Y C) (bf 50 11 (.slice (some ⟨g,0,none⟩) 1 c) 1 (iz su))])
include hC hI0
theorem afk:Calls prog 51 #[.pointer (some ⟨X.cb,0,none⟩),.slice (some ⟨g,0,none⟩) 1 c] w0 λe w'=>∃Y' u,e=.returned (.int .i64 u)∧Inv (two (bg X Y C) (bf 50 11 (.slice (some ⟨g,0,none⟩) 1 c) 1 (iz su))).own w0 w' [bg X Y' (oD C su).1]:=by
 have hI:=hI0.dz;generalize hT:(two (bg X Y C) (bf 50 11 (.slice (some ⟨g,0,none⟩) 1 c) 1 (iz su))).own=T at hI|-;clear hI0 hT;obtain⟨D,hD⟩:∃D,Hid (D=(oD C su).1):=⟨_,HD rfl⟩;rw[<-hD.out];have h5:=lq;go_enter func51,ntmps51;go_wp2_with(fail)
 go_loopg [5,10] 1 (λkk s5 s10 wr=>∃k:Nat,kk=1-k∧k<=1∧s10=.int .i64 (k:Int)∧∃u:Int,s5=.int .i64 u∧((k=0∧Inv T w0 wr [bg X Y C,bf 50 11 (.slice (some ⟨g,0,none⟩) 1 c) 1 (iz su)])∨(k=1∧∃Y',Inv T w0 wr [bg X Y' D])))
 case atStart=>exact⟨0,rfl,by omega,rfl,_,rfl,.inl ⟨rfl,hI⟩⟩
 case round=>
  clear hI;obtain⟨k,rfl,hk,rfl,u,rfl,⟨rfl,hI⟩ | ⟨rfl,Y',hI⟩⟩:=hrel
  ·go_wp2_with(first|with_reducible refine fU (vs:=iz su) hI RF aM (bG.out (t:=50)) (by with_unfolding_all decide) RF ?_|(with_reducible refine Mq (vs:=su) hI RF RF jy lq (aa _) ?_);intro w hI|with_reducible refine YI (zs:=su) hI (hl:=lq) (k:=?_)|go_at_call 19;refine KH hI (afj _ X Y C su D lq afi hC hD.out (hI.at_ aM)) ?_;intro Y' v w1 hI|refine YX ?_;intro bx w hI)
   all_goals
    go_roundg 0
    case measure=>omega
    case rel=>exact⟨1,rfl,by omega,rfl,_,rfl,.inr ⟨rfl,Y',hI.sub (List.Sublist.cons _ (List.Sublist.cons_cons _ (List.Sublist.cons _ List.Sublist.slnil)))⟩⟩
  ·go_wp2_with(fail)
   go_ret;exact⟨Y',_,rfl,hI⟩
end
section
variable (w0:World)(a0:Option Addr)(c0:Nat)(g:Nat)(og:Obj)(hI0:Inv (two (bf 5 1 (.slice a0 5 c0) 5 (Yf.map bv)) (iw g og)).own w0 w0 [two (bf 5 1 (.slice a0 5 c0) 5 (Yf.map bv)) (iw g og)])
include hI0
theorem afl:Calls prog 24 #[.slice a0 5 c0] w0 λe w'=>e=.returned (.string ⟨(EG (oD C0 su).1).toArray⟩)∧Inv (two (bf 5 1 (.slice a0 5 c0) 5 (Yf.map bv)) (iw g og)).own w0 w' [iw g og]:=by
 have hI:=hI0.dz;generalize hT:(two (bf 5 1 (.slice a0 5 c0) 5 (Yf.map bv)) (iw g og)).own=T at hI|-;clear hI0 hT;obtain⟨D,hD⟩:∃D,Hid (D=(oD C0 su).1):=⟨_,HD rfl⟩;have hDC:Hid (CI 1 D):=HD (hD.out▸acA IX lq);rw[<-hD.out];go_enter func24,ntmps24;go_wp2_with(first|go_at_call 18;(with_reducible refine(acw _).mono ?_);rintro e w1 ⟨X,Y,rfl,hJ⟩;replace hI:=hI.seq hJ;clear hJ;simp only[List.cons_append,List.nil_append]at hI|go_at_call 52;(with_reducible refine(Yl _ a0 c0 (hI.at_ aM)).mono ?_);rintro e w1 ⟨ga,ca,rfl,hJ⟩;replace hI:=(hI.on hJ iR).dO;clear hJ|go_at_call 51;(with_reducible refine(afk _ X Y C0 ga ca afh (hI.at_ aA)).mono ?_);rintro e w1 ⟨Y',u,rfl,hJ⟩;(rw[<-hD.out]at hJ);replace hI:=(hI.on hJ jy).dO;clear hJ|go_at_call 10;(with_reducible refine(Ye _ X Y' D g og hDC.out OM (hI.at_ aA)).mono ?_);rintro e w1 ⟨rfl,hJ⟩;replace hI:=(hI.on hJ jy).dz;clear hJ);go_ret;exact⟨rfl,hI.tl⟩
end
theorem OW:(EG (oD C0 su).1).take 24=[109,97,99,104,105,110,101,32,48,32,117,112,32,49,32,49,32,48,32,49,32,50,10,109]:=by kernel_rfl
theorem Tu:40< (EG (oD C0 su).1).length:=Nat.le_of_ble_eq_true KF
theorem Ym{w0:World}{g:Nat}{og:Obj}(hg:w0.heap[g]? =some og)(hT:Ky g og):Inv [g] w0 w0 [iw g og]:=
 ⟨rfl,rfl,rfl,Nat.le_refl _,λ_ _ _=>rfl,λr hr=>by obtain rfl:=List.mem_singleton.1 hr;exact⟨hg,hT⟩,λk hk=>by
  have hk:k=g:=by simpa[owned,iw]using hk
  subst hk;exact⟨.inr SI,(Array.getElem?_eq_some_iff.1 hg).1⟩,by simp[owned,iw]⟩
theorem Bu{w0 w:World}{g:Nat}{og:Obj}{m:List aG}(hg:w0.heap[g]? =some og)(hI:Inv [g] w0 w m)(hm:iw g og∈m):Below w0.heap.size w0 w:=
 ⟨hI.os,hI.tape,hI.output,hI.size,λk hk=>by
  by_cases h:k=g
  ·subst h;exact(hI.sat _ hm).1.trans hg.symm
  ·exact hI.old k hk (by simpa using h)⟩
section
variable (w0:World)(g:Nat)(og:Obj)(hI:Inv (iw g og).own w0 w0 [iw g og])
include hI
theorem BK:Calls prog 8 #[] w0 λe w'=>e=.returned (.bool true)∧Inv (iw g og).own w0 w' [iw g og]:=by
 generalize hT:(iw g og).own=T at hI|-;clear hT;obtain⟨l,hl⟩:∃l,Hid (l=EG (oD C0 su).1):=⟨_,HD rfl⟩;have h1:40<l.length:=hl.out▸Tu;have h2:=hl.out▸OW;go_enter func8,ntmps8;go_wp2_with(first|with_reducible refine aff (k:=?_)|(with_reducible refine ahj hI (zs:=su) RF lq ?_);intro b1 w hI|go_at_call 25;(with_reducible refine(Yh _ b1 (hI.at_ aA)).mono ?_);rintro e w1 ⟨ae,ce,rfl,hJ⟩;replace hI:=(hI.on hJ jy).dO;clear hJ|go_at_call 24;refine KC jy hI (afl _ ae ce g og (hI.at_ aA)) ?_;intro w1 hI;(rw[<-hl.out])|refine YL ?_);have h3:(({data:=l.toArray}:ByteArray).extract 0 24).toList=[109,97,99,104,105,110,101,32,48,32,117,112,32,49,32,49,32,48,32,49,32,50,10,109]:=by
  rw[Lib.toList_data,Lib.extract_eq];simpa using h2
 rw[h3];go_ret;exact⟨rfl,hI⟩
end
theorem wR.below{w w0:World}{a:Option Addr}{len k:Nat}{row:Nat->List Int}(h:wR w0 a len k row)(hb:Below w0.heap.size w0 w):wR w a len k row:=
 ⟨h.reach,λi hi=>⟨(h.row i hi).1,(h.row i hi).2.1,by
  obtain⟨b,off,h1,h2⟩:=(h.row i hi).2.2;exact⟨b,off,h1,λj hj=>(hb.cell (World.block_lt_of_cell? _ _ (h2 j hj))).trans (h2 j hj)⟩⟩⟩
def nO(len:Nat)(row:Nat->List Int):List (List Int):=(List.range len).map row
theorem GR(len:Nat)(row:Nat->List Int):(nO len row).length=len:=by simp[nO]
theorem OX(len:Nat)(row:Nat->List Int):nO (len+1) row=nO len row++[row len]:=by simp[nO,List.range_succ]
theorem Tv(C:CS)(l:List (List Int))(z:List Int):yt C (l++[z])=(oD (yt C l) z).1:=by simp[yt]
section
variable (w0:World)(a:Option Addr)(len c:Nat)
theorem BL:Calls prog 9 #[.slice a len c] w0 λe w'=>e=.returned (.bool (decide ((len:Int)<=1200)))∧Below w0.heap.size w0 w':=by
 have hI:=Inv.start w0;go_enter func9,ntmps9;exact acQ
variable (row:Nat->List Int)(h:wR w0 a len 11 row)(hlen:len<=1200)
include h hlen
theorem Yn:Calls prog 11 #[.slice a len c] w0 λe w'=>∃X Y,e=.returned (.pointer (some ⟨X.cb,0,none⟩))∧Inv [] w0 w' [bg X Y (yt C0 (nO len row))]:=by
 have hI:=Inv.start w0;have l0:=h.reach;go_enter func11,ntmps11;go_wp2_with(go_at_call 18;(with_reducible refine(acw _).mono ?_);rintro e w1 ⟨X,Y,rfl,hJ⟩;replace hI:=hI.seq hJ;clear hJ;simp only[List.append_nil]at hI)
 go_loopg [9] len (λkk s9 wr=>∃(k:Nat) (Y:CY),kk=len-k∧k<=len∧s9=.int .i64 (k:Int)∧Inv [] w0 wr [bg X Y (yt C0 (nO k row))])
 case atStart=>exact⟨0,Y,rfl,by omega,rfl,hI⟩
 case round=>
  clear hI;obtain⟨k,Y,rfl,hk,rfl,hI⟩:=hrel;by_cases hlk:k<len
  ·obtain⟨hdl,aiP,bq,off,rfl,hcell⟩:=h.row k hlk
   have aiQ:((row k).map (Value.int .i64)).length=11:=by simpa using hdl
   have hagg:fw prog 50 ((row k).map (Value.int .i64)).length:=by rw[aiQ];exact bG.out (t:=50)
   have hci:Hid (CI k (yt C0 (nO k row))):=HD (by
    have:=OV (nO k row) (C:=C0) (n:=0) (λz hz=>by
     obtain⟨j,hj,rfl⟩:=List.mem_map.1 hz;exact(h.row j (by have:=List.mem_range.1 hj;omega)).1) IX
    rw[GR]at this;simpa using this)
   have hCk:Yz (yt C0 (nO k row)):=hci.out.ok OM;have hnx:Hid (yt C0 (nO (k+1) row)=(oD (yt C0 (nO k row)) (row k)).1):=HD (by rw[OX,Tv]);clear h;generalize yt C0 (nO k row)=C at*;generalize row k=d at*;obtain⟨D,hD⟩:∃D,Hid (D=(oD C d).1):=⟨_,HD rfl⟩;have hnx2:Hid (yt C0 (nO (k+1) row)=D):=HD (hnx.out.trans hD.out.symm);clear hnx;go_wp2_with(first|with_reducible refine uE hI RF hcell SI (by with_unfolding_all exact hagg) ?_|(with_reducible refine Mq (vs:=d) hI RF RF jy hdl (aa _) ?_);intro w hI|with_reducible refine YI (zs:=d) hI (hl:=hdl) (k:=?_)|go_at_call 19;refine KH hI (afj _ X Y C d D hdl aiP hCk hD.out (hI.at_ aM)) ?_;intro Y' v w1 hI|refine YX ?_;intro bx w hI);go_roundg (len- (k+1))
   case measure=>omega
   case rel=>exact⟨k+1,Y',rfl,by omega,rfl,by rw[hnx2.out];exact hI.tl⟩
  ·obtain rfl:k=len:=by omega
   go_wp2_with(fail);go_ret;exact⟨X,Y,rfl,hI⟩
end
theorem Qy{w0:World}{a:Option Addr}{len:Nat}{row:Nat->List Int}(h:wR w0 a len 11 row):CI len (yt C0 (nO len row)):=by
 have:=OV (nO len row) (C:=C0) (n:=0) (λz hz=>by
  obtain⟨j,hj,rfl⟩:=List.mem_map.1 hz;exact(h.row j (by have:=List.mem_range.1 hj;omega)).1) IX
 rw[GR]at this;simpa using this
section
variable (w0:World)(a:Option Addr)(len c:Nat)(row:Nat->List Int)(h:wR w0 a len 11 row)(g:Nat)(og:Obj)(hg:w0.heap[g]? =some og)(hT:Ky g og)
include h hg hT
theorem OY:Calls prog 3 #[.slice a len c] w0 λe w'=>e=.returned (.bool true)∧Below w0.heap.size w0 w':=by
 have hI:=Ym hg hT;by_cases hlen:len<=1200
 ·obtain⟨C,hC⟩:∃C,Hid (C=yt C0 (nO len row)):=⟨_,HD rfl⟩
  have LU:Hid (CI len C):=HD (hC.out▸Qy h);obtain⟨l,hl⟩:∃l,Hid (l=EG C):=⟨_,HD rfl⟩;have hd:decide ((len:Int)<=1200)=true:=by simp;omega
  go_enter func3,ntmps3;go_wp2_with(first|go_at_call 8;refine KC jy hI (BK _ g og (hI.at_ aA)) ?_;intro w1 hI|go_at_call 9;refine KD hI (BL _ a len c) ?_;intro w1 hI|go_at_call 11;(with_reducible refine(Yn _ a len c row (h.below (Bu hg hI aA)) hlen).mono ?_);rintro e w1 ⟨X,Y,rfl,hJ⟩;(rw[<-hC.out]at hJ);replace hI:=(hI.seq hJ).dO;clear hJ|go_at_call 10;(with_reducible refine(Ye _ X Y C g og LU.out OM (hI.at_ aA)).mono ?_);rintro e w1 ⟨rfl,hJ⟩;replace hI:=((hI.on hJ jy).dz).sub (.cons _ (.refl _));clear hJ;(rw[<-hl.out]))
  trace_state
  exact acT
 ·have hd:decide ((len:Int)<=1200)=false:=by simp;omega
  go_enter func3,ntmps3;go_wp2_with(first|go_at_call 8;refine KC jy hI (BK _ g og (hI.at_ aA)) ?_;intro w1 hI|go_at_call 9;refine KD hI (BL _ a len c) ?_;intro w1 hI);exact acT
end
section
open Go.ChangeShapes Go.WideShapes Go.ChangeAt Go.RowKit
def acD:List (String×DataW Unit):=[("math/bits.deBruijn32tab",Rows.laid_math_bits_deBruijn32tab),("math/bits.deBruijn64tab",Rows.laid_math_bits_deBruijn64tab),("internal/strconv.uint64pow10",Rows.laid_internal_strconv_uint64pow10)]
theorem aiR:prog.globalNamed "internal/strconv.uint64pow10" =some 0:=by kernel_rfl
theorem aiS:(prog.globals[0]?).map (·.type)=some 262:=by kernel_rfl
theorem aiT:prog.cellsOf 262=20:=by kernel_rfl
theorem cEl:prog.cellsOf 239=1:=by kernel_rfl
theorem LV{W:World}(h:laidMetH prog acD W):Lib.TabIs prog W "internal/strconv.uint64pow10" .u64 Lib.pow10Tab:=by
 rw[MakeChecks.laidMetH_plain _ _ _ KF]at h;obtain⟨ps,⟨_,_,_,_,_,_,_,_,_,_,⟨_,_,_,_,_,_,_,_,_,_,⟨g,t,cs,f,p,q,hg,ht,hv,hd,_,_⟩,_⟩,_⟩,_,_⟩:=h;obtain rfl:=Option.some.inj (aiR.symm.trans hg);obtain rfl:=Option.some.inj (aiS.symm.trans ht);unfold Lib.TabIs;rw[hv,<-Lib.cells_of_tab (k:=.u64) (zs:=Lib.pow10Tab) underlying262 underlying239 cEl aiT hd]
theorem LW(os:Os)(args:Array Value):laidMetH prog acD ((World.doorLaid prog 400 os).forCall (λ_ _=>0) ⟨#[],args,[]⟩).memory:=
 laidMetH_of_parts3 (fuel:=8) (laidMet_of_run' 8 KF KF) KF KF
theorem EI:L9 prog 3 1:=L9.int KF KF
theorem ahk:L9 prog 48 3:=L9.struct (l:=[(3,0),(3,1),(3,2)]) KF KF KF (.cons EI (.cons EI (.cons EI .nil)))
theorem ahl:L9 prog 50 11:=L9.struct (l:=[(3,0),(3,1),(3,2),(3,3),(3,4),(48,5),(3,8),(3,9),(3,10)]) KF KF KF (.cons EI (.cons EI (.cons EI (.cons EI (.cons EI (.cons ahk (.cons EI (.cons EI (.cons EI .nil)))))))))
theorem ahm:CR prog 22 [Mg (List.replicate 11 Mf)]:=CR.slice (by_:=88) underlying22 ahl KF DC KF DC
end
