/- Contracts of functions. No condition. -/
import Derived.Test.YtdakkaapokhnnaaGreatDoorZ15
namespace Go.Proofs.YtdakkaapokhnnaaGreatDoor
open Go.RowKit Go.Proofs.Tryz
set_option maxRecDepth 100000
set_option maxHeartbeats 6400000
set_option linter.all false
section
variable (w0:World)(f b l vb rc:Nat)(ra:Option Addr)(S:RS)(Z:aG)
def uK(z:List Int)(S':RS):Prop:=Calls prog 66 #[.pointer (some ⟨b,0,none⟩),ia z] w0 λe w'=>e=.returned (.tuple #[])∧Inv (two (rb f b l vb ra rc S) Z).own w0 w' [two (rb f b l vb ra rc S') Z]
variable (hI:Inv (two (rb f b l vb ra rc S) Z).own w0 w0 [two (rb f b l vb ra rc S) Z])
include hI
theorem agA(z r:List Int)(hz:z.length=189)(h0:gi z 0=0)(hs:sub z 2 174=r)(hr:r.length=174):uK w0 f b l vb rc ra S Z z {S with own:=r,busy:=true,kept:=0}:=by
 unfold uK;go_enter func66,ntmps66;go_wp2_with(first|refine YL ?_|refine YX ?_;intro bx w hI|refine YS ?_;intro w hI);exact⟨rfl,_,gD KF _ _,rfl,hI.tl⟩
theorem agB(z r:List Int)(i:Nat)(hz:z.length=189)(h0:gi z 0=1)(h1:gi z 1=(i:Int))(hs:sub z 2 174=r)(hr:r.length=174):uK w0 f b l vb rc ra S Z z {S with bV:=C.jZ S.bV S.sl (i:Int) r}:=by
 unfold uK;go_enter func66,ntmps66;go_upto_region 5 with(first|refine YL ?_|refine YX ?_;intro bx w hI)
 refine ZT [7] 8 hI ?_;intro wd hI
 (repeat(refine ZQ ?_;go_wp2_with(first|go_at_call 102;refine KE (PY hI (i:Int) r hr iR) ?_;intro w1 hI|refine YL ?_);refine ZP ?_))
 go_wp2_with(fail);exact⟨rfl,_,gD KF _ _,rfl,hI.tl⟩
theorem agC(z:List Int)(i:Nat)(hz:z.length=189)(h0:gi z 0=2)(h1:gi z 1=(i:Int)):uK w0 f b l vb rc ra S Z z {S with sl:=C.mI S.sl (i:Int)}:=by
 unfold uK;go_enter func66,ntmps66;go_upto_region 7 with(first|refine YL ?_|refine YX ?_;intro bx w hI)
 refine ZT [5] 6 hI ?_;intro wd hI
 (repeat(refine ZQ ?_;go_wp2_with(first|go_at_call 103;refine KE (PX hI (i:Int) iR) ?_;intro w1 hI|refine YL ?_);refine ZP ?_))
 go_wp2_with(fail);exact⟨rfl,_,gD KF _ _,rfl,hI.tl⟩
theorem agD(z bl:List Int)(hz:z.length=189)(h0:gi z 0=3)(hs:sub z 177 2=bl)(hb0:gi z 177=gi bl 0)(hbl:bl.length=2):uK w0 f b l vb rc ra S Z z {S with acc:=dF S.acc 1 bl,round:=max S.round (gi bl 0)}:=by
 unfold uK;by_cases hmx:S.round<gi bl 0
 ·have hF:Hid (max S.round (gi bl 0)=gi bl 0):=HD OM
  exact W42
 ·have hF:Hid (max S.round (gi bl 0)=S.round):=HD OM
  exact W42
theorem agE(z bl c:List Int)(hz:z.length=189)(h0:gi z 0=4)(hs:sub z 177 2=bl)(hsc:sub z 179 3=c)(hb0:gi z 177=gi bl 0)(hbl:bl.length=2)(hc:c.length=3):uK w0 f b l vb rc ra S Z z {S with acc:=dF (dF (dF S.acc 1 bl) 3 bl) 5 c,round:=max S.round (gi bl 0)}:=by
 unfold uK;have hal:=(aQ hI aA).acc;by_cases hmx:S.round<gi bl 0
 ·have hF:Hid (max S.round (gi bl 0)=gi bl 0):=HD OM
  exact W23
 ·have hF:Hid (max S.round (gi bl 0)=S.round):=HD OM
  exact W23
theorem agF(z v:List Int)(hz:z.length=189)(h0:gi z 0=5)(hs:sub z 182 7=v)(hv:v.length=7):uK w0 f b l vb rc ra S Z z (rV S v):=by
 unfold uK;go_enter func66,ntmps66;go_wp2_with(first|refine YL ?_|refine YX ?_;intro bx w hI|go_at_call 64;refine KC iR hI (Ie _ f b l _ _ _ _ _ v hv (hI.at_ aM)) ?_;intro w1 hI);exact⟨rfl,_,gD KF _ _,rfl,hI.tl⟩
end
section
open B (fH)
theorem D6{z r:List Int}{o n:Nat}(h:sub z o n=r)(hn:0<n):gi z o=gi r 0:=by
 subst h;simp[sub,gi,hn]
def Sc(D:DS)(cnt used:Nat)(B:Nat->List (List UInt8)):RS:=
 ⟨aj 7,aj 174,aj 870,List.replicate 5 false,aj 8,0,none,aj 870,false,0,0,0,[],aj 5,aj 870,D,cnt,used,B⟩
def si(D:DS)(cnt used:Nat)(B:Nat->List (List UInt8)):RS:=rV (Sc D cnt used B) fH
def fM(S:RS):List (List UInt8)->Option RS
 | []=>some S
 |b::l=>(Kq b).bind λx=>fM (qC S x) l
def jq(D:DS)(B:Nat->List (List UInt8)):Option RS×DS×Int:=match dZ D with
 | (none,D',e)=>(none,D',e)
 | (some (bs,cnt,used),D',_)=>match fM (si D' cnt used B) bs with
  |none=>(none,D',1)
  |some S=>(some S,D',0)
theorem Ws(D:DS)(cnt used:Nat)(B:Nat->List (List UInt8)):dB (Sc D cnt used B):=
 ⟨aa 7,aa 174,aa 870,by simp[Sc],aa 8,aa 870,aa 5,aa 870,λp hp=>by cases hp⟩
def aaG:List Value:=.int .i64 0::.pointer none::(iz (aj 7)++(iz (aj 174)++(iz (aj 870)++((List.replicate 5 false).map Value.bool++(iz (aj 8)++([.int .i64 0]++([.pointer none]++(iz (aj 870)++([.bool false]++([.int .i64 0]++([.int .i64 0]++([.int .i64 0]++([.slice none 0 0]++(iz (aj 5)++(iz (aj 870))))))))))))))))
theorem aem:(prog.info? 98).map (·.zero)=some (some (.agg aaG.toArray)):=by kernel_rfl
theorem agG:G7 prog 98:=⟨_,underlying98,by kernel_rfl⟩
theorem aen:Ba prog 98 0 0 1:=⟨_,underlying98,by kernel_rfl⟩
theorem aeo:Ba prog 98 1 1 1:=⟨_,underlying98,by kernel_rfl⟩
theorem Wt:aaG.length=2818:=by
 simp only[aaG,List.length_cons,List.length_append,jo,aa,List.length_map,List.length_replicate,List.length_nil]
theorem Sd(f l:Nat)(D:DS)(cnt used:Nat)(B:Nat->List (List UInt8)):Cc aaG [(0,[.int .i64 (f:Int)]),(1,[.pointer (some ⟨l,0,none⟩)])]=aU f l 0 none 0 (Sc D cnt used B):=rfl
section
variable {P:Program}{ops:Array Oper}{Q:Exit->Act->World->Prop}{a:Act}{rest:List Oper}{T:List Nat}{w0 w:World}{m m':List aG}{dst:Option Tmp}{ty:TypeId}{pos:String}{af:Array Edge}
theorem agH{x y:Operand}{f l:Nat}(D:DS)(cnt used:Nat)(B:Nat->List (List UInt8))(h0:a.eval x=.int .i64 (f:Int))(h1:a.eval y=.pointer (some ⟨l,0,none⟩))(k:wpList prog ops Q rest (a.put dst (.agg (aU f l 0 none 0 (Sc D cnt used B)).toArray)) w):wpList prog ops Q (⟨dst,.build 98 #[(0,x),(1,y)],ty,pos,af,none⟩::rest) a w:=by
 rw[<-Sd f l D cnt used B]at k;exact ik (ps:=[(0,x),(1,y)]) (n:=2818) [(0,[.int .i64 (f:Int)]),(1,[.pointer (some ⟨l,0,none⟩)])] aem rfl Wt agG ⟨by rw[h0];rfl,aen,Nat.le_of_ble_eq_true rfl,by rw[h1];rfl,aeo,Nat.le_of_ble_eq_true rfl,trivial⟩ k
theorem aep{b f l:Nat}{S:RS}(h:Inv T w0 w (blk b 98 (aU f l 0 none 0 S)::m))(hL:dB S)(hV:S.aK=none):Inv T w0 w (two (rb f b l 0 none 0 S) (lI True)::m):=
 h.turn (λhs y hy=>by
  rcases List.mem_cons.1 hy with rfl|hy
  ·exact⟨⟨hL,hs _ SI,by rw[hV];trivial⟩,trivial⟩
  ·exact hs y (by simp[hy])) (by simp[owned,two,lI,blk,hV,J3,ru])
theorem aeq{pa:Option Addr}{pc:Nat}{pb:List UInt8}(h:Inv T w0 w (eo (pa,pc,pb)::m)):∃ab,pb.length<=pc∧pc<=maxLen∧Inv T w0 w (mQ ab pa pb::m):=by
 have hs:=h.sat (eo (pa,pc,pb)) SI;have hrd:Rd w pa (pb.map bv):=CW hs;have hown:(eo (pa,pc,pb)).own=(Value.ownBlock (.slice pa pb.length pc)).toList:=rfl;have hs2:=hs;rcases hs2 with⟨hv,hx⟩ | ⟨g,off,cap,cur,hv,hg,h1,h2,h3,h4⟩
 ·simp only[sv,Value.slice.injEq]at hv
  obtain⟨rfl,hl,rfl⟩:=hv;refine⟨none,by omega,Nat.zero_le _,h.turn (λhs y hy=>?_) (by simp[owned,mQ,eo,EJ,sv,Value.ownBlock])⟩;rcases List.mem_cons.1 hy with rfl|hy
  ·exact⟨λx hx=>(by cases hx),λk hk=>(by cases hk),hrd⟩
  ·exact hs y (by simp[hy])
 ·simp only[sv,Value.slice.injEq,List.length_map]at hv
  obtain⟨rfl,_,rfl⟩:=hv;simp only[List.length_map]at h1;refine⟨some g,h1,h2,h.turn (λhs y hy=>?_) (by simp[owned,mQ,eo,EJ,sv,Value.ownBlock])⟩;rcases List.mem_cons.1 hy with rfl|hy
  ·exact⟨λx hx=>(by cases hx;rfl),λk hk=>(by cases hk;rw[hg];rfl),hrd⟩
  ·exact hs y (by simp[hy])
end
section
variable (w0:World)(f b l vb rc:Nat)(ra:Option Addr)(S:RS)(Z:aG)
theorem Sg(x:Rec)(hx:x.Len)(hI:Inv (two (rb f b l vb ra rc S) Z).own w0 w0 [two (rb f b l vb ra rc S) Z]):
  Calls prog 66 #[.pointer (some ⟨b,0,none⟩),ia x.mP] w0 λe w'=>e=.returned (.tuple #[])∧Inv (two (rb f b l vb ra rc S) Z).own w0 w' [two (rb f b l vb ra rc (qC S x)) Z]:=by
 have n1:=aa 174;have n2:=aa 2;have n3:=aa 3;have n7:=aa 7;cases x with
 |row r=>exact agA w0 f b l vb rc ra S Z hI _ r (dL hx n2 n3 n7) b_ (gB hx) hx
 |eD i r=>exact agB w0 f b l vb rc ra S Z hI _ r i (dL hx.2 n2 n3 n7) b_ vU (gB hx.2) hx.2
 |bR i=>exact agC w0 f b l vb rc ra S Z hI _ i (dL n1 n2 n3 n7) b_ vU
 |tL e bl=>exact agD w0 f b l vb rc ra S Z hI _ bl (dL n1 hx n3 n7) b_ (eU n1 hx) (D6 (eU (k:=3) (w:=0) (e:=e) (c:=aj 3) (v:=aj 7) n1 hx) OM) hx
 |take e bl c=>exact agE w0 f b l vb rc ra S Z hI _ bl c (dL n1 hx.1 hx.2 n7) b_ (eU n1 hx.1) (iD n1 hx.1 hx.2) (D6 (eU (k:=4) (w:=0) (e:=e) (c:=c) (v:=aj 7) n1 hx.1) OM) hx.1 hx.2
 |view v=>exact agF w0 f b l vb rc ra S Z hI _ v (dL n1 n2 n3 hx) b_ (iE n1 n2 n3 hx) hx
end
theorem Gg{D:DS}(h:(dZ D).1=none):(dZ D).2.2≠0:=by
 unfold dZ at h|-;dsimp only at h|-
 split at h
 ·rename_i h1
  rw[if_pos h1]
  split at h
  ·cases h
  ·rename_i h2;rw[if_neg h2];exact h2
 ·rename_i h1;rw[if_neg h1];exact h1
section
variable (w0:World)(d mr:Nat)(wb:Option Nat)(D:DS)(hI:Inv (eF d mr wb D).own w0 w0 [eF d mr wb D])(hD:wQ D)(hwl:D.waits.length<=50000)(hE:yQ (eP D))
include hI hD hwl hE
theorem aaH(D':DS)(er:Int)(h:dZ D=(none,D',er)):Calls prog 63 #[.pointer (some ⟨d,0,none⟩)] w0 λe w'=>∃kS,e=.returned (.tuple #[.pointer none,.slice none 0 0,.int .i64 er])∧Inv (eF d mr wb D).own w0 w' [eF d mr kS D']:=by
 refine(JG w0 d mr wb D hI hD hwl hE).mono ?_;rintro e w' ⟨kS,⟨l,a,c,els,cnt,used,h1,rfl,hJ⟩ | ⟨h1,rfl,hJ⟩⟩
 ·rw[h]at h1;simp at h1
 ·rw[h]at hJ|-;exact⟨kS,rfl,hJ⟩
theorem Wu(bs:List (List UInt8))(cnt used:Nat)(D':DS)(er:Int)(h:dZ D=(some (bs,cnt,used),D',er)):Calls prog 63 #[.pointer (some ⟨d,0,none⟩)] w0 λe w'=>∃kS l a c els,Hid (M9 els=bs)∧e=.returned (.tuple #[.pointer (some ⟨l,0,none⟩),.slice a els.length c,.int .i64 0])∧Inv (eF d mr wb D).own w0 w' [two (eF d mr kS D') (two (bss a c els) (blk l 185 (lcs d cnt used)))]:=by
 refine(JG w0 d mr wb D hI hD hwl hE).mono ?_;rintro e w' ⟨kS,⟨l,a,c,els,cnt',aiW,h1,rfl,hJ⟩ | ⟨h1,rfl,hJ⟩⟩
 ·rw[h]at h1 hJ
  simp only[Prod.mk.injEq,Option.some.injEq]at h1;obtain⟨⟨rfl,rfl,rfl⟩,_,_⟩:=h1;refine⟨kS,l,a,c,els,HD rfl,rfl,?_⟩;have h2:=(hJ.perm (m':=[bss a c els,blk l 185 (lcs d cnt used),eF d mr kS D']) (List.perm_append_comm (l₁:=[bss a c els,blk l 185 (lcs d cnt used)]) (l₂:=[eF d mr kS D']))).dO;exact(h2.perm (m':=[eF d mr kS D',two (bss a c els) (blk l 185 (lcs d cnt used))]) (List.Perm.swap _ _ _)).dO
 ·rw[h]at h1;cases h1
end
end
section
open A (QE jJ bu)
structure CX where
 cb:Nat
 p:Nat
 pb:Nat->Nat
 c:Nat->Nat
 d:Nat->Nat
 mr:Nat->Nat
structure CM where
 b:Nat
 l:Nat
 vb:Nat
 rc:Nat
 ra:Option Addr
 wb:Option Nat
 pa:Option Addr
 pc:Nat
structure CY where
 m:Nat->CM
 q:Nat->List QE
structure CS where
 up:Nat->Bool
 S:Nat->RS
 B:Nat->List (List UInt8)
 past:Nat->List (List Int)
def oM(a:Value)(f g h:Nat->Value):List Value:=[a,f 0,f 1,f 2,f 3,f 4,g 0,g 1,g 2,g 3,g 4,h 0,h 1,h 2,h 3,h 4]
theorem lt5{p:Nat->Prop}(h0:p 0)(h1:p 1)(h2:p 2)(h3:p 3)(h4:p 4):∀ {i:Nat},i<5->p i
 |0,_=>h0
 |1,_=>h1
 |2,_=>h2
 |3,_=>h3
 |4,_=>h4
 |n+5,h=>absurd h OM
section
variable (a:Value)(f g h f' g' h':Nat->Value)(v:Value)
theorem x_{i:Nat}(hi:i<5):(oM a f g h)[1+i]? =some (f i):=lt5 (p:=λi=>(oM a f g h)[1+i]? =some (f i)) rfl rfl rfl rfl rfl hi
theorem rO{i:Nat}(hi:i<5):(oM a f g h)[6+i]? =some (g i):=lt5 (p:=λi=>(oM a f g h)[6+i]? =some (g i)) rfl rfl rfl rfl rfl hi
theorem aer{i:Nat}(hi:i<5):(oM a f g h)[11+i]? =some (h i):=lt5 (p:=λi=>(oM a f g h)[11+i]? =some (h i)) rfl rfl rfl rfl rfl hi
theorem Si{i:Nat}(hi:i<5):splice (oM a f g h) (1+i) [v]=oM a (gL f i v) g h:=lt5 (p:=λi=>splice (oM a f g h) (1+i) [v]=oM a (gL f i v) g h) rfl rfl rfl rfl rfl hi
theorem Af{i:Nat}(hi:i<5):splice (oM a f g h) (6+i) [v]=oM a f (gL g i v) h:=lt5 (p:=λi=>splice (oM a f g h) (6+i) [v]=oM a f (gL g i v) h) rfl rfl rfl rfl rfl hi
theorem Sl{i:Nat}(hi:i<5):splice (oM a f g h) (11+i) [v]=oM a f g (gL h i v):=lt5 (p:=λi=>splice (oM a f g h) (11+i) [v]=oM a f g (gL h i v)) rfl rfl rfl rfl rfl hi
variable {a f g h f' g' h'}
theorem kR(e1:∀i,i<5->f i=f' i)(e2:∀i,i<5->g i=g' i)(e3:∀i,i<5->h i=h' i):oM a f g h=oM a f' g' h':=by
 simp[oM,e1,e2,e3]
end
def agI(X:CX)(i:Nat):Value:=.pointer (some ⟨X.d i,0,none⟩)
def vK(Y:CY)(C:CS)(i:Nat):Value:=if C.up i=true then .pointer (some ⟨(Y.m i).b,0,none⟩)else .pointer none
def D7(Y:CY)(C:CS)(i:Nat):Value:=.slice (Y.m i).pa (C.past i).length (Y.m i).pc
def a_(X:CX)(Y:CY)(C:CS):List Value:=oM (.pointer (some ⟨X.p,0,none⟩)) (agI X) (vK Y C) (D7 Y C)
abbrev ku(X:CX)(q:Nat->List QE)(B:Nat->List (List UInt8)):aG:=two (lI (∀i,(q i).map (λx=>x.2.2)=B i)) (jJ 132 X.p X.pb X.c q)
abbrev I5(X:CX)(Y:CY)(C:CS)(i:Nat):aG:=two (rb i (Y.m i).b (Y.m i).l (Y.m i).vb (Y.m i).ra (Y.m i).rc (C.S i)) (two (mK (Y.m i).ra (Y.m i).rc (C.S i).aV)
 (two (lI (AP (C.S i).D (C.S i).cnt (C.S i).used)) (lg (Y.m i).l (X.d i) (X.mr i) (Y.m i).wb (C.S i).D (C.S i).cnt (C.S i).used)))
structure EU (D:DS):Prop where
 ok:wQ D
 rest:D.down=true∨D.waits=[]
 w:D.waits.length<=3000
abbrev L_(X:CX)(Y:CY)(C:CS)(i:Nat):aG:=two (lI (EU (C.S i).D)) (eF (X.d i) (X.mr i) (Y.m i).wb (C.S i).D)
def bX(X:CX)(Y:CY)(C:CS)(i:Nat):aG:=if C.up i=true then I5 X Y C i else L_ X Y C i
abbrev eQ(Y:CY)(C:CS)(i:Nat):aG:=mK (Y.m i).pa (Y.m i).pc (C.past i)
def bg(X:CX)(Y:CY)(C:CS):aG:=two (ku X Y.q C.B) (two (blk X.cb 86 (a_ X Y C)) (two (fQ (List.range 5) (bX X Y C)) (fQ (List.range 5) (eQ Y C))))
def rx(X:CX)(Y:CY)(C:CS)(i:Nat):RX:=⟨i,(Y.m i).b,(Y.m i).l,X.d i,X.mr i,X.p,X.cb,X.pb,X.c,a_ X Y C⟩
def ry(Y:CY)(i:Nat):RY:=⟨(Y.m i).wb,(Y.m i).vb,(Y.m i).ra,(Y.m i).rc,Y.q⟩
def rs(C:CS)(i:Nat):RS:={C.S i with B:=C.B}
def Ag(Y:CY)(i:Nat)(y:RY):CY:=⟨gL Y.m i {Y.m i with wb:=y.wb,vb:=y.vb,ra:=y.ra,rc:=y.rc},y.q⟩
def rM(C:CS)(i:Nat)(S:RS):CS:={C with S:=gL C.S i S,B:=S.B}
theorem Wv(X:CX)(Y:CY)(C:CS){i:Nat}(hi:i<5):zG (rx X Y C i):=⟨hi,rfl,x_ _ _ _ _ hi⟩
theorem D8(Y:CY)(i:Nat)(y:RY)(j:Nat):((Ag Y i y).m j).b=(Y.m j).b∧((Ag Y i y).m j).pa=(Y.m j).pa∧((Ag Y i y).m j).pc=(Y.m j).pc∧((Ag Y i y).m j).l=(Y.m j).l:=by
 unfold Ag gL;dsimp only;split
 ·rename_i h;subst h;exact⟨rfl,rfl,rfl,rfl⟩
 ·exact⟨rfl,rfl,rfl,rfl⟩
theorem NG(X:CX)(Y:CY)(C:CS)(i:Nat)(y:RY)(S:RS):a_ X (Ag Y i y) (rM C i S)=a_ X Y C:=by
 refine kR (λ_ _=>rfl) (λj _=>?_) (λj _=>?_)
 ·unfold vK;rw[(D8 Y i y j).1];rfl
 ·unfold D7;rw[(D8 Y i y j).2.1,(D8 Y i y j).2.2.1];rfl
section
variable {T:List Nat}{w0 w w':World}{m m':List aG}{X:CX}{Y:CY}{C:CS}{i:Nat}
theorem mM(h:Inv T w0 w (bg X Y C::m)):Inv T w0 w (fQ (List.range 5) (bX X Y C)::ku X Y.q C.B::blk X.cb 86 (a_ X Y C)::fQ (List.range 5) (eQ Y C)::m):=
 h.turn (λhs y hy=>by
  obtain⟨h1,h2,h3,h4⟩:=hs (bg X Y C) SI;simp only[List.mem_cons]at hy;rcases hy with rfl|rfl|rfl|rfl|hy
  ·exact h3
  ·exact h1
  ·exact h2
  ·exact h4
  ·exact hs y (by simp[hy])) (by
  rw[List.perm_iff_count];intro x;simp only[owned,bg,two,List.flatMap_cons,List.count_append];omega)
theorem qF(h:Inv T w0 w (fQ (List.range 5) (bX X Y C)::ku X Y.q C.B::blk X.cb 86 (a_ X Y C)::fQ (List.range 5) (eQ Y C)::m)):Inv T w0 w (bg X Y C::m):=
 h.turn (λhs y hy=>by
  rcases List.mem_cons.1 hy with rfl|hy
  ·exact⟨hs _ SI,hs _ SI,hs _ SI,hs _ SI⟩
  ·exact hs y (by simp[hy])) (by
  rw[List.perm_iff_count];intro x;simp only[owned,bg,two,List.flatMap_cons,List.count_append];omega)
theorem Ww{S:RS}(h:dB S)(B:Nat->List (List UInt8)):dB {S with B:=B}:=⟨h.view,h.own,h.bV,h.sl,h.acc,h.book,h.told,h.last,h.aK⟩
theorem rY{i:Nat}(hi:i<5):i∈List.range 5:=List.mem_range.2 hi
theorem D9(hi:i<5)(hu:C.up i=true)(h:Inv T w0 w (bg X Y C::m)):Inv T w0 w (ah (rx X Y C i) (ry Y i) (rs C i)::fQ ((List.range 5).erase i) (bX X Y C)::fQ (List.range 5) (eQ Y C)::m):=by
 have h1:=(mM h).pull (rY hi) aR.here;rw[show bX X Y C i=I5 X Y C i from if_pos hu]at h1;exact h1.turn (λhs y hy=>by
  obtain⟨h1,h2,h3⟩:=hs (I5 X Y C i) SI;simp only[List.mem_cons]at hy;rcases hy with rfl|rfl|rfl|hy
  ·exact⟨⟨Ww h1.1 _,h1.2.1,h1.2.2⟩,h2,h3,hs (ku X Y.q C.B) SI,hs (blk X.cb 86 (a_ X Y C)) SI⟩
  ·exact hs _ SI
  ·exact hs _ SI
  ·exact hs y (by simp[hy])) (by
  rw[List.perm_iff_count];intro x;simp only[owned,List.flatMap_cons,List.count_append,two,rx,ry,rs,lI,blk,List.count_nil];omega)
theorem Wx(X:CX)(Y:CY)(C:CS){i j:Nat}(h:j≠i)(y:RY)(S:RS):bX X (Ag Y i y) (rM C i S) j=bX X Y C j:=by
 have e1:(Ag Y i y).m j=Y.m j:=bZ _ _ h;have e2:(rM C i S).S j=C.S j:=bZ _ _ h;unfold bX I5 L_;rw[e1,e2];rfl
theorem Ku(X:CX)(Y:CY)(C:CS)(i:Nat)(y:RY)(S:RS)(hu:C.up i=true):bX X (Ag Y i y) (rM C i S) i=two (rb i (Y.m i).b (Y.m i).l y.vb y.ra y.rc S) (two (mK y.ra y.rc S.aV)
  (two (lI (AP S.D S.cnt S.used)) (lg (Y.m i).l (X.d i) (X.mr i) y.wb S.D S.cnt S.used))):=by
 have e1:(Ag Y i y).m i={Y.m i with wb:=y.wb,vb:=y.vb,ra:=y.ra,rc:=y.rc}:=bJ _ _ _;have e2:(rM C i S).S i=S:=bJ _ _ _;unfold bX I5;rw[if_pos (show(rM C i S).up i=true from hu),e1,e2]
theorem Sm(Y:CY)(C:CS)(i:Nat)(y:RY)(S:RS):eQ (Ag Y i y) (rM C i S)=eQ Y C:=by
 funext j;unfold eQ;rw[(D8 Y i y j).2.1,(D8 Y i y j).2.2.1];rfl
theorem QW(hi:i<5)(hu:C.up i=true){y:RY}{S:RS}(h:Inv T w0 w (ah (rx X Y C i) y S::fQ ((List.range 5).erase i) (bX X Y C)::fQ (List.range 5) (eQ Y C)::m)):Inv T w0 w (bg X (Ag Y i y) (rM C i S)::m):=by
 refine qF ?_;rw[NG,Sm];have h1:Inv T w0 w (bX X (Ag Y i y) (rM C i S) i::fQ ((List.range 5).erase i) (bX X Y C)::ku X y.q S.B::blk X.cb 86 (a_ X Y C)::fQ (List.range 5) (eQ Y C)::m):=by
  rw[Ku X Y C i y S hu];exact h.turn (λhs z hz=>by
   obtain⟨h1,h2,h3,h4,h5⟩:=hs (ah (rx X Y C i) y S) SI;simp only[List.mem_cons]at hz;rcases hz with rfl|rfl|rfl|rfl|rfl|hz
   ·exact⟨h1,h2,h3⟩
   ·exact hs _ SI
   ·exact h4
   ·exact h5
   ·exact hs _ SI
   ·exact hs z (by simp[hz])) (by
   rw[List.perm_iff_count];intro x;simp only[owned,List.flatMap_cons,List.count_append,two,rx];omega)
 exact h1.push List.nodup_range (rY hi) rfl (λj _ hj=>Wx X Y C hj y S) aR.here
theorem aes(hI:Inv T w0 w m)(hm:bg X Y C∈m):w.heap[X.cb]? =some (.cells (a_ X Y C).toArray 86 (0,0)):=(hI.sat _ hm).2.1
theorem dV{P:Program}{a:Act}{dst:Option Tmp}{x:Operand}{t ty off:Nat}{pos:String}{af:Array Edge}{gd:Option (Nat×Bool)}{v:Value}(hI:Inv T w0 w m)(hx:a.eval x=.pointer (some ⟨X.cb,off,none⟩))(hm:bg X Y C∈m)(hT:jg P t)(hv:(a_ X Y C)[off]? =some v):
  fP P ⟨dst,.load t x,ty,pos,af,gd⟩ a w v:=by
 unfold fP execOp;simp only[hx,Instr.loadAt,Instr.sureAddr,Sem.run_bind,Sem.run_pure,Result.andThen_ok,gI (v:=v) hT (aes hI hm) off hv]
theorem qi{Y:CY}{C:CS}{i:Nat}(h:C.up i=true):vK Y C i=.pointer (some ⟨(Y.m i).b,0,none⟩):=if_pos h
theorem D_{Y:CY}{C:CS}{i:Nat}(h:C.up i=false):vK Y C i=.pointer none:=if_neg (by simp[h])
theorem Zg(hi:i<5)(hI:Inv T w0 w m)(hm:bg X Y C∈m):(eF (X.d i) (X.mr i) (Y.m i).wb (C.S i).D).sat w:=by
 have h:=(hI.sat _ hm).2.2.1 i (rY hi);unfold bX at h
 split at h
 ·exact h.2.2.2.2
 ·exact h.2
theorem Ea(hi:i<5)(hI:Inv T w0 w m)(hm:bg X Y C∈m):EU (C.S i).D∧(C.up i=true->AP (C.S i).D (C.S i).cnt (C.S i).used∧dB (C.S i)):=by
 have h:=(hI.sat _ hm).2.2.1 i (rY hi);unfold bX at h
 split at h
 ·exact⟨⟨h.2.2.1.ok,h.2.2.1.rest,by have:=h.2.2.1.w60;omega⟩,λ_=>⟨h.2.2.1,h.1.1⟩⟩
 ·rename_i hu;exact⟨h.1,λh=>absurd h hu⟩
end
end
def qQ(s:ByteArray):List UInt8:=s.data.toList
theorem Kv(s:ByteArray):Lib.strCells s=(qQ s).map bv:=rfl
theorem pU(s:ByteArray):(qQ s).length=s.size:=by rw[qQ,Array.length_toList];rfl
section
variable {P:Program}
theorem Eb{w:World}{t tx e:TypeId}(hT:uY P t e 1 1 (.int .u8 0))(hu:P.underlying tx=some .string)(ty:TypeId){a0:Option Addr}{n c0:Nat}{xs:List UInt8}(hown:w.ownsRow 0 e 1 (.slice a0 n c0) n (xs.map bv))
  (s:ByteArray) (h0:0<s.size) (hb:n+s.size<=140737488355328):
  ∃a' c' w',(Builtin.append_ #[t,tx] ty #[.slice a0 n c0,.string s]).run P w=.ok (.slice a' (n+s.size) c') w'∧w'.ownsRow 0 e 1 (.slice a' (n+s.size) c') (n+s.size) ((xs++qQ s).map bv)∧
   Step (Value.ownBlock (.slice a0 n c0)).toList w w'∧(∀k,(Value.ownBlock (.slice a' (n+s.size) c'))=some k->(Value.ownBlock (.slice a0 n c0))=some k∨(w.heap.size<=k∧k<w'.heap.size)):=by
 obtain⟨i,hi,hz,hs1,hb1⟩:=hT.info;have ht:=hT.und;have hxl:(xs.map bv).length=n:=by simpa using hown.1
 have hlen:((xs++qQ s).map bv).length=(n+s.size)*1:=by rw[List.map_append,List.length_append,hxl,List.length_map,pU,Nat.mul_one]
 have hsm:((n+s.size:Nat):Int)<=9223372036854775807:=by omega
 have zF:n+s.size<=maxLen:=by simp only[maxLen];omega
 have hsrc:Src P i.size tx (.string s) s.size (byteCells s) w:=by rw[hs1];exact Src.ofString w hu s
 have grown:∀(old:Nat),old<n+s.size->∀(row:List Nat),
   (w.drew.alloc (.cells ((xs.map bv++byteCells s).toArray++Builtin.zeroCells (Value.cells (.int .u8 0)) (grownCap w (n+s.size) old e- (n+s.size))) e)).ownsRow 0 e 1
    (.slice (some ⟨w.heap.size,0,none⟩) (n+s.size) (grownCap w (n+s.size) old e)) (n+s.size) ((xs++qQ s).map bv)∧
   Step row w (w.drew.alloc (.cells ((xs.map bv++byteCells s).toArray++Builtin.zeroCells (Value.cells (.int .u8 0)) (grownCap w (n+s.size) old e- (n+s.size))) e)):=by
  intro old ho row;have hge:=grownCap_ge w (n+s.size) old e;have hcm:grownCap w (n+s.size) old e<=maxLen:=grownCap_le_maxLen w (n+s.size) old e zF;have hbc:byteCells s=(qQ s).map bv:=rfl;refine⟨⟨hlen,.inr ⟨w.heap.size,_,_,rfl,Nat.zero_le _,heap_alloc_new w.drew _,hge,hcm,?_,?_⟩⟩,⟨rfl,rfl,rfl,by simp,λk hk _=>_root_.Go.heap_alloc_old w.drew _ hk⟩⟩
  ·simp only[Array.size_append,List.size_toArray,size_zeroCells,List.length_append,hxl,byteCells_length]
   show _+_*1=_;omega
  ·rw[hbc,<-List.map_append]
   simp only[Array.toList_append];rw[<-hlen];exact List.take_left
 have grow:c0<n+s.size->(Builtin.firstCells i.size n (.slice a0 n c0)).run P w.drew=.ok (xs.map bv).toArray w.drew->∃a' c' w',(Builtin.append_ #[t,tx] ty #[.slice a0 n c0,.string s]).run P w=.ok (.slice a' (n+s.size) c') w'∧w'.ownsRow 0 e 1 (.slice a' (n+s.size) c') (n+s.size) ((xs++qQ s).map bv)∧
   Step (Value.ownBlock (.slice a0 n c0)).toList w w'∧(∀k,(Value.ownBlock (.slice a' (n+s.size) c'))=some k->(Value.ownBlock (.slice a0 n c0))=some k∨(w.heap.size<=k∧k<w'.heap.size)):=by
  intro hg hold;have hrr:=run_append_grow_src (P:=P) w t tx ty e i (.int .u8 0) ht hi hz a0 n c0 (xs.map bv) hold (.string s) s.size (byteCells s) hsrc hg hsm (by rw[hb1];exact growslice_fits OM OM);have hgr:=grown c0 OM (Value.ownBlock (.slice a0 n c0)).toList;exact⟨_,_,_,hrr,hgr.1,hgr.2,λk hk=> .inr (by
   have hk:w.heap.size=k:=by simpa[Value.ownBlock]using hk
   subst hk;simp)⟩
 rcases hown.2 with⟨hv,rfl⟩ | ⟨g,cap,cur,hv,hbg,hg,hnc,hcm,hcs,htake⟩
 ·cases hv
  refine grow OM ?_;rw[hs1,List.eq_nil_of_length_eq_zero hxl];rfl
 ·cases hv
  by_cases hroom:n+s.size<=c0
  ·have hfit:n+s.size<=cur.size:=by omega
   have hrr:=Lib.run_append_room_string (P:=P) w t tx ty e i ht hu hi hs1 g n c0 cur hg s hroom hfit;refine⟨_,_,_,hrr,⟨hlen,.inr ⟨g,c0,_,rfl,hbg,setRow_heap w g cur _ e _ hg,hroom,hcm,?_,?_⟩⟩,⟨rfl,rfl,rfl,by simp,λk _ hk=>setRow_other w g k _ (λe=>hk (by simp[Value.ownBlock,e]))⟩,λk hk=> .inl (by simpa[Value.ownBlock]using hk)⟩
   ·simp only[List.size_toArray,List.length_append,List.length_take,List.length_drop,Array.length_toList,Lib.strCells_length]
    omega
   ·rw[Nat.mul_one]at htake
    simp only[List.map_append,<-Kv];rw[htake];have h2:(xs.map bv++Lib.strCells s).length=(n+s.size)*1:=by rw[List.length_append,hxl,Lib.strCells_length,Nat.mul_one]
    rw[<-h2];exact List.take_left
  ·refine grow OM ?_
   rw[hs1];exact run_firstCells_some w.drew 1 n ⟨g,0,none⟩ n c0 (xs.map bv) OM (λj u hj=>by simpa using hown.cells (g:=g) rfl j u hj)
variable {ops:Array Oper}{Q:Exit->Act->World->Prop}{a:Act}{rest:List Oper}{T:List Nat}{w0 w:World}{m:List aG}{dst:Option Tmp}{ty:TypeId}{pos:String}{af:Array Edge}
theorem za{m':aG->List aG}{s x:Operand}{t tx e n c0:Nat}{a0:Option Addr}{xs:List UInt8}{sb:ByteArray}(hI:Inv T w0 w m)(hs:a.eval s=.slice a0 n c0)(hx:a.eval x=.string sb)
  (hT:uY P t e 1 1 (.int .u8 0)) (ht:P.underlying tx=some .string) (hu:∀r',aR (bf e 1 (.slice a0 n c0) n (xs.map bv)) r' m (m' r')) (h0:0<sb.size) (hb:n+sb.size<=140737488355328)
  (k:∀a' c' w',Inv T w0 w' (m' (bf e 1 (.slice a' (n+sb.size) c') (n+sb.size) ((xs++qQ sb).map bv)))->wpList P ops Q rest (a.put dst (.slice a' (n+sb.size) c')) w'):
  wpList P ops Q (⟨dst,.call {callee:=.builtin .append,args:= #[s,x],argTypes:= #[t,tx]},ty,pos,af,none⟩::rest) a w:=
 wpList_plain rfl λK hK=>by
  have hown:w.ownsRow 0 e 1 (.slice a0 n c0) n (xs.map bv):=by
   obtain⟨m1,m2,rfl,_⟩:=(hu (bf e 1 (.slice a0 n c0) n (xs.map bv))).split;exact hI.sat (bf e 1 (.slice a0 n c0) n (xs.map bv)) SI
  obtain⟨a',c',w',hrun,ho,hst,hk⟩:=Eb (P:=P) hT ht ty hown sb h0 hb;unfold Oper.wp execOp;simp only[resolve,invoke,builtin,Sem.run_bind,Sem.run_pure,Result.andThen_ok,List.map_toArray,List.map_cons,List.map_nil,hs,hx,hrun];refine hK _ _ (k a' c' w' (hI.upd (hu _) hst ho (λj hj=>?_) ?_))
  ·have hj:Value.ownBlock (.slice a' (n+sb.size) c')=some j:=by simpa[bf]using hj
   rcases hk j hj with h|h
   ·exact .inl (by simp[bf,h])
   ·exact .inr h
  ·cases a'<;>simp[bf,Value.ownBlock]
end
def tcs(tb cb:Nat)(u:Bool)(a:Option Addr)(n c:Nat):List Value:=[.pointer (some ⟨cb,0,none⟩),.pointer (if u=true then some ⟨tb,1,none⟩else none),.slice a n c]
abbrev xn(tb cb:Nat)(u:Bool)(a:Option Addr)(c:Nat)(bs:List UInt8):aG:=two (blk tb 70 (tcs tb cb u a bs.length c)) (bf 5 1 (.slice a bs.length c) bs.length (bs.map bv))
theorem aet:(prog.info? 68).map (·.size)=some 2:=by kernel_rfl
theorem aeu:liesAt prog prog.depth 70 (3/prog.cellsOf 70) 1 68 1=true:=by kernel_rfl
theorem NH:∃j,prog.info? 68=some j∧j.size=2:=by
 obtain⟨j,h1,h2⟩:=Option.map_eq_some_iff.1 aet;exact⟨j,h1,h2⟩
section
variable {ops:Array Oper}{Q:Exit->Act->World->Prop}{a:Act}{rest:List Oper}{T:List Nat}{w0 w:World}{m:List aG}{dst:Option Tmp}{ty:TypeId}{pos:String}{af:Array Edge}{x y:Operand}{tb:Nat}{cs:List Value}
theorem P8(hI:Inv T w0 w m)(hm:blk tb 70 cs∈m)(hl:cs.length=3):w.shape? tb=some (70,3):=by
 have:=hI.blk hm;simp[World.shape?,this,hl]
theorem aio(hI:Inv T w0 w m)(hx:a.eval x=.pointer (some ⟨tb,1,none⟩))(hm:blk tb 70 cs∈m)(hl:cs.length=3)
  (k:wpList prog ops Q rest (a.put dst (.pointer (some ⟨tb,1,none⟩))) w):wpList prog ops Q (⟨dst,.convert 66 215 x,ty,pos,af,none⟩::rest) a w:=by
 obtain⟨j,hj,hjs⟩:=NH;refine au (v:=.pointer (some ⟨tb,1,none⟩)) ?_ k;unfold fP execOp;simp only[hx,Lib.run_to_unsafe (P:=prog) w ⟨tb,1,none⟩ underlying66 underlying215 hj (by rw[hjs];decide) (P8 hI hm hl) (by show 1<3;omega),Sem.run_bind,Sem.run_pure,Result.andThen_ok]
theorem aip(hI:Inv T w0 w m)(hx:a.eval x=.pointer (some ⟨tb,1,none⟩))(hm:blk tb 70 cs∈m)(hl:cs.length=3)
  (k:wpList prog ops Q rest (a.put dst (.pointer (some ⟨tb,1,none⟩))) w):wpList prog ops Q (⟨dst,.convert 215 66 x,ty,pos,af,none⟩::rest) a w:=by
 obtain⟨j,hj,hjs⟩:=NH;refine au (v:=.pointer (some ⟨tb,1,none⟩)) ?_ k;unfold fP execOp;simp only[hx,Lib.run_from_unsafe (P:=prog) w ⟨tb,1,none⟩ underlying215 underlying66 hj (P8 hI hm hl) aeu,Sem.run_bind,Sem.run_pure,Result.andThen_ok]
theorem aiq{v:Value}(hx:a.eval x=v)
  (k:wpList prog ops Q rest (a.put dst v) w):wpList prog ops Q (⟨dst,.call {callee:=.value (.func 133),args:= #[x],argTypes:= #[215]},ty,pos,af,none⟩::rest) a w:=by
 refine au (v:=v) ?_ k;unfold fP execOp;have hr:=run_callFunc_extern func133 KF KF KF (e:=Extern.AbiNoEscape.same) KF #[v] w;rw[Lib.run_noEscape]at hr;simp only[resolve,Deferred.ofValue,Act.eval,Sem.run_bind,Sem.run_pure,Result.andThen_ok,invoke,List.map_toArray,List.map_cons,List.map_nil]at hx|-;simp only[hx,Array.append_empty,Array.empty_append,hr,Result.andThen_ok]
theorem air{ad:Addr}{t':Nat}(hx:a.eval x=.pointer (some ad))(hy:a.eval y=.pointer (some ad))
  (k:wpList prog ops Q rest (a.put dst (.bool false)) w):wpList prog ops Q (⟨dst,.binOp .neq 66 x y t',ty,pos,af,none⟩::rest) a w:=by
 obtain⟨j,hj,hjs⟩:=NH;refine au (v:=.bool false) ?_ k;unfold fP execOp;have hr:=Lib.run_neq_ptr_same (P:=prog) (w:=w) ad underlying66 hj;simp only[hx,hy,hr,Sem.run_bind,Sem.run_pure,Result.andThen_ok]
 go_simp
end
section
variable (w0:World)(tb cb:Nat)(u:Bool)(a:Option Addr)(c:Nat)(bs:List UInt8)(hI:Inv (xn tb cb u a c bs).own w0 w0 [xn tb cb u a c bs])
include hI
theorem aaI:Calls prog 93 #[.pointer (some ⟨tb,1,none⟩)] w0 λe w'=>e=.returned (.tuple #[])∧Inv (xn tb cb u a c bs).own w0 w' [xn tb cb true a c bs]:=by
 replace hI:=hI.dz;cases u
 ·simp only[tcs,Bool.false_eq_true,if_false]at hI
  go_enter func93,ntmps93;go_wp2_with(first|with_reducible refine aio (tb:=tb) hI RF aA rfl (k:=?_)|with_reducible refine aip (tb:=tb) hI RF aA rfl (k:=?_)|with_reducible refine aiq RF (k:=?_)|refine YL ?_|refine YT ?_;intro w hI;(try simp only[QS]at hI));exact⟨rfl,_,gD KF _ _,rfl,hI.dO⟩
 ·simp only[tcs,if_true]at hI
  go_enter func93,ntmps93;go_wp2_with(first|with_reducible refine air RF RF (k:=?_)|refine YL ?_);exact⟨rfl,_,gD KF _ _,rfl,hI.dO⟩
theorem Ii(s:ByteArray)(h0:0<s.size)(hb:bs.length+s.size<=140737488355328):Calls prog 58 #[.pointer (some ⟨tb,1,none⟩),.string s] w0 λe w'=>∃a' c',e=.returned (.tuple #[.int .i64 s.size,.nilIface])∧Inv (xn tb cb u a c bs).own w0 w' [xn tb cb true a' c' (bs++qQ s)]:=by
 replace hI:=hI.dz;go_enter func58,ntmps58;go_upto_region 2 with(go_at_call 93;replace hI:=hI.dO;(with_reducible refine(aaI _ tb cb u a c bs (hI.at_ aA)).mono ?_);rintro e w1 ⟨rfl,hJ⟩;replace hI:=(hI.on hJ jy).dz;clear hJ)
 simp only[tcs,if_true]at hI;go_wp2_with(first|(with_reducible refine za (xs:=bs) hI RF RF (tK.out (t:=63)) underlying9 (by intro r';exact aR.there aR.here) h0 hb ?_;intro a' c' w hI)|refine YL ?_|refine YT ?_;intro w hI;(try simp only[QS]at hI));refine bodyPost_ret (results_tmp2 (fn:=f58) rfl _ _ _) rfl ?_;refine⟨a',c',rfl,Inv.dO (x:=blk tb 70 (tcs tb cb true a' (bs++qQ s).length c')) (r:=bf 5 1 (.slice a' (bs++qQ s).length c') (bs++qQ s).length ((bs++qQ s).map bv)) ?_⟩;rw[List.length_append,pU];exact hI
end
theorem Kw(w:World)(g n:Nat):Step [g] w (w.freeze ⟨g,0,none⟩ n):=by
 unfold World.freeze
 split
 ·exact .refl _ _
 ·exact⟨rfl,rfl,rfl,by simp,λk hk hn=>by
   simp only[Array.getElem?_modify];rw[if_neg (λe=>hn (by simp[<-e]))]⟩
theorem cells5:prog.cellsOf 5=1:=by kernel_rfl
section
variable {ops:Array Oper}{Q:Exit->Act->World->Prop}{a:Act}{rest:List Oper}{T:List Nat}{w0 w:World}{m m':List aG}{dst:Option Tmp}{ty:TypeId}{pos:String}{af:Array Edge}{x y:Operand}
theorem ais{g n c:Nat}(hx:a.eval x=.slice (some ⟨g,0,none⟩) n c)(hc:c≠0)
  (k:wpList prog ops Q rest (a.put dst (.pointer (some ⟨g,0,none⟩))) w):wpList prog ops Q (⟨dst,.call {callee:=.builtin .unsafeSliceData,args:= #[x],argTypes:= #[63]},ty,pos,af,none⟩::rest) a w:=by
 refine au (v:=.pointer (some ⟨g,0,none⟩)) ?_ k;unfold fP execOp;simp only[resolve,invoke,builtin,Sem.run_bind,Sem.run_pure,Result.andThen_ok,List.map_toArray,List.map_cons,List.map_nil,hx,Lib.run_unsafeSliceData_row (P:=prog) (w:=w) _ _ _ _ _ hc]
theorem ait{g c:Nat}{l:List UInt8}(hI:Inv T w0 w m)(hx:a.eval x=.pointer (some ⟨g,0,none⟩))(hy:a.eval y=.int .i64 (l.length:Int))(hl:l≠[])(hu:aR (bf 5 1 (.slice (some ⟨g,0,none⟩) l.length c) l.length (l.map bv)) ru m m')
  (k:∀w',Inv T w0 w' m'->wpList prog ops Q rest (a.put dst (.string ⟨l.toArray⟩)) w'):wpList prog ops Q (⟨dst,.call {callee:=.builtin .unsafeString,args:= #[x,y],argTypes:= #[125,3]},9,pos,af,none⟩::rest) a w:=
 wpList_plain rfl λK hK=>by
  have hown:w.ownsRow 0 5 1 (.slice (some ⟨g,0,none⟩) l.length c) l.length (l.map bv):=by
   obtain⟨m1,m2,rfl,_⟩:=hu.split;exact hI.sat (bf 5 1 (.slice (some ⟨g,0,none⟩) l.length c) l.length (l.map bv)) SI
  have hl0:l.length≠0:=by simpa using hl
  rcases hown.2 with⟨hv,_⟩ | ⟨g',cap,cur,hv,hbg,hg,hnc,hcm,hcs,htake⟩
  ·cases hv
  ·cases hv
   have hr:=Lib.run_unsafeString_row (P:=prog) w 125 3 9 5 underlying125 cells5 g cur.size (by simp[World.shape?,hg]) l hl OM (by unfold maxLen at hcm;omega) (λj x hj=>by
    have:=hown.cells (g:=g) rfl j (bv x) (by simp[hj]);exact this)
   unfold Oper.wp execOp;simp only[resolve,invoke,builtin,Sem.run_bind,Sem.run_pure,Result.andThen_ok,List.map_toArray,List.map_cons,List.map_nil,hx,hy,hr];refine hK _ _ (k _ (hI.upd hu ((Kw w g l.length).mono λk hk=>by simpa[bf,Value.ownBlock]using hk) trivial (λk hk=>by cases hk) List.nodup_nil))
end
section
variable (w0:World)(tb cb:Nat)(u:Bool)(a:Option Addr)(c:Nat)(bs:List UInt8)(hI:Inv (xn tb cb u a c bs).own w0 w0 [xn tb cb u a c bs])(hne:bs≠[])
include hI hne
theorem Wy:Calls prog 30 #[.pointer (some ⟨tb,1,none⟩)] w0 λe w'=>e=.returned (.string ⟨bs.toArray⟩)∧Inv (xn tb cb u a c bs).own w0 w' [ru]:=by
 replace hI:=hI.dz;have hl0:bs.length≠0:=by simpa using hne
 obtain⟨g,rfl⟩:∃g,a=some ⟨g,0,none⟩:=by
  have hs:=hI.sat _ aM;rcases hs.2 with⟨_,hz⟩ | ⟨g,cap,cur,hv,_⟩
  ·exact absurd hz hl0
  ·cases hv;exact⟨g,rfl⟩
 have hc0:c≠0:=by
  have hs:=hI.sat _ aM;rcases hs.2 with⟨_,hz⟩ | ⟨g,cap,cur,hv,_,_,h,_⟩
  ·exact absurd hz hl0
  ·cases hv;omega
 simp only[tcs]at hI;obtain⟨pq,hpq⟩:=EZ (if u=true then some (⟨tb,1,none⟩:Addr)else none);rw[<-hpq]at hI;clear hpq;go_enter func30,ntmps30;go_upto_region 1 with(fail)
 (refine ZR [4,10,11] [5,6,7,8,9] [4] [0,1,2,3,5,6,7,8,9,4,10,11] (λw=>Inv (xn tb cb u (some ⟨g,0,none⟩) c bs).own w0 w [blk tb 70 [.pointer (some ⟨cb,0,none⟩),.pointer pq,.slice (some ⟨g,0,none⟩) bs.length c]]) hI ?_;intro wd hI)
 (repeat(first|refine ZS ?_|refine ZQ ?_;go_wp2_with(first|(with_reducible refine ait (l:=bs) hI RF RF hne iR (k:=?_);intro w hI)|with_reducible refine ais RF hc0 (k:=?_)|refine YL ?_);refine ZP ?_))
 exact W57
end
def zH(R R':aG):Prop:=∃Z:aG,R'.own.Perm (R.own++Z.own)∧∀w,R'.sat w↔(R.sat w∧Z.sat w)
theorem zH.refl(R:aG):zH R R:=⟨ru,by simp[ru],λw=>by simp[ru]⟩
theorem zH.l{R A:aG}(h:zH R A)(B:aG):zH R (two A B):=by
 obtain⟨Z,hp,hs⟩:=h;refine⟨two Z B,?_,λw=>?_⟩
 ·show(A.own++B.own).Perm (R.own++(Z.own++B.own))
  rw[<-List.append_assoc];exact List.Perm.append_right _ hp
 ·show A.sat w∧B.sat w↔R.sat w∧Z.sat w∧B.sat w
  rw[hs w,and_assoc]
theorem zH.r{R B:aG}(h:zH R B)(A:aG):zH R (two A B):=by
 obtain⟨Z,hp,hs⟩:=h;refine⟨two A Z,?_,λw=>?_⟩
 ·show(A.own++B.own).Perm (R.own++(A.own++Z.own))
  refine(List.Perm.append_left _ hp).trans ?_;exact W54
 ·show A.sat w∧B.sat w↔R.sat w∧A.sat w∧Z.sat w
  rw[hs w];exact⟨λ⟨a,b,c⟩=>⟨b,a,c⟩,λ⟨b,a,c⟩=>⟨a,b,c⟩⟩
theorem zH.fQ{R:aG}{I:List Nat}{F:Nat->aG}{i:Nat}(h:zH R (F i))(hi:i∈I):zH R (fQ I F):=by
 obtain⟨Z,hp,hs⟩:=h;refine⟨two Z (Go.Proofs.YtdakkaapokhnnaaGreatDoor.fQ (I.erase i) F),?_,λw=>?_⟩
 ·refine(BV F (List.perm_cons_erase hi)).trans ?_
  show((F i).own++(Go.Proofs.YtdakkaapokhnnaaGreatDoor.fQ (I.erase i) F).own).Perm (R.own++(Z.own++(Go.Proofs.YtdakkaapokhnnaaGreatDoor.fQ (I.erase i) F).own));rw[<-List.append_assoc];exact List.Perm.append_right _ hp
 ·constructor
  ·intro h
   obtain⟨a,b⟩:=(hs w).1 (h i hi);exact⟨a,b,λj hj=>h j (List.mem_of_mem_erase hj)⟩
  ·rintro⟨a,b,c⟩ j hj
   by_cases hji:j=i
   ·subst hji;exact(hs w).2 ⟨a,b⟩
   ·exact c j ((List.mem_erase_of_ne hji).2 hj)
theorem Kz{R:aG}{m:List aG}(h:R∈m):aR R R m m:=by
 obtain⟨m1,m2,rfl⟩:=List.append_of_mem h;exact aR.mid R R m2 m1
section
variable {T:List Nat}{w0 w w':World}{m m':List aG}{R R' A Z:aG}
theorem yc(hs:∀w,R'.sat w↔(R.sat w∧Z.sat w))(hp:R'.own.Perm (R.own++Z.own))(h:Inv T w0 w [R']):Inv T w0 w [R,Z]:=
 h.turn (λhh y hy=>by
  have h1:=(hs w).1 (hh R' SI);simp only[List.mem_cons,List.not_mem_nil,or_false]at hy;rcases hy with rfl|rfl
  ·exact h1.1
  ·exact h1.2) (by simpa[owned]using hp.symm)
theorem Gh(hs:∀w,R'.sat w↔(R.sat w∧Z.sat w))(hp:R'.own.Perm (R.own++Z.own))(h:Inv T w0 w (R::Z::m)):Inv T w0 w (R'::m):=
 h.turn (λhh y hy=>by
  rcases List.mem_cons.1 hy with rfl|hy
  ·exact(hs w).2 ⟨hh R SI,hh Z SI⟩
  ·exact hh y (by simp[hy])) (by simp only[bY];rw[<-List.append_assoc];exact List.Perm.append_right _ hp)
theorem zH.own(hp:zH R R')(hI:Inv T w0 w m)(hm:R'∈m):Inv R.own w w [R]:=by
 obtain⟨Z,h1,h2⟩:=hp;exact(yc h2 h1 (hI.at_ hm)).at_ SI
theorem zH.same(hp:zH R R')(hI:Inv T w0 w m)(hm:R'∈m)(hJ:Inv R.own w w' [R]):Inv T w0 w' m:=by
 obtain⟨Z,h1,h2⟩:=hp;exact hI.on (Gh h2 h1 ((yc h2 h1 (hI.at_ hm)).on hJ aR.here)) (Kz hm)
theorem zH.more(hp:zH R R')(hI:Inv T w0 w m)(hm:R'∈m)(hJ:Inv R.own w w' [A,R]):Inv T w0 w' (A::m):=by
 obtain⟨Z,h1,h2⟩:=hp;have h3:=((yc h2 h1 (hI.at_ hm)).Ml hJ aR.here);refine hI.Ml ?_ (Kz hm);exact Inv.jr (Gh h2 h1 (h3.turn (λhs z hz=>hs z (by simp only[List.mem_cons]at hz|-;rcases hz with h|h|h|h<;>simp[h]at*)) (by
  rw[List.perm_iff_count];intro x;simp only[owned,List.flatMap_cons,List.flatMap_nil,List.count_append];omega)))
variable {X:CX}{Y:CY}{C:CS}{i:Nat}
theorem Gi(hi:i<5){R:aG}(h:zH R (bX X Y C i)):zH R (bg X Y C):=(((h.fQ (F:=bX X Y C) (rY hi)).l _).r _).r _
theorem KA(hi:i<5):zH (eF (X.d i) (X.mr i) (Y.m i).wb (C.S i).D) (bg X Y C):=by
 refine Gi hi ?_;unfold bX;split
 ·exact((((zH.refl _).r _).r _).r _).r _
 ·exact(zH.refl _).r _
abbrev upr(X:CX)(Y:CY)(C:CS)(i:Nat):aG:=two (rb i (Y.m i).b (Y.m i).l (Y.m i).vb (Y.m i).ra (Y.m i).rc (C.S i)) (two (mK (Y.m i).ra (Y.m i).rc (C.S i).aV)
 (two (lI (AP (C.S i).D (C.S i).cnt (C.S i).used)) (lg (Y.m i).l (X.d i) (X.mr i) (Y.m i).wb (C.S i).D (C.S i).cnt (C.S i).used)))
theorem zb(hi:i<5)(hu:C.up i=true):zH (upr X Y C i) (bg X Y C):=by
 refine Gi hi ?_;unfold bX;rw[if_pos hu];exact zH.refl _
end
section
open B (fH)
theorem NL:fH.length=7:=by rfl
theorem Rec.aaM{x:Rec}(hx:x.Len):x.mP.length=189:=by
 have n1:=aa 174;have n2:=aa 2;have n3:=aa 3;have n7:=aa 7;cases x with
 |row r=>exact dL hx n2 n3 n7
 |eD i r=>exact dL hx.2 n2 n3 n7
 |bR i=>exact dL n1 n2 n3 n7
 |tL e bl=>exact dL n1 hx n3 n7
 |take e bl c=>exact dL n1 hx.1 hx.2 n7
 |view v=>exact dL n1 n2 n3 hx
theorem NN{x:Rec}(h:x.Ok):x.Len:=by
 cases x with
 |row r=>exact h.1
 |eD i r=>exact⟨h.1,h.2.1⟩
 |bR i=>exact h
 |tL e bl=>exact h.2.1
 |take e bl c=>exact⟨h.2.1.1,h.2.2.1⟩
 |view v=>exact h.1
theorem Sq{T:List Nat}{w0 w:World}{rs m:List aG}{r:aG}(h:Inv T w0 w (nK (r::rs)::m)):Inv T w0 w (r::nK rs::m):=
 h.turn (λhs y hy=>by
  have h1:=hs (nK (r::rs)) SI;rcases List.mem_cons.1 hy with rfl|hy
  ·exact h1 _ SI
  rcases List.mem_cons.1 hy with rfl|hy
  ·intro q hq;exact h1 q (by simp[hq])
  ·exact hs y (by simp[hy])) (by simp[owned,nK])
section
variable (w0:World)(f d mr:Nat)(wb:Option Nat)(D:DS)(B:Nat->List (List UInt8))(hD:wQ D)(hwl:D.waits.length<=50000)(hE:yQ (eP D))(hI:Inv (eF d mr wb D).own w0 w0 [eF d mr wb D])
include hI hD hwl hE
theorem KM(D':DS)(er:Int)(h:dZ D=(none,D',er)):Calls prog 37 #[.int .i64 (f:Int),.pointer (some ⟨d,0,none⟩)] w0 λe w'=>∃kS,e=.returned (.tuple #[.pointer none,.int .i64 er])∧Inv (eF d mr wb D).own w0 w' [eF d mr kS D']:=by
 have he:=Gg (by rw[h]);rw[h]at he;have hq:(er != 0)=true:=by simpa using he
 have ho:=HD h;clear h he;go_enter func37,ntmps37;go_wp2_with(go_at_call 63;refine KG hI (aaH _ d mr _ D (hI.at_ aA) hD hwl hE _ _ ho.out) ?_;intro Gj w1 hI);exact bodyPost_ret (results_tmp2 rfl _ _ _) rfl ⟨Gj,rfl,hI⟩
theorem Gl(bs:List (List UInt8))(cnt used:Nat)(D':DS)(er:Int)(h:dZ D=(some (bs,cnt,used),D',er)):
  Calls prog 37 #[.int .i64 (f:Int),.pointer (some ⟨d,0,none⟩)] w0 λe w'=>∃kS,
   (fM (si D' cnt used B) bs=none∧e=.returned (.tuple #[.pointer none,.int .i64 1])∧Inv (eF d mr wb D).own w0 w' [eF d mr kS D'])∨
   (∃b l S,fM (si D' cnt used B) bs=some S∧e=.returned (.tuple #[.pointer (some ⟨b,0,none⟩),.int .i64 0])∧Inv (eF d mr wb D).own w0 w' [two (rb f b l 0 none 0 S) (lI True),eF d mr kS D',blk l 185 (lcs d cnt used)]):=by
 have ho:=HD h;clear h;obtain⟨R,hR⟩:=EH (fM (si D' cnt used B) bs);rw[hR.out];go_enter func37,ntmps37;go_wp2_with(first|go_at_call 63;(with_reducible refine(Wu _ d mr _ D (hI.at_ aA) hD hwl hE _ _ _ _ _ ho.out).mono ?_);rintro e w1 ⟨Gj,l,sa,sc,els,hB,rfl,hJ⟩;replace hI:=hI.on hJ jy;clear hJ|with_reducible refine agH D' cnt used B RF RF ?_|(with_reducible refine bN hI RF ?_);intro b w1 hI;replace hI:=aep hI (Ws D' cnt used B) rfl|go_at_call 31;refine KD hI (Go.Proofs.YtdakkaapokhnnaaGreatDoor.B.nT _) ?_;intro w1 hI|go_at_call 64;refine KC jy hI (Ie _ _ _ _ _ _ _ _ _ _ NL (hI.at_ aA)) ?_;intro w1 hI);have hbl:bs.length<=els.length:=by rw[<-hB.out,M9,List.length_map];exact Nat.le_refl _
 replace hI:=hI.perm (m':=[two (eF d mr Gj D') (two (bss sa sc els) (blk l 185 (lcs d cnt used))),two (rb f b l 0 none 0 (si D' cnt used B)) (lI True)]) (List.Perm.swap _ _ _);replace hI:=hI.dz;replace hI:=hI.perm (m':=[two (bss sa sc els) (blk l 185 (lcs d cnt used)),eF d mr Gj D',two (rb f b l 0 none 0 (si D' cnt used B)) (lI True)]) (List.Perm.swap _ _ _);replace hI:=zR hI.dz
 go_loopg [34] els.length (λkk Yu wr=>∃(k:Nat) (S:RS),kk=els.length-k∧k<=els.length∧Yu=.int .i64 (k:Int)∧Hid (fM (si D' cnt used B) bs=fM S (bs.drop k))∧Inv (eF d mr wb D).own w0 wr [bf 63 1 (.slice sa els.length sc) els.length (els.map sv),nK ((els.drop k).map eo),blk l 185 (lcs d cnt used),eF d mr Gj D',two (rb f b l 0 none 0 S) (lI True)])
 case atStart=>exact⟨0,si D' cnt used B,rfl,by omega,rfl,HD SI,hI⟩
 case round=>
  clear hI;obtain⟨k,S,rfl,hk,rfl,hS,hI⟩:=hrel;by_cases hke:k=els.length
  ·subst hke
   have hd3:decide ((els.length:Int) < (els.length:Int))=false:=by simp
   have hRS:R=some S:=by rw[<-hR.out,hS.out,List.drop_of_length_le OM,fM]
   subst hRS;clear hR hS;go_wp2_with(fail);refine bodyPost_ret (results_tmp2 rfl _ _ _) rfl ⟨Gj,.inr ⟨b,l,S,rfl,rfl,?_⟩⟩;exact(hI.sub (.cons _ (.cons _ (.refl _)))).perm (m':=[two (rb f b l 0 none 0 S) (lI True),eF d mr Gj D',blk l 185 (lcs d cnt used)]) (List.reverse_perm [blk l 185 (lcs d cnt used),eF d mr Gj D',two (rb f b l 0 none 0 S) (lI True)])
  ·have hkl:k<els.length:=by omega
   have hd3:decide ((k:Int) < (els.length:Int))=true:=by simp;omega
   obtain⟨⟨pa,pc,pb⟩,hp⟩:∃p,els[k]? =some p:=⟨_,List.getElem?_eq_getElem OM⟩;have hsk:bs[k]? =some pb:=by rw[<-hB.out,M9,List.getElem?_map,hp];rfl
   have hld:(els.map sv)[k]? =some (.slice pa pb.length pc):=by rw[List.getElem?_map,hp];rfl
   have hdr:bs.drop k=pb::bs.drop (k+1):=by
    obtain⟨h1,h2⟩:=List.getElem?_eq_some_iff.1 hsk;rw[List.drop_eq_getElem_cons h1,h2]
   have agJ:els.drop k=(pa,pc,pb)::els.drop (k+1):=by
    obtain⟨h1,h2⟩:=List.getElem?_eq_some_iff.1 hp;rw[List.drop_eq_getElem_cons h1,h2]
   rw[agJ,List.map_cons]at hI;replace hI:=Sq (hI.perm (m':=[nK (eo (pa,pc,pb)::(els.drop (k+1)).map eo),bf 63 1 (.slice sa els.length sc) els.length (els.map sv),blk l 185 (lcs d cnt used),eF d mr Gj D',two (rb f b l 0 none 0 S) (lI True)]) (List.Perm.swap _ _ _));obtain⟨ab,hpc,hpm,hI⟩:=aeq hI;obtain⟨ga,rfl⟩:∃ga,sa=some ⟨ga,0,none⟩:=gu hI (List.mem_cons_of_mem _ (List.mem_cons_of_mem _ (List.mem_cons_self))) (by rw[List.length_map];omega);have hkw:wrap64 ((k:Int)+1)=(k:Int)+1:=by
    obtain⟨_,_,_,_,h1,h2,_⟩:=nR (hI.sat _ (List.mem_cons_of_mem _ (List.mem_cons_of_mem _ (List.mem_cons_self))));simp only[maxLen]at h2;unfold wrap64;omega
   obtain⟨rx,Sr⟩:=EQ (Kq pb);have hS2:Hid (fM (si D' cnt used B) bs=rx.bind λx=>fM (qC S x) (bs.drop (k+1))):=HD (by rw[hS.out,hdr,fM,Sr]);clear hdr agJ hsk hp hS;cases rx with
   |none=>
    have hrx:Hid (xZ pb=(aj 189,1)):=HD (by rw[acn,Sr]);have hRN:R=none:=by rw[<-hR.out,hS2.out];rfl
    replace hRN:=HD hRN;clear hR hS2 Sr;go_wp2_with(first|with_reducible refine aJ hI RF aX (aO.out (t:=63)) hld ?_|go_at_call 65;refine KE (Kn hpc hpm hI) ?_;intro w1 hI;(rw[hrx.out])|refine YS ?_;intro w hI|refine YX ?_;intro bx w hI);exact bodyPost_ret (results_tmp2 rfl _ _ _) rfl ⟨Gj,.inl ⟨hRN.out,rfl,hI.sub (.cons _ (.cons _ (.cons _ (.cons _ (.cons_cons _ (.cons _ (.refl _)))))))⟩⟩
   |some x=>
    have hrx:Hid (xZ pb=(x.mP,0)):=HD (by rw[acn,Sr]);have hxl:x.Len:=NN (Wp Sr);have ajp:=Rec.aaM hxl;clear Sr;go_wp2_with(first|with_reducible refine aJ hI RF aX (aO.out (t:=63)) hld ?_|go_at_call 65;refine KE (Kn hpc hpm hI) ?_;intro w1 hI;(rw[hrx.out])|go_at_call 66;refine KC uu5 hI (Sg _ _ _ _ _ _ _ _ _ _ hxl (hI.at_ mm5)) ?_;intro w1 hI|refine YL ?_|refine YS ?_;intro w hI|refine YX ?_;intro bx w hI);go_roundg (els.length- (k+1))
    case measure=>omega
    case rel=>exact⟨k+1,qC S x,rfl,by omega,(by show Value.int .i64 (wrap64 ((k:Int)+1))=_;rw[hkw];rfl),HD (by rw[hS2.out];rfl),(hI.tl).perm (List.Perm.swap _ _ _)⟩
end
end
