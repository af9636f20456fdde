/- Contracts of functions. No condition. -/
import Derived.Test.YtdakkaapokhnnaaGreatDoorZ09
namespace Go.Proofs.YtdakkaapokhnnaaGreatDoor
open Go.RowKit Go.Proofs.Tryz
set_option maxRecDepth 100000
set_option maxHeartbeats 6400000
set_option linter.all false
theorem Iz:wy prog 63 5 1 1 (.int .u8 0):=⟨by kernel_rfl,by kernel_rfl,by kernel_rfl,by decide⟩
theorem Td:wy prog 74 3 1 8 (.int .i64 0):=⟨by kernel_rfl,by kernel_rfl,by kernel_rfl,by decide⟩
section
variable {P:Program}{ops:Array Oper}{Q:Exit->Act->World->Prop}{a:Act}{rest:List Oper}{T:List Nat}{w0 w:World}{m m':List bT}{dst:Option Tmp}{ty:TypeId}{pos:String}{af:Array Edge}
theorem Fe{x}{t g off j:Nat}{xs u}(hI:Inv T w0 w m)(hx:a.eval x=.pointer (some ⟨g,off+j,none⟩))(hm:Rd w (some ⟨g,off,none⟩) xs)(hT:iY P t)(hc:xs[j]? =some u)(k:wpList P ops Q rest (a.put dst u) w):wpList P ops Q (⟨dst,.load t x,ty,pos,af,none⟩::rest) a w:=by
 refine av (v:=u) ?_ k;obtain⟨g',o',he,hcell⟩:=hm j u hc;exact W72
end
def oU(n:Nat):List UInt8:=if h:n<128 then [UInt8.ofNat n]else UInt8.ofNat (n%128+128)::oU (n/128)
termination_by n
decreasing_by omega
theorem wX{n}(h:n<128):oU n=[UInt8.ofNat n]:=by rw[oU,dif_pos h]
theorem xQ{n}(h:128<=n):oU n=UInt8.ofNat (n%128+128)::oU (n/128):=by rw[oU,dif_neg OM]
theorem M3:∀k n,n<2^ (7*(k+1))->(oU n).length<=k+1
 |0,n,h=>by grind[wX]
 |k+1,n,h=>by
  by_cases h1:n<128
  ·grind[wX]
  ·rw[xQ OM]
   have e:(2:Nat) ^ (7*(k+1+1))=128*2^ (7*(k+1)):=by grind
   have:=M3 k (n/128) OM
   grind
theorem Ff(n):0< (oU n).length:=by
 grind[wX,xQ]
def jH(zs:List Nat):List UInt8:=zs.flatMap oU
def u64(z:Int):Nat:=(z%18446744073709551616).toNat
theorem Zq(z):u64 z<18446744073709551616:=by grind[u64]
theorem Kk{n:Nat}(h:n<18446744073709551616):u64 (n:Int)=n:=by grind[u64]
theorem Zr(z):IntKind.u64.wrap z=((u64 z:Nat):Int):=by
 have h:IntKind.u64.wrap z=z%18446744073709551616:=by simp[IntKind.wrap,IntKind.bits,IntKind.signed]
 grind[u64]
def ah(zs:List Int):List UInt8:=jH (zs.map u64)
theorem aV(zs):(ah zs).length<=10*zs.length:=by
 induction zs with
 |nil=>simp[ah,jH]
 |cons z zs ih=>
  have h1:=M3 9 (u64 z) (by grind[Zq])
  grind[ah,jH]
theorem Fg{zs:List Int}{j z}(h:zs[j]? =some z):ah (zs.take (j+1))=ah (zs.take j)++oU (u64 z):=by
 grind[List.take_add_one,ah,jH]
theorem Fh{ns}(h:∀z∈ns,z<9223372036854775808):ah (ns.map λ(n:Nat)=>(n:Int))=jH ns:=by
 unfold ah
 conv=>rhs;rw[<-List.map_id ns]
 grind[List.map_congr_left,Kk]
theorem ajF(r:Nat):bits .or .u8 ((r:Int) %256) 128=((r%128+128:Nat):Int):=by
 have key:∀n:Fin 256,bits .or .u8 ((n.val:Nat):Int) 128=((n.val%128+128:Nat):Int):=by decide+kernel
 have:=key ⟨r%256,Nat.mod_lt _ DC⟩
 grind
theorem afq{k:Nat}(h:k<256):Value.int .u8 (k:Int)=bv (UInt8.ofNat k):=by
 simp[bv,Nat.mod_eq_of_lt h]
theorem Zt{T}(w0 pw y ai ci zs a c bs)(hy:∀w,y.sat w->Rd w ai (zs.map (Value.int .i64)))(hl:bs.length+10*zs.length<=1000000000)(hI:Inv T w0 w0 [blk pw 249 [.slice a bs.length c],bD 5 1 (.slice a bs.length c) bs.length (bs.map bv),y]):
  Calls prog 171 #[.pointer (some ⟨pw,0,none⟩),.slice ai zs.length ci] w0 λe w'=>∃a' c',e=.returned (.pointer (some ⟨pw,0,none⟩))∧
   Inv T w0 w' [blk pw 249 [.slice a' (bs++ah zs).length c'],bD 5 1 (.slice a' (bs++ah zs).length c') (bs++ah zs).length ((bs++ah zs).map bv),y]:=by
 have hzl:zs.length<=1000000000:=by omega
 go_enter func171,ntmps171;go_upto_region 2 with fail
 go_loopg [6,7,10] zs.length (λkk s6 s7 i wr=>∃(j:Nat) (a':Option Addr) (c':Nat) (cur:List UInt8),kk=zs.length-j∧j<=zs.length∧i=.int .i64 j∧Hid (cur=bs++ah (zs.take j))∧Inv T w0 wr [blk pw 249 [.slice a' cur.length c'],bD 5 1 (.slice a' cur.length c') cur.length (cur.map bv),y])
 case atStart=>exact⟨0,a,c,bs,by omega,by omega,rfl,HD (by simp[ah,jH]),hI⟩
 case round=>
  clear hI;obtain⟨j,a1,c1,cur,rfl,hj,rfl,hc,hI⟩:=hrel;by_cases hlj:j<zs.length
  ·obtain⟨g,off,rfl⟩:∃g off,ai=some ⟨g,off,none⟩:=by
    obtain⟨g,off,ha,_⟩:=hy _ (hI.sat _ a_) 0 _ (List.getElem?_eq_getElem (by simp;omega));exact⟨g,off,ha⟩
   obtain⟨z,hzz⟩:∃z,zs[j]? =some z:=⟨zs[j],List.getElem?_eq_getElem hlj⟩;have hzj:(zs.map (Value.int .i64))[j]? =some (Value.int .i64 z):=by simp[hzz]
   have hu:=HD (Zq z);have htot:Hid ((bs++ah (zs.take (j+1))).length<=1000000000):=HD (by
    have:=aV (zs.take (j+1));simp only[List.length_append,List.length_take]at this|-;omega)
   have hnext:=HD (Fg hzz);clear hzz;go_upto_region 5 with(with_reducible refine Fe hI RF (hy _ (hI.sat _ a_)) pz hzj ?_)
   go_loopg [7] (u64 z) (λkk s7 wr=>∃(r:Nat) (a':Option Addr) (c':Nat) (cur:List UInt8),r=kk∧s7=.int .u64 r∧r<=u64 z∧Hid (cur++oU r=bs++ah (zs.take (j+1)))∧Inv T w0 wr [blk pw 249 [.slice a' cur.length c'],bD 5 1 (.slice a' cur.length c') cur.length (cur.map bv),y])
   case atStart=>exact⟨u64 z,a1,c1,cur,rfl,by rw[Zr],by omega,HD (by rw[hc.out,hnext.out,List.append_assoc]),hI⟩
   case round=>
    clear hI hc hzj;obtain⟨r,a2,c2,cur,rfl,rfl,hrz,hc,hI⟩:=hrel;have GZ:r<18446744073709551616:=by have:=hu.out;omega
    have hpos:=Ff r;have hcl:cur.length+1<=1000000000:=by
     have h1:=htot.out;rw[<-hc.out,List.length_append]at h1;omega
    have hor:=HD (ajF r);clear hpos;by_cases h128:128<=r
    ·have hd:decide ((128:Int)<=(r:Int))=true:=by simp;omega
     have hc2:Hid ((cur++[UInt8.ofNat (r%128+128)])++oU (r/128)=bs++ah (zs.take (j+1))):=HD (by rw[<-hc.out,xQ h128];simp);clear hc;go_wp2_with(first|with_reducible refine aW hI RF aC sK RF ?_|(with_reducible refine kJ (v0:=.int .u8 (bits .or .u8 ((r:Int) %256) 128)) hI Iz RF RF ?_;intro _ w hI)|(with_reducible refine aA (q:=1) hI RF RF Iz (by intro r';exact aU.there (aU.there aU.here)) (hI.rd aC) RF (by simp[Value.oneCell']) MX OM ?_;intro a' c' w hI)|(with_reducible refine aR (vs:=[.slice a' (cur.length+1) c']) hI RF RF jo sK.size RF SI (by simp[Value.oneCell']) ?_;intro w hI));rw[hor.out,afq OM]at hI;go_roundg (r/128)
     case measure=>omega
     case rel=>
      refine⟨r/128,a',c',cur++[UInt8.ofNat (r%128+128)],rfl,by rfl,by omega,hc2,?_⟩;have e:(cur++[UInt8.ofNat (r%128+128)]).length=cur.length+1:=by simp
      rw[e,List.map_append];exact hI.tl
    ·have hd:decide ((128:Int)<=(r:Int))=false:=by simp;omega
     have hc2:Hid (cur++[UInt8.ofNat r]=bs++ah (zs.take (j+1))):=HD (by rw[<-hc.out,wX OM]);clear hc;go_wp2_with(first|with_reducible refine aW hI RF aC sK RF ?_|(with_reducible refine kJ (v0:=.int .u8 (r:Int)) hI Iz RF RF ?_;intro _ w hI)|(with_reducible refine aA (q:=1) hI RF RF Iz (by intro r';exact aU.there (aU.there aU.here)) (hI.rd aC) RF (by simp[Value.oneCell']) MX OM ?_;intro a' c' w hI)|(with_reducible refine aR (vs:=[.slice a' (cur.length+1) c']) hI RF RF jo sK.size RF SI (by simp[Value.oneCell']) ?_;intro w hI));rw[afq OM]at hI;go_roundg (zs.length- (j+1))
     case measure=>omega
     case rel=>
      refine⟨j+1,a',c',cur++[UInt8.ofNat r],rfl,by omega,by go_num,hc2,?_⟩;have e:(cur++[UInt8.ofNat r]).length=cur.length+1:=by simp
      rw[e,List.map_append];exact hI.tl
  ·obtain rfl:j=zs.length:=by omega
   have hce:cur=bs++ah zs:=by rw[hc.out,List.take_length]
   subst hce;clear hc;go_wp2_with fail;go_ret;exact⟨a1,c1,rfl,hI⟩
def mP(pw:Nat)(ob:Option Nat)(bs:List UInt8):bT:=
 ⟨pw::ob.toList,λw=>∃a c,Value.ownBlock (.slice a bs.length c)=ob∧(blk pw 249 [.slice a bs.length c]).sat w∧(bD 5 1 (.slice a bs.length c) bs.length (bs.map bv)).sat w,λw w' h hs=>by
  obtain⟨a,c,h1,h2,h3⟩:=hs;exact⟨a,c,h1,(blk pw 249 [.slice a bs.length c]).loc w w' (λk hk=>h k (by simp[blk]at hk;simp[hk])) h2,
   (bD 5 1 (.slice a bs.length c) bs.length (bs.map bv)).loc w w' (λk hk=>h k (by
    have:k∈(Value.ownBlock (.slice a bs.length c)).toList:=hk;rw[h1]at this;exact List.mem_cons_of_mem _ this)) h3⟩⟩
theorem Vx{T w0 w pw bs a c m}(h:Inv T w0 w (blk pw 249 [.slice a bs.length c]::bD 5 1 (.slice a bs.length c) bs.length (bs.map bv)::m)):
  Inv T w0 w (mP pw (Value.ownBlock (.slice a bs.length c)) bs::m):=by
 grind[Inv.turn,owned,blk,bD,mP]
theorem M4{T w0 w pw ob bs m}(h:Inv T w0 w (mP pw ob bs::m)):
  ∃a c,Inv T w0 w (blk pw 249 [.slice a bs.length c]::bD 5 1 (.slice a bs.length c) bs.length (bs.map bv)::m):=by
 obtain⟨a,c,h1,h2,h3⟩:=h.sat (mP pw ob bs) SI
 grind[Inv.turn,owned,blk,bD,mP]
theorem jD{w e size n n' c a xs}(h:(bD e size (.slice a n' c) n xs).sat w):Rd w a xs:=DW h
theorem Inv.tow{T w0 w y x pw ob bs m}(h:Inv T w0 w (y::x::mP pw ob bs::m)):
  Inv T w0 w (two (mP pw ob bs) y::x::m):=by
 refine h.turn (λhs z hz=>?_) ?_
 ·simp only[List.mem_cons]at hz
  rcases hz with rfl|rfl|hz
  ·exact⟨hs (mP pw ob bs) SI,hs y SI⟩
  all_goals grind
 ·simp only[fe]
  have e2:(two (mP pw ob bs) y).own=(mP pw ob bs).own++y.own:=rfl
  grind
theorem kW(w0 pw ob y ai ci zs bs q)(hy:∀w,y.sat w->Rd w ai (zs.map (Value.int .i64)))(hq:zs.length=q)(hl:bs.length+10*zs.length<=1000000000)(hI:Inv (two (mP pw ob bs) y).own w0 w0 [two (mP pw ob bs) y]):
  Calls prog 171 #[.pointer (some ⟨pw,0,none⟩),.slice ai q ci] w0 λe w'=>∃wh,e=.returned (.pointer (some ⟨pw,0,none⟩))∧
   Inv (two (mP pw ob bs) y).own w0 w' [two (mP pw wh (bs++ah zs)) y]:=by
 subst hq;obtain⟨a,c,hI⟩:=M4 hI.dR;refine(Zt w0 pw y ai ci zs a c bs hy hl hI).mono ?_;rintro e w' ⟨a',c',rfl,hJ⟩;exact⟨_,rfl,(Vx hJ).eX⟩
section
variable {P:Program}{ops:Array Oper}{Q:Exit->Act->World->Prop}{a:Act}{rest:List Oper}{T:List Nat}{w0 w:World}{m:List bT}{dst:Option Tmp}{ty:TypeId}{pos:String}{af:Array Edge}
theorem Fj{t e bytes:Nat}{x0 x1 x2 v0 v1 v2}(hI:Inv T w0 w m)(hT:wy P t e 1 bytes (.int .i64 0))(h0:a.eval x0=.int .i64 v0)(h1:a.eval x1=.int .i64 v1)(h2:a.eval x2=.int .i64 v2)(k:∀b w',Inv T w0 w' (bD e 1 (.slice (some ⟨b,0,none⟩) 3 3) 3 [.int .i64 v0,.int .i64 v1,.int .i64 v2]::m)->wpList P ops Q rest (a.put dst (.slice (some ⟨b,0,none⟩) 3 3)) w'):
  wpList P ops Q (⟨dst,.buildSlice t 3 #[(0,x0),(1,x1),(2,x2)],ty,pos,af,none⟩::rest) a w:=
 il hI hT DC DC (by simp[Instr.fill,h0,h1,h2,Value.cells,show Array.range 3=#[0,1,2]from by decide]) (by rfl) k
end
theorem M5(w0 pw ob ns bs)(hn:ns.length=2)(hl:bs.length+10*ns.length<=1000000000)(hI:Inv (mP pw ob bs).own w0 w0 [mP pw ob bs]):
  Calls prog 173 #[.pointer (some ⟨pw,0,none⟩),ia ns] w0 λe w'=>∃wh,e=.returned (.pointer (some ⟨pw,0,none⟩))∧
   Inv (mP pw ob bs).own w0 w' [mP pw wh (bs++ah ns)]:=by
 have hnl:ns.length=2:=hn;have Qj:=hn;have hrow:Hid ([Value.int .i64 (gi ns 0),Value.int .i64 (gi ns 1)]=ns.map (Value.int .i64)):=HD (by
  match ns,hn with
  | [x,y],_=>rfl)
 go_enter func173,ntmps173;go_wp2_with(first|(with_reducible refine rA hI Td RF RF ?_;intro b2 w hI;replace hI:=Inv.tow hI)|go_at_call 171;(with_reducible refine(kW _ pw _ _ _ _ ns bs _ (by intro w h;rw[<-hrow.out];exact jD h) Qj hl (hI.at_ aC)).mono ?_);rintro e w1 ⟨wh,rfl,hJ⟩;replace hI:=(hI.on hJ aU.here).dR;clear hJ|refine YL ?_|refine YX ?_;intro bx w hI);go_ret;exact⟨wh,rfl,hI.sub SB⟩
theorem M6(w0 pw ob ns bs)(hn:ns.length=3)(hl:bs.length+10*ns.length<=1000000000)(hI:Inv (mP pw ob bs).own w0 w0 [mP pw ob bs]):
  Calls prog 174 #[.pointer (some ⟨pw,0,none⟩),ia ns] w0 λe w'=>∃wh,e=.returned (.pointer (some ⟨pw,0,none⟩))∧
   Inv (mP pw ob bs).own w0 w' [mP pw wh (bs++ah ns)]:=by
 have hnl:ns.length=3:=hn;have Qj:=hn;have hrow:Hid ([Value.int .i64 (gi ns 0),Value.int .i64 (gi ns 1),Value.int .i64 (gi ns 2)]=ns.map (Value.int .i64)):=HD (by
  match ns,hn with
  | [x,y,z],_=>rfl)
 go_enter func174,ntmps174;go_wp2_with(first|(with_reducible refine Fj hI Td RF RF RF ?_;intro b2 w hI;replace hI:=Inv.tow hI)|go_at_call 171;(with_reducible refine(kW _ pw _ _ _ _ ns bs _ (by intro w h;rw[<-hrow.out];exact jD h) Qj hl (hI.at_ aC)).mono ?_);rintro e w1 ⟨wh,rfl,hJ⟩;replace hI:=(hI.on hJ aU.here).dR;clear hJ|refine YL ?_|refine YX ?_;intro bx w hI);go_ret;exact⟨wh,rfl,hI.sub SB⟩
theorem Zu{w b off e zs ks}(hk:ks=zs.drop off)(hl:off+ks.length<=zs.length)(h:(ib b e zs).sat w):Rd w (some ⟨b,off,none⟩) (ks.map (Value.int .i64)):=by
 intro j u hj;refine⟨b,off,rfl,?_⟩;have h1:w.heap[b]? =some (.cells (zs.map (Value.int .i64)).toArray e (0,0)):=h;rw[hk]at hj;simp only[List.map_drop,List.getElem?_drop]at hj;simp[World.cell?,h1,hj]
theorem Inv.ajG{T w0 w W y x m}(h:Inv T w0 w (W::x::y::m)):Inv T w0 w (two W y::x::m):=by
 refine h.turn (λhs z hz=>?_) ?_
 ·simp only[List.mem_cons]at hz
  rcases hz with rfl|rfl|hz
  ·exact⟨hs W SI,hs y SI⟩
  all_goals grind
 ·exact ajb
theorem IA(w0 pw ob ns bs)(hn:ns.length=7)(hl:bs.length+10*ns.length<=1000000000)(hI:Inv (mP pw ob bs).own w0 w0 [mP pw ob bs]):
  Calls prog 188 #[.pointer (some ⟨pw,0,none⟩),ia ns] w0 λe w'=>∃wh,e=.returned (.tuple #[])∧
   Inv (mP pw ob bs).own w0 w' [mP pw wh (bs++ah ns)]:=by
 have hnl:ns.length=7:=hn;obtain⟨ms,hms⟩:=EZ (ns.take 2);obtain⟨ks,hks⟩:=EZ (ns.drop 2);have hm2:ms.length=2:=by rw[hms];simp;omega
 have hk5:ks.length=5:=by rw[hks];simp;omega
 have hl1:bs.length+10*ms.length<=1000000000:=by omega
 have hl2:(bs++ah ms).length+10*ks.length<=1000000000:=by
  have:=aV ms;rw[List.length_append];omega
 have Qj:2+ks.length<=ns.length:=by omega
 have hrow2:Hid (ks=ns.drop 2):=HD hks;have hall:Hid ((bs++ah ms)++ah ks=bs++ah ns):=HD (by rw[hms,hks,List.append_assoc];congr 1;unfold ah jH;rw[<-List.flatMap_append,<-List.map_append,List.take_append_drop]);have hrow:Hid ([Value.int .i64 (gi ns 0),Value.int .i64 (gi ns 1)]=ms.map (Value.int .i64)):=HD (by
  rw[hms]
  match ns,hn with
  |x::y::rest,_=>rfl)
 clear hms hks;go_enter func188,ntmps188;go_upto_region 1 with(refine YX ?_;intro bx w hI)
 refine nL (λw=>Inv (mP pw ob bs).own w0 w [ib bx 37 ns]) mixed ?_;replace hI:=hI.drew;change o_ _ _ _ _ _ _ _ _ (World.drew _);revert hI;generalize World.drew _=w9;intro hI
 (refine aO (i:=0) (v:=?_) rfl KF KF KF (λc a w hp=>hp) ⟨by rfl,?_⟩ ?_;rotate_left;focus(intro w _;go_simp;with_reducible rfl))
 (simp only[Act.put,List.setIfInBounds_toArray,QG,QS])
 (refine aO (i:=1) (v:=?_) rfl KF KF KF (λc a w hp=>hp) ⟨by rfl,?_⟩ ?_;rotate_left;focus(intro w _;go_simp;with_reducible rfl))
 (simp only[Act.put,List.setIfInBounds_toArray,QG,QS])
 (refine aO (i:=2) (v:=.int .i64 (gi ns 0)) rfl KF KF KF (λc a w hp=>hp) ⟨by rfl,λw hC=>lC hC RF aC pz OM (by rfl)⟩ ?_)
 (simp only[Act.put,List.setIfInBounds_toArray,QG,QS])
 (refine aO (i:=3) (v:=?_) rfl KF KF KF (λc a w hp=>hp) ⟨by rfl,?_⟩ ?_;rotate_left;focus(intro w _;go_simp;with_reducible rfl))
 (simp only[Act.put,List.setIfInBounds_toArray,QG,QS])
 (refine aO (i:=4) (v:=.int .i64 (gi ns 1)) rfl KF KF KF (λc a w hp=>hp) ⟨by rfl,λw hC=>lC hC RF aC pz OM (by rfl)⟩ ?_)
 (simp only[Act.put,List.setIfInBounds_toArray,QG,QS])
 (refine aO (i:=7) (v:=?_) rfl KF KF KF (λc a w hp=>hp) ⟨by rfl,?_⟩ ?_;rotate_left;focus(intro w _;go_simp;with_reducible rfl))
 (simp only[Act.put,List.setIfInBounds_toArray,QG,QS])
 (refine aO (i:=8) (v:=?_) rfl KF KF KF (λc a w hp=>hp) ⟨by rfl,?_⟩ ?_;rotate_left;focus(intro w _;go_simp;with_reducible rfl))
 (simp only[Act.put,List.setIfInBounds_toArray,QG,QS])
 refine eH (i:=5) KF (hI.sub SB) ?_;refine bG (i:=5) (by rfl) RF ?_;go_wp2_with((with_reducible refine rA hI Td RF RF ?_;intro b2 w hI;replace hI:=Inv.tow hI));refine bY ?_
 (try(simp only[Act.put,List.setIfInBounds_toArray,QG,QS]))
 refine eH (i:=6) KF (hI.sub SB) ?_;refine bG (i:=6) (by rfl) RF ?_;go_wp2_with(go_at_call 171;(with_reducible refine(kW _ pw _ _ _ _ ms bs _ (by intro w h;rw[<-hrow.out];exact jD h) hm2 hl1 (hI.at_ aC)).mono ?_);rintro e w1 ⟨wh,rfl,hJ⟩;replace hI:=(hI.on hJ aU.here).dR;clear hJ);refine bY ?_
 (try(simp only[Act.put,List.setIfInBounds_toArray,QG,QS]))
 refine eH (i:=9) KF (hI.sub SB) ?_;refine bG (i:=9) (by rfl) RF ?_;replace hI:=Inv.ajG hI;go_wp2_with(go_at_call 171;(with_reducible refine(kW _ pw _ _ _ _ ks (bs++ah ms) _ (by intro w h;exact Zu hrow2.out Qj h) hk5 hl2 (hI.at_ aC)).mono ?_);rintro e w1 ⟨wh,rfl,hJ⟩;replace hI:=(hI.on hJ aU.here).dR;clear hJ);refine bY ?_
 (try(simp only[Act.put,List.setIfInBounds_toArray,QG,QS]))
 rw[hall.out]at hI;refine qW KF (hI.sub SB) ?_ _;have hres:∀(tm:Array Value) (w:World),(results f188 tm).run prog w=.ok (.tuple #[]) w:=λtm w=>by
  have h0:f188.results=#[]:=by kernel_rfl
  unfold results;rw[h0];simp[Sem.run_bind,Sem.run_pure,Result.andThen_ok]
 exact(show bodyPost prog f188 _ Exit.normal _ _ from⟨rfl,_,hres _ _,wh,rfl,hI.sub SB⟩)
theorem Vy(w0 pw ob ns bs)(hn:ns.length=7)(hl:bs.length+10*ns.length<=1000000000)(hI:Inv (mP pw ob bs).own w0 w0 [mP pw ob bs]):
  Calls prog 175 #[.pointer (some ⟨pw,0,none⟩),ia ns] w0 λe w'=>∃wh,e=.returned (.pointer (some ⟨pw,0,none⟩))∧
   Inv (mP pw ob bs).own w0 w' [mP pw wh (bs++ah ns)]:=by
 have hnl:ns.length=7:=hn;obtain⟨ms,hms⟩:=EZ (ns.take 2);obtain⟨ks,hks⟩:=EZ (ns.drop 2);have hm2:ms.length=2:=by rw[hms];simp;omega
 have hk5:ks.length=5:=by rw[hks];simp;omega
 have hl1:bs.length+10*ms.length<=1000000000:=by omega
 have hl2:(bs++ah ms).length+10*ks.length<=1000000000:=by
  have:=aV ms;rw[List.length_append];omega
 have Qj:2+ks.length<=ns.length:=by omega
 have hrow2:Hid (ks=ns.drop 2):=HD hks;have hall:Hid ((bs++ah ms)++ah ks=bs++ah ns):=HD (by rw[hms,hks,List.append_assoc];congr 1;unfold ah jH;rw[<-List.flatMap_append,<-List.map_append,List.take_append_drop]);have hrow:Hid ([Value.int .i64 (gi ns 0),Value.int .i64 (gi ns 1)]=ms.map (Value.int .i64)):=HD (by
  rw[hms]
  match ns,hn with
  |x::y::rest,_=>rfl)
 clear hms hks;go_enter func175,ntmps175;go_upto_region 1 with(refine YX ?_;intro bx w hI)
 refine nL (λw=>Inv (mP pw ob bs).own w0 w [ib bx 30 ns]) mixed ?_;replace hI:=hI.drew;change o_ _ _ _ _ _ _ _ _ (World.drew _);revert hI;generalize World.drew _=w9;intro hI
 (refine aO (i:=0) (v:=?_) rfl KF KF KF (λc a w hp=>hp) ⟨by rfl,?_⟩ ?_;rotate_left;focus(intro w _;go_simp;with_reducible rfl))
 (simp only[Act.put,List.setIfInBounds_toArray,QG,QS])
 (refine aO (i:=1) (v:=?_) rfl KF KF KF (λc a w hp=>hp) ⟨by rfl,?_⟩ ?_;rotate_left;focus(intro w _;go_simp;with_reducible rfl))
 (simp only[Act.put,List.setIfInBounds_toArray,QG,QS])
 (refine aO (i:=2) (v:=.int .i64 (gi ns 0)) rfl KF KF KF (λc a w hp=>hp) ⟨by rfl,λw hC=>lC hC RF aC pz OM (by rfl)⟩ ?_)
 (simp only[Act.put,List.setIfInBounds_toArray,QG,QS])
 (refine aO (i:=3) (v:=?_) rfl KF KF KF (λc a w hp=>hp) ⟨by rfl,?_⟩ ?_;rotate_left;focus(intro w _;go_simp;with_reducible rfl))
 (simp only[Act.put,List.setIfInBounds_toArray,QG,QS])
 (refine aO (i:=4) (v:=.int .i64 (gi ns 1)) rfl KF KF KF (λc a w hp=>hp) ⟨by rfl,λw hC=>lC hC RF aC pz OM (by rfl)⟩ ?_)
 (simp only[Act.put,List.setIfInBounds_toArray,QG,QS])
 (refine aO (i:=7) (v:=?_) rfl KF KF KF (λc a w hp=>hp) ⟨by rfl,?_⟩ ?_;rotate_left;focus(intro w _;go_simp;with_reducible rfl))
 (simp only[Act.put,List.setIfInBounds_toArray,QG,QS])
 (refine aO (i:=8) (v:=?_) rfl KF KF KF (λc a w hp=>hp) ⟨by rfl,?_⟩ ?_;rotate_left;focus(intro w _;go_simp;with_reducible rfl))
 (simp only[Act.put,List.setIfInBounds_toArray,QG,QS])
 refine eH (i:=5) KF (hI.sub SB) ?_;refine bG (i:=5) (by rfl) RF ?_;go_wp2_with((with_reducible refine rA hI Td RF RF ?_;intro b2 w hI;replace hI:=Inv.tow hI));refine bY ?_
 (try(simp only[Act.put,List.setIfInBounds_toArray,QG,QS]))
 refine eH (i:=6) KF (hI.sub SB) ?_;refine bG (i:=6) (by rfl) RF ?_;go_wp2_with(go_at_call 171;(with_reducible refine(kW _ pw _ _ _ _ ms bs _ (by intro w h;rw[<-hrow.out];exact jD h) hm2 hl1 (hI.at_ aC)).mono ?_);rintro e w1 ⟨wh,rfl,hJ⟩;replace hI:=(hI.on hJ aU.here).dR;clear hJ);refine bY ?_
 (try(simp only[Act.put,List.setIfInBounds_toArray,QG,QS]))
 refine eH (i:=9) KF (hI.sub SB) ?_;refine bG (i:=9) (by rfl) RF ?_;replace hI:=Inv.ajG hI;go_wp2_with(go_at_call 171;(with_reducible refine(kW _ pw _ _ _ _ ks (bs++ah ms) _ (by intro w h;exact Zu hrow2.out Qj h) hk5 hl2 (hI.at_ aC)).mono ?_);rintro e w1 ⟨wh,rfl,hJ⟩;replace hI:=(hI.on hJ aU.here).dR;clear hJ);refine bY ?_
 (try(simp only[Act.put,List.setIfInBounds_toArray,QG,QS]))
 rw[hall.out]at hI;refine eH (i:=10) KF (hI.sub SB) ?_;refine bG (i:=10) (by rfl) RF ?_
 go_wp2
 refine bY ?_
 (try(simp only[Act.put,List.setIfInBounds_toArray,QG,QS]))
 refine qW KF (hI.sub SB) ?_ _
 go_wp2
 go_ret;exact⟨wh,rfl,hI.sub SB⟩
theorem Qk{T w0 w pw bs a c x m}(h:Inv T w0 w (x::blk pw 249 [.slice a bs.length c]::bD 5 1 (.slice a bs.length c) bs.length (bs.map bv)::m)):
  Inv T w0 w (x::mP pw (Value.ownBlock (.slice a bs.length c)) bs::m):=by
 grind[Inv.turn,owned,blk,bD,mP]
theorem D_(w0 pw ob bs)(hl:bs.length<=1000000000)(hI:Inv (mP pw ob bs).own w0 w0 [mP pw ob bs]):
  Calls prog 176 #[.pointer (some ⟨pw,0,none⟩)] w0 λe w'=>∃a c wh,e=.returned (.slice a bs.length c)∧
   Inv (mP pw ob bs).own w0 w' [bD 5 1 (.slice a bs.length c) bs.length (bs.map bv),mP pw wh bs]:=by
 obtain⟨a,c,hI⟩:=M4 hI;go_enter func176,ntmps176;go_wp2_with(first|(with_reducible refine oD hI Iz ?_;intro bx w hI)|with_reducible refine aW hI RF aM sK RF ?_|(with_reducible refine aA (q:=bs.length) hI RF RF Iz (by intro r';exact aU.here) (hI.rd a_) SI (yX _) MX OM ?_;intro a1 c1 w hI;simp only[Nat.zero_add,List.nil_append]at hI;simp only[Nat.zero_add]));go_ret;exact⟨a1,c1,Value.ownBlock (.slice a bs.length c),rfl,Qk hI⟩
theorem wS{k:Nat}(h:k<256):(UInt8.ofNat k).toNat=k:=by simp_all
theorem Te:∀d p acc n cs,d+p=9->n<2^ (7*d)->(p=0∨0<n)->qL p acc (oU n++cs)=some (acc+n*2^ (7*p),cs)
 |0,p,acc,n,cs,hp,hn,h0=>by
  omega
 |d+1,p,acc,n,cs,hp,hn,h0=>by
  by_cases h1:n<128
  ·grind[wX,wS,Bl]
  ·rw[xQ OM]
   simp only[List.cons_append];have hu:(UInt8.ofNat (n%128+128)).toNat=n%128+128:=wS OM;rw[yY OM OM,hu];have e:(2:Nat) ^ (7*(d+1))=128*2^ (7*d):=by grind
   rw[Te d (p+1) _ (n/128) cs OM OM OM];have e2:(2:Nat) ^ (7*(p+1))=128*2^ (7*p):=by grind
   have e3:(n%128+128) %128=n%128:=by omega
   rw[e2,e3,Nat.add_assoc,<-Nat.mul_assoc,<-Nat.add_mul]
   grind
theorem Kl{n}(h:n<9223372036854775808)(cs):f_ (oU n++cs)=some (n,cs):=by
 simp_all[Te,f_]
theorem afr{n lim}(h:n<9223372036854775808)(hl:n<lim)(cs):iI lim (oU n++cs)=some (n,cs):=by
 grind[iI,Kl]
theorem Ql:∀ls ns cs,ls.length=ns.length->(∀(j l n:Nat),ls[j]? =some l->ns[j]? =some n->n<l)->(∀n∈ns,n<9223372036854775808)->bJ ls (jH ns++cs)=some (ns,cs)
 | [],[],cs,_,_,_=>by simp[bJ,jH]
 | [],_::_,_,h,_,_=>by grind
 |_::_,[],_,h,_,_=>by grind
 |l::ls,n::ns,cs,h,hl,hn=>by
  have e:jH (n::ns)++cs=oU n++(jH ns++cs):=by simp[jH]
  rw[e];simp only[bJ];rw[afr (hn n SI) (hl 0 l n rfl rfl)];simp only[Option.bind_some];rw[Ql ls ns cs (by grind) (λj l' n' h1 h2=>hl (j+1) l' n' (by grind) (by grind)) (λm hm=>hn m (by simp[hm]))];rfl
theorem Zv{ns n}(hn:ns.length=n)(hl:∀c∈ns,c<GX)(cs):v_ n (jH ns++cs)=some (ns,cs):=by
 grind[v_,Ql,GX]
def Fp:List Nat->List Nat->List UInt8
 | [],_=>[]
 |g::gs,cs=>oU g++((if 0<g then jH (cs.take 28)else [])++Fp gs (cs.drop 28))
def Tf:List Nat->List Nat->Prop
 | [],cs=>cs=[]
 |g::gs,cs=>g<9223372036854775808∧(cs.take 28).length=28∧(∀c∈cs.take 28,c<GX)∧(g=0->cs.take 28=List.replicate 28 0)∧Tf gs (cs.drop 28)
theorem Km:∀gs cs tl,Tf gs cs->mF gs.length (Fp gs cs++tl)=some ((gs,cs),tl)
 | [],cs,tl,h=>by
  have:cs=[]:=h;subst this;rfl
 |g::gs,cs,tl,h=>by
  obtain⟨hg,hl,hc,h0,hr⟩:=h;simp only[Fp,List.length_cons,mF,List.append_assoc];rw[Kl hg];simp only[Option.bind_some];by_cases hp:0<g
  ·simp only[hp,if_true,List.append_assoc]
   rw[Zv hl hc];simp only[Option.bind_some];rw[Km gs _ tl hr];simp
  ·simp only[hp,if_false,List.nil_append,Option.bind_some]
   rw[Km gs _ tl hr,<-h0 OM];simp
def Vz(ns:List Nat):List UInt8:=jH (ns.take 29)++Fp ((ns.drop 29).take 5) (ns.drop 34)
theorem agN{ns}(hn:ns.length=174)(h0:∀n∈ns.take 1,n<9223372036854775808)(h1:∀n∈(ns.drop 1).take 28,n<GX)(hg:Tf ((ns.drop 29).take 5) (ns.drop 34))(tl):jl (Vz ns++tl)=some (ns,tl):=by
 obtain⟨t,rest,rfl⟩:∃t rest,ns=t::rest:=by
  match ns,hn with
  |t::rest,_=>grind
 have e:Vz (t::rest)++tl=oU t++(jH (rest.take 28)++(Fp ((rest.drop 28).take 5) (rest.drop 33)++tl)):=by
  grind[Vz,jH]
 rw[e];unfold jl;rw[Kl (h0 t SI)];simp only[Option.bind_some];rw[Zv (by grind) (λc hc=>h1 c (by grind))];have hG:=Km ((rest.drop 28).take 5) (rest.drop 33) tl (by grind)
 grind[List.take_append_drop]
theorem Inv.Ea{T w0 w W y m}(h:Inv T w0 w (y::W::m)):Inv T w0 w (two W y::m):=by
 refine h.turn (λhs z hz=>?_) ?_
 ·simp only[List.mem_cons]at hz
  rcases hz with rfl|hz
  ·exact⟨hs W SI,hs y SI⟩
  grind
 ·exact ajb
theorem Fq{ns}(o n):sub ns o n=(ns.drop o).take n:=rfl
theorem VA(x y):ah (x++y)=ah x++ah y:=by simp[ah,jH]
theorem Ci(ns:List Int)(i n):ah (ns.take (i+n))=ah (ns.take i)++ah ((ns.drop i).take n):=by grind[VA]
def qj:List Int->List Int->List UInt8
 | [],_=>[]
 |g::gs,cs=>oU (u64 g)++((if 0<g then ah (cs.take 28)else [])++qj gs (cs.drop 28))
def dM(ns:List Int):List UInt8:=ah (ns.take 29)++qj ((ns.drop 29).take 5) (ns.drop 34)
theorem Fs:∀(gs cs:List Int) j g,gs[j]? =some g->qj (gs.take (j+1)) cs=qj (gs.take j) cs++(oU (u64 g)++(if 0<g then ah ((cs.drop (28*j)).take 28)else []))
 | [],_,_,_,h=>by grind
 |x::gs,cs,0,g,h=>by
  grind[qj]
 |x::gs,cs,j+1,g,h=>by
  have:=Fs gs (cs.drop 28) j g (by grind)
  grind[qj,List.drop_drop]
theorem Bt:∀gs cs,(qj gs cs).length<=290*gs.length
 | [],_=>by simp[qj]
 |g::gs,cs=>by
  have ih:=Bt gs (cs.drop 28);have hg:=aV [g]
  grind[aV,ah,jH,qj]
theorem ql{ns}(hn:ns.length=174):(dM ns).length<=1750:=by
 grind[aV,Bt,dM]
theorem M7:∀gs cs,(∀z∈gs,z<9223372036854775808)->(∀z∈cs,z<9223372036854775808)->qj (nn gs) (nn cs)=Fp gs cs
 | [],_,_,_=>rfl
 |g::gs,cs,h1,h2=>by
  have ih:=M7 gs (cs.drop 28) (λz hz=>h1 z (by simp[hz])) (λz hz=>h2 z (List.mem_of_mem_drop hz));have e1:nn (g::gs)=(g:Int)::nn gs:=rfl;have e2:(nn cs).drop 28=nn (cs.drop 28):=by simp_all[nn]
  have e3:(nn cs).take 28=nn (cs.take 28):=by simp_all[nn]
  have hg:=h1 g SI;rw[e1,qj,Fp,e2,e3,ih,Kk OM];have e4:ah (nn (cs.take 28))=jH (cs.take 28):=Fh λz hz=>h2 z (List.mem_of_mem_take hz)
  grind
theorem adw{ns}(h:∀z∈ns,z<9223372036854775808):dM (nn ns)=Vz ns:=by
 have e1:(nn ns).take 29=nn (ns.take 29):=by simp_all[nn]
 have e2:((nn ns).drop 29).take 5=nn ((ns.drop 29).take 5):=by simp_all[nn]
 have e3:(nn ns).drop 34=nn (ns.drop 34):=by simp_all[nn]
 rw[dM,Vz,e1,e2,e3,M7 _ _ (λz hz=>h z (List.mem_of_mem_drop (List.mem_of_mem_take hz))) (λz hz=>h z (List.mem_of_mem_drop hz))];congr 1;exact Fh λz hz=>h z (List.mem_of_mem_take hz)
theorem Zw(w0 pw ob ns bs)(hn:ns.length=174)(hl:bs.length<=100000000)(hI:Inv (mP pw ob bs).own w0 w0 [mP pw ob bs]):
  Calls prog 172 #[.pointer (some ⟨pw,0,none⟩),ia ns] w0 λe w'=>∃wh,e=.returned (.pointer (some ⟨pw,0,none⟩))∧
   Inv (mP pw ob bs).own w0 w' [mP pw wh (bs++dM ns)]:=by
 have hnl:ns.length=174:=hn;go_enter func172,ntmps172;have hzj:∀j,j<174->∃z:Int,ns[j]? =some z∧gi ns j=z:=λj hj=>⟨ns[j],List.getElem?_eq_getElem OM,by simp[gi,List.getElem?_eq_getElem (show j<ns.length by omega)]⟩
 have hlen:∀j,(ah (ns.take j)).length<=1750:=λj=>by
  have:=aV (ns.take j);simp only[List.length_take]at this;omega
 have hgl:∀j,(qj (((ns.drop 29).take 5).take j) (ns.drop 34)).length<=1500:=λj=>by
  have:=Bt (((ns.drop 29).take 5).take j) (ns.drop 34);simp only[List.length_take,List.length_drop]at this;omega
 obtain⟨z0,hz0',hg0'⟩:=hzj 0 OM;have hg0:=HD hg0';obtain⟨zz,Kn⟩:=EZ [z0];have hzz:Hid ([Value.int .i64 (gi ns 0)]=zz.map (Value.int .i64)):=HD (by rw[Kn,hg0'];rfl);have Zx:zz.length=1:=by rw[Kn];rfl
 obtain⟨VB,G7⟩:∃cur,Hid (cur=bs):=⟨_,HD rfl⟩;have hl0:VB.length+10*zz.length<=1000000000:=by rw[G7.out];omega
 have hne:Hid (VB++ah zz=bs++ah (ns.take (1+7*0))):=HD (by rw[G7.out,Kn,show 1+7*0=0+1 from rfl,Fg hz0'];simp[ah,jH]);rw[<-G7.out]at hI;clear hg0' hz0' Kn G7;go_upto_region 3 with(first|(with_reducible refine Pb hI (k:=?_);intro b2 w hI;replace hI:=Inv.tow hI)|go_at_call 171;refine KP hI (kW _ pw _ _ _ _ zz VB _ (by intro w h;rw[<-hzz.out];exact jD h) Zx hl0 (hI.at_ aC)) ?_;intro wh w1 hI|refine YL ?_|refine YX ?_;intro bx w hI)
 rw[hne.out]at hI;clear hne hl0 hzz Zx hg0;have Zy:∀o,o+7<=174->((ns.drop o).take 7).length=7:=λo ho=>by simp;omega
 go_loopg [6,18] 4 (λkk s6 s18 wr=>∃(j:Nat) (Bc:Option Nat),kk=4-j∧j<=4∧s18=.int .i64 j∧Inv (mP pw ob VB).own w0 wr [mP pw Bc (bs++ah (ns.take (1+7*j))),ib bx 41 ns])
 case atStart=>exact⟨0,wh,by omega,by omega,rfl,hI⟩
 case round=>
  clear hI;obtain⟨j,Bc,rfl,hj,rfl,hI⟩:=hrel;by_cases hlj:j<4
  ·obtain⟨zs,Ko⟩:∃zs,Hid (zs=(ns.drop (1+7*j)).take 7):=⟨_,HD rfl⟩
   have hzn:zs.length=7:=by rw[Ko.out];exact Zy _ OM
   have hzc:Hid (sub (sub ns 1 28) (j*7) 7=zs):=HD (by rw[Fq,Fq,Ko.out,List.drop_take,List.take_take,List.drop_drop,show 1+j*7=1+7*j by omega,show min 7 (28-j*7)=7 by omega]);have hnz:zs.length=7:=hzn;have hne:Hid ((bs++ah (ns.take (1+7*j)))++ah zs=bs++ah (ns.take (1+7*(j+1)))):=HD (by rw[Ko.out,List.append_assoc,<-Ci];rfl);have hl1:(bs++ah (ns.take (1+7*j))).length+10*zs.length<=1000000000:=by rw[List.length_append,hzn];have:=hlen (1+7*j);omega
   obtain⟨cu,hcu⟩:=EH (bs++ah (ns.take (1+7*j)));rw[hcu.out]at hI hne hl1;clear Ko hcu;go_wp2_with(first|rw[Int.toNat_natCast,hzc.out]|go_at_call 188;refine KG hI (IA _ pw _ zs cu hzn hl1 (hI.at_ aM)) ?_;intro ob2 w1 hI|refine YL ?_|refine YS ?_;intro w hI|refine YX ?_;intro bx w hI);go_roundg (4- (j+1))
   case measure=>omega
   case rel=>exact⟨j+1,ob2,by omega,by omega,by go_num,by rw[<-hne.out];exact hI.sub SB⟩
  ·obtain rfl:j=4:=by omega
   go_upto_region 8 with(refine YL ?_)
   obtain⟨cb,hcb⟩:∃cb,Hid (cb=bs++ah (ns.take 29)):=⟨_,HD rfl⟩;obtain⟨gs,hgs⟩:∃gs,Hid (gs=(ns.drop 29).take 5):=⟨_,HD rfl⟩;obtain⟨ls,hls⟩:∃ls,Hid (ls=ns.drop 34):=⟨_,HD rfl⟩;have hsub:Hid (sub ns 29 5=gs):=HD (by rw[Fq,hgs.out]);rw[hsub.out];have amt:cb.length<=110000000:=by rw[hcb.out,List.length_append];have:=hlen 29;omega
   have alz:∀j,(qj (gs.take j) ls).length<=1500:=λj=>by rw[hgs.out,hls.out];exact hgl j
   have hgn:gs.length=5:=by rw[hgs.out];simp;omega
   have amu:gs.length=5:=hgn;rw[show bs++ah (List.take (1+7*4) ns)=cb from hcb.out.symm]at hI;have hfin:Hid (bs++dM ns=cb++qj gs ls):=HD (by rw[hcb.out,hgs.out,hls.out,dM,List.append_assoc])
   go_loopg [7,8,10,27] 5 (λkk s7 s8 s10 s27 wr=>∃(j:Nat) (Bc:Option Nat),kk=5-j∧j<=5∧s27=.int .i64 j∧Inv (mP pw ob VB).own w0 wr [mP pw Bc (cb++qj (gs.take j) ls),ib bx 41 ns])
   case atStart=>exact⟨0,Bc,by omega,by omega,rfl,by simpa[qj]using hI⟩
   case round=>
    clear hI;obtain⟨j,ob3,rfl,hj,rfl,hI⟩:=hrel;by_cases hlj:j<5
    ·obtain⟨z,hz⟩:∃z,gs[j]? =some z:=⟨gs[j],List.getElem?_eq_getElem OM⟩
     have hgv:Hid (gi gs j=z):=HD (by simp[gi,hz]);have hnx:=HD (Fs gs ls j z hz);obtain⟨zz,Kn⟩:=EZ [z];have hzz:Hid ([Value.int .i64 z]=zz.map (Value.int .i64)):=HD (by rw[Kn];rfl);have Zx:zz.length=1:=by rw[Kn];rfl
     have hl2:=alz j;obtain⟨cur,G7⟩:∃cur,Hid (cur=cb++qj (gs.take j) ls):=⟨_,HD rfl⟩;have hl0:cur.length+10*zz.length<=1000000000:=by rw[G7.out,List.length_append];omega
     rw[<-G7.out]at hI;have hzw:Hid (ah zz=oU (u64 z)):=HD (by rw[Kn];simp[ah,jH]);clear Kn hz;by_cases hp:0<z
     ·have hd:decide ((0:Int) <z)=true:=by simp;omega
      go_upto_region 13 with(first|rw[Int.toNat_natCast,hgv.out]|(with_reducible refine Pb hI (k:=?_);intro b2 w hI;replace hI:=Inv.Ea hI)|go_at_call 171;refine KP hI (kW _ pw _ _ _ _ zz cur _ (by intro w h;rw[<-hzz.out];exact jD h) Zx hl0 (hI.at_ aC)) ?_;intro wh w1 hI|refine YL ?_)
      rw[hzw.out]at hI;have alA:∀i,(cur++oU (u64 z)++ah (((ls.drop (28*j)).take 28).take (7*i))).length<=200000000:=λi=>by
       have h3:=aV (((ls.drop (28*j)).take 28).take (7*i));have h4:=aV zz;rw[hzw.out]at h4;simp only[List.length_append,List.length_take,G7.out]at h3|-;omega
      have hsub2:Hid (sub ns (34+j*28) 28=(ls.drop (28*j)).take 28):=HD (by rw[Fq,hls.out,List.drop_drop];congr 3;omega);rw[if_pos hp]at hnx
      go_loopg [10,41] 4 (λkk s10 s41 wr=>∃(i:Nat) (Bc:Option Nat),kk=4-i∧i<=4∧s41=.int .i64 i∧Inv (mP pw ob VB).own w0 wr [mP pw Bc (cur++oU (u64 z)++ah (((ls.drop (28*j)).take 28).take (7*i))),ib bx 41 ns])
      case atStart=>exact⟨0,wh,by omega,by omega,rfl,by simpa[ah,jH]using hI⟩
      case round=>
       clear hI;obtain⟨i,ob4,rfl,hi,rfl,hI⟩:=hrel;by_cases hli:i<4
       ·obtain⟨zs,Ko⟩:∃zs,Hid (zs=(((ls.drop (28*j)).take 28).drop (7*i)).take 7):=⟨_,HD rfl⟩
        have ajH:zs=(ns.drop (34+28*j+7*i)).take 7:=by rw[Ko.out,hls.out,List.drop_drop,List.drop_take,List.take_take,List.drop_drop,show min 7 (28-7*i)=7 by omega]
        have hzn:zs.length=7:=by rw[ajH];exact Zy _ OM
        have hnz:zs.length=7:=hzn;clear ajH;have hzc:Hid (sub (sub ns (34+j*28) 28) (i*7) 7=zs):=HD (by rw[hsub2.out,Fq,Ko.out,Nat.mul_comm i 7]);have hne:Hid ((cur++oU (u64 z)++ah (((ls.drop (28*j)).take 28).take (7*i)))++ah zs=cur++oU (u64 z)++ah (((ls.drop (28*j)).take 28).take (7*(i+1)))):=HD (by rw[Ko.out,List.append_assoc,<-Ci];rfl);have hl1:(cur++oU (u64 z)++ah (((ls.drop (28*j)).take 28).take (7*i))).length+10*zs.length<=1000000000:=by
         have h3:=alA i;simp only[List.length_append]at h3|-;omega
        obtain⟨cu,hcu⟩:=EH (cur++oU (u64 z)++ah (((ls.drop (28*j)).take 28).take (7*i)));rw[hcu.out]at hI hne hl1;clear Ko hcu;go_wp2_with(first|rw[Int.toNat_natCast,hzc.out]|go_at_call 188;refine KG hI (IA _ pw _ zs cu hzn hl1 (hI.at_ aM)) ?_;intro ob2 w1 hI|refine YL ?_|refine YS ?_;intro w hI|refine YX ?_;intro bx w hI);go_roundg (4- (i+1))
        case measure=>omega
        case rel=>exact⟨i+1,ob2,by omega,by omega,by go_num,by rw[<-hne.out];exact hI.sub SB⟩
       ·obtain rfl:i=4:=by omega
        go_wp2_with fail;go_roundg (5- (j+1))
        case measure=>omega
        case rel=>exact⟨j+1,ob4,by omega,by omega,by go_num,by rw[G7.out,List.take_take,List.append_assoc,show min (7*4) 28=28 from rfl]at hI;rw[hnx.out,<-List.append_assoc];exact hI.sub SB⟩
     ·have hd:decide ((0:Int) <z)=false:=by simp;omega
      rw[if_neg hp,List.append_nil]at hnx;clear hp;go_wp2_with(first|rw[hgv.out]|(with_reducible refine Pb hI (k:=?_);intro b2 w hI;replace hI:=Inv.Ea hI)|go_at_call 171;refine KP hI (kW _ pw _ _ _ _ zz cur _ (by intro w h;rw[<-hzz.out];exact jD h) Zx hl0 (hI.at_ aC)) ?_;intro wh w1 hI|refine YL ?_);go_roundg (5- (j+1))
      case measure=>omega
      case rel=>exact⟨j+1,wh,by omega,by omega,by go_num,by rw[hzw.out,G7.out]at hI;rw[hnx.out,<-List.append_assoc];exact hI.sub SB⟩
    ·obtain rfl:j=5:=by omega
     rw[List.take_of_length_le OM]at hI;go_wp2_with fail;go_ret;rw[hfin.out];exact⟨_,rfl,hI.sub SB⟩
theorem ni:(prog.info? 249).map (·.zero)=some (some (.agg #[.slice none 0 0])):=by kernel_rfl
theorem nk{T w0 w pw m}(h:Inv T w0 w (blk pw 249 [.slice none 0 0]::m)):Inv T w0 w (mP pw none []::m):=by
 refine h.turn (λhs y hy=>?_) (by simp[owned,blk,mP]);rcases List.mem_cons.1 hy with rfl|hy
 ·exact⟨none,0,rfl,hs _ SI,(h.BZ 5 1).sat _ SI⟩
 grind
section
variable (w0:World)(pw:Nat)(ob:Option Nat)(x:List Int)(ns:List Int){bs:List UInt8}
theorem JO(he:x=ns)(hn:ns.length=174)(hl:bs.length<=100000000)(hI:Inv (mP pw ob bs).own w0 w0 [mP pw ob bs]):
  Calls prog 172 #[.pointer (some ⟨pw,0,none⟩),ia x] w0 λe w'=>∃wh,e=.returned (.pointer (some ⟨pw,0,none⟩))∧Inv (mP pw ob bs).own w0 w' [mP pw wh (bs++dM ns)]:=by
 grind[Zw]
theorem yU(he:x=ns)(hn:ns.length=2)(hl:bs.length+10*ns.length<=1000000000)(hI:Inv (mP pw ob bs).own w0 w0 [mP pw ob bs]):
  Calls prog 173 #[.pointer (some ⟨pw,0,none⟩),ia x] w0 λe w'=>∃wh,e=.returned (.pointer (some ⟨pw,0,none⟩))∧Inv (mP pw ob bs).own w0 w' [mP pw wh (bs++ah ns)]:=by
 grind[M5]
theorem Ed(he:x=ns)(hn:ns.length=3)(hl:bs.length+10*ns.length<=1000000000)(hI:Inv (mP pw ob bs).own w0 w0 [mP pw ob bs]):
  Calls prog 174 #[.pointer (some ⟨pw,0,none⟩),ia x] w0 λe w'=>∃wh,e=.returned (.pointer (some ⟨pw,0,none⟩))∧Inv (mP pw ob bs).own w0 w' [mP pw wh (bs++ah ns)]:=by
 grind[M6]
theorem L8(he:x=ns)(hn:ns.length=7)(hl:bs.length+10*ns.length<=1000000000)(hI:Inv (mP pw ob bs).own w0 w0 [mP pw ob bs]):
  Calls prog 175 #[.pointer (some ⟨pw,0,none⟩),ia x] w0 λe w'=>∃wh,e=.returned (.pointer (some ⟨pw,0,none⟩))∧Inv (mP pw ob bs).own w0 w' [mP pw wh (bs++ah ns)]:=by
 grind[Vy]
end
def ajI(r:List Int):List UInt8:=(ah [0]++dM r)
theorem agO(w0 w r e b c v)(nr:r.length=174)(nb:b.length=2)(nc:c.length=3)(nv:v.length=7):
  Calls prog 151 #[ia (bf 0 w r e b c v)] w0 λen w'=>∃ad cd,en=.returned (.slice ad (ah [0]++dM r).length cd)∧(ah [0]++dM r).length<=2000∧Inv [] w0 w' [bD 5 1 (.slice ad (ah [0]++dM r).length cd) (ah [0]++dM r).length ((ah [0]++dM r).map bv)]:=by
 have mr:r.length=174:=nr;have hI:=Inv.start w0;have zg:(bf 0 w r e b c v).length=189:=by simp only[bf,List.length_append,List.length_cons,List.length_nil];omega
 obtain⟨Z,hZ⟩:=EZ (bf 0 w r e b c v);rw[<-hZ]at zg|-;have kI:Hid (gi Z 0=0):=HD (by rw[hZ];exact dx);obtain⟨zs,dW⟩:=EZ ([0]:List Int);have hrow:Hid ([Value.int .i64 (gi Z 0)]=zs.map (Value.int .i64)):=HD (by rw[dW,hZ,dx];rfl);have hzl:zs.length=1:=by rw[dW];rfl
 have hl0:([]:List UInt8).length+10*zs.length<=1000000000:=by rw[hzl];decide
 have hn0:(ah zs).length<=20:=by have:=aV zs;omega
 have e1:Hid (sub Z 2 174=r):=HD (by rw[hZ];exact g_ mr);have n1:=nr;have hl1:(ah zs).length<=100000000:=by omega
 have hw1:=ql nr;have e2:=HD hn0;have n2:=hn0;have hl2:=hn0;have e3:=HD hn0;have n3:=hn0;have hl3:=hn0;have LY:(ah zs++dM r).length<=2000:=by(try simp only[List.length_append]);omega
 have hlB:(ah zs++dM r).length<=1000000000:=by omega
 have hB:Hid ((ah zs++dM r)=(ah [0]++dM r)):=HD (by rw[dW]);rw[<-hB.out];clear hZ dW hB;go_enter func151,ntmps151;go_upto_region 3 with(first|(with_reducible refine aN (z:=.agg #[.slice none 0 0]) (cs:=[.slice none 0 0]) hI ni RF ?_;intro pw w hI;replace hI:=nk hI)|refine YL ?_|refine YX ?_;intro bx w hI)
 rw[kI.out];go_upto_region 4 with(fail)
 (refine ZR [3,4,7] [0,5,6] [3,4] [0,1,2,5,6,3,4,7] (λw=>Inv [] w0 w [ib bx 143 Z]) hI ?_;intro wd hI)
 (repeat(first|refine ZS ?_|refine ZQ ?_;go_wp2_with(first|go_at_call 172;refine KG hI (JO _ pw _ _ _ (by exact e1.out) (by exact n1) (by exact hl1) (hI.at_ aC)) ?_;intro Bc w1 hI|(with_reducible refine Pb hI (k:=?_);intro b2 w hI;replace hI:=Inv.Ea hI)|go_at_call 171;refine KP hI (kW _ pw _ _ _ _ zs [] _ (by intro w h;rw[<-hrow.out];exact jD h) hzl hl0 (hI.at_ aC)) ?_;intro Bc w1 hI;(try simp only[List.nil_append]at hI)|refine YL ?_);refine ZP ?_))
 exact W5
def ajJ(w:Int)(r:List Int):List UInt8:=(ah [1,w]++dM r)
theorem agP(w0 w r e b c v)(nr:r.length=174)(nb:b.length=2)(nc:c.length=3)(nv:v.length=7):
  Calls prog 151 #[ia (bf 1 w r e b c v)] w0 λen w'=>∃ad cd,en=.returned (.slice ad (ah [1,w]++dM r).length cd)∧(ah [1,w]++dM r).length<=2000∧Inv [] w0 w' [bD 5 1 (.slice ad (ah [1,w]++dM r).length cd) (ah [1,w]++dM r).length ((ah [1,w]++dM r).map bv)]:=by
 have mr:r.length=174:=nr;have hI:=Inv.start w0;have zg:(bf 1 w r e b c v).length=189:=by simp only[bf,List.length_append,List.length_cons,List.length_nil];omega
 obtain⟨Z,hZ⟩:=EZ (bf 1 w r e b c v);rw[<-hZ]at zg|-;have kI:Hid (gi Z 0=1):=HD (by rw[hZ];exact dx);obtain⟨zs,dW⟩:=EZ ([1,w]:List Int);have hrow:Hid ([Value.int .i64 (gi Z 0),Value.int .i64 (gi Z 1)]=zs.map (Value.int .i64)):=HD (by rw[dW,hZ,dx,xz];rfl);have hzl:zs.length=2:=by rw[dW];rfl
 have hl0:([]:List UInt8).length+10*zs.length<=1000000000:=by rw[hzl];decide
 have hn0:(ah zs).length<=20:=by have:=aV zs;omega
 have e1:Hid (sub Z 2 174=r):=HD (by rw[hZ];exact g_ mr);have n1:=nr;have hl1:(ah zs).length<=100000000:=by omega
 have hw1:=ql nr;have e2:=HD hn0;have n2:=hn0;have hl2:=hn0;have e3:=HD hn0;have n3:=hn0;have hl3:=hn0;have LY:(ah zs++dM r).length<=2000:=by(try simp only[List.length_append]);omega
 have hlB:(ah zs++dM r).length<=1000000000:=by omega
 have hB:Hid ((ah zs++dM r)=(ah [1,w]++dM r)):=HD (by rw[dW]);rw[<-hB.out];clear hZ dW hB;go_enter func151,ntmps151;go_upto_region 3 with(first|(with_reducible refine aN (z:=.agg #[.slice none 0 0]) (cs:=[.slice none 0 0]) hI ni RF ?_;intro pw w hI;replace hI:=nk hI)|refine YL ?_|refine YX ?_;intro bx w hI)
 rw[kI.out];go_upto_region 6 with(fail)
 (refine ZR [5,6,9] [0,7,8] [5,6] [0,1,2,3,4,7,8,5,6,9] (λw=>Inv [] w0 w [ib bx 143 Z]) hI ?_;intro wd hI)
 (repeat(first|refine ZS ?_|refine ZQ ?_;go_wp2_with(first|go_at_call 172;refine KG hI (JO _ pw _ _ _ (by exact e1.out) (by exact n1) (by exact hl1) (hI.at_ aC)) ?_;intro Bc w1 hI|(with_reducible refine DY hI (k:=?_);intro b2 w hI;replace hI:=Inv.Ea hI)|go_at_call 171;refine KP hI (kW _ pw _ _ _ _ zs [] _ (by intro w h;rw[<-hrow.out];exact jD h) hzl hl0 (hI.at_ aC)) ?_;intro Bc w1 hI;(try simp only[List.nil_append]at hI)|refine YL ?_);refine ZP ?_))
 exact W5
def ajK(w:Int):List UInt8:=ah [2,w]
theorem agQ(w0 w r e b c v)(nr:r.length=174)(nb:b.length=2)(nc:c.length=3)(nv:v.length=7):
  Calls prog 151 #[ia (bf 2 w r e b c v)] w0 λen w'=>∃ad cd,en=.returned (.slice ad (ah [2,w]).length cd)∧(ah [2,w]).length<=2000∧Inv [] w0 w' [bD 5 1 (.slice ad (ah [2,w]).length cd) (ah [2,w]).length ((ah [2,w]).map bv)]:=by
 have hI:=Inv.start w0;have zg:(bf 2 w r e b c v).length=189:=by simp only[bf,List.length_append,List.length_cons,List.length_nil];omega
 obtain⟨Z,hZ⟩:=EZ (bf 2 w r e b c v);rw[<-hZ]at zg|-;have kI:Hid (gi Z 0=2):=HD (by rw[hZ];exact dx);obtain⟨zs,dW⟩:=EZ ([2,w]:List Int);have hrow:Hid ([Value.int .i64 (gi Z 0),Value.int .i64 (gi Z 1)]=zs.map (Value.int .i64)):=HD (by rw[dW,hZ,dx,xz];rfl);have hzl:zs.length=2:=by rw[dW];rfl
 have hl0:([]:List UInt8).length+10*zs.length<=1000000000:=by rw[hzl];decide
 have hn0:(ah zs).length<=20:=by have:=aV zs;omega
 have e1:=HD hn0;have n1:=hn0;have hl1:=hn0;have e2:=HD hn0;have n2:=hn0;have hl2:=hn0;have e3:=HD hn0;have n3:=hn0;have hl3:=hn0;have LY:(ah zs).length<=2000:=by(try simp only[List.length_append]);omega
 have hlB:(ah zs).length<=1000000000:=by omega
 have hB:Hid (ah zs=ah [2,w]):=HD (by rw[dW]);rw[<-hB.out];clear hZ dW hB;go_enter func151,ntmps151;exact W19
def ajL(e:Int)(b:List Int):List UInt8:=(ah [3,e]++ah b)
theorem agR(w0 w r e b c v)(nr:r.length=174)(nb:b.length=2)(nc:c.length=3)(nv:v.length=7):
  Calls prog 151 #[ia (bf 3 w r e b c v)] w0 λen w'=>∃ad cd,en=.returned (.slice ad (ah [3,e]++ah b).length cd)∧(ah [3,e]++ah b).length<=2000∧Inv [] w0 w' [bD 5 1 (.slice ad (ah [3,e]++ah b).length cd) (ah [3,e]++ah b).length ((ah [3,e]++ah b).map bv)]:=by
 have mb:b.length=2:=nb;have hI:=Inv.start w0;have zg:(bf 3 w r e b c v).length=189:=by simp only[bf,List.length_append,List.length_cons,List.length_nil];omega
 obtain⟨Z,hZ⟩:=EZ (bf 3 w r e b c v);rw[<-hZ]at zg|-;have kI:Hid (gi Z 0=3):=HD (by rw[hZ];exact dx);obtain⟨zs,dW⟩:=EZ ([3,e]:List Int);have hrow:Hid ([Value.int .i64 (gi Z 0),Value.int .i64 (gi Z 176)]=zs.map (Value.int .i64)):=HD (by rw[dW,hZ,dx,Hu nr];rfl);have hzl:zs.length=2:=by rw[dW];rfl
 have hl0:([]:List UInt8).length+10*zs.length<=1000000000:=by rw[hzl];decide
 have hn0:(ah zs).length<=20:=by have:=aV zs;omega
 have e1:Hid (sub Z 177 2=b):=HD (by rw[hZ];exact fJ nr mb);have n1:=nb;have hw1:=aV b;have hl1:(ah zs).length+10*b.length<=1000000000:=by(try simp only[List.length_append]);omega
 have e2:=HD hn0;have n2:=hn0;have hl2:=hn0;have e3:=HD hn0;have n3:=hn0;have hl3:=hn0;have LY:(ah zs++ah b).length<=2000:=by(try simp only[List.length_append]);omega
 have hlB:(ah zs++ah b).length<=1000000000:=by omega
 have hB:Hid ((ah zs++ah b)=(ah [3,e]++ah b)):=HD (by rw[dW]);rw[<-hB.out];clear hZ dW hB;go_enter func151,ntmps151;go_upto_region 3 with(first|(with_reducible refine aN (z:=.agg #[.slice none 0 0]) (cs:=[.slice none 0 0]) hI ni RF ?_;intro pw w hI;replace hI:=nk hI)|refine YL ?_|refine YX ?_;intro bx w hI)
 rw[kI.out];go_upto_region 10 with(fail)
 (refine ZR [5,6,9] [0,7,8] [5,6] [0,1,2,3,4,7,8,5,6,9] (λw=>Inv [] w0 w [ib bx 143 Z]) hI ?_;intro wd hI)
 exact W11
def Zz(e:Int)(b c:List Int):List UInt8:=((ah [4,e]++ah b)++ah c)
theorem agS(w0 w r e b c v)(nr:r.length=174)(nb:b.length=2)(nc:c.length=3)(nv:v.length=7):
  Calls prog 151 #[ia (bf 4 w r e b c v)] w0 λen w'=>∃ad cd,en=.returned (.slice ad ((ah [4,e]++ah b)++ah c).length cd)∧((ah [4,e]++ah b)++ah c).length<=2000∧Inv [] w0 w' [bD 5 1 (.slice ad ((ah [4,e]++ah b)++ah c).length cd) ((ah [4,e]++ah b)++ah c).length (((ah [4,e]++ah b)++ah c).map bv)]:=by
 have mb:b.length=2:=nb;have mc:c.length=3:=nc;have hI:=Inv.start w0;have zg:(bf 4 w r e b c v).length=189:=by simp only[bf,List.length_append,List.length_cons,List.length_nil];omega
 obtain⟨Z,hZ⟩:=EZ (bf 4 w r e b c v);rw[<-hZ]at zg|-;have kI:Hid (gi Z 0=4):=HD (by rw[hZ];exact dx);obtain⟨zs,dW⟩:=EZ ([4,e]:List Int);have hrow:Hid ([Value.int .i64 (gi Z 0),Value.int .i64 (gi Z 176)]=zs.map (Value.int .i64)):=HD (by rw[dW,hZ,dx,Hu nr];rfl);have hzl:zs.length=2:=by rw[dW];rfl
 have hl0:([]:List UInt8).length+10*zs.length<=1000000000:=by rw[hzl];decide
 have hn0:(ah zs).length<=20:=by have:=aV zs;omega
 have e1:Hid (sub Z 177 2=b):=HD (by rw[hZ];exact fJ nr mb);have n1:=nb;have hw1:=aV b;have hl1:(ah zs).length+10*b.length<=1000000000:=by(try simp only[List.length_append]);omega
 have e2:Hid (sub Z 179 3=c):=HD (by rw[hZ];exact jb nr mb mc);have n2:=nc;have hw2:=aV c;have hl2:(ah zs++ah b).length+10*c.length<=1000000000:=by(try simp only[List.length_append]);omega
 have e3:=HD hn0;have n3:=hn0;have hl3:=hn0;have LY:((ah zs++ah b)++ah c).length<=2000:=by(try simp only[List.length_append]);omega
 have hlB:((ah zs++ah b)++ah c).length<=1000000000:=by omega
 have hB:Hid (((ah zs++ah b)++ah c)=((ah [4,e]++ah b)++ah c)):=HD (by rw[dW]);rw[<-hB.out];clear hZ dW hB;go_enter func151,ntmps151;go_upto_region 3 with(first|(with_reducible refine aN (z:=.agg #[.slice none 0 0]) (cs:=[.slice none 0 0]) hI ni RF ?_;intro pw w hI;replace hI:=nk hI)|refine YL ?_|refine YX ?_;intro bx w hI)
 rw[kI.out];go_upto_region 12 with(fail)
 (refine ZR [5,6,9,12] [0,7,8,10,11] [5,6,9] [0,1,2,3,4,7,8,10,11,5,6,9,12] (λw=>Inv [] w0 w [ib bx 143 Z]) hI ?_;intro wd hI)
 exact W25
def ajM(v:List Int):List UInt8:=(ah [5]++ah v)
theorem agT(w0 w r e b c v)(nr:r.length=174)(nb:b.length=2)(nc:c.length=3)(nv:v.length=7):
  Calls prog 151 #[ia (bf 5 w r e b c v)] w0 λen w'=>∃ad cd,en=.returned (.slice ad (ah [5]++ah v).length cd)∧(ah [5]++ah v).length<=2000∧Inv [] w0 w' [bD 5 1 (.slice ad (ah [5]++ah v).length cd) (ah [5]++ah v).length ((ah [5]++ah v).map bv)]:=by
 have mv:v.length=7:=nv;have hI:=Inv.start w0;have zg:(bf 5 w r e b c v).length=189:=by simp only[bf,List.length_append,List.length_cons,List.length_nil];omega
 obtain⟨Z,hZ⟩:=EZ (bf 5 w r e b c v);rw[<-hZ]at zg|-;have kI:Hid (gi Z 0=5):=HD (by rw[hZ];exact dx);obtain⟨zs,dW⟩:=EZ ([5]:List Int);have hrow:Hid ([Value.int .i64 (gi Z 0)]=zs.map (Value.int .i64)):=HD (by rw[dW,hZ,dx];rfl);have hzl:zs.length=1:=by rw[dW];rfl
 have hl0:([]:List UInt8).length+10*zs.length<=1000000000:=by rw[hzl];decide
 have hn0:(ah zs).length<=20:=by have:=aV zs;omega
 have e1:Hid (sub Z 182 7=v):=HD (by rw[hZ];exact jc nr nb nc mv);have n1:=nv;have hw1:=aV v;have hl1:(ah zs).length+10*v.length<=1000000000:=by(try simp only[List.length_append]);omega
 have e2:=HD hn0;have n2:=hn0;have hl2:=hn0;have e3:=HD hn0;have n3:=hn0;have hl3:=hn0;have LY:(ah zs++ah v).length<=2000:=by(try simp only[List.length_append]);omega
 have hlB:(ah zs++ah v).length<=1000000000:=by omega
 have hB:Hid ((ah zs++ah v)=(ah [5]++ah v)):=HD (by rw[dW]);rw[<-hB.out];clear hZ dW hB;go_enter func151,ntmps151;go_upto_region 3 with(first|(with_reducible refine aN (z:=.agg #[.slice none 0 0]) (cs:=[.slice none 0 0]) hI ni RF ?_;intro pw w hI;replace hI:=nk hI)|refine YL ?_|refine YX ?_;intro bx w hI)
 rw[kI.out];go_upto_region 14 with(fail)
 (refine ZR [3,4,7] [0,5,6] [3,4] [0,1,2,5,6,3,4,7] (λw=>Inv [] w0 w [ib bx 143 Z]) hI ?_;intro wd hI)
 exact W33
def afs(w:Int)(r:List Int):List UInt8:=(ah [0,w]++dM r)
theorem agU(w0 w r n e b h c v)(nr:r.length=174)(nb:b.length=2)(nh:h.length=2)(nc:c.length=3)(nv:v.length=7):
  Calls prog 215 #[ia (aF 0 w r n e b h c v)] w0 λen w'=>∃ad cd,en=.returned (.slice ad (ah [0,w]++dM r).length cd)∧(ah [0,w]++dM r).length<=2000∧Inv [] w0 w' [bD 5 1 (.slice ad (ah [0,w]++dM r).length cd) (ah [0,w]++dM r).length ((ah [0,w]++dM r).map bv)]:=by
 have mr:r.length=174:=nr;have hI:=Inv.start w0;have zg:(aF 0 w r n e b h c v).length=192:=by simp only[aF,List.length_append,List.length_cons,List.length_nil];omega
 obtain⟨Z,hZ⟩:=EZ (aF 0 w r n e b h c v);rw[<-hZ]at zg|-;have kI:Hid (gi Z 0=0):=HD (by rw[hZ];exact aD);obtain⟨zs,dW⟩:=EZ ([0,w]:List Int);have hrow:Hid ([Value.int .i64 (gi Z 0),Value.int .i64 (gi Z 1)]=zs.map (Value.int .i64)):=HD (by rw[dW,hZ,aD,kQ];rfl);have hzl:zs.length=2:=by rw[dW];rfl
 have hl0:([]:List UInt8).length+10*zs.length<=1000000000:=by rw[hzl];decide
 have hn0:(ah zs).length<=20:=by have:=aV zs;omega
 have e1:Hid (sub Z 2 174=r):=HD (by rw[hZ];exact bZ mr);have n1:=nr;have hl1:(ah zs).length<=100000000:=by omega
 have hw1:=ql nr;have e2:=HD hn0;have n2:=hn0;have hl2:=hn0;have e3:=HD hn0;have n3:=hn0;have hl3:=hn0;have LY:(ah zs++dM r).length<=2000:=by(try simp only[List.length_append]);omega
 have hlB:(ah zs++dM r).length<=1000000000:=by omega
 have hB:Hid ((ah zs++dM r)=(ah [0,w]++dM r)):=HD (by rw[dW]);exact W7
def aft(n:Int):List UInt8:=ah [1,n]
theorem agV(w0 w r n e b h c v)(nr:r.length=174)(nb:b.length=2)(nh:h.length=2)(nc:c.length=3)(nv:v.length=7):
  Calls prog 215 #[ia (aF 1 w r n e b h c v)] w0 λen w'=>∃ad cd,en=.returned (.slice ad (ah [1,n]).length cd)∧(ah [1,n]).length<=2000∧Inv [] w0 w' [bD 5 1 (.slice ad (ah [1,n]).length cd) (ah [1,n]).length ((ah [1,n]).map bv)]:=by
 have hI:=Inv.start w0;have zg:(aF 1 w r n e b h c v).length=192:=by simp only[aF,List.length_append,List.length_cons,List.length_nil];omega
 obtain⟨Z,hZ⟩:=EZ (aF 1 w r n e b h c v);rw[<-hZ]at zg|-;have kI:Hid (gi Z 0=1):=HD (by rw[hZ];exact aD);obtain⟨zs,dW⟩:=EZ ([1,n]:List Int);have hrow:Hid ([Value.int .i64 (gi Z 0),Value.int .i64 (gi Z 176)]=zs.map (Value.int .i64)):=HD (by rw[dW,hZ,aD,Hw nr];rfl);have hzl:zs.length=2:=by rw[dW];rfl
 have hl0:([]:List UInt8).length+10*zs.length<=1000000000:=by rw[hzl];decide
 have hn0:(ah zs).length<=20:=by have:=aV zs;omega
 have e1:=HD hn0;have n1:=hn0;have hl1:=hn0;have e2:=HD hn0;have n2:=hn0;have hl2:=hn0;have e3:=HD hn0;have n3:=hn0;have hl3:=hn0;have LY:(ah zs).length<=2000:=by(try simp only[List.length_append]);omega
 have hlB:(ah zs).length<=1000000000:=by omega
 have hB:Hid (ah zs=ah [1,n]):=HD (by rw[dW]);rw[<-hB.out];clear hZ dW hB;go_enter func215,ntmps215;exact W19
def afu(w:Int)(r:List Int):List UInt8:=(ah [2,w]++dM r)
theorem agW(w0 w r n e b h c v)(nr:r.length=174)(nb:b.length=2)(nh:h.length=2)(nc:c.length=3)(nv:v.length=7):
  Calls prog 215 #[ia (aF 2 w r n e b h c v)] w0 λen w'=>∃ad cd,en=.returned (.slice ad (ah [2,w]++dM r).length cd)∧(ah [2,w]++dM r).length<=2000∧Inv [] w0 w' [bD 5 1 (.slice ad (ah [2,w]++dM r).length cd) (ah [2,w]++dM r).length ((ah [2,w]++dM r).map bv)]:=by
 have mr:r.length=174:=nr;have hI:=Inv.start w0;have zg:(aF 2 w r n e b h c v).length=192:=by simp only[aF,List.length_append,List.length_cons,List.length_nil];omega
 obtain⟨Z,hZ⟩:=EZ (aF 2 w r n e b h c v);rw[<-hZ]at zg|-;have kI:Hid (gi Z 0=2):=HD (by rw[hZ];exact aD);obtain⟨zs,dW⟩:=EZ ([2,w]:List Int);have hrow:Hid ([Value.int .i64 (gi Z 0),Value.int .i64 (gi Z 1)]=zs.map (Value.int .i64)):=HD (by rw[dW,hZ,aD,kQ];rfl);have hzl:zs.length=2:=by rw[dW];rfl
 have hl0:([]:List UInt8).length+10*zs.length<=1000000000:=by rw[hzl];decide
 have hn0:(ah zs).length<=20:=by have:=aV zs;omega
 have e1:Hid (sub Z 2 174=r):=HD (by rw[hZ];exact bZ mr);have n1:=nr;have hl1:(ah zs).length<=100000000:=by omega
 have hw1:=ql nr;have e2:=HD hn0;have n2:=hn0;have hl2:=hn0;have e3:=HD hn0;have n3:=hn0;have hl3:=hn0;have LY:(ah zs++dM r).length<=2000:=by(try simp only[List.length_append]);omega
 have hlB:(ah zs++dM r).length<=1000000000:=by omega
 have hB:Hid ((ah zs++dM r)=(ah [2,w]++dM r)):=HD (by rw[dW]);exact W7
def afv(e:Int)(b:List Int):List UInt8:=(ah [3,e]++ah b)
theorem agX(w0 w r n e b h c v)(nr:r.length=174)(nb:b.length=2)(nh:h.length=2)(nc:c.length=3)(nv:v.length=7):
  Calls prog 215 #[ia (aF 3 w r n e b h c v)] w0 λen w'=>∃ad cd,en=.returned (.slice ad (ah [3,e]++ah b).length cd)∧(ah [3,e]++ah b).length<=2000∧Inv [] w0 w' [bD 5 1 (.slice ad (ah [3,e]++ah b).length cd) (ah [3,e]++ah b).length ((ah [3,e]++ah b).map bv)]:=by
 have mb:b.length=2:=nb;have hI:=Inv.start w0;have zg:(aF 3 w r n e b h c v).length=192:=by simp only[aF,List.length_append,List.length_cons,List.length_nil];omega
 obtain⟨Z,hZ⟩:=EZ (aF 3 w r n e b h c v);rw[<-hZ]at zg|-;have kI:Hid (gi Z 0=3):=HD (by rw[hZ];exact aD);obtain⟨zs,dW⟩:=EZ ([3,e]:List Int);have hrow:Hid ([Value.int .i64 (gi Z 0),Value.int .i64 (gi Z 177)]=zs.map (Value.int .i64)):=HD (by rw[dW,hZ,aD,jw nr];rfl);have hzl:zs.length=2:=by rw[dW];rfl
 have hl0:([]:List UInt8).length+10*zs.length<=1000000000:=by rw[hzl];decide
 have hn0:(ah zs).length<=20:=by have:=aV zs;omega
 have e1:Hid (sub Z 178 2=b):=HD (by rw[hZ];exact bO nr mb);have n1:=nb;have hw1:=aV b;have hl1:(ah zs).length+10*b.length<=1000000000:=by(try simp only[List.length_append]);omega
 have e2:=HD hn0;have n2:=hn0;have hl2:=hn0;have e3:=HD hn0;have n3:=hn0;have hl3:=hn0;have LY:(ah zs++ah b).length<=2000:=by(try simp only[List.length_append]);omega
 have hlB:(ah zs++ah b).length<=1000000000:=by omega
 have hB:Hid ((ah zs++ah b)=(ah [3,e]++ah b)):=HD (by rw[dW]);exact W35
def Tg(e:Int)(b h c:List Int):List UInt8:=(((ah [4,e]++ah b)++ah h)++ah c)
theorem agY(w0 w r n e b h c v)(nr:r.length=174)(nb:b.length=2)(nh:h.length=2)(nc:c.length=3)(nv:v.length=7):
  Calls prog 215 #[ia (aF 4 w r n e b h c v)] w0 λen w'=>∃ad cd,en=.returned (.slice ad (((ah [4,e]++ah b)++ah h)++ah c).length cd)∧(((ah [4,e]++ah b)++ah h)++ah c).length<=2000∧Inv [] w0 w' [bD 5 1 (.slice ad (((ah [4,e]++ah b)++ah h)++ah c).length cd) (((ah [4,e]++ah b)++ah h)++ah c).length ((((ah [4,e]++ah b)++ah h)++ah c).map bv)]:=by
 have mb:b.length=2:=nb;have mh:h.length=2:=nh;have mc:c.length=3:=nc;have hI:=Inv.start w0;have zg:(aF 4 w r n e b h c v).length=192:=by simp only[aF,List.length_append,List.length_cons,List.length_nil];omega
 obtain⟨Z,hZ⟩:=EZ (aF 4 w r n e b h c v);rw[<-hZ]at zg|-;have kI:Hid (gi Z 0=4):=HD (by rw[hZ];exact aD);obtain⟨zs,dW⟩:=EZ ([4,e]:List Int);have hrow:Hid ([Value.int .i64 (gi Z 0),Value.int .i64 (gi Z 177)]=zs.map (Value.int .i64)):=HD (by rw[dW,hZ,aD,jw nr];rfl);have hzl:zs.length=2:=by rw[dW];rfl
 have hl0:([]:List UInt8).length+10*zs.length<=1000000000:=by rw[hzl];decide
 have hn0:(ah zs).length<=20:=by have:=aV zs;omega
 have e1:Hid (sub Z 178 2=b):=HD (by rw[hZ];exact bO nr mb);have n1:=nb;have hw1:=aV b;have hl1:(ah zs).length+10*b.length<=1000000000:=by(try simp only[List.length_append]);omega
 have e2:Hid (sub Z 180 2=h):=HD (by rw[hZ];exact eP nr mb mh);have n2:=nh;have hw2:=aV h;have hl2:(ah zs++ah b).length+10*h.length<=1000000000:=by(try simp only[List.length_append]);omega
 have e3:Hid (sub Z 182 3=c):=HD (by rw[hZ];exact dH nr mb mh mc);have n3:=nc;have hw3:=aV c;have hl3:((ah zs++ah b)++ah h).length+10*c.length<=1000000000:=by(try simp only[List.length_append]);omega
 have LY:(((ah zs++ah b)++ah h)++ah c).length<=2000:=by(try simp only[List.length_append]);omega
 have hlB:(((ah zs++ah b)++ah h)++ah c).length<=1000000000:=by omega
 have hB:Hid ((((ah zs++ah b)++ah h)++ah c)=(((ah [4,e]++ah b)++ah h)++ah c)):=HD (by rw[dW]);rw[<-hB.out];clear hZ dW hB;go_enter func215,ntmps215;go_upto_region 3 with(first|(with_reducible refine aN (z:=.agg #[.slice none 0 0]) (cs:=[.slice none 0 0]) hI ni RF ?_;intro pw w hI;replace hI:=nk hI)|refine YL ?_|refine YX ?_;intro bx w hI)
 rw[kI.out];go_upto_region 13 with(fail)
 (refine ZR [5,6,9,12,15] [0,7,8,10,11,13,14] [5,6,9,12] [0,1,2,3,4,7,8,10,11,13,14,5,6,9,12,15] (λw=>Inv [] w0 w [ib bx 158 Z]) hI ?_;intro wd hI)
 (repeat(first|refine ZS ?_|refine ZQ ?_;go_wp2_with(first|go_at_call 174;refine KG hI (Ed _ pw _ _ _ (by exact e3.out) (by exact n3) (by exact hl3) (hI.at_ aC)) ?_;intro Bc w1 hI|(with_reducible refine DY hI (k:=?_);intro b2 w hI;replace hI:=Inv.Ea hI)|go_at_call 171;refine KP hI (kW _ pw _ _ _ _ zs [] _ (by intro w h;rw[<-hrow.out];exact jD h) hzl hl0 (hI.at_ aC)) ?_;intro Bc w1 hI;(try simp only[List.nil_append]at hI)|go_at_call 173;refine KG hI (yU _ pw _ _ _ (by first|exact e1.out|exact e2.out) (by first|exact n1|exact n2) (by first|exact hl1|exact hl2) (hI.at_ aC)) ?_;intro Bc w1 hI|refine YL ?_);refine ZP ?_))
 exact W5
def Ti(e:Int)(b c:List Int):List UInt8:=((ah [5,e]++ah b)++ah c)
theorem agZ(w0 w r n e b h c v)(nr:r.length=174)(nb:b.length=2)(nh:h.length=2)(nc:c.length=3)(nv:v.length=7):
  Calls prog 215 #[ia (aF 5 w r n e b h c v)] w0 λen w'=>∃ad cd,en=.returned (.slice ad ((ah [5,e]++ah b)++ah c).length cd)∧((ah [5,e]++ah b)++ah c).length<=2000∧Inv [] w0 w' [bD 5 1 (.slice ad ((ah [5,e]++ah b)++ah c).length cd) ((ah [5,e]++ah b)++ah c).length (((ah [5,e]++ah b)++ah c).map bv)]:=by
 have mb:b.length=2:=nb;have mc:c.length=3:=nc;have hI:=Inv.start w0;have zg:(aF 5 w r n e b h c v).length=192:=by simp only[aF,List.length_append,List.length_cons,List.length_nil];omega
 obtain⟨Z,hZ⟩:=EZ (aF 5 w r n e b h c v);rw[<-hZ]at zg|-;have kI:Hid (gi Z 0=5):=HD (by rw[hZ];exact aD);obtain⟨zs,dW⟩:=EZ ([5,e]:List Int);have hrow:Hid ([Value.int .i64 (gi Z 0),Value.int .i64 (gi Z 177)]=zs.map (Value.int .i64)):=HD (by rw[dW,hZ,aD,jw nr];rfl);have hzl:zs.length=2:=by rw[dW];rfl
 have hl0:([]:List UInt8).length+10*zs.length<=1000000000:=by rw[hzl];decide
 have hn0:(ah zs).length<=20:=by have:=aV zs;omega
 have e1:Hid (sub Z 178 2=b):=HD (by rw[hZ];exact bO nr mb);have n1:=nb;have hw1:=aV b;have hl1:(ah zs).length+10*b.length<=1000000000:=by(try simp only[List.length_append]);omega
 have e2:Hid (sub Z 182 3=c):=HD (by rw[hZ];exact dH nr mb nh mc);have n2:=nc;have hw2:=aV c;have hl2:(ah zs++ah b).length+10*c.length<=1000000000:=by(try simp only[List.length_append]);omega
 have e3:=HD hn0;have n3:=hn0;have hl3:=hn0;have LY:((ah zs++ah b)++ah c).length<=2000:=by(try simp only[List.length_append]);omega
 have hlB:((ah zs++ah b)++ah c).length<=1000000000:=by omega
 have hB:Hid (((ah zs++ah b)++ah c)=((ah [5,e]++ah b)++ah c)):=HD (by rw[dW]);rw[<-hB.out];clear hZ dW hB;go_enter func215,ntmps215;go_upto_region 3 with(first|(with_reducible refine aN (z:=.agg #[.slice none 0 0]) (cs:=[.slice none 0 0]) hI ni RF ?_;intro pw w hI;replace hI:=nk hI)|refine YL ?_|refine YX ?_;intro bx w hI)
 rw[kI.out];go_upto_region 15 with(fail)
 (refine ZR [5,6,9,12] [0,7,8,10,11] [5,6,9] [0,1,2,3,4,7,8,10,11,5,6,9,12] (λw=>Inv [] w0 w [ib bx 158 Z]) hI ?_;intro wd hI)
 exact W25
def afw(e:Int)(b:List Int):List UInt8:=(ah [6,e]++ah b)
theorem ag0(w0 w r n e b h c v)(nr:r.length=174)(nb:b.length=2)(nh:h.length=2)(nc:c.length=3)(nv:v.length=7):
  Calls prog 215 #[ia (aF 6 w r n e b h c v)] w0 λen w'=>∃ad cd,en=.returned (.slice ad (ah [6,e]++ah b).length cd)∧(ah [6,e]++ah b).length<=2000∧Inv [] w0 w' [bD 5 1 (.slice ad (ah [6,e]++ah b).length cd) (ah [6,e]++ah b).length ((ah [6,e]++ah b).map bv)]:=by
 have mb:b.length=2:=nb;have hI:=Inv.start w0;have zg:(aF 6 w r n e b h c v).length=192:=by simp only[aF,List.length_append,List.length_cons,List.length_nil];omega
 obtain⟨Z,hZ⟩:=EZ (aF 6 w r n e b h c v);rw[<-hZ]at zg|-;have kI:Hid (gi Z 0=6):=HD (by rw[hZ];exact aD);obtain⟨zs,dW⟩:=EZ ([6,e]:List Int);have hrow:Hid ([Value.int .i64 (gi Z 0),Value.int .i64 (gi Z 177)]=zs.map (Value.int .i64)):=HD (by rw[dW,hZ,aD,jw nr];rfl);have hzl:zs.length=2:=by rw[dW];rfl
 have hl0:([]:List UInt8).length+10*zs.length<=1000000000:=by rw[hzl];decide
 have hn0:(ah zs).length<=20:=by have:=aV zs;omega
 have e1:Hid (sub Z 178 2=b):=HD (by rw[hZ];exact bO nr mb);have n1:=nb;have hw1:=aV b;have hl1:(ah zs).length+10*b.length<=1000000000:=by(try simp only[List.length_append]);omega
 have e2:=HD hn0;have n2:=hn0;have hl2:=hn0;have e3:=HD hn0;have n3:=hn0;have hl3:=hn0;have LY:(ah zs++ah b).length<=2000:=by(try simp only[List.length_append]);omega
 have hlB:(ah zs++ah b).length<=1000000000:=by omega
 have hB:Hid ((ah zs++ah b)=(ah [6,e]++ah b)):=HD (by rw[dW]);exact W35
def afx(v:List Int):List UInt8:=(ah [7]++ah v)
theorem ag1(w0 w r n e b h c v)(nr:r.length=174)(nb:b.length=2)(nh:h.length=2)(nc:c.length=3)(nv:v.length=7):
  Calls prog 215 #[ia (aF 7 w r n e b h c v)] w0 λen w'=>∃ad cd,en=.returned (.slice ad (ah [7]++ah v).length cd)∧(ah [7]++ah v).length<=2000∧Inv [] w0 w' [bD 5 1 (.slice ad (ah [7]++ah v).length cd) (ah [7]++ah v).length ((ah [7]++ah v).map bv)]:=by
 have mv:v.length=7:=nv;have hI:=Inv.start w0;have zg:(aF 7 w r n e b h c v).length=192:=by simp only[aF,List.length_append,List.length_cons,List.length_nil];omega
 obtain⟨Z,hZ⟩:=EZ (aF 7 w r n e b h c v);rw[<-hZ]at zg|-;have kI:Hid (gi Z 0=7):=HD (by rw[hZ];exact aD);obtain⟨zs,dW⟩:=EZ ([7]:List Int);have hrow:Hid ([Value.int .i64 (gi Z 0)]=zs.map (Value.int .i64)):=HD (by rw[dW,hZ,aD];rfl);have hzl:zs.length=1:=by rw[dW];rfl
 have hl0:([]:List UInt8).length+10*zs.length<=1000000000:=by rw[hzl];decide
 have hn0:(ah zs).length<=20:=by have:=aV zs;omega
 have e1:Hid (sub Z 185 7=v):=HD (by rw[hZ];exact dO nr nb nh nc mv);have n1:=nv;have hw1:=aV v;have hl1:(ah zs).length+10*v.length<=1000000000:=by(try simp only[List.length_append]);omega
 have e2:=HD hn0;have n2:=hn0;have hl2:=hn0;have e3:=HD hn0;have n3:=hn0;have hl3:=hn0;have LY:(ah zs++ah v).length<=2000:=by(try simp only[List.length_append]);omega
 have hlB:(ah zs++ah v).length<=1000000000:=by omega
 have hB:Hid ((ah zs++ah v)=(ah [7]++ah v)):=HD (by rw[dW]);rw[<-hB.out];clear hZ dW hB;go_enter func215,ntmps215;go_upto_region 3 with(first|(with_reducible refine aN (z:=.agg #[.slice none 0 0]) (cs:=[.slice none 0 0]) hI ni RF ?_;intro pw w hI;replace hI:=nk hI)|refine YL ?_|refine YX ?_;intro bx w hI)
 rw[kI.out];go_upto_region 17 with(fail)
 (refine ZR [3,4,7] [0,5,6] [3,4] [0,1,2,5,6,3,4,7] (λw=>Inv [] w0 w [ib bx 158 Z]) hI ?_;intro wd hI)
 exact W33
def afy(w:Int)(v:List Int):List UInt8:=(ah [8,w]++ah v)
theorem ag2(w0 w r n e b h c v)(nr:r.length=174)(nb:b.length=2)(nh:h.length=2)(nc:c.length=3)(nv:v.length=7):
  Calls prog 215 #[ia (aF 8 w r n e b h c v)] w0 λen w'=>∃ad cd,en=.returned (.slice ad (ah [8,w]++ah v).length cd)∧(ah [8,w]++ah v).length<=2000∧Inv [] w0 w' [bD 5 1 (.slice ad (ah [8,w]++ah v).length cd) (ah [8,w]++ah v).length ((ah [8,w]++ah v).map bv)]:=by
 have mv:v.length=7:=nv;have hI:=Inv.start w0;have zg:(aF 8 w r n e b h c v).length=192:=by simp only[aF,List.length_append,List.length_cons,List.length_nil];omega
 obtain⟨Z,hZ⟩:=EZ (aF 8 w r n e b h c v);rw[<-hZ]at zg|-;have kI:Hid (gi Z 0=8):=HD (by rw[hZ];exact aD);obtain⟨zs,dW⟩:=EZ ([8,w]:List Int);have hrow:Hid ([Value.int .i64 (gi Z 0),Value.int .i64 (gi Z 1)]=zs.map (Value.int .i64)):=HD (by rw[dW,hZ,aD,kQ];rfl);have hzl:zs.length=2:=by rw[dW];rfl
 have hl0:([]:List UInt8).length+10*zs.length<=1000000000:=by rw[hzl];decide
 have hn0:(ah zs).length<=20:=by have:=aV zs;omega
 have e1:Hid (sub Z 185 7=v):=HD (by rw[hZ];exact dO nr nb nh nc mv);have n1:=nv;have hw1:=aV v;have hl1:(ah zs).length+10*v.length<=1000000000:=by(try simp only[List.length_append]);omega
 have e2:=HD hn0;have n2:=hn0;have hl2:=hn0;have e3:=HD hn0;have n3:=hn0;have hl3:=hn0;have LY:(ah zs++ah v).length<=2000:=by(try simp only[List.length_append]);omega
 have hlB:(ah zs++ah v).length<=1000000000:=by omega
 have hB:Hid ((ah zs++ah v)=(ah [8,w]++ah v)):=HD (by rw[dW]);rw[<-hB.out];clear hZ dW hB;go_enter func215,ntmps215;go_upto_region 3 with(first|(with_reducible refine aN (z:=.agg #[.slice none 0 0]) (cs:=[.slice none 0 0]) hI ni RF ?_;intro pw w hI;replace hI:=nk hI)|refine YL ?_|refine YX ?_;intro bx w hI)
 rw[kI.out];go_upto_region 19 with(fail)
 (refine ZR [5,6,9] [0,7,8] [5,6] [0,1,2,3,4,7,8,5,6,9] (λw=>Inv [] w0 w [ib bx 158 Z]) hI ?_;intro wd hI)
 (repeat(first|refine ZS ?_|refine ZQ ?_;go_wp2_with(first|go_at_call 175;refine KG hI (L8 _ pw _ _ _ (by exact e1.out) (by exact n1) (by exact hl1) (hI.at_ aC)) ?_;intro Bc w1 hI|(with_reducible refine DY hI (k:=?_);intro b2 w hI;replace hI:=Inv.Ea hI)|go_at_call 171;refine KP hI (kW _ pw _ _ _ _ zs [] _ (by intro w h;rw[<-hrow.out];exact jD h) hzl hl0 (hI.at_ aC)) ?_;intro Bc w1 hI;(try simp only[List.nil_append]at hI)|refine YL ?_);refine ZP ?_))
 exact W5
def afz(w:Int)(r:List Int):List UInt8:=(ah [9,w]++dM r)
theorem ag3(w0 w r n e b h c v)(nr:r.length=174)(nb:b.length=2)(nh:h.length=2)(nc:c.length=3)(nv:v.length=7):
  Calls prog 215 #[ia (aF 9 w r n e b h c v)] w0 λen w'=>∃ad cd,en=.returned (.slice ad (ah [9,w]++dM r).length cd)∧(ah [9,w]++dM r).length<=2000∧Inv [] w0 w' [bD 5 1 (.slice ad (ah [9,w]++dM r).length cd) (ah [9,w]++dM r).length ((ah [9,w]++dM r).map bv)]:=by
 have mr:r.length=174:=nr;have hI:=Inv.start w0;have zg:(aF 9 w r n e b h c v).length=192:=by simp only[aF,List.length_append,List.length_cons,List.length_nil];omega
 obtain⟨Z,hZ⟩:=EZ (aF 9 w r n e b h c v);rw[<-hZ]at zg|-;have kI:Hid (gi Z 0=9):=HD (by rw[hZ];exact aD);obtain⟨zs,dW⟩:=EZ ([9,w]:List Int);have hrow:Hid ([Value.int .i64 (gi Z 0),Value.int .i64 (gi Z 1)]=zs.map (Value.int .i64)):=HD (by rw[dW,hZ,aD,kQ];rfl);have hzl:zs.length=2:=by rw[dW];rfl
 have hl0:([]:List UInt8).length+10*zs.length<=1000000000:=by rw[hzl];decide
 have hn0:(ah zs).length<=20:=by have:=aV zs;omega
 have e1:Hid (sub Z 2 174=r):=HD (by rw[hZ];exact bZ mr);have n1:=nr;have hl1:(ah zs).length<=100000000:=by omega
 have hw1:=ql nr;have e2:=HD hn0;have n2:=hn0;have hl2:=hn0;have e3:=HD hn0;have n3:=hn0;have hl3:=hn0;have LY:(ah zs++dM r).length<=2000:=by(try simp only[List.length_append]);omega
 have hlB:(ah zs++dM r).length<=1000000000:=by omega
 have hB:Hid ((ah zs++dM r)=(ah [9,w]++dM r)):=HD (by rw[dW]);exact W7
