/- Contracts of functions. No condition. -/
import Derived.Test.YtdakkaapokhnnaaGreatDoorZ35
namespace Go.Proofs.YtdakkaapokhnnaaGreatDoor
open Go.RowKit Go.Proofs.Tryz
set_option maxRecDepth 100000
set_option maxHeartbeats 6400000
set_option linter.all false
theorem RP:(Jw (nA C0 uP).1).take 24=[109,97,99,104,105,110,101,32,48,32,117,112,32,49,32,49,32,48,32,49,32,50,10,109]:=by kernel_rfl
theorem WK:40< (Jw (nA C0 uP).1).length:=Nat.le_of_ble_eq_true KF
theorem RQ{w0 g og}(hg:w0.heap[g]? =some og)(hT:Jn g og):Inv [g] w0 w0 [gU g og]:=
 ⟨rfl,rfl,rfl,Nat.le_refl _,λ_ _ _=>rfl,λr hr=>by obtain rfl:=List.mem_singleton.1 hr;exact⟨hg,hT⟩,λk hk=>by
  grind[owned,gU],by simp[owned,gU]⟩
theorem u6{w0 w g og m}(hg:w0.heap[g]? =some og)(hI:Inv [g] w0 w m)(hm:gU g og∈m):Below w0.heap.size w0 w:=
 ⟨hI.os,hI.tape,hI.output,hI.size,λk hk=>by
  by_cases h:k=g
  ·subst h;exact(hI.sat _ hm).1.trans hg.symm
  grind[Inv.old]⟩
section
variable (w0:World)(g:Nat)(og:Obj)(hI:Inv (gU g og).own w0 w0 [gU g og])
include hI
theorem Dc:Calls prog 8 #[] w0 λe w'=>e=.returned (.bool true)∧Inv (gU g og).own w0 w' [gU g og]:=by
 generalize hT:(gU g og).own=T at hI|-;clear hT;obtain⟨l,hl⟩:∃l,Hid (l=Jw (nA C0 uP).1):=⟨_,HD rfl⟩;have h1:40<l.length:=hl.out▸WK;have h2:=hl.out▸RP;go_enter func8,ntmps8;go_wp2_with(first|with_reducible refine aiw (k:=?_)|(with_reducible refine akD hI (zs:=uP) RF mD ?_);intro b1 w hI|go_at_call 25;(with_reducible refine(abV _ b1 (hI.at_ aC)).mono ?_);rintro e w1 ⟨ae,ce,rfl,hJ⟩;replace hI:=(hI.on hJ jR).eX;clear hJ|go_at_call 24;refine KC jR hI (aiA _ ae ce g og (hI.at_ aC)) ?_;intro w1 hI;(rw[<-hl.out])|refine YL ?_);have h3:(({data:=l.toArray}:ByteArray).extract 0 24).toList=[109,97,99,104,105,110,101,32,48,32,117,112,32,49,32,49,32,48,32,49,32,50,10,109]:=by
  rw[Lib.toList_data,Lib.extract_eq];simpa using h2
 rw[h3];go_ret;exact⟨rfl,hI⟩
end
theorem uE.below{w w0 a len k row}(h:uE w0 a len k row)(hb:Below w0.heap.size w0 w):uE w a len k row:=
 ⟨h.reach,λi hi=>⟨(h.row i hi).1,(h.row i hi).2.1,by
  obtain⟨b,off,h1,h2⟩:=(h.row i hi).2.2;exact⟨b,off,h1,λj hj=>(hb.cell (World.block_lt_of_cell? _ _ (h2 j hj))).trans (h2 j hj)⟩⟩⟩
def fI(len:Nat)(row:Nat->List Int):List (List Int):=(List.range len).map row
theorem yj(len row):(fI len row).length=len:=by simp[fI]
theorem zD(len row):fI (len+1) row=fI len row++[row len]:=by simp[fI,List.range_succ]
theorem BN(C l z):kZ C (l++[z])=(nA (kZ C l) z).1:=by simp[kZ]
section
variable (w0:World)(a:Option Addr)(len c:Nat)
theorem De:Calls prog 9 #[.slice a len c] w0 λe w'=>e=.returned (.bool (decide ((len:Int)<=1200)))∧Below w0.heap.size w0 w':=by
 have hI:=Inv.start w0;go_enter func9,ntmps9;exact W97
variable (row:Nat->List Int)(h:uE w0 a len 11 row)(hlen:len<=1200)
include h hlen
theorem aiB:Calls prog 11 #[.slice a len c] w0 λe w'=>∃X Y,e=.returned (.pointer (some ⟨X.cb,0,none⟩))∧Inv [] w0 w' [bF X Y (kZ C0 (fI len row))]:=by
 have hI:=Inv.start w0;have l0:=h.reach;go_enter func11,ntmps11;go_wp2_with(go_at_call 18;(with_reducible refine(Uc _).mono ?_);rintro e w1 ⟨X,Y,rfl,hJ⟩;replace hI:=hI.seq hJ;clear hJ;simp only[List.append_nil]at hI)
 go_loopg [9] len (λkk s9 wr=>∃(k:Nat) (Y:CY),kk=len-k∧k<=len∧s9=.int .i64 (k:Int)∧Inv [] w0 wr [bF X Y (kZ C0 (fI k row))])
 case atStart=>exact⟨0,Y,rfl,by omega,rfl,hI⟩
 case round=>
  clear hI;obtain⟨k,Y,rfl,hk,rfl,hI⟩:=hrel;by_cases hlk:k<len
  ·obtain⟨hdl,abX,bq,off,rfl,hcell⟩:=h.row k hlk
   have abY:((row k).map (Value.int .i64)).length=11:=by simpa using hdl
   have hagg:gm prog 50 ((row k).map (Value.int .i64)).length:=by rw[abY];exact bP.out (t:=50)
   have hci:Hid (CI k (kZ C0 (fI k row))):=HD (by
    have:=Gr (fI k row) (C:=C0) (n:=0) (λz hz=>by
     obtain⟨j,hj,rfl⟩:=List.mem_map.1 hz;exact(h.row j (by have:=List.mem_range.1 hj;omega)).1) zx
    rw[yj]at this;simpa using this)
   have hCk:Ot (kZ C0 (fI k row)):=hci.out.ok OM;have hnx:Hid (kZ C0 (fI (k+1) row)=(nA (kZ C0 (fI k row)) (row k)).1):=HD (by rw[zD,BN]);clear h;generalize kZ C0 (fI k row)=C at*;generalize row k=d at*;obtain⟨D,hD⟩:∃D,Hid (D=(nA C d).1):=⟨_,HD rfl⟩;have hnx2:Hid (kZ C0 (fI (k+1) row)=D):=HD (hnx.out.trans hD.out.symm);clear hnx;go_wp2_with(first|with_reducible refine qD hI RF hcell SI (by with_unfolding_all exact hagg) ?_|(with_reducible refine JJ (vs:=d) hI RF RF jR hdl (ag _) ?_);intro w hI|with_reducible refine LU (zs:=d) hI (hl:=hdl) (k:=?_)|go_at_call 19;refine KH hI (aeV _ X Y C d D hdl abX hCk hD.out (hI.at_ aM)) ?_;intro Y' v w1 hI|refine YX ?_;intro bx w hI);go_roundg (len- (k+1))
   case measure=>omega
   case rel=>exact⟨k+1,Y',rfl,by omega,rfl,by rw[hnx2.out];exact hI.tl⟩
  ·obtain rfl:k=len:=by omega
   go_wp2_with(fail);go_ret;exact⟨X,Y,rfl,hI⟩
end
theorem aeW{w0 a len row}(h:uE w0 a len 11 row):CI len (kZ C0 (fI len row)):=by
 have:=Gr (fI len row) (C:=C0) (n:=0) (λz hz=>by
  obtain⟨j,hj,rfl⟩:=List.mem_map.1 hz
  grind[uE.row]) zx
 grind[yj]
