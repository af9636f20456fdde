/- The given card of WholeLost is proved. No condition. -/
import Derived.Test.YtdakkaapokhnnaaGreatDoorCards
import Derived.Test.YtdakkaapokhnnaaGreatDoorTie
import Derived.Test.YtdakkaapokhnnaaGreatDoorZ31
namespace Go.Proofs.YtdakkaapokhnnaaGreatDoor
open Go.RowKit Go.Proofs.Tryz
set_option maxRecDepth 100000
set_option maxHeartbeats 6400000
set_option linter.all false
section
open A (QE jJ bu pF)
section
variable (w0:World)(X:CX)(Y:CY)(C:CS)(hI:Inv (bg X Y C).own w0 w0 [bg X Y C])
include hI
def o_(B:Nat->List (List UInt8)):Nat:=((A.gV 25).map λi=>(B i).length).sum
omit hI in
theorem abK(hB:∀i,(Y.q i).map (λx=>x.2.2)=C.B i):pF Y.q 25=o_ C.B:=by
 unfold A.pF o_;congr 1;refine List.map_congr_left (λi _=>?_);rw[<-hB i,List.length_map]
theorem abL(hN:∀i,(C.B i).length<=8):
  Calls prog 22 #[.pointer (some ⟨X.cb,0,none⟩)] w0 λe w'=>e=.returned (.int .i64 (o_ C.B))∧Inv (bg X Y C).own w0 w' [bg X Y C]:=by
 have hB:=tF hI aA;have h8:Hid (∀i∈bu,(Y.q i).length<=8):=HD (λi _=>by have:=hN i;rw[<-hB i,List.length_map]at this;exact this);have hl:=abK (Y:=Y) (C:=C) hB;rw[<-hl];clear hl hB hN;go_enter func22,ntmps22;go_wp2_with(first|with_reducible refine au (dV hI RF aA aO.out (gH _ _ _)) ?_|go_at_call 49;refine KD hI (A.Z8 _ X.p X.pb X.c Y.q h8.out (dm hI aA)) ?_;intro w1 hI);go_ret;exact⟨rfl,hI⟩
end
end
def uz(i j:Nat):List Int:=[6,(i:Int),(j:Int),0,0,0,0,0,0,0,0]
def lsB(B:Nat->List (List UInt8))(n:Nat):Nat->List (List UInt8):=λk=>if k<n∧k%6≠0 then(B k).tail else B k
def wB(C:CS)(B:Nat->List (List UInt8)):CS:={C with B:=B}
theorem ahn(B:Nat->List (List UInt8)):lsB B 0=B:=by funext k;unfold lsB;rw[if_neg OM]
theorem LX(B:Nat->List (List UInt8)){n:Nat}(h:n%6=0∨B n=[]):lsB B (n+1)=lsB B n:=by
 funext k;dsimp only[lsB];by_cases hk:k=n
 ·subst hk
  rcases h with h|h
  ·rw[if_neg OM,if_neg OM]
  ·rw[h];simp
 ·exact afN
theorem Yo(B:Nat->List (List UInt8)){n:Nat}(h:n%6≠0):lsB B (n+1)=gL (lsB B n) n (B n).tail:=by
 funext k;dsimp only[lsB,gL];by_cases hk:k=n
 ·subst hk;rw[if_pos OM,if_pos rfl]
 ·rw[if_neg hk]
  exact afN
theorem OZ(C:CS)(f t:Nat)(b:List UInt8):(o9 C true f t b).1=C:=by
 unfold o9;cases A.dZ (UInt8.ofNat f) (UInt8.ofNat t) b with
 |none=>rfl
 |some bs=>simp
theorem abM(C:CS)(B:Nat->List (List UInt8)){i j:Nat}(hi:i<5)(hj:j<5):(oD (wB C (lsB B (i*5+j))) (uz i j)).1=wB C (lsB B (i*5+j+1)):=by
 have g0:gi (uz i j) 0=6:=rfl;have g1:gi (uz i j) 1=(i:Int):=rfl;have g2:gi (uz i j) 2=(j:Int):=rfl;have g4:gi (uz i j) 4=0:=rfl;unfold oD;rw[g0,g1,g2,g4,if_neg OM];dsimp only;rw[if_neg OM,if_pos OM];by_cases hij:i=j
 ·subst hij
  rw[if_neg OM,LX B (.inl OM)]
 ·rw[if_pos OM]
  have hk:(wB C (lsB B (i*5+j))).B (i*5+j)=B (i*5+j):=by
   show lsB B (i*5+j) (i*5+j)=_;unfold lsB;rw[if_neg OM]
  have e1:(i:Int).toNat=i:=by omega
  have e2:(j:Int).toNat=j:=by omega
  rw[e1,e2];unfold wU;rw[hk];cases hb:B (i*5+j)with
  |nil=>
   dsimp only;rw[LX B (.inr hb)]
  |cons b0 bt=>
   dsimp only;rw[if_neg OM];have e3:((max (0:Int) 0) % ((bt.length+1:Nat):Int)).toNat=0:=by simp
   rw[e3];show(o9 {wB C (lsB B (i*5+j))with B:=gL (lsB B (i*5+j)) (i*5+j) (bt++[])} (decide ((6:Int)=6)) i j b0).1=_;rw[show decide ((6:Int)=6)=true from rfl,OZ,List.append_nil,Yo B OM,hb];rfl
theorem abN(i j:Nat)(hi:i<5)(hj:j<5)(k:Nat):-9223372036854775808<=gi (uz i j) k∧gi (uz i j) k<=9223372036854775807:=by
 rcases Nat.lt_or_ge k 11 with h|h
 ·match k,h with
  |0,_=>exact(show-9223372036854775808<=(6:Int)∧(6:Int)<=9223372036854775807 by decide)
  |1,_=>exact(show-9223372036854775808<=(i:Int)∧(i:Int)<=9223372036854775807 by omega)
  |2,_=>exact(show-9223372036854775808<=(j:Int)∧(j:Int)<=9223372036854775807 by omega)
  |3,_|4,_|5,_|6,_|7,_|8,_|9,_|10,_=>exact(show-9223372036854775808<=(0:Int)∧(0:Int)<=9223372036854775807 by decide)
 ·have:gi (uz i j) k=0:=by
   unfold gi;rw[List.getD_eq_getElem?_getD,List.getElem?_eq_none (by show 11<=k;exact h)];rfl
  omega
theorem LY(f:Nat->Nat):∀l:List Nat,(l.map λk=>f k-1).sum<=(l.map f).sum∧(0< (l.map f).sum->(l.map λk=>f k-1).sum < (l.map f).sum)
 | []=>by simp
 |k::l=>by
  have:=LY f l;simp only[List.map_cons,List.sum_cons];omega
theorem abO{B:Nat->List (List UInt8)}(h:0<o_ B):o_ (lsB B 25) <o_ B:=by
 unfold o_ at*;have e:(A.gV 25).map (λi=>(lsB B 25 i).length)=(A.gV 25).map (λi=>(B i).length -1):=by
  refine List.map_congr_left λk hk=>?_
  have h25:∀k∈A.gV 25,k<25∧k%6≠0:=by decide
  unfold lsB;rw[if_pos (h25 k hk),List.length_tail]
 rw[e];exact(LY (λi=>(B i).length) _).2 h
theorem Yq{B:Nat->List (List UInt8)}(h:Qq B)(n:Nat):Qq (lsB B n):=λk=>by
 unfold lsB;split
 ·exact⟨by rw[List.length_tail];have:=(h k).1;omega,λb hb=>(h k).2 b (List.mem_of_mem_tail hb)⟩
 ·exact h k
theorem Tw(S:RS)(B:Nat->List (List UInt8))(x:Rec):qC {S with B:=B} x={qC S x with B:=B}:=by cases x<;>rfl
theorem GU(B:Nat->List (List UInt8)):∀(l:List (List UInt8)) (S:RS),fM {S with B:=B} l=(fM S l).map λS=>{S with B:=B}
 | [],S=>rfl
 |b::l,S=>by
  unfold fM;cases Kq b with
  |none=>rfl
  |some x=>simp only[Option.bind_some];rw[Tw,GU B l]
theorem abP(D:DS)(B B':Nat->List (List UInt8)):qI D B'=(qI D B).map λS=>{S with B:=B'}:=by
 unfold qI jq;rcases dZ (qH D)with⟨o,D',e⟩
 cases o with
 |none=>rfl
 |some p=>
  obtain⟨bs,cnt,used⟩:=p;dsimp only;rw[show si D' cnt used B'={si D' cnt used B with B:=B'}from rfl,GU];cases fM (si D' cnt used B) bs<;>rfl
theorem Qz(S:RS)(B:Nat->List (List UInt8))(bk:List Int):∀j,ou {S with B:=B} bk j=ou S bk j
 |0=>rfl
 |j+1=>by rw[ou,ou,Qz S B bk j]
theorem aiU(o:Option RS)(B:Nat->List (List UInt8))(bk:List Int):Xq (o.map λS=>{S with B:=B}) bk=Xq o bk:=by
 cases o with
 |none=>rfl
 |some S=>exact Qz S B bk 5
theorem aho(C:CS)(B:Nat->List (List UInt8))(i:Nat):MF (wB C B) i=MF C i∨MF (wB C B) i=(MF C i).map λS=>{S with B:=B}:=by
 unfold MF;have hu:pM (wB C B) i=pM C i:=rfl;rw[hu];cases pM C i
 ·exact .inr (abP _ _ _)
 ·exact .inl rfl
theorem abQ(C:CS)(B:Nat->List (List UInt8)):nJ (wB C B)=nJ C:=by
 have:∀j,lh (wB C B) j=lh C j:=by
  intro j
  induction j with
  |zero=>rfl
  |succ j ih=>
   rw[lh,lh,ih];rcases aho C B j with h|h<;>rw[h]
   rw[aiU]
 exact this 5
theorem afm(C:CS)(B:Nat->List (List UInt8)):qJ (wB C B)=qJ C:=by
 have:∀j,ky (wB C B) j=ky C j:=by
  intro j
  induction j with
  |zero=>rfl
  |succ j ih=>
   rw[ky,ky,ih];rcases aho C B j with h|h<;>rw[h]
   cases MF C j<;>rfl
 unfold qJ;rw[this 5]
theorem acE(w0:World)(b e:Nat)(m:List Int)(zF:m.length=870)(hI:Inv (ib b e m).own w0 w0 [ib b e m])(who:Int){r:List Int}(hr:r=C.rowOf m who):Calls prog 23 #[.pointer (some ⟨b,0,none⟩),.int .i64 who] w0 λen w'=>en=.returned (ia r)∧Inv (ib b e m).own w0 w' [ib b e m]:=by
 rw[hr];rw[<-zn]at hI|-;exact C.VS w0 b 0 e [] [] m zF rfl hI who
theorem aiV(m:List Int)(who:Int)(h:m.length=870):∃r,Hid (r=C.rowOf m who)∧r.length=174:=⟨_,HD rfl,C.j_ m who h⟩
section
variable {n:Nat}(w0:World)(X:CX)(Y:CY)(C:CS)(B:Nat->List (List UInt8))(hC:CI n (wB C B))(hI:Inv (bg X Y (wB C B)).own w0 w0 [bg X Y (wB C B)])
include hC hI
theorem IY{k:Nat}(hk:k=o_ B):Calls prog 22 #[.pointer (some ⟨X.cb,0,none⟩)] w0 λe w'=>e=.returned (.int .i64 (k:Int))∧Inv (bg X Y (wB C B)).own w0 w' [bg X Y (wB C B)]:=by
 rw[hk];exact abL w0 X Y (wB C B) hI (λi=>(hC.net i).1)
theorem abR{tt:List Int}(ht:tt=nJ C):Calls prog 21 #[.pointer (some ⟨X.cb,0,none⟩)] w0 λe w'=>∃b,e=.returned (.pointer (some ⟨b,0,none⟩))∧Inv (bg X Y (wB C B)).own w0 w' [ib b 96 tt,bg X Y (wB C B)]:=by
 subst ht;rw[<-abQ C B];exact BF w0 X Y (wB C B) (λi hi S hS=>(GM hC hi hS).len) hI
theorem afn{lv:List Int}(hl:lv=qJ C):Calls prog 12 #[.pointer (some ⟨X.cb,0,none⟩)] w0 λe w'=>e=.returned (ia lv)∧Inv (bg X Y (wB C B)).own w0 w' [bg X Y (wB C B)]:=by
 subst hl;rw[<-afm C B];exact Ou w0 X Y (wB C B) (λi hi S hS=>(GM hC hi hS).len) hI
end
theorem afo{n:Nat}(w0:World)(X:CX)(Y:CY)(C:CS)(B:Nat->List (List UInt8))(i j:Nat)(hi:i<5)(hj:j<5)(hn:n<=1200)(hC:CI n (wB C B))(hI:Inv (bg X Y (wB C (lsB B (i*5+j)))).own w0 w0 [bg X Y (wB C (lsB B (i*5+j)))]):
  Calls prog 19 #[.pointer (some ⟨X.cb,0,none⟩),ia [6,(i:Int),(j:Int),0,0,0,0,0,0,0,0]] w0 λe w'=>∃Y' v,e=.returned (.int .i64 v)∧Inv (bg X Y (wB C (lsB B (i*5+j)))).own w0 w' [bg X Y' (wB C (lsB B (i*5+j+1)))]:=
 afj w0 X Y (wB C (lsB B (i*5+j))) (uz i j) _ rfl (abN i j hi hj) (CI.ok (abE (B:=lsB B (i*5+j)) hC (Yq hC.net _)) OM) (abM C B hi hj).symm hI
theorem ahp{n:Nat}{C:CS}{B:Nat->List (List UInt8)}(hC:CI n (wB C B))(k:Nat):CI n (wB C (lsB B k)):=abE (B:=lsB B k) hC (Yq hC.net _)
section
variable (w0:World)(a:Option Addr)(len c:Nat)(row:Nat->List Int)(h:wR w0 a len 11 row)(g:Nat)(og:Obj)(hg:w0.heap[g]? =some og)(hT:Ky g og)
include h hg hT
theorem Tx:Calls prog 7 #[.slice a len c] w0 λe w'=>e=.returned (.bool true)∧Below w0.heap.size w0 w':=by
 have hI:=Ym hg hT;by_cases hlen:len<=1200
 ·obtain⟨C,hC⟩:∃C,Hid (C=yt C0 (nO len row)):=⟨_,HD rfl⟩
  have LU:Hid (CI len C):=HD (hC.out▸Qy h);obtain⟨tt,htt⟩:∃tt,Hid (tt=nJ C):=⟨_,HD rfl⟩;obtain⟨lv,hll⟩:∃lv,Hid (lv=qJ C):=⟨_,HD rfl⟩;have hM:∀i,i<5->∀S,MF C i=some S->dB S:=λi hi S hS=>(GM LU.out hi hS).len
  have htl:Hid (tt.length=870):=HD (htt.out▸(LQ LU.out).1);have hlv:Hid (lv.length=7):=HD (hll.out▸(Qw LU.out).1);have hd:decide ((len:Int)<=1200)=true:=by simp;omega
  go_enter func7,ntmps7;go_wp2_with(first|go_at_call 8;refine KI hI (BK _ g og (hI.at_ aA)) ?_;intro w1 hI|go_at_call 9;(with_reducible refine(BL _ a len c).mono ?_);rintro e w1 ⟨rfl,hJ⟩;replace hI:=hI.call hJ;clear hJ|go_at_call 11;(with_reducible refine(Yn _ a len c row (h.below (Bu hg hI aA)) hlen).mono ?_);rintro e w1 ⟨X,Y,rfl,hJ⟩;(rw[<-hC.out]at hJ);replace hI:=hI.seq hJ;clear hJ;simp only[List.cons_append,List.nil_append]at hI|go_at_call 21;(with_reducible refine(BF _ X Y C hM (hI.at_ aA)).mono ?_);rintro e w1 ⟨bt,rfl,hJ⟩;(rw[<-htt.out]at hJ);replace hI:=hI.Ml hJ jy;clear hJ|go_at_call 12;(with_reducible refine(Ou _ X Y C hM (hI.at_ aM)).mono ?_);rintro e w1 ⟨rfl,hJ⟩;(rw[<-hll.out]);replace hI:=hI.on hJ iR;clear hJ|(with_reducible refine Cb hI (k:=?_));intro bl w hI|(with_reducible refine Mq (vs:=lv) hI RF RF jy hlv.out (aa _) ?_);intro w hI);go_wp2_with fail
  (try simp only[QN])
  replace LU:Hid (CI len (wB C C.B)):=LU;replace hI:Inv [g] w0 w [ib bl 30 lv,ib bt 96 tt,bg X Y (wB C C.B),iw g og]:=hI;obtain⟨n0,hn0⟩:∃n0,Hid (n0=o_ C.B):=⟨_,HD rfl⟩
  go_loopg [6] n0 (λk1 s6 wr=>∃(kk:Nat) (B:Nat->List (List UInt8)) (Y:CY),kk=k1∧Hid (kk=o_ B)∧Hid (CI len (wB C B))∧Inv [g] w0 wr [ib bl 30 lv,ib bt 96 tt,bg X Y (wB C B),iw g og])
  case atStart=>exact⟨n0,C.B,Y,rfl,hn0,LU,hI⟩
  case round=>
   clear hI LU;obtain⟨kk,B,Y,rfl,hkk,LU,hI⟩:=hrel;clear hn0;by_cases hw:0<kk
   ·obtain⟨q2,hq2⟩:∃q2,Hid (q2=o_ (lsB B 25)∧q2<kk):=⟨_,HD ⟨rfl,by have:=abO (hkk.out▸hw);rw[hkk.out];exact this⟩⟩
    have hw2:decide ((kk:Int) >0)=true:=by simp;omega
    go_wp2_with(go_at_call 22;refine KI hI (IY _ X Y C B LU.out (hI.at_ aX) hkk.out) ?_;intro w1 hI)
    (try simp only[QN])
    replace hI:Inv [g] w0 w1 [ib bl 30 lv,ib bt 96 tt,bg X Y (wB C B),iw g og]:=hI;rw[<-ahn B]at hI
    go_loopg [6,24] 5 (λk2 s6 s24 wr=>∃(i:Nat) (Y:CY),k2=5-i∧i<=5∧s24=.int .i64 (i:Int)∧Inv [g] w0 wr [ib bl 30 lv,ib bt 96 tt,bg X Y (wB C (lsB B (i*5))),iw g og])
    case atStart=>exact⟨0,Y,rfl,by omega,rfl,hI⟩
    case round=>
     clear hI;obtain⟨i,Y,rfl,hi,rfl,hI⟩:=hrel;by_cases hi5:i<5
     ·have hd5:decide ((i:Int) <5)=true:=by simp;omega
      go_wp2_with(fail)
      go_loopg [7,27] 5 (λk3 s7 s27 wr=>∃(j:Nat) (Y:CY),k3=5-j∧j<=5∧s27=.int .i64 (j:Int)∧Inv [g] w0 wr [ib bl 30 lv,ib bt 96 tt,bg X Y (wB C (lsB B (i*5+j))),iw g og])
      case atStart=>exact⟨0,Y,rfl,by omega,rfl,by rw[Nat.add_zero];exact hI⟩
      case round=>
       clear hI;obtain⟨j,Y,rfl,hj,rfl,hI⟩:=hrel;by_cases MK:j<5
       ·have hd6:decide ((j:Int) <5)=true:=by simp;omega
        go_wp2_with(first|with_reducible refine afg (k:=?_)|go_at_call 19;refine KH hI (afo _ X Y C B i j hi5 MK hlen LU.out (hI.at_ aX)) ?_;intro Y' v w1 hI);go_roundg (5- (j+1))
        case measure=>omega
        case rel=>exact⟨j+1,Y',rfl,by omega,rfl,by rw[<-Nat.add_assoc];exact hI⟩
       ·obtain rfl:j=5:=by omega
        go_wp2_with(fail);go_roundg (5- (i+1))
        case measure=>omega
        case rel=>exact⟨i+1,Y,rfl,by omega,rfl,by rw[show(i+1)*5=i*5+5 by omega];exact hI⟩
     ·obtain rfl:i=5:=by omega
      go_wp2_with(fail);go_roundg q2
      case measure=>exact hq2.out.2
      case rel=>exact⟨q2,_,Y,rfl,HD hq2.out.1,HD (ahp LU.out 25),hI⟩
   ·obtain rfl:kk=0:=by omega
    go_wp2_with(first|go_at_call 22;refine KI hI (IY _ X Y C B LU.out (hI.at_ aX) hkk.out) ?_;intro w1 hI|go_at_call 21;(with_reducible refine(abR _ X Y C B LU.out (hI.at_ aX) htt.out).mono ?_);rintro e w1 ⟨b2,rfl,hJ⟩;replace hI:=hI.Ml hJ pg;clear hJ)
    (try simp only[QN])
    have hk0:Hid (Hid (o_ B=0)):=HD (HD hkk.out.symm);clear hkk hw
    go_loopg [9,39] 5 (λk2 s9 s39 wr=>∃(i:Nat),k2=5-i∧i<=5∧s39=.int .i64 (i:Int)∧Inv [g] w0 wr [ib b2 96 tt,ib bl 30 lv,ib bt 96 tt,bg X Y (wB C B),iw g og])
    case atStart=>exact⟨0,rfl,by omega,rfl,hI⟩
    case round=>
     clear hI;obtain⟨i,rfl,hi,rfl,hI⟩:=hrel;by_cases hi5:i<5
     ·have hd5:decide ((i:Int) <5)=true:=by simp;omega
      obtain⟨rr,hrr,hrl⟩:=aiV tt (i:Int) htl.out;go_upto_region 22 with(fail)
      go_upto_if 48 with(first|go_at_call 23;(with_reducible refine(acE _ bt 96 tt htl.out (hI.at_ aX) (i:Int) hrr.out).mono ?_);rintro e w1 ⟨rfl,hJ⟩;replace hI:=hI.on hJ pg;clear hJ|go_at_call 23;(with_reducible refine(acE _ b2 96 tt htl.out (hI.at_ aA) (i:Int) hrr.out).mono ?_);rintro e w1 ⟨rfl,hJ⟩;replace hI:=hI.on hJ jy;clear hJ|with_reducible refine iy (zs:=rr) RF RF (bG.out (t:=41)) (qV.out (t:=41)) hrl ?_)
      (try simp only[QN])
      go_wp2_with fail;go_roundg (5- (i+1))
      case measure=>omega
      case rel=>exact⟨i+1,rfl,by omega,rfl,hI⟩
     ·have hd5:decide ((i:Int) <5)=false:=by simp;omega
      go_upto_region 25 with fail;have aju:=hlv.out
      (refine ZR [1,3,4,5,6,7,8,9] [2] [1] [0,2,1,3,4,5,6,7,8,9] (λw=>Inv [g] w0 w [ib bl 30 lv]) hI ?_;intro wd hI)
      (repeat(first|refine ZS ?_|refine ZQ ?_;go_wp2_with(first|refine YL ?_|go_at_call 22;refine KI hI (IY _ X Y C B LU.out (hI.at_ mU) (k:=0) hk0.out.out.symm) ?_;intro w1 hI|go_at_call 12;refine KI hI (afn _ X Y C B LU.out (hI.at_ mU) hll.out) ?_;intro w1 hI);refine ZP ?_))
      go_wp2_with fail;go_ret;exact⟨rfl,Bu hg hI mm4⟩
 ·have hd:decide ((len:Int)<=1200)=false:=by simp;omega
  go_enter func7,ntmps7;go_wp2_with(first|go_at_call 8;refine KI hI (BK _ g og (hI.at_ aA)) ?_;intro w1 hI|go_at_call 9;(with_reducible refine(BL _ a len c).mono ?_);rintro e w1 ⟨rfl,hJ⟩;replace hI:=hI.call hJ;clear hJ);exact acT
end
namespace wholeLost
open Go.ChangeShapes Go.WideShapes Go.ChangeAt Go.RowKit
theorem lifted(os:Os)(started:os.Started)(H:Type)(enc:TypeId×Value->H):
  ReturnsInHanded {} Tryz.checked os 7 .any (λw args=>(Rows.wholeLostSpec.pre enc prog f7 [] false w args∧laidMetH prog Rows.wholeLostRow.laid w)∧sizedMet enc prog f7 (OpenSpec.ofChange Rows.wholeLostSpec) false w args) (Rows.wholeLostSpec.post enc prog f7 false true false false):=by
 refine returnsInHanded_of_change_and (C:=Tryz.checked) (X:=λw _=>laidMetH prog Rows.wholeLostRow.laid w) (λ_ _ _ hh h=>h.of_heap hh) agb started KF func7
  (ChangeSpec.witness_shaped (enc:=enc) (C:=Tryz.checked) (os:=os) (X:=λw _=>laidMetH prog Rows.wholeLostRow.laid w) false (World.doorLaid prog 400 os) #[.slice none 0 0] 8 rfl (World.shaped_of_RefB KF KF) KF KF KF (LW os _)) ?_
 intro W base args ds gs before hval0 hW hcnd hsz0 hL _;have hval:∀(j:Nat) t v,f7.params[j]? =some t->args[j]? =some v->Value.okWide prog W .any base t v:=hval0;have hsz:(DataW.weightsEach prog (f7.params.toList++Rows.wholeLostSpec.plain.varTypes prog) (ds++gs)).all (· <=reachBytes)=true:=hsz0;have hW':=hW;obtain⟨p,q,hA0,hV,rfl,hfz,hnd⟩:=hW;have hA:DataW.TrodAll enc prog W 0 (λ_=>true) true f7.params.toList args.toList ds p:=hA0;rw[params7]at hA hval hsz;obtain⟨v0,vs0,d0,ds0,p0,q0,hargs,rfl,rfl,h0,r0⟩:=trodAll_cons hA;obtain⟨rfl,rfl,rfl⟩:=trodAll_nil r0;obtain rfl:args=#[v0]:=by cases args;simp_all
 obtain⟨rfl,rfl⟩:=trodVars_none hV;have k0:=h0;have lt0:∀x∈p0,x.block<W.heap.size:=by obtain⟨m,hm⟩:=k0;exact DataW.trod_lt m _ _ _ hm
 obtain⟨a0,rfl,w0⟩:=O1 ahm underlying22 (hval 0 22 v0 rfl rfl) h0 (λn hn=>by have:=List.all_eq_true.1 hsz _ (DataW.weights_mem_each (j:=0) (t:=22) rfl rfl n hn);simpa using this);clear hA0 hval0;obtain⟨row,hrow⟩:=w0.ints;obtain⟨g,og,hg,hT⟩:=WA (LV hL);refine(Tx W a0.1 a0.2.1 a0.2.2.1 row hrow g og hg hT).mono λe W' ⟨he,bel⟩=>?_
 exact W65
theorem over:Rows.wholeLostRow.holds Tryz.pinned (OpenSpec.ofChange Rows.wholeLostSpec):=
 OpenClaim.holds_of_wide 7 f7 rfl rfl rfl rfl rfl rfl rfl ⟨rfl,rfl,rfl,rfl,rfl⟩ rfl rfl rfl rfl rfl KF func7 KF
  (of_decide_eq_true KF) (by unfold Func.isWrapper;rw[if_neg (by decide+kernel)];exact⟨rfl,rfl⟩)
  (λos started H enc _=>lifted os started H enc)
theorem proved:Rows.WholeLostCardSaid:=
 Claim7.holds_tied_plain_at .later [] [.data,.data,.data] true (true, "34804500066b9c71cf38ff047d3a32a9bb5856fb1a39d40ea7cbbfce4c1cc454") true
  over (λ_ h=>by cases h) KF (λ_ h=>by cases h) wholeLost_row_tie rfl ⟨rfl,rfl⟩ KF rfl
  (λf fn hf hfn=>by
   obtain rfl:f=7:=Option.some.inj ((show prog.funcNamed "legatee/legateetop.WholeLost" =some 7 by kernel_rfl).symm.trans hf) |>.symm;obtain rfl:fn=f7:=(Option.some.inj (func7.symm.trans hfn)).symm;exact⟨by kernel_rfl,λj t ht=>by
    rw[params7]at ht;have hm:t∈[22]:=by simpa using Array.mem_of_getElem? ht
    obtain rfl:t=22:=by simpa using hm
    exact(show prog.wantsStandIn 22=false by kernel_rfl)⟩)
  KF
end wholeLost
#print axioms Go.Proofs.YtdakkaapokhnnaaGreatDoor.wholeLost.proved
