/- Contracts of functions. No condition. -/
import Derived.Test.YtdakkaapokhnnaaGreatDoorZ03
import Derived.Test.YtdakkaapokhnnaaGreatDoorZ04
import Derived.Test.YtdakkaapokhnnaaGreatDoorZ05
namespace Go.Proofs.YtdakkaapokhnnaaGreatDoor
open Go.RowKit Go.Proofs.Tryz
set_option maxRecDepth 100000
set_option maxHeartbeats 6400000
set_option linter.all false
theorem Px:iY prog 5:=⟨by kernel_rfl,by kernel_rfl⟩
theorem sK:iY prog 63:=⟨by kernel_rfl,by kernel_rfl⟩
def nY(ab:Option Nat)(a:Option Addr)(bs:List UInt8):bT:=
 ⟨ab.toList,λw=>(∀x,a=some x->ab=some x.block)∧(∀k,ab=some k->(w.heap[k]?).isSome=true)∧Rd w a (bs.map bv),λw w' h hs=>⟨hs.1,λk hk=>by rw[h k (by rw[hk];simp)];exact hs.2.1 k hk,λj u hj=>by
  obtain⟨b,off,ha,hc⟩:=hs.2.2 j u hj;have hab:=hs.1 _ ha;refine⟨b,off,ha,?_⟩;have:=h b (by rw[hab];simp);simpa[World.cell?,this]using hc⟩⟩
def eZ(pr:Nat)(ab:Option Nat)(bs:List UInt8):bT:=
 ⟨pr::ab.toList,λw=>∃a c,w.heap[pr]? =some (.cells #[.slice a bs.length c] 219 (0,0))∧bs.length<=c∧c<=maxLen∧(nY ab a bs).sat w,λw w' h hs=>by
  obtain⟨a,c,h1,h2,h3,h4⟩:=hs;exact⟨a,c,by rw[h pr SI];exact h1,h2,h3,(nY ab a bs).loc w w' (λk hk=>h k (List.mem_cons_of_mem _ hk)) h4⟩⟩
theorem L_{w pr ab bs}(hs:(eZ pr ab bs).sat w)(hn:(eZ pr ab bs).own.Nodup):
  ∃a c,bs.length<=c∧c<=maxLen∧Inv (eZ pr ab bs).own w w [blk pr 219 [.slice a bs.length c],nY ab a bs]:=by
 obtain⟨a,c,h1,h2,h3,h4⟩:=hs;refine⟨a,c,h2,h3,rfl,rfl,rfl,Nat.le_refl _,λ_ _ _=>rfl,λx hx=>?_,λk hk=>?_,by grind[owned,blk,nY,eZ]⟩
 ·simp only[List.mem_cons,List.not_mem_nil,or_false]at hx
  rcases hx with rfl|rfl
  ·exact h1
  omega
 ·have hk2:k∈(eZ pr ab bs).own:=by grind[owned,blk,nY,eZ]
  refine⟨.inr hk2,?_⟩;have lt:∀ {k:Nat},(w.heap[k]?).isSome=true->k<w.heap.size:=λ{k} hk=>by
   grind
  rcases List.mem_cons.1 hk2 with rfl|hk3
  ·grind
  ·exact lt (h4.2.1 k (by grind))
theorem nR{T w0 w pr ab bs a n c m}(hn:n=bs.length)(hc:bs.length<=c)(hm:c<=maxLen)(h:Inv T w0 w (blk pr 219 [.slice a n c]::nY ab a bs::m)):Inv T w0 w (eZ pr ab bs::m):=by
 subst hn;refine h.turn (λhs y hy=>?_) (by simp[owned,blk,nY,eZ]);rcases List.mem_cons.1 hy with rfl|hy
 ·exact W98
 grind
section
variable {P:Program}{ops:Array Oper}{Q:Exit->Act->World->Prop}{a:Act}{rest:List Oper}{T:List Nat}{w0 w:World}{m m':List bT}{dst:Option Tmp}{ty:TypeId}{pos:String}{af:Array Edge}
theorem je{x}{t g off j:Nat}{ab bs c}(hI:Inv T w0 w m)(hx:a.eval x=.pointer (some ⟨g,off+j,none⟩))(hm:nY ab (some ⟨g,off,none⟩) bs∈m)(hT:iY P t)(hc:bs[j]? =some c)(k:wpList P ops Q rest (a.put dst (.int .u8 (c.toNat:Int))) w):wpList P ops Q (⟨dst,.load t x,ty,pos,af,none⟩::rest) a w:=by
 refine av (v:=bv c) ?_ k;obtain⟨g',o',he,hcell⟩:=(hI.sat _ hm).2.2 j (bv c) (by simp[hc]);exact W72
end
theorem UL{T w0 w m ab a bs}(h:Inv T w0 w m)(hm:nY ab a bs∈m)(hl:0<bs.length):∃g off,a=some ⟨g,off,none⟩:=by
 obtain⟨c,hc⟩:∃c,bs[0]? =some c:=⟨bs[0],List.getElem?_eq_getElem hl⟩;obtain⟨g,off,ha,_⟩:=(h.sat _ hm).2.2 0 (bv c) (by simp[hc])
 grind
theorem xE{T w0 w r m ab g off bs}(j){off'}(ho:off'=off+j∨bs.length<=j)(h:Inv T w0 w (r::nY ab (some ⟨g,off,none⟩) bs::m)):Inv T w0 w (r::nY ab (some ⟨g,off',none⟩) (bs.drop j)::m):=by
 refine h.turn (λhs y hy=>?_) (by simp[owned,nY]);simp only[List.mem_cons]at hy;rcases hy with rfl|rfl|hy
 ·grind
 ·obtain⟨h1,h2,h3⟩:=hs (nY ab (some ⟨g,off,none⟩) bs) SI
  refine⟨λx hx=>?_,h2,λi u hi=>?_⟩
  ·grind
  ·rcases ho with rfl|hl
   ·have h4:=h3.map_drop j
    exact h4 i u hi
   grind
 grind
def qL:Nat->Nat->List UInt8->Option (Nat×List UInt8)
 |_,_,[]=>none
 |p,n,c::cs=>if p=9 then none else if 128<=c.toNat then qL (p+1) (n+c.toNat%128*2^ (7*p)) cs else if c.toNat=0∧0<p then none else some (n+c.toNat%128*2^ (7*p),cs)
def f_(bs:List UInt8):Option (Nat×List UInt8):=qL 0 0 bs
theorem yY{p n c cs}(hp:p<9)(hc:128<=c.toNat):qL p n (c::cs)=qL (p+1) (n+c.toNat%128*2^ (7*p)) cs:=by
 simp only[qL];grind
theorem Bl{p n c cs}(hp:p<9)(hc:c.toNat<128)(h0:¬(c.toNat=0∧0<p)):qL p n (c::cs)=some (n+c.toNat%128*2^ (7*p),cs):=by
 simp only[qL];grind
theorem Er{p n c cs}(hp:p<9)(hc:c.toNat=0)(h0:0<p):qL p n (c::cs)=none:=by
 simp_all[qL]
theorem Es{n c cs}:qL 9 n (c::cs)=none:=by simp[qL]
def Ma:List PanicEntry:=[{v:=.iface 221 (.agg #[]),recovered:=false}]
theorem af8(c:UInt8):bits .and .u8 (c.toNat:Int) 127=((c.toNat%128:Nat):Int):=by
 have key:∀n:Fin 256,bits .and .u8 ((n.val:Nat):Int) 127=((n.val%128:Nat):Int):=by decide+kernel
 exact key ⟨c.toNat,c.toNat_lt⟩
theorem X4{n p k:Nat}(hp:p<9)(hn:n<2^ (7*p))(hk:k<128):bits .or .i64 (n:Int) ((k*2^ (7*p):Nat):Int)=((n+k*2^ (7*p):Nat):Int):=by
 have h56:2^ (7*p)<=2^56:=Nat.pow_le_pow_right DC OM;have h63:k*2^ (7*p) <9223372036854775808:=by
  have:k*2^ (7*p)<=127*2^56:=Nat.mul_le_mul OM h56;omega
 rw[Eg n (k*2^ (7*p)) OM h63]
 grind[Nat.mul_comm,Nat.two_pow_add_eq_or_of_lt]
theorem H7{n p k:Nat}(hp:p<9)(hn:n<2^ (7*p)):bits .or .i64 (n:Int) (wrap64 ((k:Int) %128*2^ (7*p)))=((n+k%128*2^ (7*p):Nat):Int):=by
 have hk:k%128<128:=Nat.mod_lt _ DC;rw[<-X4 hp hn hk];congr 1;have e:((k:Int) %128*2^ (7*p))=((k%128*2^ (7*p):Nat):Int):=by simp
 have h56:2^ (7*p)<=2^56:=Nat.pow_le_pow_right DC OM;have h63:k%128*2^ (7*p) <9223372036854775808:=by
  have:k%128*2^ (7*p)<=127*2^56:=Nat.mul_le_mul OM h56;omega
 unfold wrap64;omega
theorem X5{n p k}(hn:n<2^ (7*p)):n+k%128*2^ (7*p) <2^ (7*(p+1)):=by
 have e:(2:Nat) ^ (7*(p+1))=128*2^ (7*p):=by grind
 have:k%128*2^ (7*p)<=127*2^ (7*p):=Nat.mul_le_mul_right _ OM;omega
theorem X6{R}(w0 pr ab bs)(hs:(eZ pr ab bs).sat w0)(hn:(eZ pr ab bs).own.Nodup)(hret:∀k cs w',f_ bs=some (k,cs)->Inv (eZ pr ab bs).own w0 w' [eZ pr ab cs]->R (.returned (.int .i64 (k:Nat))) w')(af9:∀w',f_ bs=none->Inv (eZ pr ab bs).own w0 w' [eZ pr ab bs]->R (.panicked Ma) w'):
  Calls prog 138 #[.pointer (some ⟨pr,0,none⟩)] w0 R:=by
 obtain⟨a,c,hc,hcm,hI⟩:=L_ hs hn;go_enter func138,ntmps138;go_upto_region 3 with(with_reducible refine aW hI RF aC sK RF ?_)
 have hnl:bs.length<=maxLen:=by omega
 go_loopg [3,4,5,11] bs.length (λkk s3 s4 s5 i wr=>∃(j acc:Nat),kk=bs.length-j∧j<=bs.length∧i=.int .i64 j∧s3=.int .i64 acc∧Hid (f_ bs=qL j acc (bs.drop j)∧acc<2^ (7*j)∧j<=9)∧Inv (eZ pr ab bs).own w0 wr [blk pr 219 [.slice a bs.length c],nY ab a bs])
 case atStart=>exact⟨0,0,by omega,by omega,rfl,rfl,HD ⟨rfl,by simp,by omega⟩,hI⟩
 case round=>
  clear hI;obtain⟨j,acc,rfl,hj,rfl,rfl,hG,hI⟩:=hrel;by_cases hlj:j<bs.length
  ·obtain⟨g,off,rfl⟩:=UL hI aM OM
   obtain⟨cj,hcj⟩:∃cj,bs[j]? =some cj:=⟨bs[j],List.getElem?_eq_getElem hlj⟩;have hdrop:bs.drop j=cj::bs.drop (j+1):=by
    rw[List.drop_eq_getElem_cons hlj];congr 1;rw[List.getElem?_eq_getElem hlj]at hcj;simpa using hcj
   by_cases h9:j=9
   ·subst h9
    have hnone:Hid (f_ bs=none):=HD (by rw[hG.out.1,hdrop];exact Es);clear hG hdrop;go_wp2_with(with_reducible refine je hI RF aM Px hcj ?_);exact⟨rfl,af9 _ hnone.out (nR rfl hc hcm hI)⟩
   ·have hj9:j<9:=by have:=hG.out.2.2;omega
    have h9b:((j:Int)==9)=false:=by simp;omega
    have hcu:cj.toNat<256:=cj.toNat_lt;have hand:=af8 cj;by_cases h128:128<=cj.toNat
    ·have ajf:decide ((128:Int)<=(cj.toNat:Int))=true:=by simp;omega
     have hor:=HD (H7 (k:=cj.toNat) hj9 hG.out.2.1);have hG2:Hid (f_ bs=qL (j+1) (acc+cj.toNat%128*2^ (7*j)) (bs.drop (j+1))∧acc+cj.toNat%128*2^ (7*j) <2^ (7*(j+1))∧j+1<=9):=HD ⟨by rw[hG.out.1,hdrop,yY hj9 h128],X5 hG.out.2.1,by omega⟩;clear hG hdrop;go_wp2_with(with_reducible refine je hI RF aM Px hcj ?_);rw[hor.out];go_roundg (bs.length- (j+1))
     case measure=>omega
     case rel=>exact⟨j+1,_,by omega,by omega,by go_num,rfl,hG2,hI⟩
    ·have ajf:decide ((128:Int)<=(cj.toNat:Int))=false:=by simp;omega
     have hor:=HD (H7 (k:=cj.toNat) hj9 hG.out.2.1);by_cases h0:cj.toNat=0∧0<j
     ·have hnone:Hid (f_ bs=none):=HD (by rw[hG.out.1,hdrop];exact Er hj9 h0.1 h0.2)
      have hz1:((cj.toNat:Int)==0)=true:=by simp;omega
      have hz2:decide (0<j)=true:=by simp;omega
      clear hG hdrop h0;go_wp2_with(first|refine YL ?_|with_reducible refine je hI RF aM Px hcj ?_);exact⟨rfl,af9 _ hnone.out (nR rfl hc hcm hI)⟩
     ·have hsome:Hid (f_ bs=some (acc+cj.toNat%128*2^ (7*j),bs.drop (j+1))):=HD (by rw[hG.out.1,hdrop];exact Bl hj9 OM h0)
      clear hG hdrop;have hz:((cj.toNat:Int)==0)=false∨(((cj.toNat:Int)==0)=true∧decide (0<j)=false):=by
       by_cases hz0:cj.toNat=0
       ·exact .inr ⟨by simp;omega,by simp;omega⟩
       ·exact .inl (by simp;omega)
      clear h0;rcases hz with hz1| ⟨hz1,hz2⟩
      ·by_cases hcm:c=j+1
       ·subst hcm
        have hn1:=HD (show bs.length=j+1 by omega)
        (go_wp2_with(first|with_reducible refine je hI RF aM Px hcj ?_|with_reducible refine aW hI RF aC sK RF ?_|(with_reducible refine aR (vs:=[.slice (some ⟨g,off,none⟩) 0 0]) hI RF RF jR sK.size RF SI (by simp[Value.oneCell']) ?_;intro w hI));skip;rw[hor.out];exact hret _ _ _ hsome.out (nR (by simp[hn1.out]) (by simp[hn1.out]) (by simp[maxLen]) (xE (j+1) (.inr OM) hI)))
       ·(go_wp2_with(first|with_reducible refine je hI RF aM Px hcj ?_|with_reducible refine aW hI RF aC sK RF ?_|(with_reducible refine aR (vs:=[.slice (some ⟨g,off+(j+1),none⟩) (bs.length- (j+1)) (c- (j+1))]) hI RF RF jR sK.size RF SI (by simp[Value.oneCell']) ?_;intro w hI));skip;rw[hor.out];exact hret _ _ _ hsome.out (nR SI (by simp;omega) OM (xE (j+1) (.inl rfl) hI)))
      ·by_cases hcm:c=j+1
       ·subst hcm
        have hn1:=HD (show bs.length=j+1 by omega)
        (go_wp2_with(first|refine YL ?_|with_reducible refine je hI RF aM Px hcj ?_|with_reducible refine aW hI RF aC sK RF ?_|(with_reducible refine aR (vs:=[.slice (some ⟨g,off,none⟩) 0 0]) hI RF RF jR sK.size RF SI (by simp[Value.oneCell']) ?_;intro w hI));skip;rw[hor.out];exact hret _ _ _ hsome.out (nR (by simp[hn1.out]) (by simp[hn1.out]) (by simp[maxLen]) (xE (j+1) (.inr OM) hI)))
       ·(go_wp2_with(first|refine YL ?_|with_reducible refine je hI RF aM Px hcj ?_|with_reducible refine aW hI RF aC sK RF ?_|(with_reducible refine aR (vs:=[.slice (some ⟨g,off+(j+1),none⟩) (bs.length- (j+1)) (c- (j+1))]) hI RF RF jR sK.size RF SI (by simp[Value.oneCell']) ?_;intro w hI));skip;rw[hor.out];exact hret _ _ _ hsome.out (nR SI (by simp;omega) OM (xE (j+1) (.inl rfl) hI)))
  ·obtain rfl:j=bs.length:=by omega
   have hnone:Hid (f_ bs=none):=HD (by rw[hG.out.1,List.drop_of_length_le (Nat.le_refl _)];rfl);clear hG;go_wp2_with fail;exact⟨rfl,af9 _ hnone.out (nR rfl hc hcm hI)⟩
namespace C
theorem afi:gm prog 54 5:=⟨by kernel_rfl,by kernel_rfl⟩
end C
namespace C
section
variable {P:Program}{ops:Array Oper}{Q:Exit->Act->World->Prop}{a:Act}{rest:List Oper}{T:List Nat}{w0 w:World}{m m':List bT}{dst:Option Tmp}{ty:TypeId}{pos:String}{af:Array Edge}
theorem bV{x}{t b off j:Nat}{e zs bs v}(hI:Inv T w0 w m)(hx:a.eval x=.pointer (some ⟨b,off,none⟩))(hm:yD b e zs bs∈m)(hT:iY P t)(hl:off=zs.length+j)(hj:j<bs.length)(hv:gb bs j=v)(k:wpList P ops Q rest (a.put dst (.bool v)) w):wpList P ops Q (⟨dst,.load t x,ty,pos,af,none⟩::rest) a w:=
 wP hI hx hm hT hl hj (by grind)
end
theorem jP(w n):Calls prog 89 #[.int .i64 n] w λe w'=>e=.returned (.bool (aL n))∧w'=w:=by
 by_cases h:0<=n
 ·go_enter func89,ntmps89
  exact W75
 ·go_enter func89,ntmps89
  exact W56
def fG(bs:List Bool)(who:Int):Bool:=aL who&&gb bs who.toNat
def mG(zs:List Int)(bs:List Bool)(who:Int)(x:List Int):Bool:=aL who&& !gb bs who.toNat&&jm x&&decide (gi zs (who.toNat*174) <gi x 0)
def gM(zs:List Int)(bs:List Bool)(who:Int)(x:List Int):List Int:=if mG zs bs who x=true then dK zs (who.toNat*174) x else zs
def ku(bs:List Bool)(who:Int):List Bool:=if aL who=true then bs.set who.toNat true else bs
theorem y_{zs bs who x}(h:mG zs bs who x=true):aL who=true:=by
 simp_all[C.mG]
theorem uB(zs bs who x)(hz:zs.length=870)(hx:x.length=174):(gM zs bs who x).length=870:=by
 unfold gM
 split
 ·rename_i h
  obtain⟨h0,h5⟩:=dV (y_ h)
  grind[aY]
 omega
theorem Ij(bs who)(hb:bs.length=5):(ku bs who).length=5:=by
 grind[C.ku]
end C
namespace C
theorem lK(w n):Calls prog 50 #[.int .i64 n] w λe w'=>e=.returned (.bool (aL n))∧w'=w:=by
 by_cases h:0<=n
 ·go_enter func50,ntmps50
  exact W75
 ·go_enter func50,ntmps50
  exact W56
structure Bk (m:List Int):Prop where
 len:m.length=870
 row:∀w,w<5->jm (sub m (w*174) 174)=true∧Wf (sub m (w*174) 174)
theorem ZE:jm (au 174)=true:=by decide+kernel
theorem adx(n o k)(h:o+k<=n):sub (au n) o k=au k:=by
 grind[sub,au]
theorem Bk.start:Bk (au 870):=⟨ag 870,λw hw=>by rw[adx _ _ _ OM];exact⟨ZE,λi=>by grind[gi,au]⟩⟩
def oL(m:List Int)(who:Int)(x:List Int):Bool:=aL who&&jm x&&decide (gi m (who.toNat*174) <gi x 0)
def iV(m:List Int)(who:Int)(x:List Int):List Int:=if oL m who x=true then dK m (who.toNat*174) x else m
theorem Cj{m who x}(h:oL m who x=true):aL who=true∧jm x=true:=by
 simp_all[C.oL]
theorem Bk.merge{m}(h:Bk m)(who x)(hx:x.length=174)(hw:Wf x):Bk (iV m who x):=by
 unfold iV
 split
 ·rename_i hb
  obtain⟨hm,hr⟩:=Cj hb;obtain⟨h0,h5⟩:=dV hm;refine⟨by rw[aY,h.len];omega,λw hw5=>?_⟩
  grind[C.l9,C.Bk.len,C.jQ,C.Bk.row]
 omega
theorem Fu(w0 x who jL key r)(hr:Hid (rM x who jL key=r))(hx:x.length=174)(hw:Hid (Wf x)):
  Calls prog 92 #[ia x,.int .i64 who,.int .i64 jL,.int .i64 key] w0 λe w'=>e=.returned (.tuple #[ia r.1,.int .i64 r.2])∧Below w0.heap.size w0 w':=by
 grind[C.Vo,Go.RowKit.Hid.out]
def M8(m:List Int)(jL key:Int):Nat->List Int×Int
 |0=>(au 7,-1)
 |j+1=>if(M8 m jL key j).2< (rM (sub m (j*174) 174) j jL key).2 then rM (sub m (j*174) 174) j jL key else M8 m jL key j
def uH(m:List Int)(jL key:Int):List Int:=(M8 m jL key 5).1
theorem nmk{T w0 w a b e1 e2 z1 z2 m}(_:Inv T w0 w (ib a e1 z1::ib b e2 z2::m)):∃a' b',a'=a∧b'=b:=by grind
theorem Tj(m jL key)(hm:m.length=870):∀j,j<=5->(M8 m jL key j).1.length=7
 |0,_=>ag 7
 |j+1,h=>by
  unfold M8
  split
  ·grind[C.Il,az]
  ·exact Tj m jL key hm j OM
end C
namespace C
def CZ(c:List Int):Prop:=c.length=7∧∀i,0<=gi c i∧gi c i<=1099511627776
theorem ag4{l i}(h:l.length<=i):gi l i=0:=by
 grind[gi]
theorem CZ.au:CZ (au 7):=⟨ag 7,λi=>by rw[Zf];omega⟩
theorem CZ.of{c}(hl:c.length=7)(h:uA c=true):CZ c:=by
 refine⟨hl,λi=>?_⟩;obtain⟨a,b,g,_⟩:=(xL c).1 h;by_cases h0:i=0
 ·subst h0;exact a
 by_cases h1:i=1
 ·subst h1;exact b
 by_cases h7:i<7
 ·have hsl:(sub c 2 5).length=5:=by grind[az]
  have:=g _ (zb (sub c 2 5) (i-2) OM);rw[gy _ _ _ _ OM,show 2+(i-2)=i from by omega]at this;exact this
 grind[C.ag4]
theorem VC(x who jL key)(hx:x.length=174)(hr:jm x=true):CZ (rM x who jL key).1:=by
 obtain⟨_,a2,a3⟩:=pY hr;unfold rM
 split
 ·rename_i h
  obtain⟨h1,h2,k0,k4⟩:=h;obtain⟨o0,o5⟩:=dV h2
  split
  ·have:=(jZ _ 4).1 a2 key.toNat OM
   grind[C.xM,C.CZ.of,az]
  ·split
   ·have h3:=(wV (a3 jL.toNat OM)).2.2
    have:=(jZ _ 4).1 h3 key.toNat OM;have e:cellAt (leftOf x jL.toNat) key.toNat=sub x (34+jL.toNat*28+key.toNat*7) 7:=by
     grind[C.l7,C.cellAt,sub,List.drop_take,List.drop_drop]
    grind[C.CZ.of,az]
   ·exact CZ.au
 ·exact CZ.au
theorem Tk(m jL key)(h:Bk m):∀j,j<=5->CZ (M8 m jL key j).1
 |0,_=>CZ.au
 |j+1,hj=>by
  unfold M8
  split
  ·grind[C.VC,az,C.Bk.len,C.Bk.row]
  ·exact Tk m jL key h j OM
theorem pM{m}(h:Bk m)(jL key):CZ (uH m jL key):=Tk m jL key h 5 OM
def zH(m:List Int)(key:Int):Nat->Int
 |0=>0
 |j+1=>zH m key j+(gi (uH m j key) 0-gi (uH m j key) 1)
theorem xR{m}(h:Bk m)(key):∀j:Nat,-(j*1099511627776:Int)<=zH m key j∧zH m key j<=j*1099511627776
 |0=>by simp[zH]
 |j+1=>by
  have ih:=xR h key j;have h0:=(pM h j key).2 0;have h1:=(pM h j key).2 1
  grind[C.zH]
def Ak(m:List Int)(key:Int):Nat->List Int
 |0=>au 35
 |j+1=>dK (Ak m key j) (j*7) (uH m j key)
theorem Fv{m}(h:Bk m)(key):∀j,j<=5->(Ak m key j).length=35
 |0,_=>ag 35
 |j+1,hj=>by
  have:=Fv h key j OM;have hc:=(pM h j key).1
  grind[C.Ak,aY]
theorem M9{m}(h:Bk m)(key):∀j,j<=5->∀i,0<=gi (Ak m key j) i∧gi (Ak m key j) i<=1099511627776
 |0,_,i=>by grind[C.Ak,C.Zf]
 |j+1,hj,i=>by
  have hl:=Fv h key j OM;have hc:=pM h j key;unfold Ak;rw[Ki _ _ _ _ (by rw[hc.1,hl];omega)]
  split
  ·exact hc.2 _
  ·exact M9 h key j OM i
def Tm(cs:List Int)(o:Nat):Nat->Int
 |0=>0
 |k+1=>Tm cs o k+(gi cs (k*7+2+o) -gi cs (o*7+2+k))
def Tn(cs L:List Int):Nat->Int
 |0=>0
 |j+1=>Tn cs L j+(gi cs ((gi L j).toNat*7) -gi cs ((gi L j).toNat*7+1))+Tm cs (gi L j).toNat 5
theorem Bu{cs}(h:∀i,0<=gi cs i∧gi cs i<=1099511627776)(o):∀k:Nat,-(k*1099511627776:Int)<=Tm cs o k∧Tm cs o k<=k*1099511627776
 |0=>by simp[Tm]
 |k+1=>by
  have ih:=Bu h o k
  grind[C.Tm]
theorem IB{cs}(h:∀i,0<=gi cs i∧gi cs i<=1099511627776)(L):∀j:Nat,-(j*6597069766656:Int)<=Tn cs L j∧Tn cs L j<=j*6597069766656
 |0=>by simp[Tn]
 |j+1=>by
  have ih:=IB h L j;have h2:=Bu h (gi L j).toNat 5
  grind[C.Tn]
theorem VD(x who):∀g∈jT x who 5,0<=g∧g<5:=by
 grind[C.jT]
end C
namespace C
theorem ady(w0 x who L)(hx:x.length=174)(hL:Hid (jT x who 5=L)):Calls prog 149 #[ia x,.int .i64 who] w0 λe w'=>
  ∃a c,e=.returned (.slice a L.length c)∧Inv [] w0 w' [bD 3 1 (.slice a L.length c) L.length (L.map (Value.int .i64))]:=by
 grind[C.ado,Go.RowKit.Hid.out]
def lh(m:List Int)(who key:Int):Int:=if aL who=true then Tn (Ak m key 5) (jT (sub m (who.toNat*174) 174) who 5) (jT (sub m (who.toNat*174) 174) who 5).length else 0
end C
