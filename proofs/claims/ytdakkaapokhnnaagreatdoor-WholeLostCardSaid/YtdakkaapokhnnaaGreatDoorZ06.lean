/- Contracts of functions. No condition. -/
import Derived.Test.YtdakkaapokhnnaaGreatDoorZ03
import Derived.Test.YtdakkaapokhnnaaGreatDoorZ04
namespace Go.Proofs.YtdakkaapokhnnaaGreatDoor
open Go.RowKit Go.Proofs.Tryz
set_option maxRecDepth 100000
set_option maxHeartbeats 6400000
set_option linter.all false
theorem MQ:jg prog 5:=⟨by kernel_rfl,by kernel_rfl⟩
theorem q8:jg prog 63:=⟨by kernel_rfl,by kernel_rfl⟩
def mQ(ab:Option Nat)(a:Option Addr)(bs:List UInt8):aG:=
 ⟨ab.toList,λw=>(∀x,a=some x->ab=some x.block)∧(∀k,ab=some k->(w.heap[k]?).isSome=true)∧Rd w a (bs.map bv),λw w' h hs=>⟨hs.1,λk hk=>by rw[h k (by rw[hk];simp)];exact hs.2.1 k hk,λj u hj=>by
  obtain⟨b,off,ha,hc⟩:=hs.2.2 j u hj;have hab:=hs.1 _ ha;refine⟨b,off,ha,?_⟩;have:=h b (by rw[hab];simp);simpa[World.cell?,this]using hc⟩⟩
def d_(pr:Nat)(ab:Option Nat)(bs:List UInt8):aG:=
 ⟨pr::ab.toList,λw=>∃a c,w.heap[pr]? =some (.cells #[.slice a bs.length c] 219 (0,0))∧bs.length<=c∧c<=maxLen∧(mQ ab a bs).sat w,λw w' h hs=>by
  obtain⟨a,c,h1,h2,h3,h4⟩:=hs;exact⟨a,c,by rw[h pr SI];exact h1,h2,h3,(mQ ab a bs).loc w w' (λk hk=>h k (List.mem_cons_of_mem _ hk)) h4⟩⟩
theorem Jo{w:World}{pr:Nat}{ab:Option Nat}{bs:List UInt8}(hs:(d_ pr ab bs).sat w)(hn:(d_ pr ab bs).own.Nodup):
  ∃a c,bs.length<=c∧c<=maxLen∧Inv (d_ pr ab bs).own w w [blk pr 219 [.slice a bs.length c],mQ ab a bs]:=by
 obtain⟨a,c,h1,h2,h3,h4⟩:=hs;refine⟨a,c,h2,h3,rfl,rfl,rfl,Nat.le_refl _,λ_ _ _=>rfl,λx hx=>?_,λk hk=>?_,by simpa[owned,blk,mQ,d_]using hn⟩
 ·simp only[List.mem_cons,List.not_mem_nil,or_false]at hx
  rcases hx with rfl|rfl
  ·exact h1
  ·exact h4
 ·have hk2:k∈(d_ pr ab bs).own:=by simpa[owned,blk,mQ,d_]using hk
  refine⟨.inr hk2,?_⟩;have lt:∀ {k:Nat},(w.heap[k]?).isSome=true->k<w.heap.size:=λ{k} hk=>by
   rcases Nat.lt_or_ge k w.heap.size with h'|h'
   ·exact h'
   ·simp[Array.getElem?_eq_none h']at hk
  rcases List.mem_cons.1 hk2 with rfl|hk3
  ·exact lt (by rw[h1];rfl)
  ·exact lt (h4.2.1 k (by simpa using hk3))
theorem mG{T:List Nat}{w0 w:World}{pr:Nat}{ab:Option Nat}{bs:List UInt8}{a:Option Addr}{n c:Nat}{m:List aG}(hn:n=bs.length)(hc:bs.length<=c)(hm:c<=maxLen)(h:Inv T w0 w (blk pr 219 [.slice a n c]::mQ ab a bs::m)):Inv T w0 w (d_ pr ab bs::m):=by
 subst hn;refine h.turn (λhs y hy=>?_) (by simp[owned,blk,mQ,d_]);rcases List.mem_cons.1 hy with rfl|hy
 ·exact afF
 ·exact hs _ (by simp[hy])
section
variable {P:Program}{ops:Array Oper}{Q:Exit->Act->World->Prop}{a:Act}{rest:List Oper}{T:List Nat}{w0 w:World}{m m':List aG}{dst:Option Tmp}{ty:TypeId}{pos:String}{af:Array Edge}
theorem iG{x:Operand}{t g off j:Nat}{ab:Option Nat}{bs:List UInt8}{c:UInt8}(hI:Inv T w0 w m)(hx:a.eval x=.pointer (some ⟨g,off+j,none⟩))(hm:mQ ab (some ⟨g,off,none⟩) bs∈m)(hT:jg P t)(hc:bs[j]? =some c)
  (k:wpList P ops Q rest (a.put dst (.int .u8 (c.toNat:Int))) w):wpList P ops Q (⟨dst,.load t x,ty,pos,af,none⟩::rest) a w:=by
 refine au (v:=bv c) ?_ k;obtain⟨g',o',he,hcell⟩:=(hI.sat _ hm).2.2 j (bv c) (by simp[hc]);exact W66
end
theorem Q6{T:List Nat}{w0 w:World}{m:List aG}{ab:Option Nat}{a:Option Addr}{bs:List UInt8}(h:Inv T w0 w m)(hm:mQ ab a bs∈m)(hl:0<bs.length):∃g off,a=some ⟨g,off,none⟩:=by
 obtain⟨c,hc⟩:∃c,bs[0]? =some c:=⟨bs[0],List.getElem?_eq_getElem hl⟩;obtain⟨g,off,ha,_⟩:=(h.sat _ hm).2.2 0 (bv c) (by simp[hc]);exact⟨g,off,ha⟩
theorem vY{T:List Nat}{w0 w:World}{r:aG}{m:List aG}{ab:Option Nat}{g off:Nat}{bs:List UInt8}(j:Nat){off':Nat}(ho:off'=off+j∨bs.length<=j)(h:Inv T w0 w (r::mQ ab (some ⟨g,off,none⟩) bs::m)):Inv T w0 w (r::mQ ab (some ⟨g,off',none⟩) (bs.drop j)::m):=by
 refine h.turn (λhs y hy=>?_) (by simp[owned,mQ]);simp only[List.mem_cons]at hy;rcases hy with rfl|rfl|hy
 ·exact hs _ SI
 ·obtain⟨h1,h2,h3⟩:=hs (mQ ab (some ⟨g,off,none⟩) bs) SI
  refine⟨λx hx=>?_,h2,λi u hi=>?_⟩
  ·have:=h1 _ rfl
   simp only[Option.some.injEq]at hx;subst hx;exact this
  ·rcases ho with rfl|hl
   ·have h4:=h3.map_drop j
    exact h4 i u hi
   ·rw[List.drop_of_length_le hl]at hi;simp at hi
 ·exact hs _ (by simp[hy])
def qj:Nat->Nat->List UInt8->Option (Nat×List UInt8)
 |_,_,[]=>none
 |p,n,c::cs=>if p=9 then none else if 128<=c.toNat then qj (p+1) (n+c.toNat%128*2^ (7*p)) cs else if c.toNat=0∧0<p then none else some (n+c.toNat%128*2^ (7*p),cs)
def fT(bs:List UInt8):Option (Nat×List UInt8):=qj 0 0 bs
theorem CG{p n:Nat}{c:UInt8}{cs:List UInt8}(hp:p<9)(hc:128<=c.toNat):qj p n (c::cs)=qj (p+1) (n+c.toNat%128*2^ (7*p)) cs:=by
 simp only[qj];rw[if_neg OM,if_pos hc]
theorem Fw{p n:Nat}{c:UInt8}{cs:List UInt8}(hp:p<9)(hc:c.toNat<128)(h0:¬(c.toNat=0∧0<p)):qj p n (c::cs)=some (n+c.toNat%128*2^ (7*p),cs):=by
 simp only[qj];rw[if_neg OM,if_neg OM,if_neg h0]
theorem CJ{p n:Nat}{c:UInt8}{cs:List UInt8}(hp:p<9)(hc:c.toNat=0)(h0:0<p):qj p n (c::cs)=none:=by
 simp only[qj];rw[if_neg OM,if_neg OM,if_pos ⟨hc,h0⟩]
theorem CK{n:Nat}{c:UInt8}{cs:List UInt8}:qj 9 n (c::cs)=none:=by simp[qj]
def Jp:List PanicEntry:=[{v:=.iface 221 (.agg #[]),recovered:=false}]
theorem acV(c:UInt8):bits .and .u8 (c.toNat:Int) 127=((c.toNat%128:Nat):Int):=by
 have key:∀n:Fin 256,bits .and .u8 ((n.val:Nat):Int) 127=((n.val%128:Nat):Int):=by decide+kernel
 exact key ⟨c.toNat,c.toNat_lt⟩
theorem UD{n p k:Nat}(hp:p<9)(hn:n<2^ (7*p))(hk:k<128):bits .or .i64 (n:Int) ((k*2^ (7*p):Nat):Int)=((n+k*2^ (7*p):Nat):Int):=by
 have h56:2^ (7*p)<=2^56:=Nat.pow_le_pow_right DC OM;have h63:k*2^ (7*p) <9223372036854775808:=by
  have:k*2^ (7*p)<=127*2^56:=Nat.mul_le_mul OM h56;have e:(127*2^56:Nat) <9223372036854775808:=by decide
  omega
 rw[Cx n (k*2^ (7*p)) (by have:(2^56:Nat) <9223372036854775808:=(by decide);omega) h63];congr 1;rw[Nat.or_comm,Nat.mul_comm,<-Nat.two_pow_add_eq_or_of_lt hn,Nat.add_comm]
theorem Fx{n p k:Nat}(hp:p<9)(hn:n<2^ (7*p)):bits .or .i64 (n:Int) (wrap64 ((k:Int) %128*2^ (7*p)))=((n+k%128*2^ (7*p):Nat):Int):=by
 have hk:k%128<128:=Nat.mod_lt _ DC;rw[<-UD hp hn hk];congr 1;have e:((k:Int) %128*2^ (7*p))=((k%128*2^ (7*p):Nat):Int):=by simp
 rw[e];have h56:2^ (7*p)<=2^56:=Nat.pow_le_pow_right DC OM;have h63:k%128*2^ (7*p) <9223372036854775808:=by
  have:k%128*2^ (7*p)<=127*2^56:=Nat.mul_le_mul OM h56;have e:(127*2^56:Nat) <9223372036854775808:=by decide
  omega
 generalize k%128*2^ (7*p)=x at h63;unfold wrap64;omega
theorem UE{n p k:Nat}(hn:n<2^ (7*p)):n+k%128*2^ (7*p) <2^ (7*(p+1)):=by
 have hk:k%128<128:=Nat.mod_lt _ DC;have e:(2:Nat) ^ (7*(p+1))=128*2^ (7*p):=by rw[Nat.mul_add,Nat.pow_add,Nat.mul_comm]
 rw[e];have:k%128*2^ (7*p)<=127*2^ (7*p):=Nat.mul_le_mul_right _ OM;omega
theorem UF{R:Ending->World->Prop}(w0:World)(pr:Nat)(ab:Option Nat)(bs:List UInt8)(hs:(d_ pr ab bs).sat w0)(hn:(d_ pr ab bs).own.Nodup)
  (hret:∀k cs w',fT bs=some (k,cs)->Inv (d_ pr ab bs).own w0 w' [d_ pr ab cs]->R (.returned (.int .i64 (k:Nat))) w')
  (acW:∀w',fT bs=none->Inv (d_ pr ab bs).own w0 w' [d_ pr ab bs]->R (.panicked Jp) w'):
  Calls prog 138 #[.pointer (some ⟨pr,0,none⟩)] w0 R:=by
 obtain⟨a,c,hc,hcm,hI⟩:=Jo hs hn;go_enter func138,ntmps138;go_upto_region 3 with(with_reducible refine aS hI RF aA q8 RF ?_)
 have hnl:bs.length<=maxLen:=by omega
 go_loopg [3,4,5,11] bs.length (λkk s3 s4 s5 i wr=>∃(j acc:Nat),kk=bs.length-j∧j<=bs.length∧i=.int .i64 j∧s3=.int .i64 acc∧Hid (fT bs=qj j acc (bs.drop j)∧acc<2^ (7*j)∧j<=9)∧Inv (d_ pr ab bs).own w0 wr [blk pr 219 [.slice a bs.length c],mQ ab a bs])
 case atStart=>exact⟨0,0,by omega,by omega,rfl,rfl,HD ⟨rfl,by simp,by omega⟩,hI⟩
 case round=>
  clear hI;obtain⟨j,acc,rfl,hj,rfl,rfl,hG,hI⟩:=hrel;by_cases hlj:j<bs.length
  ·obtain⟨g,off,rfl⟩:=Q6 hI aM OM
   obtain⟨cj,hcj⟩:∃cj,bs[j]? =some cj:=⟨bs[j],List.getElem?_eq_getElem hlj⟩;have hdrop:bs.drop j=cj::bs.drop (j+1):=by
    rw[List.drop_eq_getElem_cons hlj];congr 1;rw[List.getElem?_eq_getElem hlj]at hcj;simpa using hcj
   by_cases h9:j=9
   ·subst h9
    have hnone:Hid (fT bs=none):=HD (by rw[hG.out.1,hdrop];exact CK);clear hG hdrop;go_wp2_with(with_reducible refine iG hI RF aM MQ hcj ?_);exact⟨rfl,acW _ hnone.out (mG rfl hc hcm hI)⟩
   ·have hj9:j<9:=by have:=hG.out.2.2;omega
    have h9b:((j:Int)==9)=false:=by simp;omega
    have hcu:cj.toNat<256:=cj.toNat_lt;have hand:=acV cj;by_cases h128:128<=cj.toNat
    ·have afS:decide ((128:Int)<=(cj.toNat:Int))=true:=by simp;omega
     have hor:=HD (Fx (k:=cj.toNat) hj9 hG.out.2.1);have hG2:Hid (fT bs=qj (j+1) (acc+cj.toNat%128*2^ (7*j)) (bs.drop (j+1))∧acc+cj.toNat%128*2^ (7*j) <2^ (7*(j+1))∧j+1<=9):=HD ⟨by rw[hG.out.1,hdrop,CG hj9 h128],UE hG.out.2.1,by omega⟩;clear hG hdrop;go_wp2_with(with_reducible refine iG hI RF aM MQ hcj ?_);rw[hor.out];go_roundg (bs.length- (j+1))
     case measure=>omega
     case rel=>exact⟨j+1,_,by omega,by omega,by go_num,rfl,hG2,hI⟩
    ·have afS:decide ((128:Int)<=(cj.toNat:Int))=false:=by simp;omega
     have hor:=HD (Fx (k:=cj.toNat) hj9 hG.out.2.1);by_cases h0:cj.toNat=0∧0<j
     ·have hnone:Hid (fT bs=none):=HD (by rw[hG.out.1,hdrop];exact CJ hj9 h0.1 h0.2)
      have hz1:((cj.toNat:Int)==0)=true:=by simp;omega
      have hz2:decide (0<j)=true:=by simp;omega
      clear hG hdrop h0;go_wp2_with(first|refine YL ?_|with_reducible refine iG hI RF aM MQ hcj ?_);exact⟨rfl,acW _ hnone.out (mG rfl hc hcm hI)⟩
     ·have hsome:Hid (fT bs=some (acc+cj.toNat%128*2^ (7*j),bs.drop (j+1))):=HD (by rw[hG.out.1,hdrop];exact Fw hj9 OM h0)
      clear hG hdrop;have hz:((cj.toNat:Int)==0)=false∨(((cj.toNat:Int)==0)=true∧decide (0<j)=false):=by
       by_cases hz0:cj.toNat=0
       ·exact .inr ⟨by simp;omega,by simp;omega⟩
       ·exact .inl (by simp;omega)
      clear h0;rcases hz with hz1| ⟨hz1,hz2⟩
      ·by_cases hcm:c=j+1
       ·subst hcm
        have hn1:=HD (show bs.length=j+1 by omega)
        (go_wp2_with(first|with_reducible refine iG hI RF aM MQ hcj ?_|with_reducible refine aS hI RF aA q8 RF ?_|(with_reducible refine aN (vs:=[.slice (some ⟨g,off,none⟩) 0 0]) hI RF RF jy q8.size RF SI (by simp[Value.oneCell']) ?_;intro w hI));skip;rw[hor.out];exact hret _ _ _ hsome.out (mG (by simp[hn1.out]) (by simp[hn1.out]) (by simp[maxLen]) (vY (j+1) (.inr OM) hI)))
       ·(go_wp2_with(first|with_reducible refine iG hI RF aM MQ hcj ?_|with_reducible refine aS hI RF aA q8 RF ?_|(with_reducible refine aN (vs:=[.slice (some ⟨g,off+(j+1),none⟩) (bs.length- (j+1)) (c- (j+1))]) hI RF RF jy q8.size RF SI (by simp[Value.oneCell']) ?_;intro w hI));skip;rw[hor.out];exact hret _ _ _ hsome.out (mG SI (by simp;omega) OM (vY (j+1) (.inl rfl) hI)))
      ·by_cases hcm:c=j+1
       ·subst hcm
        have hn1:=HD (show bs.length=j+1 by omega)
        (go_wp2_with(first|refine YL ?_|with_reducible refine iG hI RF aM MQ hcj ?_|with_reducible refine aS hI RF aA q8 RF ?_|(with_reducible refine aN (vs:=[.slice (some ⟨g,off,none⟩) 0 0]) hI RF RF jy q8.size RF SI (by simp[Value.oneCell']) ?_;intro w hI));skip;rw[hor.out];exact hret _ _ _ hsome.out (mG (by simp[hn1.out]) (by simp[hn1.out]) (by simp[maxLen]) (vY (j+1) (.inr OM) hI)))
       ·(go_wp2_with(first|refine YL ?_|with_reducible refine iG hI RF aM MQ hcj ?_|with_reducible refine aS hI RF aA q8 RF ?_|(with_reducible refine aN (vs:=[.slice (some ⟨g,off+(j+1),none⟩) (bs.length- (j+1)) (c- (j+1))]) hI RF RF jy q8.size RF SI (by simp[Value.oneCell']) ?_;intro w hI));skip;rw[hor.out];exact hret _ _ _ hsome.out (mG SI (by simp;omega) OM (vY (j+1) (.inl rfl) hI)))
  ·obtain rfl:j=bs.length:=by omega
   have hnone:Hid (fT bs=none):=HD (by rw[hG.out.1,List.drop_of_length_le (Nat.le_refl _)];rfl);clear hG;go_wp2_with fail;exact⟨rfl,acW _ hnone.out (mG rfl hc hcm hI)⟩
namespace A
theorem af6:(prog.info? 5).map (·.size)=some 1:=by kernel_rfl
theorem qa{w0:World}(p t:List UInt8)(a:Option Addr)(n c:Nat)(hn:p.length=n)(ht:kI p=some t)(hr:Rd w0 a (p.map bv))(hc:n<=c)(hl:n<=100000):
  Calls prog 152 #[.slice a n c] w0 λe w'=>∃a' c',e=.returned (.tuple #[.slice a' t.length c',.bool true])∧Inv [] w0 w' [bf 5 1 (.slice a' t.length c') t.length (t.map bv)]:=by
 subst hn;refine(Jw w0 a c p hr hc hl).mono ?_;rintro e w' (⟨t',a',c',h,rfl,hI⟩ | ⟨h,_⟩)
 ·rw[ht]at h;cases h;exact⟨a',c',rfl,hI⟩
 ·rw[ht]at h;cases h
theorem FE{w0:World}(p:List UInt8)(a:Option Addr)(n c:Nat)(hn:p.length=n)(ht:kI p=none)(hr:Rd w0 a (p.map bv))(hc:n<=c)(hl:n<=100000):
  Calls prog 152 #[.slice a n c] w0 λe w'=>e=.returned (.tuple #[.slice none 0 0,.bool false])∧Below w0.heap.size w0 w':=by
 subst hn;refine(Jw w0 a c p hr hc hl).mono ?_;rintro e w' (⟨t',a',c',h,rfl,hI⟩ | ⟨h,he,hb⟩)
 ·rw[ht]at h;cases h
 ·exact⟨he,hb⟩
theorem Bz{T:List Nat}{w0 w:World}{m:List aG}{e size n n' c:Nat}{a':Option Addr}{xs:List Value}(h:Inv T w0 w m)(hm:bf e size (.slice a' n' c) n xs∈m):n<=c:=by
 exact W76
end A
namespace A
theorem af8(w0:World)(H:Nat)(hH:w0.heap.size=H)(a:Option Addr)(c:Nat)(bs:List UInt8)(hr:Rd w0 a (bs.map bv))(hl:bs.length<=100000):
  Calls prog 187 #[.slice a bs.length c] w0 λe w'=>e=.returned (.slice (some ⟨H+1,0,none⟩) (bs.length+4) (bs.length+4))∧w'.heap.size=H+3∧Inv [] w0 w' [bf 5 1 (.slice (some ⟨H+1,0,none⟩) (bs.length+4) (bs.length+4)) (bs.length+4) ((xJ bs).map bv)]:=by
 have hI:=Inv.start w0;have hl2:bs.length<=maxLen:=by simp only[maxLen];omega
 have hf:=M5 a c bs;have hle:=HD (UZ (crc bs));have hH2:=HD hH;clear hH;go_enter func187,ntmps187;have hH:=hH2.out;go_wp2_with(first|(with_reducible refine yK hI hH CB RF ?_;clear hI hH;intro w hI hH)|go_at_call 177;refine KR (Ht _ _ [⟨a,c,bs⟩] 1 (vX (hI.rd aA) (hI.Jg hr) hl2) (by simp[maxLen])) ?_|(with_reducible refine vz (c:=bs.length+4) hI hH nM RF RF OM MX ?_;clear hI hH;intro w hI hH)|(with_reducible refine l9 (q:=bs.length) hI hH RF RF nM (by intro r';exact aR.here) (hI.Jg hr) SI (xH _) OM ?_;clear hI hH;intro w hI hH;simp only[Nat.zero_add,List.nil_append]at hI;simp only[Nat.zero_add])|(with_reducible refine yM hI hH nM RF RF RF RF ?_;clear hI hH;intro w hI hH)|(with_reducible refine l9 (q:=4) hI hH RF RF nM (by intro r';exact aR.there aR.here) (hI.rd aA) RF (by simp[Value.oneCell']) OM ?_;clear hI hH;intro w hI hH));have hle2:=hle.out;rw[<-hle2,<-List.map_append]at hI;go_ret;exact⟨rfl,hH,hI.sub (.cons _ (.cons_cons _ (.cons _ .slnil)))⟩
end A
namespace A
def o6(f t:UInt8)(b:List UInt8):List UInt8:=xJ (f::t::b)
def dZ(f t:UInt8)(p:List UInt8):Option (List UInt8):=
 match kI p with
 |some (x::y::r)=>if x=f∧y=t then some r else none
 |_=>none
theorem CV(f t:UInt8)(b:List UInt8):(o6 f t b).length=b.length+6:=by unfold o6;rw[ny];simp
theorem ac1(w0:World)(H:Nat)(hH:w0.heap.size=H)(a:Option Addr)(n c:Nat)(bs:List UInt8)(hn:bs.length=n)(hr:Rd w0 a (bs.map bv))(hl:n<=100000):
  Calls prog 187 #[.slice a n c] w0 λe w'=>e=.returned (.slice (some ⟨H+1,0,none⟩) (n+4) (n+4))∧w'.heap.size=H+3∧Inv [] w0 w' [bf 5 1 (.slice (some ⟨H+1,0,none⟩) (n+4) (n+4)) (n+4) ((xJ bs).map bv)]:=by
 subst hn;exact af8 w0 H hH a c bs hr hl
theorem Zr(w0:World)(H:Nat)(hH:w0.heap.size=H)(z1 z2:Int)(f t:UInt8)(h1:z1=(f.toNat:Int))(h2:z2=(t.toNat:Int))(a:Option Addr)(n c:Nat)(bs:List UInt8)(hn:bs.length=n)(hr:Rd w0 a (bs.map bv))(hl:n<=90000):
  Calls prog 216 #[.int .i64 z1,.int .i64 z2,.slice a n c] w0 λe w'=>e=.returned (.slice (some ⟨H+3,0,none⟩) (2+n+4) (2+n+4))∧w'.heap.size=H+5∧Inv [] w0 w' [bf 5 1 (.slice (some ⟨H+3,0,none⟩) (2+n+4) (2+n+4)) (2+n+4) ((o6 f t bs).map bv)]:=by
 subst h1 h2 hn;have hI:=Inv.start w0;have hf:=f.toNat_lt;have ht:=t.toNat_lt;have hbv:Hid ([Value.int .u8 (f.toNat:Int),.int .u8 (t.toNat:Int)]++bs.map bv=(f::t::bs).map bv):=HD (by simp[bv]);have hH2:=HD hH;clear hH;go_enter func216,ntmps216;have hH:=hH2.out;clear hH2;go_wp2_with(first|(with_reducible refine vz (c:=2+bs.length) hI hH nM RF RF OM MX ?_;clear hI hH;intro w hI hH)|(with_reducible refine yL hI hH nM RF RF ?_;clear hI hH;intro w hI hH)|(with_reducible refine l9 (q:=2) hI hH RF RF nM (by intro r';exact aR.there aR.here) (hI.rd aA) RF (by simp[Value.oneCell']) OM ?_;clear hI hH;intro w hI hH;simp only[Nat.zero_add,List.nil_append]at hI;simp only[Nat.zero_add])|(with_reducible refine l9 (q:=bs.length) hI hH RF RF nM (by intro r';exact aR.there aR.here) (hI.Jg hr) SI (xH _) OM ?_;clear hI hH;intro w hI hH;rw[hbv.out]at hI)|go_at_call 187;refine(ac1 _ _ hH _ _ _ (f::t::bs) (by simp only[List.length_cons];omega) (hI.rd aM) OM).mono ?_;rintro e w1 ⟨rfl,hH2,hJ⟩;clear hH;have hH:=hH2;clear hH2;replace hI:=hI.seq hJ;simp only[List.cons_append,List.nil_append]at hI;clear hJ);go_ret;exact⟨rfl,hH,hI.sub (.cons_cons _ (List.nil_sublist _))⟩
theorem nN{w:World}{b off:Nat}{p:List UInt8}(h:Rd w (some ⟨b,off,none⟩) (p.map bv))(i:Nat)(u:UInt8)(hi:p[i]? =some u):w.cell? ⟨b,off+i,none⟩=some (.int .u8 (u.toNat:Int)):=by
 obtain⟨b',off',hab,hc⟩:=h i (bv u) (by rw[List.getElem?_map,hi];rfl);cases hab;exact hc
theorem Re(w0:World)(f t:UInt8)(a:Option Addr)(n c:Nat)(p:List UInt8)(hn:p.length=n)(hr:Rd w0 a (p.map bv))(hc:n<=c)(hl:n<=100000)(h:dZ f t p=none):
  Calls prog 112 #[.int .i64 (f.toNat:Int),.int .i64 (t.toNat:Int),.slice a n c] w0 λe w'=>e=.returned (.tuple #[.slice none 0 0,.bool false])∧Below w0.heap.size w0 w':=by
 have hI:=Inv.start w0;have hf:=f.toNat_lt;have ht:=t.toNat_lt;cases hp:kI p with
 |none=>
  replace hp:=HD hp;go_enter func112,ntmps112;go_wp2_with(go_at_call 152;refine(FE p _ _ _ hn hp.out (hI.Jg hr) hc hl).mono ?_;rintro e w3 ⟨rfl,hw3⟩;replace hI:=hI.call hw3;clear hw3)
  go_ret2
  exact⟨rfl,hI.below⟩
 |some q=>
  have hq4:q.length+4=n:=by rw[<-hn,<-sN hp,ny]
  replace hp:=HD hp
  match q,hp,hq4 with
  | [],hp,hq4=>
   go_enter func112,ntmps112;go_wp2_with(first|refine YL ?_|go_at_call 152;refine(qa p [] _ _ _ hn hp.out (hI.Jg hr) hc hl).mono ?_;rintro e w3 ⟨a2,c2,rfl,hJ⟩;replace hI:=hI.seq hJ;clear hJ)
   go_ret2
   exact⟨rfl,hI.below⟩
  | [x],hp,hq4=>
   go_enter func112,ntmps112;go_wp2_with(first|refine YL ?_|go_at_call 152;refine(qa p [x] _ _ _ hn hp.out (hI.Jg hr) hc hl).mono ?_;rintro e w3 ⟨a2,c2,rfl,hJ⟩;replace hI:=hI.seq hJ;clear hJ)
   go_ret2
   exact⟨rfl,hI.below⟩
  |x::y::r,hp,hq4=>
   have hxy:¬(x=f∧y=t):=by
    intro hc;unfold dZ at h;rw[hp.out]at h;simp only[if_pos hc]at h;cases h
   have hx:=x.toNat_lt;have hy:=y.toNat_lt;have Zt:(x::y::r).length=r.length+2:=rfl;have hrl:r.length<=100000:=by simp only[List.length_cons]at hq4;omega
   have two:((x.toNat:Int) != (f.toNat:Int))=true∨(((x.toNat:Int) != (f.toNat:Int))=false∧((y.toNat:Int) != (t.toNat:Int))=true):=by
    by_cases h1:x=f
    ·refine .inr ⟨by simp[h1],?_⟩
     have:y≠t:=λh2=>hxy ⟨h1,h2⟩
     have h3:y.toNat≠t.toNat:=λh=>this (UInt8.toNat_inj.1 h)
     simp;omega
    ·have h3:x.toNat≠f.toNat:=λh=>h1 (UInt8.toNat_inj.1 h)
     exact .inl (by simp;omega)
   clear hxy h hq4;rcases two with h1| ⟨h1,h2⟩
   all_goals
    go_enter func112,ntmps112;go_wp2_with(first|refine YL ?_|(go_at_call 152;refine KO hI (qa p (x::y::r) _ _ _ hn hp.out (hI.Jg hr) hc hl) ?_;intro a2 c2 w3 hI;obtain⟨gq,hgq⟩:=gu (a':=a2) hI aA SI;subst hgq;have hc2:=Bz hI aA;have k0:=nN (hI.rd (a':=some ⟨gq,0,none⟩) aA) 0 x rfl;have k1:=nN (hI.rd (a':=some ⟨gq,0,none⟩) aA) 1 y rfl;simp only[List.length_cons]at hc2|-))
    go_ret2
    exact⟨rfl,hI.below⟩
theorem U0{w0:World}{f t:UInt8}{a:Option Addr}{n c:Nat}{R:Ending->World->Prop}(h:Calls prog 112 #[.int .i64 (f.toNat:Int),.int .i64 (t.toNat:Int),.slice a n c] w0 R)(z1 z2:Int)(h1:z1=(f.toNat:Int))(h2:z2=(t.toNat:Int)):
  Calls prog 112 #[.int .i64 z1,.int .i64 z2,.slice a n c] w0 R:=by subst h1 h2;exact h
theorem FF(w0:World)(z1 z2:Int)(f t:UInt8)(h1:z1=(f.toNat:Int))(h2:z2=(t.toNat:Int))(a:Option Addr)(n c:Nat)(bs:List UInt8)(hn:bs.length=n)(hr:Rd w0 a (bs.map bv))(hl:n<=90000):
  Calls prog 216 #[.int .i64 z1,.int .i64 z2,.slice a n c] w0 λe w'=>∃g,e=.returned (.slice (some ⟨g,0,none⟩) (n+6) (n+6))∧Inv [] w0 w' [bf 5 1 (.slice (some ⟨g,0,none⟩) (n+6) (n+6)) (n+6) ((o6 f t bs).map bv)]:=
 (Zr w0 _ rfl z1 z2 f t h1 h2 a n c bs hn hr hl).mono λe w' ⟨he,_,hI⟩=>by
  have e6:2+n+4=n+6:=by omega
  rw[e6]at he hI;exact⟨_,he,hI⟩
end A
namespace C
section
variable {P:Program}{ops:Array Oper}{Q:Exit->Act->World->Prop}{a:Act}{rest:List Oper}{T:List Nat}{w0 w:World}{m m':List aG}{dst:Option Tmp}{ty:TypeId}{pos:String}{af:Array Edge}
theorem bM{x:Operand}{t b off j:Nat}{e:TypeId}{zs:List Int}{bs:List Bool}{v:Bool}(hI:Inv T w0 w m)(hx:a.eval x=.pointer (some ⟨b,off,none⟩))(hm:xf b e zs bs∈m)(hT:jg P t)(hl:off=zs.length+j)(hj:j<bs.length)(hv:gb bs j=v)
  (k:wpList P ops Q rest (a.put dst (.bool v)) w):wpList P ops Q (⟨dst,.load t x,ty,pos,af,none⟩::rest) a w:=
 vB hI hx hm hT hl hj (by rw[hv];exact k)
end
theorem jm(w:World)(n:Int):Calls prog 89 #[.int .i64 n] w λe w'=>e=.returned (.bool (aP n))∧w'=w:=by
 by_cases h:0<=n
 ·go_enter func89,ntmps89
  exact W79
 ·go_enter func89,ntmps89
  exact W58
def fJ(bs:List Bool)(who:Int):Bool:=aP who&&gb bs who.toNat
def lT(zs:List Int)(bs:List Bool)(who:Int)(x:List Int):Bool:=aP who&& !gb bs who.toNat&&mi x&&decide (gi zs (who.toNat*174) <gi x 0)
def jZ(zs:List Int)(bs:List Bool)(who:Int)(x:List Int):List Int:=if lT zs bs who x=true then dF zs (who.toNat*174) x else zs
def mI(bs:List Bool)(who:Int):List Bool:=if aP who=true then bs.set who.toNat true else bs
theorem xM{zs:List Int}{bs:List Bool}{who:Int}{x:List Int}(h:lT zs bs who x=true):aP who=true:=by
 unfold lT at h;simp only[Bool.and_eq_true]at h;exact h.1.1.1
theorem sQ(zs:List Int)(bs:List Bool)(who:Int)(x:List Int)(hz:zs.length=870)(hx:x.length=174):(jZ zs bs who x).length=870:=by
 unfold jZ
 split
 ·rename_i h
  obtain⟨h0,h5⟩:=dW (xM h);rw[aY];omega
 ·exact hz
theorem FN(bs:List Bool)(who:Int)(hb:bs.length=5):(mI bs who).length=5:=by
 unfold mI;split<;>simp[hb]
end C
namespace A
theorem Nj(w0:World)(p:Nat)(pb c:Nat->Nat)(q:Nat->List QE)(f t i:Nat)(hf0:f<5)(ht0:t<5)(hi:i=f*5+t)(hne:f≠t)(h:Inv (jJ 132 p pb c q).own w0 w0 [jJ 132 p pb c q])
  (a:Option Addr) (n cp:Nat) (bs:List UInt8) (hn:bs.length=n) (hr:Rd w0 a (bs.map bv)) (hl:n<=100000) (hroom:(q i).length <8):
  Calls prog 211 #[.pointer (some ⟨p,0,none⟩),.int .i64 f,.int .i64 t,.slice a n cp] w0 λe w'=>e=.returned (.bool true)∧∃a1 c1,Inv (jJ 132 p pb c q).own w0 w' [jJ 132 p pb c (gL q i (q i++[(a1,c1,bs)]))]:=by
 subst hn;exact Vk w0 p pb c q f t i hf0 ht0 hi hne h a cp bs hr hl hroom
theorem JP(w0:World)(p:Nat)(pb c:Nat->Nat)(q:Nat->List QE)(f t i:Nat)(hf0:f<5)(ht0:t<5)(hi:i=f*5+t)(hne:f≠t)(h:Inv (jJ 132 p pb c q).own w0 w0 [jJ 132 p pb c q])
  (a:Option Addr) (n cp:Nat) (bs:List UInt8) (hn:bs.length=n) (hr:Rd w0 a (bs.map bv)) (hl:n<=100000) (hroom:8<=(q i).length):
  Calls prog 211 #[.pointer (some ⟨p,0,none⟩),.int .i64 f,.int .i64 t,.slice a n cp] w0 λe w'=>e=.returned (.bool false)∧Below w0.heap.size w0 w':=by
 subst hn;exact Rp w0 p pb c q f t i hf0 ht0 hi hne h a cp bs hr hl hroom
theorem yU{f:Nat}(h:f<5):(f:Int)=((UInt8.ofNat f).toNat:Int):=by
 have:(UInt8.ofNat f).toNat=f:=by simp[UInt8.toNat_ofNat'];omega
 rw[this]
section
variable (w0:World)(p:Nat)(pb c:Nat->Nat)(q:Nat->List QE)(f t i:Nat)(rP:f<5)(mR:t<5)(hi:i=f*5+t)(hft:f≠t)
include rP mR hi hft
theorem Z_(h:Inv (jJ 132 p pb c q).own w0 w0 [jJ 132 p pb c q])(a:Option Addr)(cp:Nat)(bs:List UInt8)(hr:Rd w0 a (bs.map bv))(hl:bs.length<=3000)(hroom:(q i).length <8):
  Calls prog 214 #[.pointer (some ⟨p,0,none⟩),.int .i64 f,.int .i64 t,.slice a bs.length cp] w0 λe w'=>e=.returned (.bool true)∧∃a1 c1,Inv (jJ 132 p pb c q).own w0 w' [jJ 132 p pb c (gL q i (q i++[(a1,c1,o6 (UInt8.ofNat f) (UInt8.ofNat t) bs)]))]:=by
 have hI:=h;have hfu:=HD (yU rP);have htu:=HD (yU mR);have hd:decide ((3000:Int) < (bs.length:Int))=false:=by simp;omega
 have hr':=HD hr;clear h hr;go_enter func214,ntmps214;have hr:=hr'.out;go_wp2_with(first|refine YL ?_|go_at_call 216;with_reducible refine(FF _ _ _ (UInt8.ofNat f) (UInt8.ofNat t) hfu.out htu.out _ _ _ bs rfl hr OM).mono ?_;rintro e w1 ⟨g,rfl,hJ⟩;replace hI:=hI.seq hJ;simp only[List.cons_append,List.nil_append]at hI;clear hJ|go_at_call 211;with_reducible refine(Nj _ p pb c q f t i rP mR hi hft (hI.at_ aM) _ _ _ (o6 (UInt8.ofNat f) (UInt8.ofNat t) bs) (CV _ _ bs) (hI.rd aA) OM hroom).mono ?_;rintro e w1 ⟨rfl,a1,c1,hJ⟩;replace hI:=hI.on hJ iR;clear hJ);go_ret;exact⟨rfl,a1,c1,hI.tl⟩
theorem Nk(h:Inv (jJ 132 p pb c q).own w0 w0 [jJ 132 p pb c q])(a:Option Addr)(cp:Nat)(bs:List UInt8)(hr:Rd w0 a (bs.map bv))(hl:bs.length<=3000)(hfull:8<=(q i).length):
  Calls prog 214 #[.pointer (some ⟨p,0,none⟩),.int .i64 f,.int .i64 t,.slice a bs.length cp] w0 λe w'=>e=.returned (.bool false)∧Inv (jJ 132 p pb c q).own w0 w' [jJ 132 p pb c q]:=by
 have hI:=h;have hfu:=HD (yU rP);have htu:=HD (yU mR);have hd:decide ((3000:Int) < (bs.length:Int))=false:=by simp;omega
 have hr':=HD hr;clear h hr;go_enter func214,ntmps214;have hr:=hr'.out;go_wp2_with(first|refine YL ?_|go_at_call 216;with_reducible refine(FF _ _ _ (UInt8.ofNat f) (UInt8.ofNat t) hfu.out htu.out _ _ _ bs rfl hr OM).mono ?_;rintro e w1 ⟨g,rfl,hJ⟩;replace hI:=hI.seq hJ;simp only[List.cons_append,List.nil_append]at hI;clear hJ|go_at_call 211;refine KD hI (JP _ p pb c q f t i rP mR hi hft (hI.at_ aM) _ _ _ (o6 (UInt8.ofNat f) (UInt8.ofNat t) bs) (CV _ _ bs) (hI.rd aA) OM hfull) ?_;intro w1 hI);go_ret;exact⟨rfl,hI.tl⟩
end
end A
namespace C
theorem kN(w:World)(n:Int):Calls prog 50 #[.int .i64 n] w λe w'=>e=.returned (.bool (aP n))∧w'=w:=by
 by_cases h:0<=n
 ·go_enter func50,ntmps50
  exact W79
 ·go_enter func50,ntmps50
  exact W58
structure Bk (m:List Int):Prop where
 len:m.length=870
 row:∀w,w<5->mi (sub m (w*174) 174)=true∧Wf (sub m (w*174) 174)
theorem VQ:mi (aj 174)=true:=by decide+kernel
theorem aao(n o k:Nat)(h:o+k<=n):sub (aj n) o k=aj k:=by
 unfold sub aj;rw[List.drop_replicate,List.take_replicate];congr 1;omega
theorem Bk.start:Bk (aj 870):=⟨aa 870,λw hw=>by rw[aao _ _ _ OM];exact⟨VQ,λi=>by rw[show gi (aj 174) i=0 from by unfold gi aj;rw[List.getD_eq_getElem?_getD,List.getElem?_replicate];split<;>rfl];omega⟩⟩
def nE(m:List Int)(who:Int)(x:List Int):Bool:=aP who&&mi x&&decide (gi m (who.toNat*174) <gi x 0)
def ic(m:List Int)(who:Int)(x:List Int):List Int:=if nE m who x=true then dF m (who.toNat*174) x else m
theorem AL{m:List Int}{who:Int}{x:List Int}(h:nE m who x=true):aP who=true∧mi x=true:=by
 unfold nE at h;simp only[Bool.and_eq_true]at h;exact h.1
theorem Bk.merge{m:List Int}(h:Bk m)(who:Int)(x:List Int)(hx:x.length=174)(hw:Wf x):Bk (ic m who x):=by
 unfold ic
 split
 ·rename_i hb
  obtain⟨hm,hr⟩:=AL hb;obtain⟨h0,h5⟩:=dW hm;refine⟨by rw[aY,h.len];omega,λw hw5=>?_⟩;by_cases he:w=who.toNat
  ·subst he
   have:=H6 m x (who.toNat*174) (by rw[h.len];omega);rw[hx]at this;rw[this];exact⟨hr,hw⟩
  ·rw[xh _ _ _ _ _ (by rw[h.len];omega) OM]
   exact h.row w hw5
 ·exact h
theorem DI(w0:World)(x:List Int)(who iK key:Int)(r:List Int×Int)(hr:Hid (qx x who iK key=r))(hx:x.length=174)(hw:Hid (Wf x)):
  Calls prog 92 #[ia x,.int .i64 who,.int .i64 iK,.int .i64 key] w0 λe w'=>e=.returned (.tuple #[ia r.1,.int .i64 r.2])∧Below w0.heap.size w0 w':=by
 have:=RB w0 x who iK key hx hw.out
 rwa [hr.out]at this
def Kc(m:List Int)(iK key:Int):Nat->List Int×Int
 |0=>(aj 7,-1)
 |j+1=>if(Kc m iK key j).2< (qx (sub m (j*174) 174) j iK key).2 then qx (sub m (j*174) 174) j iK key else Kc m iK key j
def sW(m:List Int)(iK key:Int):List Int:=(Kc m iK key 5).1
theorem nmk{T:List Nat}{w0 w:World}{a b:Nat}{e1 e2:TypeId}{z1 z2:List Int}{m:List aG}(_:Inv T w0 w (ib a e1 z1::ib b e2 z2::m)):∃a' b',a'=a∧b'=b:=⟨a,b,rfl,rfl⟩
theorem PR(m:List Int)(iK key:Int)(hm:m.length=870):∀j,j<=5->(Kc m iK key j).1.length=7
 |0,_=>aa 7
 |j+1,h=>by
  unfold Kc
  split
  ·exact FP _ _ _ _ (by rw[ay];omega)
  ·exact PR m iK key hm j OM
end C
namespace C
theorem ajl:fe prog 118 35:=by unfold fe;kernel_rfl
def Bn(c:List Int):Prop:=c.length=7∧∀i,0<=gi c i∧gi c i<=1099511627776
theorem adQ{l:List Int}{i:Nat}(h:l.length<=i):gi l i=0:=by
 exact afQ
theorem Bn.aj:Bn (aj 7):=⟨aa 7,λi=>by rw[Vx];omega⟩
theorem Bn.of{c:List Int}(hl:c.length=7)(h:oI c=true):Bn c:=by
 refine⟨hl,λi=>?_⟩;obtain⟨a,b,g,_⟩:=(zV c).1 h;by_cases h0:i=0
 ·subst h0;exact a
 by_cases h1:i=1
 ·subst h1;exact b
 by_cases h7:i<7
 ·have hsl:(sub c 2 5).length=5:=by rw[ay];omega
  have:=g _ (zX (sub c 2 5) (i-2) OM);rw[nQ _ _ _ _ OM,show 2+(i-2)=i from by omega]at this;exact this
 ·rw[adQ OM];omega
theorem RV(x:List Int)(who iK key:Int)(hx:x.length=174)(hr:mi x=true):Bn (qx x who iK key).1:=by
 obtain⟨_,a2,a3⟩:=PL hr;unfold qx
 split
 ·rename_i h
  obtain⟨h1,h2,k0,k4⟩:=h;obtain⟨o0,o5⟩:=dW h2
  split
  ·have:=(oJ _ 4).1 a2 key.toNat OM
   replace this:oI (cellAt (cellsOf x) key.toNat)=true:=this;rw[zW _ _ OM]at this;exact Bn.of (by rw[ay];omega) this
  ·split
   ·have h3:=(VC (a3 iK.toNat OM)).2.2
    have:=(oJ _ 4).1 h3 key.toNat OM;replace this:oI (cellAt (leftOf x iK.toNat) key.toNat)=true:=this;have e:cellAt (leftOf x iK.toNat) key.toNat=sub x (34+iK.toNat*28+key.toNat*7) 7:=by
     rw[wu _ _ OM];unfold cellAt sub;rw[List.drop_take,List.drop_drop,List.take_take];congr 1;omega
    rw[e]at this;exact Bn.of (by rw[ay];omega) this
   ·exact Bn.aj
 ·exact Bn.aj
theorem PS(m:List Int)(iK key:Int)(h:Bk m):∀j,j<=5->Bn (Kc m iK key j).1
 |0,_=>Bn.aj
 |j+1,hj=>by
  unfold Kc
  split
  ·exact RV _ _ _ _ (by rw[ay,h.len];omega) (h.row j OM).1
  ·exact PS m iK key h j OM
theorem nZ{m:List Int}(h:Bk m)(iK key:Int):Bn (sW m iK key):=PS m iK key h 5 OM
def xV(m:List Int)(key:Int):Nat->Int
 |0=>0
 |j+1=>xV m key j+(gi (sW m j key) 0-gi (sW m j key) 1)
theorem wD{m:List Int}(h:Bk m)(key:Int):∀j:Nat,-(j*1099511627776:Int)<=xV m key j∧xV m key j<=j*1099511627776
 |0=>by simp[xV]
 |j+1=>by
  have ih:=wD h key j;have h0:=(nZ h j key).2 0;have h1:=(nZ h j key).2 1;have e:((j+1:Nat):Int)*1099511627776=j*1099511627776+1099511627776:=by omega
  unfold xV;rw[e];omega
def y5(m:List Int)(key:Int):Nat->List Int
 |0=>aj 35
 |j+1=>dF (y5 m key j) (j*7) (sW m j key)
theorem DJ{m:List Int}(h:Bk m)(key:Int):∀j,j<=5->(y5 m key j).length=35
 |0,_=>aa 35
 |j+1,hj=>by
  have:=DJ h key j OM;have hc:=(nZ h j key).1;unfold y5;rw[aY];omega
theorem Ke{m:List Int}(h:Bk m)(key:Int):∀j,j<=5->∀i,0<=gi (y5 m key j) i∧gi (y5 m key j) i<=1099511627776
 |0,_,i=>by unfold y5;rw[Vx];omega
 |j+1,hj,i=>by
  have hl:=DJ h key j OM;have hc:=nZ h j key;unfold y5;rw[Vz _ _ _ _ (by rw[hc.1,hl];omega)]
  split
  ·exact hc.2 _
  ·exact Ke h key j OM i
def PT(cs:List Int)(o:Nat):Nat->Int
 |0=>0
 |k+1=>PT cs o k+(gi cs (k*7+2+o) -gi cs (o*7+2+k))
def PU(cs L:List Int):Nat->Int
 |0=>0
 |j+1=>PU cs L j+(gi cs ((gi L j).toNat*7) -gi cs ((gi L j).toNat*7+1))+PT cs (gi L j).toNat 5
theorem z8{cs:List Int}(h:∀i,0<=gi cs i∧gi cs i<=1099511627776)(o:Nat):∀k:Nat,-(k*1099511627776:Int)<=PT cs o k∧PT cs o k<=k*1099511627776
 |0=>by simp[PT]
 |k+1=>by
  have ih:=z8 h o k;have h0:=h (k*7+2+o);have h1:=h (o*7+2+k);have e:((k+1:Nat):Int)*1099511627776=k*1099511627776+1099511627776:=by omega
  unfold PT;rw[e];omega
theorem F3{cs:List Int}(h:∀i,0<=gi cs i∧gi cs i<=1099511627776)(L:List Int):∀j:Nat,-(j*6597069766656:Int)<=PU cs L j∧PU cs L j<=j*6597069766656
 |0=>by simp[PU]
 |j+1=>by
  have ih:=F3 h L j;have h0:=h ((gi L j).toNat*7);have h1:=h ((gi L j).toNat*7+1);have h2:=z8 h (gi L j).toNat 5;have e:((j+1:Nat):Int)*6597069766656=j*6597069766656+6597069766656:=by omega
  unfold PU;rw[e];omega
theorem RZ(x:List Int)(who:Int):∀g∈jv x who 5,0<=g∧g<5:=by
 intro g hg;unfold jv at hg;obtain⟨i,hi,rfl⟩:=List.mem_map.1 hg;have:=List.mem_range.1 (List.mem_filter.1 hi).1;omega
end C
namespace C
theorem aap(w0:World)(x:List Int)(who:Int)(L:List Int)(hx:x.length=174)(hL:Hid (jv x who 5=L)):Calls prog 149 #[ia x,.int .i64 who] w0 λe w'=>
  ∃a c,e=.returned (.slice a L.length c)∧Inv [] w0 w' [bf 3 1 (.slice a L.length c) L.length (L.map (Value.int .i64))]:=by
 have:=aag w0 x who hx
 rwa [hL.out]at this
def kE(m:List Int)(who key:Int):Int:=if aP who=true then PU (y5 m key 5) (jv (sub m (who.toNat*174) 174) who 5) (jv (sub m (who.toNat*174) 174) who 5).length else 0
end C
namespace A
theorem row_of{T:List Nat}{w0 w:World}{m:List aG}{g n c:Nat}{e:TypeId}{xs:List Value}{a':Option Addr}{r:List UInt8}(h:Inv T w0 w (bf e 1 (.slice (some ⟨g,0,none⟩) n c) n xs::m))(hr:Rd w a' (r.map bv))(ha:∀x,a'=some x->x.block=g):Inv T w0 w (mQ (some g) a' r::m):=
 h.turn (λhs y hy=>by
  rcases List.mem_cons.1 hy with rfl|hy
  ·obtain⟨_,_,cur,hg,_⟩:=nR (hs _ (List.mem_cons_self))
   exact⟨λx hx=>(by rw[ha x hx]),λk hk=>(by cases hk;rw[hg];rfl),hr⟩
  ·exact hs y (by simp[hy])) (by simp[owned,mQ,bf,Value.ownBlock])
def ag8(w0:World)(r:List UInt8)(e:Ending)(w':World):Prop:=∃a' c' ab,r.length<=c'∧c'<=maxLen∧e=.returned (.tuple #[.slice a' r.length c',.bool true])∧Inv [] w0 w' [mQ ab a' r]
theorem Xz(w0:World)(f t:UInt8)(a:Option Addr)(n c:Nat)(p r:List UInt8)(hn:p.length=n)(hr:Rd w0 a (p.map bv))(hc:n<=c)(hl:n<=100000)(h:dZ f t p=some r):
  Calls prog 112 #[.int .i64 (f.toNat:Int),.int .i64 (t.toNat:Int),.slice a n c] w0 (ag8 w0 r):=by
 have hI:=Inv.start w0;have hf:=f.toNat_lt;have ht:=t.toNat_lt;obtain⟨x,y,rfl,rfl,hp⟩:∃x y,x=f∧y=t∧kI p=some (x::y::r):=by
  unfold dZ at h
  split at h
  ·rename_i x y r' htk
   split at h
   ·rename_i hcc
    cases h;exact⟨x,y,hcc.1,hcc.2,htk⟩
   ·cases h
  ·cases h
 have hrl:r.length<=100000:=by
  have:=sN hp;rw[<-hn,<-this,ny,List.length_cons,List.length_cons]at hl;omega
 replace hp:=HD hp;clear h;go_enter func112,ntmps112;go_wp2_with(first|refine YL ?_|(go_at_call 152;refine KO hI (qa p (x::y::r) _ _ _ hn hp.out (hI.Jg hr) hc hl) ?_;intro a2 c2 w3 hI;obtain⟨gq,hgq⟩:=gu (a':=a2) hI aA SI;subst hgq;have hc2:=Bz hI aA;have k0:=nN (hI.rd (a':=some ⟨gq,0,none⟩) aA) 0 x rfl;have k1:=nN (hI.rd (a':=some ⟨gq,0,none⟩) aA) 1 y rfl;simp only[List.length_cons]at hc2|-))
 ·go_ret2
  obtain⟨_,_,_,_,_,hcm,_⟩:=nR (hI.sat _ aA);have hr0:r.length=0:=by omega
  obtain rfl:=List.eq_nil_of_length_eq_zero hr0;exact⟨_,_,_,Nat.le_refl _,by simp,rfl,(row_of hI (Rd.nil _ _) (λx hx=>by cases hx;rfl)).sub (.cons_cons _ (List.nil_sublist _))⟩
 ·go_ret2
  obtain⟨_,_,_,_,_,hcm,_⟩:=nR (hI.sat _ aA);have hrd:=(hI.rd (a':=some ⟨gq,0,none⟩) aA).map_drop (f:=bv) 2;exact⟨_,_,_,by omega,by omega,rfl,(row_of hI (by simpa using hrd) (λx hx=>by cases hx;rfl)).sub (.cons_cons _ (List.nil_sublist _))⟩
section
variable (w0:World)(p:Nat)(pb c:Nat->Nat)(q:Nat->List QE)(f t i:Nat)(rP:f<5)(mR:t<5)(hi:i=f*5+t)(hft:f≠t)
include rP mR hi hft
theorem wK(h:Inv (jJ 132 p pb c q).own w0 w0 [jJ 132 p pb c q])(a0:Option Addr)(c0:Nat)(b0 r:List UInt8)(qt:List QE)(hq:q i=(a0,c0,b0)::qt)(hl:b0.length<=100000)(ho:dZ (UInt8.ofNat f) (UInt8.ofNat t) b0=some r):
  Calls prog 75 #[.pointer (some ⟨p,0,none⟩),.int .i64 f,.int .i64 t] w0 λe w'=>∃a2 c2 ab,r.length<=c2∧c2<=maxLen∧e=.returned (.tuple #[.slice a2 r.length c2,.bool true])∧Inv (jJ 132 p pb c q).own w0 w' [mQ ab a2 r,jJ 132 p pb c (gL q i qt)]:=by
 have hI:=h;have hfu:=HD (yU rP);have htu:=HD (yU mR);have uO:i∈bu:=nC OM OM;have hcv:f_ pb 25 (f*5+t)=.pointer (some ⟨pb i,0,none⟩):=by rw[<-hi];exact kL pb uO
 clear h hi;replace ho:=HD ho;replace hq:=HD hq;go_enter func75,ntmps75;replace ho:=ho.out;replace hq:=hq.out;go_wp2_with(first|go_at_call 71;refine KR (uf _ p pb f t rP mR (vE (hI.at_ aA))) ?_;rw[hcv]|go_at_call 111;with_reducible refine(ab6 _ p pb c q (i:=i) uO (hI.at_ aA) a0 c0 b0 qt hq).mono ?_;rintro e w1 ⟨rfl,hJ⟩;replace hI:=hI.Ml hJ jy;clear hJ;have hcap:=Bz hI aA|go_at_call 112;(with_reducible refine(U0 (Xz _ (UInt8.ofNat f) (UInt8.ofNat t) _ _ _ b0 r rfl (hI.rd aA) OM OM ho) (f:Int) (t:Int) hfu.out htu.out).mono ?_);rintro e w1 ⟨a2,c2,ab,hc1,hc2,rfl,hJ⟩;replace hI:=hI.seq hJ;simp only[List.cons_append,List.nil_append]at hI;clear hJ)
 go_ret2
 exact⟨a2,c2,ab,hc1,hc2,rfl,hI.sub (.cons_cons _ (.cons _ (.refl _)))⟩
theorem Lm(h:Inv (jJ 132 p pb c q).own w0 w0 [jJ 132 p pb c q])(a0:Option Addr)(c0:Nat)(b0:List UInt8)(qt:List QE)(hq:q i=(a0,c0,b0)::qt)(hl:b0.length<=100000)(ho:dZ (UInt8.ofNat f) (UInt8.ofNat t) b0=none):
  Calls prog 75 #[.pointer (some ⟨p,0,none⟩),.int .i64 f,.int .i64 t] w0 λe w'=>e=.returned (.tuple #[.slice none 0 0,.bool false])∧Inv (jJ 132 p pb c q).own w0 w' [jJ 132 p pb c (gL q i qt)]:=by
 have hI:=h;have hfu:=HD (yU rP);have htu:=HD (yU mR);have uO:i∈bu:=nC OM OM;have hcv:f_ pb 25 (f*5+t)=.pointer (some ⟨pb i,0,none⟩):=by rw[<-hi];exact kL pb uO
 clear h hi;replace ho:=HD ho;replace hq:=HD hq;go_enter func75,ntmps75;replace ho:=ho.out;replace hq:=hq.out;go_wp2_with(first|go_at_call 71;refine KR (uf _ p pb f t rP mR (vE (hI.at_ aA))) ?_;rw[hcv]|go_at_call 111;with_reducible refine(ab6 _ p pb c q (i:=i) uO (hI.at_ aA) a0 c0 b0 qt hq).mono ?_;rintro e w1 ⟨rfl,hJ⟩;replace hI:=hI.Ml hJ jy;clear hJ;have hcap:=Bz hI aA|go_at_call 112;with_reducible refine(U0 (Re _ (UInt8.ofNat f) (UInt8.ofNat t) _ _ _ b0 rfl (hI.rd aA) OM OM ho) (f:Int) (t:Int) hfu.out htu.out).mono ?_;rintro e w1 ⟨rfl,hbl⟩;replace hI:=hI.call hbl;clear hbl)
 go_ret2
 exact⟨rfl,hI.tl⟩
end
end A
