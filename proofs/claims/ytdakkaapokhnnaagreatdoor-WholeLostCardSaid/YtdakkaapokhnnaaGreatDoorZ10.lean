/- Contracts of functions. No condition. -/
import Derived.Test.YtdakkaapokhnnaaGreatDoorZ07
import Derived.Test.YtdakkaapokhnnaaGreatDoorZ08
namespace Go.Proofs.YtdakkaapokhnnaaGreatDoor
open Go.RowKit Go.Proofs.Tryz
set_option maxRecDepth 100000
set_option maxHeartbeats 6400000
set_option linter.all false
namespace B
def jL(zs:List Int)(k:Nat)(had c:List Int):List Int:=dF (dF (dX zs 14 k) 12 had) 9 c
theorem Np(w0:World)(b:Nat)(e0:TypeId)(zs:List Int)(hzl:zs.length=16)(hb:w0.heap[b]? =some (.cells (mix zs [false]).toArray e0 (0,0)))(k:Nat)(hk:k<5)(vF:aI (sub zs 0 7) k=true)(had c:List Int)(Vt:had.length=2)(hc3:c.length=3)(hh:0<gi had 0)(hls:lC (gi (sub (dX zs 14 k) 12 2) 0) (gi (sub (dX zs 14 k) 12 2) 1) (gi had 0) (gi had 1)=false):
  Calls prog 157 #[.pointer (some ⟨b,0,none⟩),.int .i64 k,ia (sub zs 7 2),ia had,ia c] w0 λe w'=>e=.returned (.bool (gN (gi (dX zs 14 k) 14) (gi (sub (dX zs 14 k) 0 7) 1)))∧Step [b] w0 w'∧w'.heap[b]? =some (.cells (mix (dX zs 14 k) [gN (gi (dX zs 14 k) 14) (gi (sub (dX zs 14 k) 0 7) 1)]).toArray e0 (0,0)):=by
 have hI:=yS hb;have hvl:(sub zs 0 7).length=7:=by rw[ay];omega
 have hb2:(sub zs 7 2).length=2:=by rw[ay];omega
 have hs:gb [false] 0=false:=rfl;have hmem:=HD vF;have hwr:=HD (yV hk);have vg:(k:Int).toNat=k:=by simp
 have hsh:(k:Nat) <64:=by omega
 have hh0:decide (0<gi had 0)=true:=by simpa using hh
 have hless:=HD hls;clear hls;have hz0:dX zs 14 k=zs.set 14 (bits BinOp.or IntKind.i64 (gi zs 14) (2^k)):=rfl;replace hz0:=HD hz0;clear vF hh;go_enter func157,ntmps157;go_upto_region 1 with(refine YX ?_;intro bx w hI)
 (try simp only[QN])
 (refine aH (C:=λw'=>Inv _ _ w' _) [] (λw'=>Inv _ _ w' _) hI.drew (λ_ h=>h) mixed KF ?_;clear hI;(repeat(first| ((with_reducible apply aZ);rfl;rfl;(focus(intro w (hI:Inv _ _ w _);go_wp2_with(first|with_reducible refine bA hI RF mU (by first|with_reducible exact mX|with_reducible exact gM) OM ?_|with_reducible refine bM hI RF mU (by exact tV) (by rw[hzl]) SI hs ?_|refine YL ?_|go_at_call 14;refine(gU _ (sub zs 0 7) _ hvl).mono ?_;rw[hmem.out];rintro e w1 ⟨rfl,hw1⟩;replace hI:=hI.call hw1;clear hw1);(try simp only[QN]);exact⟨rfl,rfl,hI⟩));(exact⟨_,rfl⟩)) | ((with_reducible apply cZ);rfl;rfl;(focus(intro D w hD hE;have hI:Inv _ _ w _:=hE;(try simp only[vV]at hI);go_wp2_with(with_reducible refine iy RF RF (by with_reducible exact gM) (by with_reducible exact kU) UM ?_);(try simp only[QN]);exact⟨rfl,rfl,hD⟩));(exact⟨_,rfl⟩))));(refine bn ?_;intro w (hI:Inv _ _ w _)))
 go_upto_region 3 with fail
 (try simp only[QN])
 (obtain⟨mE,qm⟩:=gX hI;refine aH (C:=λw'=>Inv _ _ w' _) [9] (λw'=>Inv _ _ w' (List.eraseIdx mE 3)) hI.drew (λw' h=>Inv.sub h (by subst qm;((try simp only[vV]);repeat(first|exact List.Sublist.slnil|with_reducible apply List.Sublist.cons_cons|apply List.Sublist.cons)))) mixed KF ?_;subst qm;clear hI;(repeat(first| ((with_reducible apply dw);rfl;rfl;rfl;(focus(intro w (hI:Inv _ _ w _);go_wp2_with((with_reducible refine kX hI RF RF Ty (by with_reducible exact nS) OM ?_);intro w hI);(try simp only[QN]);exact⟨rfl,rfl,hI⟩));(exact⟨undef,rfl⟩);(focus(intro w (hI:Inv _ _ w _);exact Inv.sub hI SB))) | ((with_reducible apply aZ);rfl;rfl;(focus(intro w (hI:Inv _ _ w _);go_wp2_with(with_reducible refine fV hI RF mU (by with_reducible exact nS) OM ?_);(try simp only[QN]);exact⟨rfl,rfl,hI⟩));(exact⟨_,rfl⟩))));(refine bn ?_;intro w (hI:Inv _ _ w _)))
 rw[hwr.out,<-hz0.out]at hI;have JW:(dX zs 14 k).length=16:=by unfold dX;rw[List.length_set];exact hzl
 clear hzl hvl hb2 hmem hz0 hs;generalize hgz:dX zs 14 k=z2 at*;replace hgz:=HD hgz;have hzl:=JW;have hv2:(sub z2 0 7).length=7:=by rw[ay];omega
 have hbl:(sub z2 12 2).length=2:=by rw[ay];omega
 go_upto_region 4 with fail
 (try simp only[QN])
 (refine aH (C:=λw'=>Inv _ _ w' _) [] (λw'=>Inv _ _ w' _) hI.drew (λ_ h=>h) mixed KF ?_;clear hI;(repeat((with_reducible apply aZ);rfl;rfl;(focus(intro w (hI:Inv _ _ w _);go_wp2_with(first|with_reducible refine bA hI RF mU (by with_reducible exact gM) OM ?_|refine YL ?_|go_at_call 180;(with_reducible refine(PI _ _ _ hbl Vt).mono ?_);rw[hless.out];rintro e w1 ⟨rfl,hw1⟩;replace hI:=hI.call hw1;clear hw1);(try simp only[QN]);exact⟨rfl,rfl,hI⟩));(exact⟨_,rfl⟩)));(refine bn ?_;intro w (hI:Inv _ _ w _)))
 go_upto_region 6 with fail
 (try simp only[QN])
 (obtain⟨mE,qm⟩:=gX hI;refine aH (C:=λw'=>Inv _ _ w' _) [12] (λw'=>Inv _ _ w' (List.eraseIdx mE 3)) hI.drew (λw' h=>Inv.sub h (by subst qm;((try simp only[vV]);repeat(first|exact List.Sublist.slnil|with_reducible apply List.Sublist.cons_cons|apply List.Sublist.cons)))) mixed KF ?_;subst qm;clear hI;(repeat(first| ((with_reducible apply dw);rfl;rfl;rfl;(focus(intro w (hI:Inv _ _ w _);go_wp2_with((with_reducible refine o7 (j:=0) hI RF RF (by rw[hzl]) Ty (by exact tV) SI ?_);intro w hI);(try simp only[QN]);exact⟨rfl,rfl,hI⟩));(exact⟨undef,rfl⟩);(focus(intro w (hI:Inv _ _ w _);exact Inv.sub hI SB))) | ((with_reducible apply aZ);rfl;rfl;(focus(intro w (hI:Inv _ _ w _);go_wp2_with(first|with_reducible refine bA hI RF mU (by with_reducible exact mX) OM ?_|with_reducible refine fV hI RF mU (by with_reducible exact nS) OM ?_|go_at_call 181;refine KD hI (ug _ _ _ hv2) ?_;intro w1 hI);(try simp only[QN]);exact⟨rfl,rfl,hI⟩));(exact⟨_,rfl⟩))));(refine bn ?_;intro w (hI:Inv _ _ w _)))
 exact W50
theorem Nq(w0:World)(b:Nat)(e0:TypeId)(zs:List Int)(hzl:zs.length=16)(hb:w0.heap[b]? =some (.cells (mix zs [false]).toArray e0 (0,0)))(k:Nat)(hk:k<5)(vF:aI (sub zs 0 7) k=true)(had c:List Int)(Vt:had.length=2)(hc3:c.length=3)(hh:0<gi had 0)(hls:lC (gi (sub (dX zs 14 k) 12 2) 0) (gi (sub (dX zs 14 k) 12 2) 1) (gi had 0) (gi had 1)=true):
  Calls prog 157 #[.pointer (some ⟨b,0,none⟩),.int .i64 k,ia (sub zs 7 2),ia had,ia c] w0 λe w'=>e=.returned (.bool (gN (gi (jL zs k had c) 14) (gi (sub (jL zs k had c) 0 7) 1)))∧Step [b] w0 w'∧w'.heap[b]? =some (.cells (mix (jL zs k had c) [gN (gi (jL zs k had c) 14) (gi (sub (jL zs k had c) 0 7) 1)]).toArray e0 (0,0)):=by
 have hI:=yS hb;have hvl:(sub zs 0 7).length=7:=by rw[ay];omega
 have hb2:(sub zs 7 2).length=2:=by rw[ay];omega
 have hs:gb [false] 0=false:=rfl;have hmem:=HD vF;have hwr:=HD (yV hk);have vg:(k:Int).toNat=k:=by simp
 have hsh:(k:Nat) <64:=by omega
 have hh0:decide (0<gi had 0)=true:=by simpa using hh
 have hless:=HD hls;clear hls;have hz0:dX zs 14 k=zs.set 14 (bits BinOp.or IntKind.i64 (gi zs 14) (2^k)):=rfl;replace hz0:=HD hz0;clear vF hh;go_enter func157,ntmps157;go_upto_region 1 with(refine YX ?_;intro bx w hI)
 (try simp only[QN])
 (refine aH (C:=λw'=>Inv _ _ w' _) [] (λw'=>Inv _ _ w' _) hI.drew (λ_ h=>h) mixed KF ?_;clear hI;(repeat(first| ((with_reducible apply aZ);rfl;rfl;(focus(intro w (hI:Inv _ _ w _);go_wp2_with(first|with_reducible refine bA hI RF mU (by first|with_reducible exact mX|with_reducible exact gM) OM ?_|with_reducible refine bM hI RF mU (by exact tV) (by rw[hzl]) SI hs ?_|refine YL ?_|go_at_call 14;refine(gU _ (sub zs 0 7) _ hvl).mono ?_;rw[hmem.out];rintro e w1 ⟨rfl,hw1⟩;replace hI:=hI.call hw1;clear hw1);(try simp only[QN]);exact⟨rfl,rfl,hI⟩));(exact⟨_,rfl⟩)) | ((with_reducible apply cZ);rfl;rfl;(focus(intro D w hD hE;have hI:Inv _ _ w _:=hE;(try simp only[vV]at hI);go_wp2_with(with_reducible refine iy RF RF (by with_reducible exact gM) (by with_reducible exact kU) UM ?_);(try simp only[QN]);exact⟨rfl,rfl,hD⟩));(exact⟨_,rfl⟩))));(refine bn ?_;intro w (hI:Inv _ _ w _)))
 go_upto_region 3 with fail
 (try simp only[QN])
 (obtain⟨mE,qm⟩:=gX hI;refine aH (C:=λw'=>Inv _ _ w' _) [9] (λw'=>Inv _ _ w' (List.eraseIdx mE 3)) hI.drew (λw' h=>Inv.sub h (by subst qm;((try simp only[vV]);repeat(first|exact List.Sublist.slnil|with_reducible apply List.Sublist.cons_cons|apply List.Sublist.cons)))) mixed KF ?_;subst qm;clear hI;(repeat(first| ((with_reducible apply dw);rfl;rfl;rfl;(focus(intro w (hI:Inv _ _ w _);go_wp2_with((with_reducible refine kX hI RF RF Ty (by with_reducible exact nS) OM ?_);intro w hI);(try simp only[QN]);exact⟨rfl,rfl,hI⟩));(exact⟨undef,rfl⟩);(focus(intro w (hI:Inv _ _ w _);exact Inv.sub hI SB))) | ((with_reducible apply aZ);rfl;rfl;(focus(intro w (hI:Inv _ _ w _);go_wp2_with(with_reducible refine fV hI RF mU (by with_reducible exact nS) OM ?_);(try simp only[QN]);exact⟨rfl,rfl,hI⟩));(exact⟨_,rfl⟩))));(refine bn ?_;intro w (hI:Inv _ _ w _)))
 rw[hwr.out,<-hz0.out]at hI;have JW:(dX zs 14 k).length=16:=by unfold dX;rw[List.length_set];exact hzl
 clear hzl hvl hb2 hmem hz0 hs;generalize hgz:dX zs 14 k=z2 at*;replace hgz:=HD hgz;have hzl:=JW;have hbl:(sub z2 12 2).length=2:=by rw[ay];omega
 go_upto_region 4 with fail
 (try simp only[QN])
 (refine aH (C:=λw'=>Inv _ _ w' _) [] (λw'=>Inv _ _ w' _) hI.drew (λ_ h=>h) mixed KF ?_;clear hI;(repeat((with_reducible apply aZ);rfl;rfl;(focus(intro w (hI:Inv _ _ w _);go_wp2_with(first|with_reducible refine bA hI RF mU (by with_reducible exact gM) OM ?_|refine YL ?_|go_at_call 180;(with_reducible refine(PI _ _ _ hbl Vt).mono ?_);rw[hless.out];rintro e w1 ⟨rfl,hw1⟩;replace hI:=hI.call hw1;clear hw1);(try simp only[QN]);exact⟨rfl,rfl,hI⟩));(exact⟨_,rfl⟩)));(refine bn ?_;intro w (hI:Inv _ _ w _)))
 go_upto_region 5 with fail
 (try simp only[QN])
 (obtain⟨mE,qm⟩:=gX hI;refine aH (C:=λw'=>Inv _ _ w' _) [6,9] (λw'=>Inv _ _ w' (List.eraseIdx mE 3)) hI.drew (λw' h=>Inv.sub h (by subst qm;((try simp only[vV]);repeat(first|exact List.Sublist.slnil|with_reducible apply List.Sublist.cons_cons|apply List.Sublist.cons)))) mixed KF ?_;subst qm;clear hI;(repeat(first| ((with_reducible apply dw);rfl;rfl;rfl;(focus(intro w (hI:Inv _ _ w _);go_wp2_with((with_reducible refine zS hI RF RF Ty (by first|with_reducible exact Cj|with_reducible exact gM) OM (by(repeat(rw[aY]))<;>omega) ?_);intro w hI);(try simp only[QN]);exact⟨rfl,rfl,hI⟩));(exact⟨undef,rfl⟩);(focus(intro w (hI:Inv _ _ w _);exact Inv.sub hI SB))) | ((with_reducible apply aZ);rfl;rfl;(focus(intro w (hI:Inv _ _ w _);go_wp2_with(refine YL ?_);(try simp only[QN]);exact⟨rfl,rfl,hI⟩));(exact⟨_,rfl⟩)) | ((with_reducible apply cZ);rfl;rfl;(focus(intro D w hD hE;have hI:Inv _ _ w _:=hE;(try simp only[vV]at hI);go_wp2_with(refine YL ?_);(try simp only[QN]);exact⟨rfl,rfl,hD⟩));(exact⟨_,rfl⟩))));(refine bn ?_;intro w (hI:Inv _ _ w _)))
 have htz:Hid (jL zs k had c=dF (dF z2 12 had) 9 c):=HD (by unfold jL;rw[hgz.out]);have aif:(dF (dF z2 12 had) 9 c).length=16:=by rw[aY,aY];omega
 clear hzl JW hbl;generalize dF (dF z2 12 had) 9 c=z3 at*;have hzl:=aif;have hv2:(sub z3 0 7).length=7:=by rw[ay];omega
 go_upto_region 6 with fail
 (try simp only[QN])
 (obtain⟨mE,qm⟩:=gX hI;refine aH (C:=λw'=>Inv _ _ w' _) [12] (λw'=>Inv _ _ w' (List.eraseIdx mE 3)) hI.drew (λw' h=>Inv.sub h (by subst qm;((try simp only[vV]);repeat(first|exact List.Sublist.slnil|with_reducible apply List.Sublist.cons_cons|apply List.Sublist.cons)))) mixed KF ?_;subst qm;clear hI;(repeat(first| ((with_reducible apply dw);rfl;rfl;rfl;(focus(intro w (hI:Inv _ _ w _);go_wp2_with((with_reducible refine o7 (j:=0) hI RF RF (by rw[hzl]) Ty (by exact tV) SI ?_);intro w hI);(try simp only[QN]);exact⟨rfl,rfl,hI⟩));(exact⟨undef,rfl⟩);(focus(intro w (hI:Inv _ _ w _);exact Inv.sub hI SB))) | ((with_reducible apply aZ);rfl;rfl;(focus(intro w (hI:Inv _ _ w _);go_wp2_with(first|with_reducible refine bA hI RF mU (by with_reducible exact mX) OM ?_|with_reducible refine fV hI RF mU (by with_reducible exact nS) OM ?_|go_at_call 181;refine KD hI (ug _ _ _ hv2) ?_;intro w1 hI);(try simp only[QN]);exact⟨rfl,rfl,hI⟩));(exact⟨_,rfl⟩))));(refine bn ?_;intro w (hI:Inv _ _ w _)))
 simp only[List.set_cons_zero]at hI;generalize hmm:gN (gi z3 14) (gi (sub z3 0 7) 1)=mm at*;replace hmm:=HD hmm;have hs:gb [mm] 0=mm:=rfl;go_wp2_with(with_reducible refine bM hI RF mU (by exact tV) (by rw[hzl]) SI hs ?_);go_ret;rw[htz.out,hmm.out];exact⟨rfl,hI.end_,hI.mbk mU⟩
end B
theorem Inv.Ct{T:List Nat}{w0 w:World}{W y:aG}{m:List aG}(h:Inv T w0 w (y::W::m)):Inv T w0 w (two W y::m):=by
 refine h.turn (λhs z hz=>?_) ?_
 ·simp only[List.mem_cons]at hz
  rcases hz with rfl|hz
  ·exact⟨hs W SI,hs y SI⟩
  ·exact hs _ (by simp[hz])
 ·simp only[bY]
  have e2:(two W y).own=W.own++y.own:=rfl;rw[e2,<-List.append_assoc];exact List.Perm.append_right _ List.perm_append_comm
theorem DD{ns:List Int}(o n:Nat):sub ns o n=(ns.drop o).take n:=rfl
theorem RQ(x y:List Int):ag (x++y)=ag x++ag y:=by simp[ag,sH]
theorem AJ(ns:List Int)(i n:Nat):ag (ns.take (i+n))=ag (ns.take i)++ag ((ns.drop i).take n):=by rw[<-RQ,List.take_add]
def qA:List Int->List Int->List UInt8
 | [],_=>[]
 |g::gs,cs=>rU (u64 g)++((if 0<g then ag (cs.take 28)else [])++qA gs (cs.drop 28))
def gy(ns:List Int):List UInt8:=ag (ns.take 29)++qA ((ns.drop 29).take 5) (ns.drop 34)
theorem DF:∀(gs cs:List Int) (j:Nat) (g:Int),gs[j]? =some g->qA (gs.take (j+1)) cs=qA (gs.take j) cs++(rU (u64 g)++(if 0<g then ag ((cs.drop (28*j)).take 28)else []))
 | [],_,_,_,h=>by simp at h
 |x::gs,cs,0,g,h=>by
  simp at h;subst h;simp[qA]
 |x::gs,cs,j+1,g,h=>by
  have:=DF gs (cs.drop 28) j g (by simpa using h);simp only[List.take_succ_cons,qA,this,List.append_assoc,List.drop_drop];rw[show 28+28*j=28*(j+1) by omega]
theorem zZ:∀(gs cs:List Int),(qA gs cs).length<=290*gs.length
 | [],_=>by simp[qA]
 |g::gs,cs=>by
  have ih:=zZ gs (cs.drop 28);have hg:=aT [g];have hc:=aT (cs.take 28);simp only[ag,sH,List.map_cons,List.map_nil,List.flatMap_cons,List.flatMap_nil,List.append_nil,List.length_cons,List.length_nil]at hg;simp only[qA,List.length_append,List.length_cons];have:(if 0<g then ag (cs.take 28)else []).length<=280:=by
   split
   ·simp only[List.length_take]at hc;omega
   ·simp
  omega
theorem oL{ns:List Int}(hn:ns.length=174):(gy ns).length<=1750:=by
 have h1:=aT (ns.take 29);have h2:=zZ ((ns.drop 29).take 5) (ns.drop 34);simp only[List.length_take,List.length_drop]at h1 h2;simp only[gy,List.length_append];omega
theorem VM(w0:World)(pw:Nat)(ob:Option Nat)(ns:List Int)(bs:List UInt8)(hn:ns.length=174)(hl:bs.length<=100000000)
  (hI:Inv (lJ pw ob bs).own w0 w0 [lJ pw ob bs]):
  Calls prog 172 #[.pointer (some ⟨pw,0,none⟩),ia ns] w0 λe w'=>∃uP,e=.returned (.pointer (some ⟨pw,0,none⟩))∧
   Inv (lJ pw ob bs).own w0 w' [lJ pw uP (bs++gy ns)]:=by
 have hnl:ns.length=174:=hn;go_enter func172,ntmps172;have hzj:∀j,j<174->∃z:Int,ns[j]? =some z∧gi ns j=z:=λj hj=>⟨ns[j],List.getElem?_eq_getElem OM,by simp[gi,List.getElem?_eq_getElem (show j<ns.length by omega)]⟩
 have hlen:∀j,(ag (ns.take j)).length<=1750:=λj=>by
  have:=aT (ns.take j);simp only[List.length_take]at this;omega
 have hgl:∀j,(qA (((ns.drop 29).take 5).take j) (ns.drop 34)).length<=1500:=λj=>by
  have:=zZ (((ns.drop 29).take 5).take j) (ns.drop 34);simp only[List.length_take,List.length_drop]at this;omega
 obtain⟨z0,hz0',hg0'⟩:=hzj 0 OM;have hg0:=HD hg0';obtain⟨zz,H8⟩:=EZ [z0];have hzz:Hid ([Value.int .i64 (gi ns 0)]=zz.map (Value.int .i64)):=HD (by rw[H8,hg0'];rfl);have VN:zz.length=1:=by rw[H8];rfl
 obtain⟨RU,ET⟩:∃cur,Hid (cur=bs):=⟨_,HD rfl⟩;have hl0:RU.length+10*zz.length<=1000000000:=by rw[ET.out];omega
 have hne:Hid (RU++ag zz=bs++ag (ns.take (1+7*0))):=HD (by rw[ET.out,H8,show 1+7*0=0+1 from rfl,Dy hz0'];simp[ag,sH]);rw[<-ET.out]at hI;clear hg0' hz0' H8 ET;go_upto_region 3 with(first|(with_reducible refine Ms hI (k:=?_);intro b2 w hI;replace hI:=Inv.tow hI)|go_at_call 171;refine KP hI (ko _ pw _ _ _ _ zz RU _ (by intro w h;rw[<-hzz.out];exact ja h) VN hl0 (hI.at_ aA)) ?_;intro uP w1 hI|refine YL ?_|refine YX ?_;intro bx w hI)
 rw[hne.out]at hI;clear hne hl0 hzz VN hg0;have VO:∀o,o+7<=174->((ns.drop o).take 7).length=7:=λo ho=>by simp;omega
 go_loopg [6,18] 4 (λkk s6 s18 wr=>∃(j:Nat) (zD:Option Nat),kk=4-j∧j<=4∧s18=.int .i64 j∧Inv (lJ pw ob RU).own w0 wr [lJ pw zD (bs++ag (ns.take (1+7*j))),ib bx 41 ns])
 case atStart=>exact⟨0,uP,by omega,by omega,rfl,hI⟩
 case round=>
  clear hI;obtain⟨j,zD,rfl,hj,rfl,hI⟩:=hrel;by_cases hlj:j<4
  ·obtain⟨zs,H9⟩:∃zs,Hid (zs=(ns.drop (1+7*j)).take 7):=⟨_,HD rfl⟩
   have hzn:zs.length=7:=by rw[H9.out];exact VO _ OM
   have hzc:Hid (sub (sub ns 1 28) (j*7) 7=zs):=HD (by rw[DD,DD,H9.out,List.drop_take,List.take_take,List.drop_drop,show 1+j*7=1+7*j by omega,show min 7 (28-j*7)=7 by omega]);have hnz:zs.length=7:=hzn;have hne:Hid ((bs++ag (ns.take (1+7*j)))++ag zs=bs++ag (ns.take (1+7*(j+1)))):=HD (by rw[H9.out,List.append_assoc,<-AJ];rfl);have hl1:(bs++ag (ns.take (1+7*j))).length+10*zs.length<=1000000000:=by rw[List.length_append,hzn];have:=hlen (1+7*j);omega
   obtain⟨cu,hcu⟩:=EH (bs++ag (ns.take (1+7*j)));rw[hcu.out]at hI hne hl1;clear H9 hcu;go_wp2_with(first|rw[Int.toNat_natCast,hzc.out]|go_at_call 188;refine KG hI (FZ _ pw _ zs cu hzn hl1 (hI.at_ aM)) ?_;intro ob2 w1 hI|refine YL ?_|refine YS ?_;intro w hI|refine YX ?_;intro bx w hI);go_roundg (4- (j+1))
   case measure=>omega
   case rel=>exact⟨j+1,ob2,by omega,by omega,by go_num,by rw[<-hne.out];exact hI.sub SB⟩
  ·obtain rfl:j=4:=by omega
   go_upto_region 8 with(refine YL ?_)
   obtain⟨cb,hcb⟩:∃cb,Hid (cb=bs++ag (ns.take 29)):=⟨_,HD rfl⟩;obtain⟨gs,hgs⟩:∃gs,Hid (gs=(ns.drop 29).take 5):=⟨_,HD rfl⟩;obtain⟨ls,hls⟩:∃ls,Hid (ls=ns.drop 34):=⟨_,HD rfl⟩;have hsub:Hid (sub ns 29 5=gs):=HD (by rw[DD,hgs.out]);rw[hsub.out];have ajj:cb.length<=110000000:=by rw[hcb.out,List.length_append];have:=hlen 29;omega
   have aij:∀j,(qA (gs.take j) ls).length<=1500:=λj=>by rw[hgs.out,hls.out];exact hgl j
   have hgn:gs.length=5:=by rw[hgs.out];simp;omega
   have ajk:gs.length=5:=hgn;rw[show bs++ag (List.take (1+7*4) ns)=cb from hcb.out.symm]at hI;have hfin:Hid (bs++gy ns=cb++qA gs ls):=HD (by rw[hcb.out,hgs.out,hls.out,gy,List.append_assoc])
   go_loopg [7,8,10,27] 5 (λkk s7 s8 s10 s27 wr=>∃(j:Nat) (zD:Option Nat),kk=5-j∧j<=5∧s27=.int .i64 j∧Inv (lJ pw ob RU).own w0 wr [lJ pw zD (cb++qA (gs.take j) ls),ib bx 41 ns])
   case atStart=>exact⟨0,zD,by omega,by omega,rfl,by simpa[qA]using hI⟩
   case round=>
    clear hI;obtain⟨j,ob3,rfl,hj,rfl,hI⟩:=hrel;by_cases hlj:j<5
    ·obtain⟨z,hz⟩:∃z,gs[j]? =some z:=⟨gs[j],List.getElem?_eq_getElem OM⟩
     have hgv:Hid (gi gs j=z):=HD (by simp[gi,hz]);have hnx:=HD (DF gs ls j z hz);obtain⟨zz,H8⟩:=EZ [z];have hzz:Hid ([Value.int .i64 z]=zz.map (Value.int .i64)):=HD (by rw[H8];rfl);have VN:zz.length=1:=by rw[H8];rfl
     have hl2:=aij j;obtain⟨cur,ET⟩:∃cur,Hid (cur=cb++qA (gs.take j) ls):=⟨_,HD rfl⟩;have hl0:cur.length+10*zz.length<=1000000000:=by rw[ET.out,List.length_append];omega
     rw[<-ET.out]at hI;have hzw:Hid (ag zz=rU (u64 z)):=HD (by rw[H8];simp[ag,sH]);clear H8 hz;by_cases hp:0<z
     ·have hd:decide ((0:Int) <z)=true:=by simp;omega
      go_upto_region 13 with(first|rw[Int.toNat_natCast,hgv.out]|(with_reducible refine Ms hI (k:=?_);intro b2 w hI;replace hI:=Inv.Ct hI)|go_at_call 171;refine KP hI (ko _ pw _ _ _ _ zz cur _ (by intro w h;rw[<-hzz.out];exact ja h) VN hl0 (hI.at_ aA)) ?_;intro uP w1 hI|refine YL ?_)
      rw[hzw.out]at hI;have aik:∀i,(cur++rU (u64 z)++ag (((ls.drop (28*j)).take 28).take (7*i))).length<=200000000:=λi=>by
       have h3:=aT (((ls.drop (28*j)).take 28).take (7*i));have h4:=aT zz;rw[hzw.out]at h4;simp only[List.length_append,List.length_take,ET.out]at h3|-;omega
      have hsub2:Hid (sub ns (34+j*28) 28=(ls.drop (28*j)).take 28):=HD (by rw[DD,hls.out,List.drop_drop];congr 3;omega);rw[if_pos hp]at hnx
      go_loopg [10,41] 4 (λkk s10 s41 wr=>∃(i:Nat) (zD:Option Nat),kk=4-i∧i<=4∧s41=.int .i64 i∧Inv (lJ pw ob RU).own w0 wr [lJ pw zD (cur++rU (u64 z)++ag (((ls.drop (28*j)).take 28).take (7*i))),ib bx 41 ns])
      case atStart=>exact⟨0,uP,by omega,by omega,rfl,by simpa[ag,sH]using hI⟩
      case round=>
       clear hI;obtain⟨i,ob4,rfl,hi,rfl,hI⟩:=hrel;by_cases hli:i<4
       ·obtain⟨zs,H9⟩:∃zs,Hid (zs=(((ls.drop (28*j)).take 28).drop (7*i)).take 7):=⟨_,HD rfl⟩
        have agr:zs=(ns.drop (34+28*j+7*i)).take 7:=by rw[H9.out,hls.out,List.drop_drop,List.drop_take,List.take_take,List.drop_drop,show min 7 (28-7*i)=7 by omega]
        have hzn:zs.length=7:=by rw[agr];exact VO _ OM
        have hnz:zs.length=7:=hzn;clear agr;have hzc:Hid (sub (sub ns (34+j*28) 28) (i*7) 7=zs):=HD (by rw[hsub2.out,DD,H9.out,Nat.mul_comm i 7]);have hne:Hid ((cur++rU (u64 z)++ag (((ls.drop (28*j)).take 28).take (7*i)))++ag zs=cur++rU (u64 z)++ag (((ls.drop (28*j)).take 28).take (7*(i+1)))):=HD (by rw[H9.out,List.append_assoc,<-AJ];rfl);have hl1:(cur++rU (u64 z)++ag (((ls.drop (28*j)).take 28).take (7*i))).length+10*zs.length<=1000000000:=by
         have h3:=aik i;simp only[List.length_append]at h3|-;omega
        obtain⟨cu,hcu⟩:=EH (cur++rU (u64 z)++ag (((ls.drop (28*j)).take 28).take (7*i)));rw[hcu.out]at hI hne hl1;clear H9 hcu;go_wp2_with(first|rw[Int.toNat_natCast,hzc.out]|go_at_call 188;refine KG hI (FZ _ pw _ zs cu hzn hl1 (hI.at_ aM)) ?_;intro ob2 w1 hI|refine YL ?_|refine YS ?_;intro w hI|refine YX ?_;intro bx w hI);go_roundg (4- (i+1))
        case measure=>omega
        case rel=>exact⟨i+1,ob2,by omega,by omega,by go_num,by rw[<-hne.out];exact hI.sub SB⟩
       ·obtain rfl:i=4:=by omega
        go_wp2_with fail;go_roundg (5- (j+1))
        case measure=>omega
        case rel=>exact⟨j+1,ob4,by omega,by omega,by go_num,by rw[ET.out,List.take_take,List.append_assoc,show min (7*4) 28=28 from rfl]at hI;rw[hnx.out,<-List.append_assoc];exact hI.sub SB⟩
     ·have hd:decide ((0:Int) <z)=false:=by simp;omega
      rw[if_neg hp,List.append_nil]at hnx;clear hp;go_wp2_with(first|rw[hgv.out]|(with_reducible refine Ms hI (k:=?_);intro b2 w hI;replace hI:=Inv.Ct hI)|go_at_call 171;refine KP hI (ko _ pw _ _ _ _ zz cur _ (by intro w h;rw[<-hzz.out];exact ja h) VN hl0 (hI.at_ aA)) ?_;intro uP w1 hI|refine YL ?_);go_roundg (5- (j+1))
      case measure=>omega
      case rel=>exact⟨j+1,uP,by omega,by omega,by go_num,by rw[hzw.out,ET.out]at hI;rw[hnx.out,<-List.append_assoc];exact hI.sub SB⟩
    ·obtain rfl:j=5:=by omega
     rw[List.take_of_length_le OM]at hI;go_wp2_with fail;go_ret;rw[hfin.out];exact⟨_,rfl,hI.sub SB⟩
theorem l7:(prog.info? 249).map (·.zero)=some (some (.agg #[.slice none 0 0])):=by kernel_rfl
theorem l8{T:List Nat}{w0 w:World}{pw:Nat}{m:List aG}(h:Inv T w0 w (blk pw 249 [.slice none 0 0]::m)):Inv T w0 w (lJ pw none []::m):=by
 refine h.turn (λhs y hy=>?_) (by simp[owned,blk,lJ]);rcases List.mem_cons.1 hy with rfl|hy
 ·exact⟨none,0,rfl,hs _ SI,(h.Av 5 1).sat _ SI⟩
 ·exact hs _ (by simp[hy])
section
variable (w0:World)(pw:Nat)(ob:Option Nat)(x:List Int)(ns:List Int){bs:List UInt8}
theorem G_(he:x=ns)(hn:ns.length=174)(hl:bs.length<=100000000)(hI:Inv (lJ pw ob bs).own w0 w0 [lJ pw ob bs]):
  Calls prog 172 #[.pointer (some ⟨pw,0,none⟩),ia x] w0 λe w'=>∃uP,e=.returned (.pointer (some ⟨pw,0,none⟩))∧Inv (lJ pw ob bs).own w0 w' [lJ pw uP (bs++gy ns)]:=by
 subst he;exact VM w0 pw ob x bs hn hl hI
theorem xF(he:x=ns)(hn:ns.length=2)(hl:bs.length+10*ns.length<=1000000000)(hI:Inv (lJ pw ob bs).own w0 w0 [lJ pw ob bs]):
  Calls prog 173 #[.pointer (some ⟨pw,0,none⟩),ia x] w0 λe w'=>∃uP,e=.returned (.pointer (some ⟨pw,0,none⟩))∧Inv (lJ pw ob bs).own w0 w' [lJ pw uP (bs++ag ns)]:=by
 subst he;exact Ka w0 pw ob x bs hn hl hI
theorem Cw(he:x=ns)(hn:ns.length=3)(hl:bs.length+10*ns.length<=1000000000)(hI:Inv (lJ pw ob bs).own w0 w0 [lJ pw ob bs]):
  Calls prog 174 #[.pointer (some ⟨pw,0,none⟩),ia x] w0 λe w'=>∃uP,e=.returned (.pointer (some ⟨pw,0,none⟩))∧Inv (lJ pw ob bs).own w0 w' [lJ pw uP (bs++ag ns)]:=by
 subst he;exact Kb w0 pw ob x bs hn hl hI
theorem Jl(he:x=ns)(hn:ns.length=7)(hl:bs.length+10*ns.length<=1000000000)(hI:Inv (lJ pw ob bs).own w0 w0 [lJ pw ob bs]):
  Calls prog 175 #[.pointer (some ⟨pw,0,none⟩),ia x] w0 λe w'=>∃uP,e=.returned (.pointer (some ⟨pw,0,none⟩))∧Inv (lJ pw ob bs).own w0 w' [lJ pw uP (bs++ag ns)]:=by
 subst he;exact RP w0 pw ob x bs hn hl hI
end
def ags(r:List Int):List UInt8:=(ag [0]++gy r)
theorem adA(w0:World)(w:Int)(r:List Int)(e:Int)(b:List Int)(c:List Int)(v:List Int)(nr:r.length=174)(nb:b.length=2)(nc:c.length=3)(nv:v.length=7):
  Calls prog 151 #[ia (aW 0 w r e b c v)] w0 λen w'=>∃ad cd,en=.returned (.slice ad (ag [0]++gy r).length cd)∧(ag [0]++gy r).length<=2000∧Inv [] w0 w' [bf 5 1 (.slice ad (ag [0]++gy r).length cd) (ag [0]++gy r).length ((ag [0]++gy r).map bv)]:=by
 have mr:r.length=174:=nr;have hI:=Inv.start w0;have xU:(aW 0 w r e b c v).length=189:=by simp only[aW,List.length_append,List.length_cons,List.length_nil];omega
 obtain⟨Z,hZ⟩:=EZ (aW 0 w r e b c v);rw[<-hZ]at xU|-;have jU:Hid (gi Z 0=0):=HD (by rw[hZ];exact b_);obtain⟨zs,dG⟩:=EZ ([0]:List Int);have hrow:Hid ([Value.int .i64 (gi Z 0)]=zs.map (Value.int .i64)):=HD (by rw[dG,hZ,b_];rfl);have hzl:zs.length=1:=by rw[dG];rfl
 have hl0:([]:List UInt8).length+10*zs.length<=1000000000:=by rw[hzl];decide
 have hn0:(ag zs).length<=20:=by have:=aT zs;omega
 have e1:Hid (sub Z 2 174=r):=HD (by rw[hZ];exact gB mr);have n1:=nr;have hl1:(ag zs).length<=100000000:=by omega
 have hw1:=oL nr;have e2:=HD hn0;have n2:=hn0;have hl2:=hn0;have e3:=HD hn0;have n3:=hn0;have hl3:=hn0;have Ji:(ag zs++gy r).length<=2000:=by(try simp only[List.length_append]);omega
 have hlB:(ag zs++gy r).length<=1000000000:=by omega
 have hB:Hid ((ag zs++gy r)=(ag [0]++gy r)):=HD (by rw[dG]);rw[<-hB.out];clear hZ dG hB;go_enter func151,ntmps151;go_upto_region 3 with(first|(with_reducible refine aL (z:=.agg #[.slice none 0 0]) (cs:=[.slice none 0 0]) hI l7 RF ?_;intro pw w hI;replace hI:=l8 hI)|refine YL ?_|refine YX ?_;intro bx w hI)
 rw[jU.out];go_upto_region 4 with(fail)
 (refine ZR [3,4,7] [0,5,6] [3,4] [0,1,2,5,6,3,4,7] (λw=>Inv [] w0 w [ib bx 143 Z]) hI ?_;intro wd hI)
 (repeat(first|refine ZS ?_|refine ZQ ?_;go_wp2_with(first|go_at_call 172;refine KG hI (G_ _ pw _ _ _ (by exact e1.out) (by exact n1) (by exact hl1) (hI.at_ aA)) ?_;intro zD w1 hI|(with_reducible refine Ms hI (k:=?_);intro b2 w hI;replace hI:=Inv.Ct hI)|go_at_call 171;refine KP hI (ko _ pw _ _ _ _ zs [] _ (by intro w h;rw[<-hrow.out];exact ja h) hzl hl0 (hI.at_ aA)) ?_;intro zD w1 hI;(try simp only[List.nil_append]at hI)|refine YL ?_);refine ZP ?_))
 exact W5
def agt(w:Int)(r:List Int):List UInt8:=(ag [1,w]++gy r)
theorem adB(w0:World)(w:Int)(r:List Int)(e:Int)(b:List Int)(c:List Int)(v:List Int)(nr:r.length=174)(nb:b.length=2)(nc:c.length=3)(nv:v.length=7):
  Calls prog 151 #[ia (aW 1 w r e b c v)] w0 λen w'=>∃ad cd,en=.returned (.slice ad (ag [1,w]++gy r).length cd)∧(ag [1,w]++gy r).length<=2000∧Inv [] w0 w' [bf 5 1 (.slice ad (ag [1,w]++gy r).length cd) (ag [1,w]++gy r).length ((ag [1,w]++gy r).map bv)]:=by
 have mr:r.length=174:=nr;have hI:=Inv.start w0;have xU:(aW 1 w r e b c v).length=189:=by simp only[aW,List.length_append,List.length_cons,List.length_nil];omega
 obtain⟨Z,hZ⟩:=EZ (aW 1 w r e b c v);rw[<-hZ]at xU|-;have jU:Hid (gi Z 0=1):=HD (by rw[hZ];exact b_);obtain⟨zs,dG⟩:=EZ ([1,w]:List Int);have hrow:Hid ([Value.int .i64 (gi Z 0),Value.int .i64 (gi Z 1)]=zs.map (Value.int .i64)):=HD (by rw[dG,hZ,b_,vU];rfl);have hzl:zs.length=2:=by rw[dG];rfl
 have hl0:([]:List UInt8).length+10*zs.length<=1000000000:=by rw[hzl];decide
 have hn0:(ag zs).length<=20:=by have:=aT zs;omega
 have e1:Hid (sub Z 2 174=r):=HD (by rw[hZ];exact gB mr);have n1:=nr;have hl1:(ag zs).length<=100000000:=by omega
 have hw1:=oL nr;have e2:=HD hn0;have n2:=hn0;have hl2:=hn0;have e3:=HD hn0;have n3:=hn0;have hl3:=hn0;have Ji:(ag zs++gy r).length<=2000:=by(try simp only[List.length_append]);omega
 have hlB:(ag zs++gy r).length<=1000000000:=by omega
 have hB:Hid ((ag zs++gy r)=(ag [1,w]++gy r)):=HD (by rw[dG]);rw[<-hB.out];clear hZ dG hB;go_enter func151,ntmps151;go_upto_region 3 with(first|(with_reducible refine aL (z:=.agg #[.slice none 0 0]) (cs:=[.slice none 0 0]) hI l7 RF ?_;intro pw w hI;replace hI:=l8 hI)|refine YL ?_|refine YX ?_;intro bx w hI)
 rw[jU.out];go_upto_region 6 with(fail)
 (refine ZR [5,6,9] [0,7,8] [5,6] [0,1,2,3,4,7,8,5,6,9] (λw=>Inv [] w0 w [ib bx 143 Z]) hI ?_;intro wd hI)
 (repeat(first|refine ZS ?_|refine ZQ ?_;go_wp2_with(first|go_at_call 172;refine KG hI (G_ _ pw _ _ _ (by exact e1.out) (by exact n1) (by exact hl1) (hI.at_ aA)) ?_;intro zD w1 hI|(with_reducible refine Ci hI (k:=?_);intro b2 w hI;replace hI:=Inv.Ct hI)|go_at_call 171;refine KP hI (ko _ pw _ _ _ _ zs [] _ (by intro w h;rw[<-hrow.out];exact ja h) hzl hl0 (hI.at_ aA)) ?_;intro zD w1 hI;(try simp only[List.nil_append]at hI)|refine YL ?_);refine ZP ?_))
 exact W5
def agu(w:Int):List UInt8:=ag [2,w]
theorem adC(w0:World)(w:Int)(r:List Int)(e:Int)(b:List Int)(c:List Int)(v:List Int)(nr:r.length=174)(nb:b.length=2)(nc:c.length=3)(nv:v.length=7):
  Calls prog 151 #[ia (aW 2 w r e b c v)] w0 λen w'=>∃ad cd,en=.returned (.slice ad (ag [2,w]).length cd)∧(ag [2,w]).length<=2000∧Inv [] w0 w' [bf 5 1 (.slice ad (ag [2,w]).length cd) (ag [2,w]).length ((ag [2,w]).map bv)]:=by
 have hI:=Inv.start w0;have xU:(aW 2 w r e b c v).length=189:=by simp only[aW,List.length_append,List.length_cons,List.length_nil];omega
 obtain⟨Z,hZ⟩:=EZ (aW 2 w r e b c v);rw[<-hZ]at xU|-;have jU:Hid (gi Z 0=2):=HD (by rw[hZ];exact b_);obtain⟨zs,dG⟩:=EZ ([2,w]:List Int);have hrow:Hid ([Value.int .i64 (gi Z 0),Value.int .i64 (gi Z 1)]=zs.map (Value.int .i64)):=HD (by rw[dG,hZ,b_,vU];rfl);have hzl:zs.length=2:=by rw[dG];rfl
 have hl0:([]:List UInt8).length+10*zs.length<=1000000000:=by rw[hzl];decide
 have hn0:(ag zs).length<=20:=by have:=aT zs;omega
 have e1:=HD hn0;have n1:=hn0;have hl1:=hn0;have e2:=HD hn0;have n2:=hn0;have hl2:=hn0;have e3:=HD hn0;have n3:=hn0;have hl3:=hn0;have Ji:(ag zs).length<=2000:=by(try simp only[List.length_append]);omega
 have hlB:(ag zs).length<=1000000000:=by omega
 have hB:Hid (ag zs=ag [2,w]):=HD (by rw[dG]);rw[<-hB.out];clear hZ dG hB;go_enter func151,ntmps151;exact W19
def agv(e:Int)(b:List Int):List UInt8:=(ag [3,e]++ag b)
theorem adD(w0:World)(w:Int)(r:List Int)(e:Int)(b:List Int)(c:List Int)(v:List Int)(nr:r.length=174)(nb:b.length=2)(nc:c.length=3)(nv:v.length=7):
  Calls prog 151 #[ia (aW 3 w r e b c v)] w0 λen w'=>∃ad cd,en=.returned (.slice ad (ag [3,e]++ag b).length cd)∧(ag [3,e]++ag b).length<=2000∧Inv [] w0 w' [bf 5 1 (.slice ad (ag [3,e]++ag b).length cd) (ag [3,e]++ag b).length ((ag [3,e]++ag b).map bv)]:=by
 have mb:b.length=2:=nb;have hI:=Inv.start w0;have xU:(aW 3 w r e b c v).length=189:=by simp only[aW,List.length_append,List.length_cons,List.length_nil];omega
 obtain⟨Z,hZ⟩:=EZ (aW 3 w r e b c v);rw[<-hZ]at xU|-;have jU:Hid (gi Z 0=3):=HD (by rw[hZ];exact b_);obtain⟨zs,dG⟩:=EZ ([3,e]:List Int);have hrow:Hid ([Value.int .i64 (gi Z 0),Value.int .i64 (gi Z 176)]=zs.map (Value.int .i64)):=HD (by rw[dG,hZ,b_,Fg nr];rfl);have hzl:zs.length=2:=by rw[dG];rfl
 have hl0:([]:List UInt8).length+10*zs.length<=1000000000:=by rw[hzl];decide
 have hn0:(ag zs).length<=20:=by have:=aT zs;omega
 have e1:Hid (sub Z 177 2=b):=HD (by rw[hZ];exact eU nr mb);have n1:=nb;have hw1:=aT b;have hl1:(ag zs).length+10*b.length<=1000000000:=by(try simp only[List.length_append]);omega
 have e2:=HD hn0;have n2:=hn0;have hl2:=hn0;have e3:=HD hn0;have n3:=hn0;have hl3:=hn0;have Ji:(ag zs++ag b).length<=2000:=by(try simp only[List.length_append]);omega
 have hlB:(ag zs++ag b).length<=1000000000:=by omega
 have hB:Hid ((ag zs++ag b)=(ag [3,e]++ag b)):=HD (by rw[dG]);rw[<-hB.out];clear hZ dG hB;go_enter func151,ntmps151;go_upto_region 3 with(first|(with_reducible refine aL (z:=.agg #[.slice none 0 0]) (cs:=[.slice none 0 0]) hI l7 RF ?_;intro pw w hI;replace hI:=l8 hI)|refine YL ?_|refine YX ?_;intro bx w hI)
 rw[jU.out];go_upto_region 10 with(fail)
 (refine ZR [5,6,9] [0,7,8] [5,6] [0,1,2,3,4,7,8,5,6,9] (λw=>Inv [] w0 w [ib bx 143 Z]) hI ?_;intro wd hI)
 exact W11
def VP(e:Int)(b:List Int)(c:List Int):List UInt8:=((ag [4,e]++ag b)++ag c)
theorem adE(w0:World)(w:Int)(r:List Int)(e:Int)(b:List Int)(c:List Int)(v:List Int)(nr:r.length=174)(nb:b.length=2)(nc:c.length=3)(nv:v.length=7):
  Calls prog 151 #[ia (aW 4 w r e b c v)] w0 λen w'=>∃ad cd,en=.returned (.slice ad ((ag [4,e]++ag b)++ag c).length cd)∧((ag [4,e]++ag b)++ag c).length<=2000∧Inv [] w0 w' [bf 5 1 (.slice ad ((ag [4,e]++ag b)++ag c).length cd) ((ag [4,e]++ag b)++ag c).length (((ag [4,e]++ag b)++ag c).map bv)]:=by
 have mb:b.length=2:=nb;have mc:c.length=3:=nc;have hI:=Inv.start w0;have xU:(aW 4 w r e b c v).length=189:=by simp only[aW,List.length_append,List.length_cons,List.length_nil];omega
 obtain⟨Z,hZ⟩:=EZ (aW 4 w r e b c v);rw[<-hZ]at xU|-;have jU:Hid (gi Z 0=4):=HD (by rw[hZ];exact b_);obtain⟨zs,dG⟩:=EZ ([4,e]:List Int);have hrow:Hid ([Value.int .i64 (gi Z 0),Value.int .i64 (gi Z 176)]=zs.map (Value.int .i64)):=HD (by rw[dG,hZ,b_,Fg nr];rfl);have hzl:zs.length=2:=by rw[dG];rfl
 have hl0:([]:List UInt8).length+10*zs.length<=1000000000:=by rw[hzl];decide
 have hn0:(ag zs).length<=20:=by have:=aT zs;omega
 have e1:Hid (sub Z 177 2=b):=HD (by rw[hZ];exact eU nr mb);have n1:=nb;have hw1:=aT b;have hl1:(ag zs).length+10*b.length<=1000000000:=by(try simp only[List.length_append]);omega
 have e2:Hid (sub Z 179 3=c):=HD (by rw[hZ];exact iD nr mb mc);have n2:=nc;have hw2:=aT c;have hl2:(ag zs++ag b).length+10*c.length<=1000000000:=by(try simp only[List.length_append]);omega
 have e3:=HD hn0;have n3:=hn0;have hl3:=hn0;have Ji:((ag zs++ag b)++ag c).length<=2000:=by(try simp only[List.length_append]);omega
 have hlB:((ag zs++ag b)++ag c).length<=1000000000:=by omega
 have hB:Hid (((ag zs++ag b)++ag c)=((ag [4,e]++ag b)++ag c)):=HD (by rw[dG]);rw[<-hB.out];clear hZ dG hB;go_enter func151,ntmps151;go_upto_region 3 with(first|(with_reducible refine aL (z:=.agg #[.slice none 0 0]) (cs:=[.slice none 0 0]) hI l7 RF ?_;intro pw w hI;replace hI:=l8 hI)|refine YL ?_|refine YX ?_;intro bx w hI)
 rw[jU.out];go_upto_region 12 with(fail)
 (refine ZR [5,6,9,12] [0,7,8,10,11] [5,6,9] [0,1,2,3,4,7,8,10,11,5,6,9,12] (λw=>Inv [] w0 w [ib bx 143 Z]) hI ?_;intro wd hI)
 exact W25
def agw(v:List Int):List UInt8:=(ag [5]++ag v)
theorem adF(w0:World)(w:Int)(r:List Int)(e:Int)(b:List Int)(c:List Int)(v:List Int)(nr:r.length=174)(nb:b.length=2)(nc:c.length=3)(nv:v.length=7):
  Calls prog 151 #[ia (aW 5 w r e b c v)] w0 λen w'=>∃ad cd,en=.returned (.slice ad (ag [5]++ag v).length cd)∧(ag [5]++ag v).length<=2000∧Inv [] w0 w' [bf 5 1 (.slice ad (ag [5]++ag v).length cd) (ag [5]++ag v).length ((ag [5]++ag v).map bv)]:=by
 have mv:v.length=7:=nv;have hI:=Inv.start w0;have xU:(aW 5 w r e b c v).length=189:=by simp only[aW,List.length_append,List.length_cons,List.length_nil];omega
 obtain⟨Z,hZ⟩:=EZ (aW 5 w r e b c v);rw[<-hZ]at xU|-;have jU:Hid (gi Z 0=5):=HD (by rw[hZ];exact b_);obtain⟨zs,dG⟩:=EZ ([5]:List Int);have hrow:Hid ([Value.int .i64 (gi Z 0)]=zs.map (Value.int .i64)):=HD (by rw[dG,hZ,b_];rfl);have hzl:zs.length=1:=by rw[dG];rfl
 have hl0:([]:List UInt8).length+10*zs.length<=1000000000:=by rw[hzl];decide
 have hn0:(ag zs).length<=20:=by have:=aT zs;omega
 have e1:Hid (sub Z 182 7=v):=HD (by rw[hZ];exact iE nr nb nc mv);have n1:=nv;have hw1:=aT v;have hl1:(ag zs).length+10*v.length<=1000000000:=by(try simp only[List.length_append]);omega
 have e2:=HD hn0;have n2:=hn0;have hl2:=hn0;have e3:=HD hn0;have n3:=hn0;have hl3:=hn0;have Ji:(ag zs++ag v).length<=2000:=by(try simp only[List.length_append]);omega
 have hlB:(ag zs++ag v).length<=1000000000:=by omega
 have hB:Hid ((ag zs++ag v)=(ag [5]++ag v)):=HD (by rw[dG]);rw[<-hB.out];clear hZ dG hB;go_enter func151,ntmps151;go_upto_region 3 with(first|(with_reducible refine aL (z:=.agg #[.slice none 0 0]) (cs:=[.slice none 0 0]) hI l7 RF ?_;intro pw w hI;replace hI:=l8 hI)|refine YL ?_|refine YX ?_;intro bx w hI)
 rw[jU.out];go_upto_region 14 with(fail)
 (refine ZR [3,4,7] [0,5,6] [3,4] [0,1,2,5,6,3,4,7] (λw=>Inv [] w0 w [ib bx 143 Z]) hI ?_;intro wd hI)
 exact W34
def ab_(w:Int)(r:List Int):List UInt8:=(ag [0,w]++gy r)
theorem adG(w0:World)(w:Int)(r:List Int)(n:Int)(e:Int)(b:List Int)(h:List Int)(c:List Int)(v:List Int)(nr:r.length=174)(nb:b.length=2)(nh:h.length=2)(nc:c.length=3)(nv:v.length=7):
  Calls prog 215 #[ia (aB 0 w r n e b h c v)] w0 λen w'=>∃ad cd,en=.returned (.slice ad (ag [0,w]++gy r).length cd)∧(ag [0,w]++gy r).length<=2000∧Inv [] w0 w' [bf 5 1 (.slice ad (ag [0,w]++gy r).length cd) (ag [0,w]++gy r).length ((ag [0,w]++gy r).map bv)]:=by
 have mr:r.length=174:=nr;have hI:=Inv.start w0;have xU:(aB 0 w r n e b h c v).length=192:=by simp only[aB,List.length_append,List.length_cons,List.length_nil];omega
 obtain⟨Z,hZ⟩:=EZ (aB 0 w r n e b h c v);rw[<-hZ]at xU|-;have jU:Hid (gi Z 0=0):=HD (by rw[hZ];exact aC);obtain⟨zs,dG⟩:=EZ ([0,w]:List Int);have hrow:Hid ([Value.int .i64 (gi Z 0),Value.int .i64 (gi Z 1)]=zs.map (Value.int .i64)):=HD (by rw[dG,hZ,aC,j4];rfl);have hzl:zs.length=2:=by rw[dG];rfl
 have hl0:([]:List UInt8).length+10*zs.length<=1000000000:=by rw[hzl];decide
 have hn0:(ag zs).length<=20:=by have:=aT zs;omega
 have e1:Hid (sub Z 2 174=r):=HD (by rw[hZ];exact bO mr);have n1:=nr;have hl1:(ag zs).length<=100000000:=by omega
 have hw1:=oL nr;have e2:=HD hn0;have n2:=hn0;have hl2:=hn0;have e3:=HD hn0;have n3:=hn0;have hl3:=hn0;have Ji:(ag zs++gy r).length<=2000:=by(try simp only[List.length_append]);omega
 have hlB:(ag zs++gy r).length<=1000000000:=by omega
 have hB:Hid ((ag zs++gy r)=(ag [0,w]++gy r)):=HD (by rw[dG]);exact W7
def aca(n:Int):List UInt8:=ag [1,n]
theorem adH(w0:World)(w:Int)(r:List Int)(n:Int)(e:Int)(b:List Int)(h:List Int)(c:List Int)(v:List Int)(nr:r.length=174)(nb:b.length=2)(nh:h.length=2)(nc:c.length=3)(nv:v.length=7):
  Calls prog 215 #[ia (aB 1 w r n e b h c v)] w0 λen w'=>∃ad cd,en=.returned (.slice ad (ag [1,n]).length cd)∧(ag [1,n]).length<=2000∧Inv [] w0 w' [bf 5 1 (.slice ad (ag [1,n]).length cd) (ag [1,n]).length ((ag [1,n]).map bv)]:=by
 have hI:=Inv.start w0;have xU:(aB 1 w r n e b h c v).length=192:=by simp only[aB,List.length_append,List.length_cons,List.length_nil];omega
 obtain⟨Z,hZ⟩:=EZ (aB 1 w r n e b h c v);rw[<-hZ]at xU|-;have jU:Hid (gi Z 0=1):=HD (by rw[hZ];exact aC);obtain⟨zs,dG⟩:=EZ ([1,n]:List Int);have hrow:Hid ([Value.int .i64 (gi Z 0),Value.int .i64 (gi Z 176)]=zs.map (Value.int .i64)):=HD (by rw[dG,hZ,aC,Fh nr];rfl);have hzl:zs.length=2:=by rw[dG];rfl
 have hl0:([]:List UInt8).length+10*zs.length<=1000000000:=by rw[hzl];decide
 have hn0:(ag zs).length<=20:=by have:=aT zs;omega
 have e1:=HD hn0;have n1:=hn0;have hl1:=hn0;have e2:=HD hn0;have n2:=hn0;have hl2:=hn0;have e3:=HD hn0;have n3:=hn0;have hl3:=hn0;have Ji:(ag zs).length<=2000:=by(try simp only[List.length_append]);omega
 have hlB:(ag zs).length<=1000000000:=by omega
 have hB:Hid (ag zs=ag [1,n]):=HD (by rw[dG]);rw[<-hB.out];clear hZ dG hB;go_enter func215,ntmps215;exact W19
def acb(w:Int)(r:List Int):List UInt8:=(ag [2,w]++gy r)
theorem adI(w0:World)(w:Int)(r:List Int)(n:Int)(e:Int)(b:List Int)(h:List Int)(c:List Int)(v:List Int)(nr:r.length=174)(nb:b.length=2)(nh:h.length=2)(nc:c.length=3)(nv:v.length=7):
  Calls prog 215 #[ia (aB 2 w r n e b h c v)] w0 λen w'=>∃ad cd,en=.returned (.slice ad (ag [2,w]++gy r).length cd)∧(ag [2,w]++gy r).length<=2000∧Inv [] w0 w' [bf 5 1 (.slice ad (ag [2,w]++gy r).length cd) (ag [2,w]++gy r).length ((ag [2,w]++gy r).map bv)]:=by
 have mr:r.length=174:=nr;have hI:=Inv.start w0;have xU:(aB 2 w r n e b h c v).length=192:=by simp only[aB,List.length_append,List.length_cons,List.length_nil];omega
 obtain⟨Z,hZ⟩:=EZ (aB 2 w r n e b h c v);rw[<-hZ]at xU|-;have jU:Hid (gi Z 0=2):=HD (by rw[hZ];exact aC);obtain⟨zs,dG⟩:=EZ ([2,w]:List Int);have hrow:Hid ([Value.int .i64 (gi Z 0),Value.int .i64 (gi Z 1)]=zs.map (Value.int .i64)):=HD (by rw[dG,hZ,aC,j4];rfl);have hzl:zs.length=2:=by rw[dG];rfl
 have hl0:([]:List UInt8).length+10*zs.length<=1000000000:=by rw[hzl];decide
 have hn0:(ag zs).length<=20:=by have:=aT zs;omega
 have e1:Hid (sub Z 2 174=r):=HD (by rw[hZ];exact bO mr);have n1:=nr;have hl1:(ag zs).length<=100000000:=by omega
 have hw1:=oL nr;have e2:=HD hn0;have n2:=hn0;have hl2:=hn0;have e3:=HD hn0;have n3:=hn0;have hl3:=hn0;have Ji:(ag zs++gy r).length<=2000:=by(try simp only[List.length_append]);omega
 have hlB:(ag zs++gy r).length<=1000000000:=by omega
 have hB:Hid ((ag zs++gy r)=(ag [2,w]++gy r)):=HD (by rw[dG]);exact W7
def acd(e:Int)(b:List Int):List UInt8:=(ag [3,e]++ag b)
theorem adJ(w0:World)(w:Int)(r:List Int)(n:Int)(e:Int)(b:List Int)(h:List Int)(c:List Int)(v:List Int)(nr:r.length=174)(nb:b.length=2)(nh:h.length=2)(nc:c.length=3)(nv:v.length=7):
  Calls prog 215 #[ia (aB 3 w r n e b h c v)] w0 λen w'=>∃ad cd,en=.returned (.slice ad (ag [3,e]++ag b).length cd)∧(ag [3,e]++ag b).length<=2000∧Inv [] w0 w' [bf 5 1 (.slice ad (ag [3,e]++ag b).length cd) (ag [3,e]++ag b).length ((ag [3,e]++ag b).map bv)]:=by
 have mb:b.length=2:=nb;have hI:=Inv.start w0;have xU:(aB 3 w r n e b h c v).length=192:=by simp only[aB,List.length_append,List.length_cons,List.length_nil];omega
 obtain⟨Z,hZ⟩:=EZ (aB 3 w r n e b h c v);rw[<-hZ]at xU|-;have jU:Hid (gi Z 0=3):=HD (by rw[hZ];exact aC);obtain⟨zs,dG⟩:=EZ ([3,e]:List Int);have hrow:Hid ([Value.int .i64 (gi Z 0),Value.int .i64 (gi Z 177)]=zs.map (Value.int .i64)):=HD (by rw[dG,hZ,aC,iW nr];rfl);have hzl:zs.length=2:=by rw[dG];rfl
 have hl0:([]:List UInt8).length+10*zs.length<=1000000000:=by rw[hzl];decide
 have hn0:(ag zs).length<=20:=by have:=aT zs;omega
 have e1:Hid (sub Z 178 2=b):=HD (by rw[hZ];exact bE nr mb);have n1:=nb;have hw1:=aT b;have hl1:(ag zs).length+10*b.length<=1000000000:=by(try simp only[List.length_append]);omega
 have e2:=HD hn0;have n2:=hn0;have hl2:=hn0;have e3:=HD hn0;have n3:=hn0;have hl3:=hn0;have Ji:(ag zs++ag b).length<=2000:=by(try simp only[List.length_append]);omega
 have hlB:(ag zs++ag b).length<=1000000000:=by omega
 have hB:Hid ((ag zs++ag b)=(ag [3,e]++ag b)):=HD (by rw[dG]);exact W36
def PO(e:Int)(b:List Int)(h:List Int)(c:List Int):List UInt8:=(((ag [4,e]++ag b)++ag h)++ag c)
theorem adK(w0:World)(w:Int)(r:List Int)(n:Int)(e:Int)(b:List Int)(h:List Int)(c:List Int)(v:List Int)(nr:r.length=174)(nb:b.length=2)(nh:h.length=2)(nc:c.length=3)(nv:v.length=7):
  Calls prog 215 #[ia (aB 4 w r n e b h c v)] w0 λen w'=>∃ad cd,en=.returned (.slice ad (((ag [4,e]++ag b)++ag h)++ag c).length cd)∧(((ag [4,e]++ag b)++ag h)++ag c).length<=2000∧Inv [] w0 w' [bf 5 1 (.slice ad (((ag [4,e]++ag b)++ag h)++ag c).length cd) (((ag [4,e]++ag b)++ag h)++ag c).length ((((ag [4,e]++ag b)++ag h)++ag c).map bv)]:=by
 have mb:b.length=2:=nb;have mh:h.length=2:=nh;have mc:c.length=3:=nc;have hI:=Inv.start w0;have xU:(aB 4 w r n e b h c v).length=192:=by simp only[aB,List.length_append,List.length_cons,List.length_nil];omega
 obtain⟨Z,hZ⟩:=EZ (aB 4 w r n e b h c v);rw[<-hZ]at xU|-;have jU:Hid (gi Z 0=4):=HD (by rw[hZ];exact aC);obtain⟨zs,dG⟩:=EZ ([4,e]:List Int);have hrow:Hid ([Value.int .i64 (gi Z 0),Value.int .i64 (gi Z 177)]=zs.map (Value.int .i64)):=HD (by rw[dG,hZ,aC,iW nr];rfl);have hzl:zs.length=2:=by rw[dG];rfl
 have hl0:([]:List UInt8).length+10*zs.length<=1000000000:=by rw[hzl];decide
 have hn0:(ag zs).length<=20:=by have:=aT zs;omega
 have e1:Hid (sub Z 178 2=b):=HD (by rw[hZ];exact bE nr mb);have n1:=nb;have hw1:=aT b;have hl1:(ag zs).length+10*b.length<=1000000000:=by(try simp only[List.length_append]);omega
 have e2:Hid (sub Z 180 2=h):=HD (by rw[hZ];exact dP nr mb mh);have n2:=nh;have hw2:=aT h;have hl2:(ag zs++ag b).length+10*h.length<=1000000000:=by(try simp only[List.length_append]);omega
 have e3:Hid (sub Z 182 3=c):=HD (by rw[hZ];exact dh nr mb mh mc);have n3:=nc;have hw3:=aT c;have hl3:((ag zs++ag b)++ag h).length+10*c.length<=1000000000:=by(try simp only[List.length_append]);omega
 have Ji:(((ag zs++ag b)++ag h)++ag c).length<=2000:=by(try simp only[List.length_append]);omega
 have hlB:(((ag zs++ag b)++ag h)++ag c).length<=1000000000:=by omega
 have hB:Hid ((((ag zs++ag b)++ag h)++ag c)=(((ag [4,e]++ag b)++ag h)++ag c)):=HD (by rw[dG]);rw[<-hB.out];clear hZ dG hB;go_enter func215,ntmps215;go_upto_region 3 with(first|(with_reducible refine aL (z:=.agg #[.slice none 0 0]) (cs:=[.slice none 0 0]) hI l7 RF ?_;intro pw w hI;replace hI:=l8 hI)|refine YL ?_|refine YX ?_;intro bx w hI)
 rw[jU.out];go_upto_region 13 with(fail)
 (refine ZR [5,6,9,12,15] [0,7,8,10,11,13,14] [5,6,9,12] [0,1,2,3,4,7,8,10,11,13,14,5,6,9,12,15] (λw=>Inv [] w0 w [ib bx 158 Z]) hI ?_;intro wd hI)
 (repeat(first|refine ZS ?_|refine ZQ ?_;go_wp2_with(first|go_at_call 174;refine KG hI (Cw _ pw _ _ _ (by exact e3.out) (by exact n3) (by exact hl3) (hI.at_ aA)) ?_;intro zD w1 hI|(with_reducible refine Ci hI (k:=?_);intro b2 w hI;replace hI:=Inv.Ct hI)|go_at_call 171;refine KP hI (ko _ pw _ _ _ _ zs [] _ (by intro w h;rw[<-hrow.out];exact ja h) hzl hl0 (hI.at_ aA)) ?_;intro zD w1 hI;(try simp only[List.nil_append]at hI)|go_at_call 173;refine KG hI (xF _ pw _ _ _ (by first|exact e1.out|exact e2.out) (by first|exact n1|exact n2) (by first|exact hl1|exact hl2) (hI.at_ aA)) ?_;intro zD w1 hI|refine YL ?_);refine ZP ?_))
 exact W5
def PQ(e:Int)(b:List Int)(c:List Int):List UInt8:=((ag [5,e]++ag b)++ag c)
theorem adL(w0:World)(w:Int)(r:List Int)(n:Int)(e:Int)(b:List Int)(h:List Int)(c:List Int)(v:List Int)(nr:r.length=174)(nb:b.length=2)(nh:h.length=2)(nc:c.length=3)(nv:v.length=7):
  Calls prog 215 #[ia (aB 5 w r n e b h c v)] w0 λen w'=>∃ad cd,en=.returned (.slice ad ((ag [5,e]++ag b)++ag c).length cd)∧((ag [5,e]++ag b)++ag c).length<=2000∧Inv [] w0 w' [bf 5 1 (.slice ad ((ag [5,e]++ag b)++ag c).length cd) ((ag [5,e]++ag b)++ag c).length (((ag [5,e]++ag b)++ag c).map bv)]:=by
 have mb:b.length=2:=nb;have mc:c.length=3:=nc;have hI:=Inv.start w0;have xU:(aB 5 w r n e b h c v).length=192:=by simp only[aB,List.length_append,List.length_cons,List.length_nil];omega
 obtain⟨Z,hZ⟩:=EZ (aB 5 w r n e b h c v);rw[<-hZ]at xU|-;have jU:Hid (gi Z 0=5):=HD (by rw[hZ];exact aC);obtain⟨zs,dG⟩:=EZ ([5,e]:List Int);have hrow:Hid ([Value.int .i64 (gi Z 0),Value.int .i64 (gi Z 177)]=zs.map (Value.int .i64)):=HD (by rw[dG,hZ,aC,iW nr];rfl);have hzl:zs.length=2:=by rw[dG];rfl
 have hl0:([]:List UInt8).length+10*zs.length<=1000000000:=by rw[hzl];decide
 have hn0:(ag zs).length<=20:=by have:=aT zs;omega
 have e1:Hid (sub Z 178 2=b):=HD (by rw[hZ];exact bE nr mb);have n1:=nb;have hw1:=aT b;have hl1:(ag zs).length+10*b.length<=1000000000:=by(try simp only[List.length_append]);omega
 have e2:Hid (sub Z 182 3=c):=HD (by rw[hZ];exact dh nr mb nh mc);have n2:=nc;have hw2:=aT c;have hl2:(ag zs++ag b).length+10*c.length<=1000000000:=by(try simp only[List.length_append]);omega
 have e3:=HD hn0;have n3:=hn0;have hl3:=hn0;have Ji:((ag zs++ag b)++ag c).length<=2000:=by(try simp only[List.length_append]);omega
 have hlB:((ag zs++ag b)++ag c).length<=1000000000:=by omega
 have hB:Hid (((ag zs++ag b)++ag c)=((ag [5,e]++ag b)++ag c)):=HD (by rw[dG]);rw[<-hB.out];clear hZ dG hB;go_enter func215,ntmps215;go_upto_region 3 with(first|(with_reducible refine aL (z:=.agg #[.slice none 0 0]) (cs:=[.slice none 0 0]) hI l7 RF ?_;intro pw w hI;replace hI:=l8 hI)|refine YL ?_|refine YX ?_;intro bx w hI)
 rw[jU.out];go_upto_region 15 with(fail)
 (refine ZR [5,6,9,12] [0,7,8,10,11] [5,6,9] [0,1,2,3,4,7,8,10,11,5,6,9,12] (λw=>Inv [] w0 w [ib bx 158 Z]) hI ?_;intro wd hI)
 exact W25
def ace(e:Int)(b:List Int):List UInt8:=(ag [6,e]++ag b)
theorem adM(w0:World)(w:Int)(r:List Int)(n:Int)(e:Int)(b:List Int)(h:List Int)(c:List Int)(v:List Int)(nr:r.length=174)(nb:b.length=2)(nh:h.length=2)(nc:c.length=3)(nv:v.length=7):
  Calls prog 215 #[ia (aB 6 w r n e b h c v)] w0 λen w'=>∃ad cd,en=.returned (.slice ad (ag [6,e]++ag b).length cd)∧(ag [6,e]++ag b).length<=2000∧Inv [] w0 w' [bf 5 1 (.slice ad (ag [6,e]++ag b).length cd) (ag [6,e]++ag b).length ((ag [6,e]++ag b).map bv)]:=by
 have mb:b.length=2:=nb;have hI:=Inv.start w0;have xU:(aB 6 w r n e b h c v).length=192:=by simp only[aB,List.length_append,List.length_cons,List.length_nil];omega
 obtain⟨Z,hZ⟩:=EZ (aB 6 w r n e b h c v);rw[<-hZ]at xU|-;have jU:Hid (gi Z 0=6):=HD (by rw[hZ];exact aC);obtain⟨zs,dG⟩:=EZ ([6,e]:List Int);have hrow:Hid ([Value.int .i64 (gi Z 0),Value.int .i64 (gi Z 177)]=zs.map (Value.int .i64)):=HD (by rw[dG,hZ,aC,iW nr];rfl);have hzl:zs.length=2:=by rw[dG];rfl
 have hl0:([]:List UInt8).length+10*zs.length<=1000000000:=by rw[hzl];decide
 have hn0:(ag zs).length<=20:=by have:=aT zs;omega
 have e1:Hid (sub Z 178 2=b):=HD (by rw[hZ];exact bE nr mb);have n1:=nb;have hw1:=aT b;have hl1:(ag zs).length+10*b.length<=1000000000:=by(try simp only[List.length_append]);omega
 have e2:=HD hn0;have n2:=hn0;have hl2:=hn0;have e3:=HD hn0;have n3:=hn0;have hl3:=hn0;have Ji:(ag zs++ag b).length<=2000:=by(try simp only[List.length_append]);omega
 have hlB:(ag zs++ag b).length<=1000000000:=by omega
 have hB:Hid ((ag zs++ag b)=(ag [6,e]++ag b)):=HD (by rw[dG]);exact W36
def acf(v:List Int):List UInt8:=(ag [7]++ag v)
theorem adN(w0:World)(w:Int)(r:List Int)(n:Int)(e:Int)(b:List Int)(h:List Int)(c:List Int)(v:List Int)(nr:r.length=174)(nb:b.length=2)(nh:h.length=2)(nc:c.length=3)(nv:v.length=7):
  Calls prog 215 #[ia (aB 7 w r n e b h c v)] w0 λen w'=>∃ad cd,en=.returned (.slice ad (ag [7]++ag v).length cd)∧(ag [7]++ag v).length<=2000∧Inv [] w0 w' [bf 5 1 (.slice ad (ag [7]++ag v).length cd) (ag [7]++ag v).length ((ag [7]++ag v).map bv)]:=by
 have mv:v.length=7:=nv;have hI:=Inv.start w0;have xU:(aB 7 w r n e b h c v).length=192:=by simp only[aB,List.length_append,List.length_cons,List.length_nil];omega
 obtain⟨Z,hZ⟩:=EZ (aB 7 w r n e b h c v);rw[<-hZ]at xU|-;have jU:Hid (gi Z 0=7):=HD (by rw[hZ];exact aC);obtain⟨zs,dG⟩:=EZ ([7]:List Int);have hrow:Hid ([Value.int .i64 (gi Z 0)]=zs.map (Value.int .i64)):=HD (by rw[dG,hZ,aC];rfl);have hzl:zs.length=1:=by rw[dG];rfl
 have hl0:([]:List UInt8).length+10*zs.length<=1000000000:=by rw[hzl];decide
 have hn0:(ag zs).length<=20:=by have:=aT zs;omega
 have e1:Hid (sub Z 185 7=v):=HD (by rw[hZ];exact dx nr nb nh nc mv);have n1:=nv;have hw1:=aT v;have hl1:(ag zs).length+10*v.length<=1000000000:=by(try simp only[List.length_append]);omega
 have e2:=HD hn0;have n2:=hn0;have hl2:=hn0;have e3:=HD hn0;have n3:=hn0;have hl3:=hn0;have Ji:(ag zs++ag v).length<=2000:=by(try simp only[List.length_append]);omega
 have hlB:(ag zs++ag v).length<=1000000000:=by omega
 have hB:Hid ((ag zs++ag v)=(ag [7]++ag v)):=HD (by rw[dG]);rw[<-hB.out];clear hZ dG hB;go_enter func215,ntmps215;go_upto_region 3 with(first|(with_reducible refine aL (z:=.agg #[.slice none 0 0]) (cs:=[.slice none 0 0]) hI l7 RF ?_;intro pw w hI;replace hI:=l8 hI)|refine YL ?_|refine YX ?_;intro bx w hI)
 rw[jU.out];go_upto_region 17 with(fail)
 (refine ZR [3,4,7] [0,5,6] [3,4] [0,1,2,5,6,3,4,7] (λw=>Inv [] w0 w [ib bx 158 Z]) hI ?_;intro wd hI)
 exact W34
def acg(w:Int)(v:List Int):List UInt8:=(ag [8,w]++ag v)
theorem adO(w0:World)(w:Int)(r:List Int)(n:Int)(e:Int)(b:List Int)(h:List Int)(c:List Int)(v:List Int)(nr:r.length=174)(nb:b.length=2)(nh:h.length=2)(nc:c.length=3)(nv:v.length=7):
  Calls prog 215 #[ia (aB 8 w r n e b h c v)] w0 λen w'=>∃ad cd,en=.returned (.slice ad (ag [8,w]++ag v).length cd)∧(ag [8,w]++ag v).length<=2000∧Inv [] w0 w' [bf 5 1 (.slice ad (ag [8,w]++ag v).length cd) (ag [8,w]++ag v).length ((ag [8,w]++ag v).map bv)]:=by
 have mv:v.length=7:=nv;have hI:=Inv.start w0;have xU:(aB 8 w r n e b h c v).length=192:=by simp only[aB,List.length_append,List.length_cons,List.length_nil];omega
 obtain⟨Z,hZ⟩:=EZ (aB 8 w r n e b h c v);rw[<-hZ]at xU|-;have jU:Hid (gi Z 0=8):=HD (by rw[hZ];exact aC);obtain⟨zs,dG⟩:=EZ ([8,w]:List Int);have hrow:Hid ([Value.int .i64 (gi Z 0),Value.int .i64 (gi Z 1)]=zs.map (Value.int .i64)):=HD (by rw[dG,hZ,aC,j4];rfl);have hzl:zs.length=2:=by rw[dG];rfl
 have hl0:([]:List UInt8).length+10*zs.length<=1000000000:=by rw[hzl];decide
 have hn0:(ag zs).length<=20:=by have:=aT zs;omega
 have e1:Hid (sub Z 185 7=v):=HD (by rw[hZ];exact dx nr nb nh nc mv);have n1:=nv;have hw1:=aT v;have hl1:(ag zs).length+10*v.length<=1000000000:=by(try simp only[List.length_append]);omega
 have e2:=HD hn0;have n2:=hn0;have hl2:=hn0;have e3:=HD hn0;have n3:=hn0;have hl3:=hn0;have Ji:(ag zs++ag v).length<=2000:=by(try simp only[List.length_append]);omega
 have hlB:(ag zs++ag v).length<=1000000000:=by omega
 have hB:Hid ((ag zs++ag v)=(ag [8,w]++ag v)):=HD (by rw[dG]);rw[<-hB.out];clear hZ dG hB;go_enter func215,ntmps215;go_upto_region 3 with(first|(with_reducible refine aL (z:=.agg #[.slice none 0 0]) (cs:=[.slice none 0 0]) hI l7 RF ?_;intro pw w hI;replace hI:=l8 hI)|refine YL ?_|refine YX ?_;intro bx w hI)
 rw[jU.out];go_upto_region 19 with(fail)
 (refine ZR [5,6,9] [0,7,8] [5,6] [0,1,2,3,4,7,8,5,6,9] (λw=>Inv [] w0 w [ib bx 158 Z]) hI ?_;intro wd hI)
 (repeat(first|refine ZS ?_|refine ZQ ?_;go_wp2_with(first|go_at_call 175;refine KG hI (Jl _ pw _ _ _ (by exact e1.out) (by exact n1) (by exact hl1) (hI.at_ aA)) ?_;intro zD w1 hI|(with_reducible refine Ci hI (k:=?_);intro b2 w hI;replace hI:=Inv.Ct hI)|go_at_call 171;refine KP hI (ko _ pw _ _ _ _ zs [] _ (by intro w h;rw[<-hrow.out];exact ja h) hzl hl0 (hI.at_ aA)) ?_;intro zD w1 hI;(try simp only[List.nil_append]at hI)|refine YL ?_);refine ZP ?_))
 exact W5
def ach(w:Int)(r:List Int):List UInt8:=(ag [9,w]++gy r)
theorem adP(w0:World)(w:Int)(r:List Int)(n:Int)(e:Int)(b:List Int)(h:List Int)(c:List Int)(v:List Int)(nr:r.length=174)(nb:b.length=2)(nh:h.length=2)(nc:c.length=3)(nv:v.length=7):
  Calls prog 215 #[ia (aB 9 w r n e b h c v)] w0 λen w'=>∃ad cd,en=.returned (.slice ad (ag [9,w]++gy r).length cd)∧(ag [9,w]++gy r).length<=2000∧Inv [] w0 w' [bf 5 1 (.slice ad (ag [9,w]++gy r).length cd) (ag [9,w]++gy r).length ((ag [9,w]++gy r).map bv)]:=by
 have mr:r.length=174:=nr;have hI:=Inv.start w0;have xU:(aB 9 w r n e b h c v).length=192:=by simp only[aB,List.length_append,List.length_cons,List.length_nil];omega
 obtain⟨Z,hZ⟩:=EZ (aB 9 w r n e b h c v);rw[<-hZ]at xU|-;have jU:Hid (gi Z 0=9):=HD (by rw[hZ];exact aC);obtain⟨zs,dG⟩:=EZ ([9,w]:List Int);have hrow:Hid ([Value.int .i64 (gi Z 0),Value.int .i64 (gi Z 1)]=zs.map (Value.int .i64)):=HD (by rw[dG,hZ,aC,j4];rfl);have hzl:zs.length=2:=by rw[dG];rfl
 have hl0:([]:List UInt8).length+10*zs.length<=1000000000:=by rw[hzl];decide
 have hn0:(ag zs).length<=20:=by have:=aT zs;omega
 have e1:Hid (sub Z 2 174=r):=HD (by rw[hZ];exact bO mr);have n1:=nr;have hl1:(ag zs).length<=100000000:=by omega
 have hw1:=oL nr;have e2:=HD hn0;have n2:=hn0;have hl2:=hn0;have e3:=HD hn0;have n3:=hn0;have hl3:=hn0;have Ji:(ag zs++gy r).length<=2000:=by(try simp only[List.length_append]);omega
 have hlB:(ag zs++gy r).length<=1000000000:=by omega
 have hB:Hid ((ag zs++gy r)=(ag [9,w]++gy r)):=HD (by rw[dG]);exact W7
