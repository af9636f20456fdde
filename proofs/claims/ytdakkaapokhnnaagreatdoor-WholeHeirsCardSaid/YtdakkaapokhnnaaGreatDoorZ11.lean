/- Contracts of functions. No condition. -/
import Derived.Test.YtdakkaapokhnnaaGreatDoorZ06
import Derived.Test.YtdakkaapokhnnaaGreatDoorZ07
import Derived.Test.YtdakkaapokhnnaaGreatDoorZ08
namespace Go.Proofs.YtdakkaapokhnnaaGreatDoor
open Go.RowKit Go.Proofs.Tryz
set_option maxRecDepth 100000
set_option maxHeartbeats 6400000
set_option linter.all false
namespace A
open Go.RowKit Go.Conc
theorem Y0:(prog.info? 129).map (·.zero)=some (some (.agg (List.replicate 5 (.pointer none)).toArray)):=by kernel_rfl
theorem y5{vs n z}(h:vs.length=n):splice (List.replicate n z) 0 vs=vs:=by
 simp[splice,h]
theorem _root_.Go.Proofs.YtdakkaapokhnnaaGreatDoor.Inv.kept{w0 w m}{r:bT}(h:Inv [] w0 w m)(hs:r.sat w0)(hlt:∀k∈r.own,k<w0.heap.size):r.sat w:=
 r.loc w0 w (λk hk=>h.old k (hlt k hk) SI) hs
def rowOf(pb:Nat->Nat)(f:Nat):List Value:=((dP pb 25).drop (f*5)).take 5
theorem l8(pb){f}(hf:f<5):(rowOf pb f).length=5:=by
 grind[A.rowOf,A.qi]
end A
namespace A
theorem P5(w0 p pb c q)(f t i:Nat)(hf0:f<5)(ht0:t<5)(hi:i=f*5+t)(hne:f≠t)(h:Inv (kE 132 p pb c q).own w0 w0 [kE 132 p pb c q])(a n cp bs)(hn:bs.length=n)(hr:Rd w0 a (bs.map bv))(hl:n<=100000)(hroom:(q i).length <8):
  Calls prog 211 #[.pointer (some ⟨p,0,none⟩),.int .i64 f,.int .i64 t,.slice a n cp] w0 λe w'=>e=.returned (.bool true)∧∃a1 c1,Inv (kE 132 p pb c q).own w0 w' [kE 132 p pb c (gV q i (q i++[(a1,c1,bs)]))]:=by
 subst hn
 simp_all[A.YU]
theorem MK(w0 p pb c q)(f t i:Nat)(hf0:f<5)(ht0:t<5)(hi:i=f*5+t)(hne:f≠t)(h:Inv (kE 132 p pb c q).own w0 w0 [kE 132 p pb c q])(a n cp)(bs:List UInt8)(hn:bs.length=n)(hr:Rd w0 a (bs.map bv))(hl:n<=100000)(hroom:8<=(q i).length):
  Calls prog 211 #[.pointer (some ⟨p,0,none⟩),.int .i64 f,.int .i64 t,.slice a n cp] w0 λe w'=>e=.returned (.bool false)∧Below w0.heap.size w0 w':=by
 subst hn;exact Vf w0 p pb c q f t i hf0 ht0 hi hne h a cp bs hr hl hroom
theorem wS{f:Nat}(h:f<5):(f:Int)=((UInt8.ofNat f).toNat:Int):=by
 grind[UInt8.toNat_ofNat']
section
variable (w0:World)(p:Nat)(pb c:Nat->Nat)(q:Nat->List QE)(f t i:Nat)(uR:f<5)(pX:t<5)(hi:i=f*5+t)(hft:f≠t)
include uR pX hi hft
theorem adi(h:Inv (kE 132 p pb c q).own w0 w0 [kE 132 p pb c q])(a cp bs)(hr:Rd w0 a (bs.map bv))(hl:bs.length<=3000)(hroom:(q i).length <8):
  Calls prog 214 #[.pointer (some ⟨p,0,none⟩),.int .i64 f,.int .i64 t,.slice a bs.length cp] w0 λe w'=>e=.returned (.bool true)∧∃a1 c1,Inv (kE 132 p pb c q).own w0 w' [kE 132 p pb c (gV q i (q i++[(a1,c1,jY (UInt8.ofNat f) (UInt8.ofNat t) bs)]))]:=by
 have hI:=h;have hfu:=HD (wS uR);have htu:=HD (wS pX);have hd:decide ((3000:Int) < (bs.length:Int))=false:=by simp;omega
 have hr':=HD hr;clear h hr;go_enter func214,ntmps214;have hr:=hr'.out;go_wp2_with(first|refine YL ?_|go_at_call 216;with_reducible refine(Ia _ _ _ (UInt8.ofNat f) (UInt8.ofNat t) hfu.out htu.out _ _ _ bs rfl hr OM).mono ?_;rintro e w1 ⟨g,rfl,hJ⟩;replace hI:=hI.seq hJ;simp only[List.cons_append,List.nil_append]at hI;clear hJ|go_at_call 211;with_reducible refine(P5 _ p pb c q f t i uR pX hi hft (hI.at_ aM) _ _ _ (jY (UInt8.ofNat f) (UInt8.ofNat t) bs) (EA _ _ bs) (hI.rd aC) OM hroom).mono ?_;rintro e w1 ⟨rfl,a1,c1,hJ⟩;replace hI:=hI.on hJ jo;clear hJ);go_ret;exact⟨rfl,a1,c1,hI.tl⟩
theorem P6(h:Inv (kE 132 p pb c q).own w0 w0 [kE 132 p pb c q])(a cp)(bs:List UInt8)(hr:Rd w0 a (bs.map bv))(hl:bs.length<=3000)(hfull:8<=(q i).length):
  Calls prog 214 #[.pointer (some ⟨p,0,none⟩),.int .i64 f,.int .i64 t,.slice a bs.length cp] w0 λe w'=>e=.returned (.bool false)∧Inv (kE 132 p pb c q).own w0 w' [kE 132 p pb c q]:=by
 have hI:=h;have hfu:=HD (wS uR);have htu:=HD (wS pX);have hd:decide ((3000:Int) < (bs.length:Int))=false:=by simp;omega
 have hr':=HD hr;clear h hr;go_enter func214,ntmps214;have hr:=hr'.out;go_wp2_with(first|refine YL ?_|go_at_call 216;with_reducible refine(Ia _ _ _ (UInt8.ofNat f) (UInt8.ofNat t) hfu.out htu.out _ _ _ bs rfl hr OM).mono ?_;rintro e w1 ⟨g,rfl,hJ⟩;replace hI:=hI.seq hJ;simp only[List.cons_append,List.nil_append]at hI;clear hJ|go_at_call 211;refine KD hI (MK _ p pb c q f t i uR pX hi hft (hI.at_ aM) _ _ _ (jY (UInt8.ofNat f) (UInt8.ofNat t) bs) (EA _ _ bs) (hI.rd aC) OM hfull) ?_;intro w1 hI);go_ret;exact⟨rfl,hI.tl⟩
end
end A
namespace B
def gH(zs:List Int)(k:Nat)(had c:List Int):List Int:=dK (dK (dC zs 14 k) 12 had) 9 c
theorem Qa(w0 b e0 zs)(hzl:zs.length=16)(hb:w0.heap[b]? =some (.cells (mix zs [false]).toArray e0 (0,0)))(k:Nat)(hk:k<5)(wT:aI (sub zs 0 7) k=true)(had c)(Zb:had.length=2)(hc3:c.length=3)(hh:0<gi had 0)(hls:kM (gi (sub (dC zs 14 k) 12 2) 0) (gi (sub (dC zs 14 k) 12 2) 1) (gi had 0) (gi had 1)=false):
  Calls prog 157 #[.pointer (some ⟨b,0,none⟩),.int .i64 k,ia (sub zs 7 2),ia had,ia c] w0 λe w'=>e=.returned (.bool (eB (gi (dC zs 14 k) 14) (gi (sub (dC zs 14 k) 0 7) 1)))∧Step [b] w0 w'∧w'.heap[b]? =some (.cells (mix (dC zs 14 k) [eB (gi (dC zs 14 k) 14) (gi (sub (dC zs 14 k) 0 7) 1)]).toArray e0 (0,0)):=by
 have hI:=Ag hb;have hvl:(sub zs 0 7).length=7:=by rw[az];omega
 have hb2:(sub zs 7 2).length=2:=by rw[az];omega
 have hs:gb [false] 0=false:=rfl;have hmem:=HD wT;have hwr:=HD (Ai hk);have wL:(k:Int).toNat=k:=by simp
 have hsh:(k:Nat) <64:=by omega
 have hh0:decide (0<gi had 0)=true:=by simpa using hh
 have hless:=HD hls;clear hls;have hz0:dC zs 14 k=zs.set 14 (bits BinOp.or IntKind.i64 (gi zs 14) (2^k)):=rfl;replace hz0:=HD hz0;clear wT hh;go_enter func157,ntmps157;go_upto_region 1 with(refine YX ?_;intro bx w hI)
 (try simp only[QN])
 (refine aJ (C:=λw'=>Inv _ _ w' _) [] (λw'=>Inv _ _ w' _) hI.drew (λ_ h=>h) mixed KF ?_;clear hI;(repeat(first| ((with_reducible apply bu);rfl;rfl;(focus(intro w (hI:Inv _ _ w _);go_wp2_with(first|with_reducible refine bL hI RF nz (by first|with_reducible exact n_|with_reducible exact iB) OM ?_|with_reducible refine bV hI RF nz (by exact uZ) (by rw[hzl]) SI hs ?_|refine YL ?_|go_at_call 14;refine(fO _ (sub zs 0 7) _ hvl).mono ?_;rw[hmem.out];rintro e w1 ⟨rfl,hw1⟩;replace hI:=hI.call hw1;clear hw1);(try simp only[QN]);exact⟨rfl,rfl,hI⟩));(exact⟨_,rfl⟩)) | ((with_reducible apply dG);rfl;rfl;(focus(intro D w hD hE;have hI:Inv _ _ w _:=hE;(try simp only[xA]at hI);go_wp2_with(with_reducible refine jW RF RF (by with_reducible exact iB) (by with_reducible exact lW) UM ?_);(try simp only[QN]);exact⟨rfl,rfl,hD⟩));(exact⟨_,rfl⟩))));(refine bH ?_;intro w (hI:Inv _ _ w _)))
 go_upto_region 3 with fail
 (try simp only[QN])
 (obtain⟨mE,rF⟩:=iO hI;refine aJ (C:=λw'=>Inv _ _ w' _) [9] (λw'=>Inv _ _ w' (List.eraseIdx mE 3)) hI.drew (λw' h=>Inv.sub h (by subst rF;((try simp only[xA]);repeat(first|exact List.Sublist.slnil|with_reducible apply List.Sublist.cons_cons|apply List.Sublist.cons)))) mixed KF ?_;subst rF;clear hI;(repeat(first| ((with_reducible apply dL);rfl;rfl;rfl;(focus(intro w (hI:Inv _ _ w _);go_wp2_with((with_reducible refine l6 hI RF RF WQ (by with_reducible exact pz) OM ?_);intro w hI);(try simp only[QN]);exact⟨rfl,rfl,hI⟩));(exact⟨undef,rfl⟩);(focus(intro w (hI:Inv _ _ w _);exact Inv.sub hI SB))) | ((with_reducible apply bu);rfl;rfl;(focus(intro w (hI:Inv _ _ w _);go_wp2_with(with_reducible refine gL hI RF nz (by with_reducible exact pz) OM ?_);(try simp only[QN]);exact⟨rfl,rfl,hI⟩));(exact⟨_,rfl⟩))));(refine bH ?_;intro w (hI:Inv _ _ w _)))
 rw[hwr.out,<-hz0.out]at hI;have MO:(dC zs 14 k).length=16:=by unfold dC;rw[List.length_set];exact hzl
 clear hzl hvl hb2 hmem hz0 hs;generalize hgz:dC zs 14 k=z2 at*;replace hgz:=HD hgz;have hzl:=MO;have hv2:(sub z2 0 7).length=7:=by rw[az];omega
 have hbl:(sub z2 12 2).length=2:=by rw[az];omega
 go_upto_region 4 with fail
 (try simp only[QN])
 (refine aJ (C:=λw'=>Inv _ _ w' _) [] (λw'=>Inv _ _ w' _) hI.drew (λ_ h=>h) mixed KF ?_;clear hI;(repeat((with_reducible apply bu);rfl;rfl;(focus(intro w (hI:Inv _ _ w _);go_wp2_with(first|with_reducible refine bL hI RF nz (by with_reducible exact iB) OM ?_|refine YL ?_|go_at_call 180;(with_reducible refine(SY _ _ _ hbl Zb).mono ?_);rw[hless.out];rintro e w1 ⟨rfl,hw1⟩;replace hI:=hI.call hw1;clear hw1);(try simp only[QN]);exact⟨rfl,rfl,hI⟩));(exact⟨_,rfl⟩)));(refine bH ?_;intro w (hI:Inv _ _ w _)))
 go_upto_region 6 with fail
 (try simp only[QN])
 (obtain⟨mE,rF⟩:=iO hI;refine aJ (C:=λw'=>Inv _ _ w' _) [12] (λw'=>Inv _ _ w' (List.eraseIdx mE 3)) hI.drew (λw' h=>Inv.sub h (by subst rF;((try simp only[xA]);repeat(first|exact List.Sublist.slnil|with_reducible apply List.Sublist.cons_cons|apply List.Sublist.cons)))) mixed KF ?_;subst rF;clear hI;(repeat(first| ((with_reducible apply dL);rfl;rfl;rfl;(focus(intro w (hI:Inv _ _ w _);go_wp2_with((with_reducible refine qF (j:=0) hI RF RF (by rw[hzl]) WQ (by exact uZ) SI ?_);intro w hI);(try simp only[QN]);exact⟨rfl,rfl,hI⟩));(exact⟨undef,rfl⟩);(focus(intro w (hI:Inv _ _ w _);exact Inv.sub hI SB))) | ((with_reducible apply bu);rfl;rfl;(focus(intro w (hI:Inv _ _ w _);go_wp2_with(first|with_reducible refine bL hI RF nz (by with_reducible exact n_) OM ?_|with_reducible refine gL hI RF nz (by with_reducible exact pz) OM ?_|go_at_call 181;refine KD hI (vB _ _ _ hv2) ?_;intro w1 hI);(try simp only[QN]);exact⟨rfl,rfl,hI⟩));(exact⟨_,rfl⟩))));(refine bH ?_;intro w (hI:Inv _ _ w _)))
 exact W50
theorem Qb(w0 b e0 zs)(hzl:zs.length=16)(hb:w0.heap[b]? =some (.cells (mix zs [false]).toArray e0 (0,0)))(k:Nat)(hk:k<5)(wT:aI (sub zs 0 7) k=true)(had c)(Zb:had.length=2)(hc3:c.length=3)(hh:0<gi had 0)(hls:kM (gi (sub (dC zs 14 k) 12 2) 0) (gi (sub (dC zs 14 k) 12 2) 1) (gi had 0) (gi had 1)=true):
  Calls prog 157 #[.pointer (some ⟨b,0,none⟩),.int .i64 k,ia (sub zs 7 2),ia had,ia c] w0 λe w'=>e=.returned (.bool (eB (gi (gH zs k had c) 14) (gi (sub (gH zs k had c) 0 7) 1)))∧Step [b] w0 w'∧w'.heap[b]? =some (.cells (mix (gH zs k had c) [eB (gi (gH zs k had c) 14) (gi (sub (gH zs k had c) 0 7) 1)]).toArray e0 (0,0)):=by
 have hI:=Ag hb;have hvl:(sub zs 0 7).length=7:=by rw[az];omega
 have hb2:(sub zs 7 2).length=2:=by rw[az];omega
 have hs:gb [false] 0=false:=rfl;have hmem:=HD wT;have hwr:=HD (Ai hk);have wL:(k:Int).toNat=k:=by simp
 have hsh:(k:Nat) <64:=by omega
 have hh0:decide (0<gi had 0)=true:=by simpa using hh
 have hless:=HD hls;clear hls;have hz0:dC zs 14 k=zs.set 14 (bits BinOp.or IntKind.i64 (gi zs 14) (2^k)):=rfl;replace hz0:=HD hz0;clear wT hh;go_enter func157,ntmps157;go_upto_region 1 with(refine YX ?_;intro bx w hI)
 (try simp only[QN])
 (refine aJ (C:=λw'=>Inv _ _ w' _) [] (λw'=>Inv _ _ w' _) hI.drew (λ_ h=>h) mixed KF ?_;clear hI;(repeat(first| ((with_reducible apply bu);rfl;rfl;(focus(intro w (hI:Inv _ _ w _);go_wp2_with(first|with_reducible refine bL hI RF nz (by first|with_reducible exact n_|with_reducible exact iB) OM ?_|with_reducible refine bV hI RF nz (by exact uZ) (by rw[hzl]) SI hs ?_|refine YL ?_|go_at_call 14;refine(fO _ (sub zs 0 7) _ hvl).mono ?_;rw[hmem.out];rintro e w1 ⟨rfl,hw1⟩;replace hI:=hI.call hw1;clear hw1);(try simp only[QN]);exact⟨rfl,rfl,hI⟩));(exact⟨_,rfl⟩)) | ((with_reducible apply dG);rfl;rfl;(focus(intro D w hD hE;have hI:Inv _ _ w _:=hE;(try simp only[xA]at hI);go_wp2_with(with_reducible refine jW RF RF (by with_reducible exact iB) (by with_reducible exact lW) UM ?_);(try simp only[QN]);exact⟨rfl,rfl,hD⟩));(exact⟨_,rfl⟩))));(refine bH ?_;intro w (hI:Inv _ _ w _)))
 go_upto_region 3 with fail
 (try simp only[QN])
 (obtain⟨mE,rF⟩:=iO hI;refine aJ (C:=λw'=>Inv _ _ w' _) [9] (λw'=>Inv _ _ w' (List.eraseIdx mE 3)) hI.drew (λw' h=>Inv.sub h (by subst rF;((try simp only[xA]);repeat(first|exact List.Sublist.slnil|with_reducible apply List.Sublist.cons_cons|apply List.Sublist.cons)))) mixed KF ?_;subst rF;clear hI;(repeat(first| ((with_reducible apply dL);rfl;rfl;rfl;(focus(intro w (hI:Inv _ _ w _);go_wp2_with((with_reducible refine l6 hI RF RF WQ (by with_reducible exact pz) OM ?_);intro w hI);(try simp only[QN]);exact⟨rfl,rfl,hI⟩));(exact⟨undef,rfl⟩);(focus(intro w (hI:Inv _ _ w _);exact Inv.sub hI SB))) | ((with_reducible apply bu);rfl;rfl;(focus(intro w (hI:Inv _ _ w _);go_wp2_with(with_reducible refine gL hI RF nz (by with_reducible exact pz) OM ?_);(try simp only[QN]);exact⟨rfl,rfl,hI⟩));(exact⟨_,rfl⟩))));(refine bH ?_;intro w (hI:Inv _ _ w _)))
 rw[hwr.out,<-hz0.out]at hI;have MO:(dC zs 14 k).length=16:=by unfold dC;rw[List.length_set];exact hzl
 clear hzl hvl hb2 hmem hz0 hs;generalize hgz:dC zs 14 k=z2 at*;replace hgz:=HD hgz;have hzl:=MO;have hbl:(sub z2 12 2).length=2:=by rw[az];omega
 go_upto_region 4 with fail
 (try simp only[QN])
 (refine aJ (C:=λw'=>Inv _ _ w' _) [] (λw'=>Inv _ _ w' _) hI.drew (λ_ h=>h) mixed KF ?_;clear hI;(repeat((with_reducible apply bu);rfl;rfl;(focus(intro w (hI:Inv _ _ w _);go_wp2_with(first|with_reducible refine bL hI RF nz (by with_reducible exact iB) OM ?_|refine YL ?_|go_at_call 180;(with_reducible refine(SY _ _ _ hbl Zb).mono ?_);rw[hless.out];rintro e w1 ⟨rfl,hw1⟩;replace hI:=hI.call hw1;clear hw1);(try simp only[QN]);exact⟨rfl,rfl,hI⟩));(exact⟨_,rfl⟩)));(refine bH ?_;intro w (hI:Inv _ _ w _)))
 go_upto_region 5 with fail
 (try simp only[QN])
 (obtain⟨mE,rF⟩:=iO hI;refine aJ (C:=λw'=>Inv _ _ w' _) [6,9] (λw'=>Inv _ _ w' (List.eraseIdx mE 3)) hI.drew (λw' h=>Inv.sub h (by subst rF;((try simp only[xA]);repeat(first|exact List.Sublist.slnil|with_reducible apply List.Sublist.cons_cons|apply List.Sublist.cons)))) mixed KF ?_;subst rF;clear hI;(repeat(first| ((with_reducible apply dL);rfl;rfl;rfl;(focus(intro w (hI:Inv _ _ w _);go_wp2_with((with_reducible refine Bq hI RF RF WQ (by first|with_reducible exact DZ|with_reducible exact iB) OM (by(repeat(rw[aY]))<;>omega) ?_);intro w hI);(try simp only[QN]);exact⟨rfl,rfl,hI⟩));(exact⟨undef,rfl⟩);(focus(intro w (hI:Inv _ _ w _);exact Inv.sub hI SB))) | ((with_reducible apply bu);rfl;rfl;(focus(intro w (hI:Inv _ _ w _);go_wp2_with(refine YL ?_);(try simp only[QN]);exact⟨rfl,rfl,hI⟩));(exact⟨_,rfl⟩)) | ((with_reducible apply dG);rfl;rfl;(focus(intro D w hD hE;have hI:Inv _ _ w _:=hE;(try simp only[xA]at hI);go_wp2_with(refine YL ?_);(try simp only[QN]);exact⟨rfl,rfl,hD⟩));(exact⟨_,rfl⟩))));(refine bH ?_;intro w (hI:Inv _ _ w _)))
 have htz:Hid (gH zs k had c=dK (dK z2 12 had) 9 c):=HD (by unfold gH;rw[hgz.out]);have alv:(dK (dK z2 12 had) 9 c).length=16:=by rw[aY,aY];omega
 clear hzl MO hbl;generalize dK (dK z2 12 had) 9 c=z3 at*;have hzl:=alv;have hv2:(sub z3 0 7).length=7:=by rw[az];omega
 go_upto_region 6 with fail
 (try simp only[QN])
 (obtain⟨mE,rF⟩:=iO hI;refine aJ (C:=λw'=>Inv _ _ w' _) [12] (λw'=>Inv _ _ w' (List.eraseIdx mE 3)) hI.drew (λw' h=>Inv.sub h (by subst rF;((try simp only[xA]);repeat(first|exact List.Sublist.slnil|with_reducible apply List.Sublist.cons_cons|apply List.Sublist.cons)))) mixed KF ?_;subst rF;clear hI;(repeat(first| ((with_reducible apply dL);rfl;rfl;rfl;(focus(intro w (hI:Inv _ _ w _);go_wp2_with((with_reducible refine qF (j:=0) hI RF RF (by rw[hzl]) WQ (by exact uZ) SI ?_);intro w hI);(try simp only[QN]);exact⟨rfl,rfl,hI⟩));(exact⟨undef,rfl⟩);(focus(intro w (hI:Inv _ _ w _);exact Inv.sub hI SB))) | ((with_reducible apply bu);rfl;rfl;(focus(intro w (hI:Inv _ _ w _);go_wp2_with(first|with_reducible refine bL hI RF nz (by with_reducible exact n_) OM ?_|with_reducible refine gL hI RF nz (by with_reducible exact pz) OM ?_|go_at_call 181;refine KD hI (vB _ _ _ hv2) ?_;intro w1 hI);(try simp only[QN]);exact⟨rfl,rfl,hI⟩));(exact⟨_,rfl⟩))));(refine bH ?_;intro w (hI:Inv _ _ w _)))
 simp only[List.set_cons_zero]at hI;generalize hmm:eB (gi z3 14) (gi (sub z3 0 7) 1)=mm at*;replace hmm:=HD hmm;have hs:gb [mm] 0=mm:=rfl;go_wp2_with(with_reducible refine bV hI RF nz (by exact uZ) (by rw[hzl]) SI hs ?_);go_ret;rw[htz.out,hmm.out];exact⟨rfl,hI.end_,hI.mbk nz⟩
end B
namespace A
theorem row_of{T w0 w m g n c e xs a' r}(h:Inv T w0 w (bD e 1 (.slice (some ⟨g,0,none⟩) n c) n xs::m))(hr:Rd w a' (r.map bv))(ha:∀x,a'=some x->x.block=g):Inv T w0 w (nY (some g) a' r::m):=
 h.turn (λhs y hy=>by
  rcases List.mem_cons.1 hy with rfl|hy
  ·obtain⟨_,_,cur,hg,_⟩:=pg (hs _ (List.mem_cons_self))
   exact⟨λx hx=>(by grind),λk hk=>(by grind),hr⟩
  grind) (by simp[owned,nY,bD,Value.ownBlock])
def aj8(w0:World)(r:List UInt8)(e:Ending)(w':World):Prop:=∃a' c' ab,r.length<=c'∧c'<=maxLen∧e=.returned (.tuple #[.slice a' r.length c',.bool true])∧Inv [] w0 w' [nY ab a' r]
theorem aaI(w0 f t a n c p r)(hn:p.length=n)(hr:Rd w0 a (p.map bv))(hc:n<=c)(hl:n<=100000)(h:dJ f t p=some r):
  Calls prog 112 #[.int .i64 (f.toNat:Int),.int .i64 (t.toNat:Int),.slice a n c] w0 (aj8 w0 r):=by
 have hI:=Inv.start w0;have hf:=f.toNat_lt;have ht:=t.toNat_lt;obtain⟨x,y,rfl,rfl,hp⟩:∃x y,x=f∧y=t∧kr p=some (x::y::r):=by
  unfold dJ at h
  split at h
  ·rename_i x y r' htk
   split at h
   ·rename_i hcc
    cases h;exact⟨x,y,hcc.1,hcc.2,htk⟩
   ·cases h
  ·cases h
 have hrl:r.length<=100000:=by
  have:=uu hp;rw[<-hn,<-this,lD,List.length_cons,List.length_cons]at hl;omega
 replace hp:=HD hp;clear h;go_enter func112,ntmps112;go_wp2_with(first|refine YL ?_|(go_at_call 152;refine KO hI (q8 p (x::y::r) _ _ _ hn hp.out (hI.LV hr) hc hl) ?_;intro a2 c2 w3 hI;obtain⟨gq,hgq⟩:=gZ (a':=a2) hI aC SI;subst hgq;have hc2:=Dh hI aC;have k0:=o7 (hI.rd (a':=some ⟨gq,0,none⟩) aC) 0 x rfl;have k1:=o7 (hI.rd (a':=some ⟨gq,0,none⟩) aC) 1 y rfl;simp only[List.length_cons]at hc2|-))
 ·go_ret2
  obtain⟨_,_,_,_,_,hcm,_⟩:=pg (hI.sat _ aC);have hr0:r.length=0:=by omega
  obtain rfl:=List.eq_nil_of_length_eq_zero hr0;exact⟨_,_,_,Nat.le_refl _,by simp,rfl,(row_of hI (Rd.nil _ _) (λx hx=>by cases hx;rfl)).sub (.cons_cons _ (List.nil_sublist _))⟩
 ·go_ret2
  obtain⟨_,_,_,_,_,hcm,_⟩:=pg (hI.sat _ aC);have hrd:=(hI.rd (a':=some ⟨gq,0,none⟩) aC).map_drop (f:=bv) 2;exact⟨_,_,_,by omega,by omega,rfl,(row_of hI (by simpa using hrd) (λx hx=>by cases hx;rfl)).sub (.cons_cons _ (List.nil_sublist _))⟩
section
variable (w0:World)(p:Nat)(pb c:Nat->Nat)(q:Nat->List QE)(f t i:Nat)(uR:f<5)(pX:t<5)(hi:i=f*5+t)(hft:f≠t)
include uR pX hi hft
theorem xW(h:Inv (kE 132 p pb c q).own w0 w0 [kE 132 p pb c q])(a0 c0 b0 r)(qt:List QE)(hq:q i=(a0,c0,b0)::qt)(hl:b0.length<=100000)(ho:dJ (UInt8.ofNat f) (UInt8.ofNat t) b0=some r):
  Calls prog 75 #[.pointer (some ⟨p,0,none⟩),.int .i64 f,.int .i64 t] w0 λe w'=>∃a2 c2 ab,r.length<=c2∧c2<=maxLen∧e=.returned (.tuple #[.slice a2 r.length c2,.bool true])∧Inv (kE 132 p pb c q).own w0 w' [nY ab a2 r,kE 132 p pb c (gV q i qt)]:=by
 have hI:=h;have hfu:=HD (wS uR);have htu:=HD (wS pX);have wz:i∈bU:=rJ OM OM;have hcv:jv pb 25 (f*5+t)=.pointer (some ⟨pb i,0,none⟩):=by rw[<-hi];exact nH pb wz
 clear h hi;replace ho:=HD ho;replace hq:=HD hq;go_enter func75,ntmps75;replace ho:=ho.out;replace hq:=hq.out;go_wp2_with(first|go_at_call 71;refine KR (vz _ p pb f t uR pX (yE (hI.at_ aC))) ?_;rw[hcv]|go_at_call 111;with_reducible refine(afp _ p pb c q (i:=i) wz (hI.at_ aC) a0 c0 b0 qt hq).mono ?_;rintro e w1 ⟨rfl,hJ⟩;replace hI:=hI.Uu hJ jR;clear hJ;have hcap:=Dh hI aC|go_at_call 112;(with_reducible refine(Ym (aaI _ (UInt8.ofNat f) (UInt8.ofNat t) _ _ _ b0 r rfl (hI.rd aC) OM OM ho) (f:Int) (t:Int) hfu.out htu.out).mono ?_);rintro e w1 ⟨a2,c2,ab,hc1,hc2,rfl,hJ⟩;replace hI:=hI.seq hJ;simp only[List.cons_append,List.nil_append]at hI;clear hJ)
 go_ret2
 exact⟨a2,c2,ab,hc1,hc2,rfl,hI.sub (.cons_cons _ (.cons _ (.refl _)))⟩
theorem NY(h:Inv (kE 132 p pb c q).own w0 w0 [kE 132 p pb c q])(a0 c0 b0)(qt:List QE)(hq:q i=(a0,c0,b0)::qt)(hl:b0.length<=100000)(ho:dJ (UInt8.ofNat f) (UInt8.ofNat t) b0=none):
  Calls prog 75 #[.pointer (some ⟨p,0,none⟩),.int .i64 f,.int .i64 t] w0 λe w'=>e=.returned (.tuple #[.slice none 0 0,.bool false])∧Inv (kE 132 p pb c q).own w0 w' [kE 132 p pb c (gV q i qt)]:=by
 have hI:=h;have hfu:=HD (wS uR);have htu:=HD (wS pX);have wz:i∈bU:=rJ OM OM;have hcv:jv pb 25 (f*5+t)=.pointer (some ⟨pb i,0,none⟩):=by rw[<-hi];exact nH pb wz
 clear h hi;replace ho:=HD ho;replace hq:=HD hq;go_enter func75,ntmps75;replace ho:=ho.out;replace hq:=hq.out;go_wp2_with(first|go_at_call 71;refine KR (vz _ p pb f t uR pX (yE (hI.at_ aC))) ?_;rw[hcv]|go_at_call 111;with_reducible refine(afp _ p pb c q (i:=i) wz (hI.at_ aC) a0 c0 b0 qt hq).mono ?_;rintro e w1 ⟨rfl,hJ⟩;replace hI:=hI.Uu hJ jR;clear hJ;have hcap:=Dh hI aC|go_at_call 112;with_reducible refine(Ym (UZ _ (UInt8.ofNat f) (UInt8.ofNat t) _ _ _ b0 rfl (hI.rd aC) OM OM ho) (f:Int) (t:Int) hfu.out htu.out).mono ?_;rintro e w1 ⟨rfl,hbl⟩;replace hI:=hI.call hbl;clear hbl)
 go_ret2
 exact⟨rfl,hI.tl⟩
end
end A
