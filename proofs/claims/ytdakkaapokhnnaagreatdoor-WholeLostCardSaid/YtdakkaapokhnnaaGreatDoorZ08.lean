/- Contracts of functions. No condition. -/
import Derived.Test.YtdakkaapokhnnaaGreatDoorZ05
namespace Go.Proofs.YtdakkaapokhnnaaGreatDoor
open Go.RowKit Go.Proofs.Tryz
set_option maxRecDepth 100000
set_option maxHeartbeats 6400000
set_option linter.all false
namespace B
theorem agj:prog.underlying 208=some (.struct (prog.fieldsOf 208)):=by kernel_rfl
theorem aib:(prog.fieldsOf 208).toList.map (placeOf prog)=[(0,7),(7,2),(9,3),(12,2),(14,1),(15,1),(16,1)]:=by kernel_rfl
theorem aic:(prog.fieldsOf 208).toList.all (λf=>(prog.info? f.type).isSome)=true:=by kernel_rfl
theorem aid:ab3 prog 208 16 1:=by unfold ab3;kernel_rfl
theorem aae(v b c:List Int)(hv:v.length=7)(hb:b.length=2)(hc:c.length=3)(w:World):(Instr.build 208 #[(0,ia v),(1,ia b),(2,ia c)]).run prog w=.ok (.agg (mix (v++b++c++[0,0,0,0]) [false]).toArray) w:=by
 have hz2:(prog.info? 208).map (·.zero)=some (some (.agg (mix (aj 16) (List.replicate 1 false)).toArray)):=aid;obtain⟨inf,zM,hz'⟩:=Option.map_eq_some_iff.1 hz2;have hzv:(zeroValue 208).run prog w=.ok (.agg (mix (aj 16) (List.replicate 1 false)).toArray) w:=by simp[zeroValue,typeInfo,zM,hz']
 have hr:=l6 (P:=prog) (prog.fieldsOf 208).toList (List.all_eq_true.1 aic) w;rw[aib]at hr;simp only[Instr.build,Sem.run_bind,hzv,Result.andThen_ok,run_underlying agj];rw[<-Array.toArray_toList (xs:=prog.fieldsOf 208),List.mapM_toArray];simp only[Sem.run_map,hr]
 match v,hv with
 | [a0,a1,a2,a3,a4,a5,a6],_=>
  match b,hb with
  | [b0,b1],_=>
   match c,hc with
   | [c0,c1,c2],_=>simp[Instr.fill,ia,mix,aj,List.replicate,Value.cells]
section
variable {P:Program}{ops:Array Oper}{Q:Exit->Act->World->Prop}{a:Act}{rest:List Oper}{T:List Nat}{w0 w:World}{m m':List aG}{dst:Option Tmp}{ty:TypeId}{pos:String}{af:Array Edge}
theorem Dm{x y z:Operand}{v b c:List Int}(hx:a.eval x=ia v)(hy:a.eval y=ia b)(hz:a.eval z=ia c)(hv:v.length=7)(hb:b.length=2)(hc:c.length=3)
  (k:wpList prog ops Q rest (a.put dst (.agg (mix (v++b++c++[0,0,0,0]) [false]).toArray)) w):wpList prog ops Q (⟨dst,.build 208 #[(0,x),(1,y),(2,z)],ty,pos,af,none⟩::rest) a w:=by
 refine au ?_ k;unfold fP execOp;simp only[List.map_toArray,List.map_cons,List.map_nil,hx,hy,hz,Sem.run_bind,aae v b c hv hb hc,Result.andThen_ok];rfl
theorem HZ{x:Operand}{t:TypeId}{zs:List Int}{bs:List Bool}(hI:Inv T w0 w m)(hv:a.eval x=.agg (mix zs bs).toArray)
  (k:∀b w',Inv T w0 w' (xf b t zs bs::m)->wpList P ops Q rest (a.put dst (.pointer (some ⟨b,0,none⟩))) w'):wpList P ops Q (⟨dst,.box t x,ty,pos,af,none⟩::rest) a w:=
 bN hI (cs:=mix zs bs) (by rw[hv];rfl) k
theorem bM{x:Operand}{t b off j:Nat}{e:TypeId}{zs:List Int}{bs:List Bool}{v:Bool}(hI:Inv T w0 w m)(hx:a.eval x=.pointer (some ⟨b,off,none⟩))(hm:xf b e zs bs∈m)(hT:jg P t)(hl:off=zs.length+j)(hj:j<bs.length)(hv:gb bs j=v)
  (k:wpList P ops Q rest (a.put dst (.bool v)) w):wpList P ops Q (⟨dst,.load t x,ty,pos,af,none⟩::rest) a w:=
 vB hI hx hm hT hl hj (by rw[hv];exact k)
end
theorem PI(w:World)(x y:List Int)(hx:x.length=2)(hy:y.length=2):Calls prog 180 #[ia x,ia y] w λe w'=>e=.returned (.bool (lC (gi x 0) (gi x 1) (gi y 0) (gi y 1)))∧Below w.heap.size w w':=by
 match x,hx with
 | [r1,w1],_=>
  match y,hy with
  | [r2,w2],_=>exact JU w r1 w1 r2 w2
def nX(v b c:List Int):List Int:=v++b++c++[0,0,0,0]
theorem aaf(w0:World)(v b c:List Int)(hv:v.length=7)(hb:b.length=2)(hc:c.length=3):
  Calls prog 127 #[ia v,ia b,ia c] w0 λe w'=>∃p,e=.returned (.pointer (some ⟨p,0,none⟩))∧Inv [] w0 w' [xf p 208 (nX v b c) [false]]:=by
 have hI:=Inv.start w0;go_enter func127,ntmps127;go_wp2_with(first|refine YX ?_;intro bx w hI|refine YL ?_|with_reducible refine Dm RF RF RF hv hb hc ?_|(with_reducible refine HZ hI RF ?_);intro bx w hI);go_ret;exact⟨_,rfl,hI.sub (.cons_cons _ (.cons _ (.cons _ (.cons _ .slnil))))⟩
section
variable (w0:World)(b:Nat)(e0:TypeId)(zs:List Int)(p:Bool)(hzl:zs.length=16)(hb:w0.heap[b]? =some (.cells (mix zs [p]).toArray e0 (0,0)))
include hzl hb
theorem JV:Calls prog 129 #[.pointer (some ⟨b,0,none⟩)] w0 λe w'=>e=.returned (.bool p)∧Step [b] w0 w'∧w'.heap[b]? =some (.cells (mix zs [p]).toArray e0 (0,0)):=by
 have hI:=yS hb;have hs:gb [p] 0=p:=rfl;go_enter func129,ntmps129;go_wp2_with(with_reducible refine bM hI RF aA (by exact tV) (by rw[hzl]) SI hs ?_);go_ret;exact⟨rfl,hI.end_,hI.mbk aA⟩
theorem Nl:Calls prog 83 #[.pointer (some ⟨b,0,none⟩)] w0 λe w'=>e=.returned (ia (sub zs 9 3))∧Step [b] w0 w'∧w'.heap[b]? =some (.cells (mix zs [p]).toArray e0 (0,0)):=by
 have hI:=yS hb;have hsl:(sub zs 9 3).length=3:=by rw[ay];omega
 go_enter func83,ntmps83;go_wp2_with(first|refine YX ?_;intro bx w hI|with_reducible refine bA hI RF aM (by with_reducible exact Cj) OM ?_|refine YS ?_;intro w hI);exact bodyPost_ret (dI hI rfl rfl aA Cj hsl) rfl ⟨rfl,hI.end_,hI.mbk aM⟩
theorem Nn:Calls prog 128 #[.pointer (some ⟨b,0,none⟩)] w0 λe w'=>e=.returned (ia (sub zs 7 2))∧Step [b] w0 w'∧w'.heap[b]? =some (.cells (mix zs [p]).toArray e0 (0,0)):=by
 have hI:=yS hb;have hsl:(sub zs 7 2).length=2:=by rw[ay];omega
 go_enter func128,ntmps128;go_wp2_with(first|refine YX ?_;intro bx w hI|with_reducible refine bA hI RF aM (by with_reducible exact gM) OM ?_|refine YS ?_;intro w hI);exact bodyPost_ret (dI hI rfl rfl aA gM hsl) rfl ⟨rfl,hI.end_,hI.mbk aM⟩
theorem Vs(who:Int)(bl had c:List Int)(aie:bl.length=2)(Vt:had.length=2)(hc3:c.length=3)(hno:p=true∨(p=false∧decide (bl=sub zs 7 2)=false)∨(p=false∧decide (bl=sub zs 7 2)=true∧aI (sub zs 0 7) who=false)):
  Calls prog 157 #[.pointer (some ⟨b,0,none⟩),.int .i64 who,ia bl,ia had,ia c] w0 λe w'=>e=.returned (.bool false)∧Step [b] w0 w'∧w'.heap[b]? =some (.cells (mix zs [p]).toArray e0 (0,0)):=by
 have hI:=yS hb;have hvl:(sub zs 0 7).length=7:=by rw[ay];omega
 have hb2:(sub zs 7 2).length=2:=by rw[ay];omega
 rcases hno with rfl| ⟨rfl,hd⟩ | ⟨rfl,hd,hmem⟩
 ·have hs:gb [true] 0=true:=rfl
  go_enter func157,ntmps157;go_upto_region 1 with(refine YX ?_;intro bx w hI)
  (try simp only[QN])
  (refine aH (C:=λw'=>Inv _ _ w' _) [] (λw'=>Inv _ _ w' _) hI.drew (λ_ h=>h) mixed KF ?_;clear hI;(repeat(first| ((with_reducible refine qd RF ?_);simp only[QN]) | ((with_reducible apply aZ);rfl;rfl;(focus(intro w (hI:Inv _ _ w _);go_wp2_with(with_reducible refine bM hI RF mU (by exact tV) (by rw[hzl]) SI hs ?_);(try simp only[QN]);exact⟨rfl,rfl,hI⟩));(exact⟨_,rfl⟩))));(refine bn ?_;intro w (hI:Inv _ _ w _)))
  exact W91
 ·have hs:gb [false] 0=false:=rfl
  go_enter func157,ntmps157;go_upto_region 1 with(refine YX ?_;intro bx w hI)
  (try simp only[QN])
  (refine aH (C:=λw'=>Inv _ _ w' _) [] (λw'=>Inv _ _ w' _) hI.drew (λ_ h=>h) mixed KF ?_;clear hI;(repeat(first| ((with_reducible refine qd RF ?_);simp only[QN]) | ((with_reducible apply aZ);rfl;rfl;(focus(intro w (hI:Inv _ _ w _);go_wp2_with(first|with_reducible refine bA hI RF mU (by with_reducible exact gM) OM ?_|with_reducible refine bM hI RF mU (by exact tV) (by rw[hzl]) SI hs ?_|refine YL ?_);(try simp only[QN]);exact⟨rfl,rfl,hI⟩));(exact⟨_,rfl⟩)) | ((with_reducible apply cZ);rfl;rfl;(focus(intro D w hD hE;have hI:Inv _ _ w _:=hE;(try simp only[vV]at hI);go_wp2_with(with_reducible refine jM RF RF (by with_reducible exact gM) (by with_reducible exact kU) OM UM ?_);(try simp only[QN]);exact⟨rfl,rfl,hD⟩));(exact⟨_,rfl⟩))));(refine bn ?_;intro w (hI:Inv _ _ w _)))
  exact W91
 ·have hs:gb [false] 0=false:=rfl
  have he:bl=sub zs 7 2:=of_decide_eq_true hd;subst he;replace hmem:=HD hmem;clear hd;go_enter func157,ntmps157;go_upto_region 1 with(refine YX ?_;intro bx w hI)
  (try simp only[QN])
  (refine aH (C:=λw'=>Inv _ _ w' _) [] (λw'=>Inv _ _ w' _) hI.drew (λ_ h=>h) mixed KF ?_;clear hI;(repeat(first| ((with_reducible apply aZ);rfl;rfl;(focus(intro w (hI:Inv _ _ w _);go_wp2_with(first|with_reducible refine bA hI RF mU (by first|with_reducible exact mX|with_reducible exact gM) OM ?_|with_reducible refine bM hI RF mU (by exact tV) (by rw[hzl]) SI hs ?_|refine YL ?_|go_at_call 14;refine(gU _ (sub zs 0 7) _ hvl).mono ?_;rw[hmem.out];rintro e w1 ⟨rfl,hw1⟩;replace hI:=hI.call hw1;clear hw1);(try simp only[QN]);exact⟨rfl,rfl,hI⟩));(exact⟨_,rfl⟩)) | ((with_reducible apply cZ);rfl;rfl;(focus(intro D w hD hE;have hI:Inv _ _ w _:=hE;(try simp only[vV]at hI);go_wp2_with(with_reducible refine iy RF RF (by with_reducible exact gM) (by with_reducible exact kU) UM ?_);(try simp only[QN]);exact⟨rfl,rfl,hD⟩));(exact⟨_,rfl⟩))));(refine bn ?_;intro w (hI:Inv _ _ w _)))
  exact W91
theorem Vu(who:Int)(bl:List Int)(aie:bl.length=2)(hno:p=false∨(p=true∧decide (bl=sub zs 7 2)=false)∨(p=true∧decide (bl=sub zs 7 2)=true∧aI (sub zs 0 7) who=false)):
  Calls prog 158 #[.pointer (some ⟨b,0,none⟩),.int .i64 who,ia bl] w0 λe w'=>e=.returned (.bool false)∧Step [b] w0 w'∧w'.heap[b]? =some (.cells (mix zs [p]).toArray e0 (0,0)):=by
 have hI:=yS hb;have hvl:(sub zs 0 7).length=7:=by rw[ay];omega
 have hb2:(sub zs 7 2).length=2:=by rw[ay];omega
 rcases hno with rfl| ⟨rfl,hd⟩ | ⟨rfl,hd,hmem⟩
 ·have hs:gb [false] 0=false:=rfl
  go_enter func158,ntmps158;go_upto_region 1 with(refine YX ?_;intro bx w hI)
  (try simp only[QN])
  (refine aH (C:=λw'=>Inv _ _ w' _) [] (λw'=>Inv _ _ w' _) hI.drew (λ_ h=>h) mixed KF ?_;clear hI;(repeat(first| ((with_reducible refine qd RF ?_);simp only[QN]) | ((with_reducible apply aZ);rfl;rfl;(focus(intro w (hI:Inv _ _ w _);go_wp2_with(with_reducible refine bM hI RF aM (by exact tV) (by rw[hzl]) SI hs ?_);(try simp only[QN]);exact⟨rfl,rfl,hI⟩));(exact⟨_,rfl⟩))));(refine bn ?_;intro w (hI:Inv _ _ w _)))
  exact W92
 ·have hs:gb [true] 0=true:=rfl
  go_enter func158,ntmps158;go_upto_region 1 with(refine YX ?_;intro bx w hI)
  (try simp only[QN])
  (refine aH (C:=λw'=>Inv _ _ w' _) [] (λw'=>Inv _ _ w' _) hI.drew (λ_ h=>h) mixed KF ?_;clear hI;(repeat(first| ((with_reducible refine qd RF ?_);simp only[QN]) | ((with_reducible apply aZ);rfl;rfl;(focus(intro w (hI:Inv _ _ w _);go_wp2_with(first|with_reducible refine bA hI RF aM (by with_reducible exact gM) OM ?_|with_reducible refine bM hI RF aM (by exact tV) (by rw[hzl]) SI hs ?_|refine YL ?_);(try simp only[QN]);exact⟨rfl,rfl,hI⟩));(exact⟨_,rfl⟩)) | ((with_reducible apply cZ);rfl;rfl;(focus(intro D w hD hE;have hI:Inv _ _ w _:=hE;(try simp only[vV]at hI);go_wp2_with(with_reducible refine jM RF RF (by with_reducible exact gM) (by with_reducible exact kU) OM UM ?_);(try simp only[QN]);exact⟨rfl,rfl,hD⟩));(exact⟨_,rfl⟩))));(refine bn ?_;intro w (hI:Inv _ _ w _)))
  exact W92
 ·have hs:gb [true] 0=true:=rfl
  have he:bl=sub zs 7 2:=of_decide_eq_true hd;subst he;replace hmem:=HD hmem;clear hd;go_enter func158,ntmps158;go_upto_region 1 with(refine YX ?_;intro bx w hI)
  (try simp only[QN])
  (refine aH (C:=λw'=>Inv _ _ w' _) [] (λw'=>Inv _ _ w' _) hI.drew (λ_ h=>h) mixed KF ?_;clear hI;(repeat(first| ((with_reducible apply aZ);rfl;rfl;(focus(intro w (hI:Inv _ _ w _);go_wp2_with(first|with_reducible refine bA hI RF aM (by first|with_reducible exact mX|with_reducible exact gM) OM ?_|with_reducible refine bM hI RF aM (by exact tV) (by rw[hzl]) SI hs ?_|refine YL ?_|go_at_call 14;refine(gU _ (sub zs 0 7) _ hvl).mono ?_;rw[hmem.out];rintro e w1 ⟨rfl,hw1⟩;replace hI:=hI.call hw1;clear hw1);(try simp only[QN]);exact⟨rfl,rfl,hI⟩));(exact⟨_,rfl⟩)) | ((with_reducible apply cZ);rfl;rfl;(focus(intro D w hD hE;have hI:Inv _ _ w _:=hE;(try simp only[vV]at hI);go_wp2_with(with_reducible refine iy RF RF (by with_reducible exact gM) (by with_reducible exact kU) UM ?_);(try simp only[QN]);exact⟨rfl,rfl,hD⟩));(exact⟨_,rfl⟩))));(refine bn ?_;intro w (hI:Inv _ _ w _)))
  exact W92
end
def dX(zs:List Int)(i k:Nat):List Int:=zs.set i (bits BinOp.or IntKind.i64 (gi zs i) (2^k))
theorem yV{k:Nat}(hk:k<5):wrap64 (2^k)=2^k:=by
 exact W93
theorem Rw(w0:World)(b:Nat)(e0:TypeId)(zs:List Int)(hzl:zs.length=16)(hb:w0.heap[b]? =some (.cells (mix zs [true]).toArray e0 (0,0)))(k:Nat)(hk:k<5)(vF:aI (sub zs 0 7) k=true):
  Calls prog 158 #[.pointer (some ⟨b,0,none⟩),.int .i64 k,ia (sub zs 7 2)] w0 λe w'=>e=.returned (.bool (gN (gi (dX zs 15 k) 15) (gi (sub (dX zs 15 k) 0 7) 1)))∧Step [b] w0 w'∧w'.heap[b]? =some (.cells (mix (dX zs 15 k) [true]).toArray e0 (0,0)):=by
 have hI:=yS hb;have hvl:(sub zs 0 7).length=7:=by rw[ay];omega
 have hb2:(sub zs 7 2).length=2:=by rw[ay];omega
 have hs:gb [true] 0=true:=rfl;have hmem:=HD vF;have hwr:=HD (yV hk);have vg:(k:Int).toNat=k:=by simp
 have hsh:(k:Nat) <64:=by omega
 have hz0:dX zs 15 k=zs.set 15 (bits BinOp.or IntKind.i64 (gi zs 15) (2^k)):=rfl;replace hz0:=HD hz0;clear vF;go_enter func158,ntmps158;go_upto_region 1 with(refine YX ?_;intro bx w hI)
 (try simp only[QN])
 (refine aH (C:=λw'=>Inv _ _ w' _) [] (λw'=>Inv _ _ w' _) hI.drew (λ_ h=>h) mixed KF ?_;clear hI;(repeat(first| ((with_reducible apply aZ);rfl;rfl;(focus(intro w (hI:Inv _ _ w _);go_wp2_with(first|with_reducible refine bA hI RF aM (by first|with_reducible exact mX|with_reducible exact gM) OM ?_|with_reducible refine bM hI RF aM (by exact tV) (by rw[hzl]) SI hs ?_|refine YL ?_|go_at_call 14;refine(gU _ (sub zs 0 7) _ hvl).mono ?_;rw[hmem.out];rintro e w1 ⟨rfl,hw1⟩;replace hI:=hI.call hw1;clear hw1);(try simp only[QN]);exact⟨rfl,rfl,hI⟩));(exact⟨_,rfl⟩)) | ((with_reducible apply cZ);rfl;rfl;(focus(intro D w hD hE;have hI:Inv _ _ w _:=hE;(try simp only[vV]at hI);go_wp2_with(with_reducible refine iy RF RF (by with_reducible exact gM) (by with_reducible exact kU) UM ?_);(try simp only[QN]);exact⟨rfl,rfl,hD⟩));(exact⟨_,rfl⟩))));(refine bn ?_;intro w (hI:Inv _ _ w _)))
 go_upto_region 3 with fail
 (try simp only[QN])
 (obtain⟨mE,qm⟩:=gX hI;refine aH (C:=λw'=>Inv _ _ w' _) [9] (λw'=>Inv _ _ w' (List.eraseIdx mE 1)) hI.drew (λw' h=>Inv.sub h (by subst qm;((try simp only[vV]);repeat(first|exact List.Sublist.slnil|with_reducible apply List.Sublist.cons_cons|apply List.Sublist.cons)))) mixed KF ?_;subst qm;clear hI;(repeat(first| ((with_reducible apply dw);rfl;rfl;rfl;(focus(intro w (hI:Inv _ _ w _);go_wp2_with((with_reducible refine kX hI RF RF iR (by with_reducible exact nS) OM ?_);intro w hI);(try simp only[QN]);exact⟨rfl,rfl,hI⟩));(exact⟨undef,rfl⟩);(focus(intro w (hI:Inv _ _ w _);exact Inv.sub hI SB))) | ((with_reducible apply aZ);rfl;rfl;(focus(intro w (hI:Inv _ _ w _);go_wp2_with(with_reducible refine fV hI RF aM (by with_reducible exact nS) OM ?_);(try simp only[QN]);exact⟨rfl,rfl,hI⟩));(exact⟨_,rfl⟩))));(refine bn ?_;intro w (hI:Inv _ _ w _)))
 rw[hwr.out,<-hz0.out]at hI;have JW:(dX zs 15 k).length=16:=by unfold dX;rw[List.length_set];exact hzl
 clear hzl hvl hb2 hmem hz0 hs;generalize hgz:dX zs 15 k=z2 at*;replace hgz:=HD hgz;have hzl:=JW;have hv2:(sub z2 0 7).length=7:=by rw[ay];omega
 go_upto_region 4 with fail
 (try simp only[QN])
 (refine aH (C:=λw'=>Inv _ _ w' _) [] (λw'=>Inv _ _ w' _) hI.drew (λ_ h=>h) mixed KF ?_;clear hI;(repeat((with_reducible apply aZ);rfl;rfl;(focus(intro w (hI:Inv _ _ w _);go_wp2_with(first|with_reducible refine bA hI RF aM (by with_reducible exact mX) OM ?_|with_reducible refine fV hI RF aM (by with_reducible exact nS) OM ?_|go_at_call 181;refine KD hI (ug _ (sub z2 0 7) _ hv2) ?_;intro w1 hI);(try simp only[QN]);exact⟨rfl,rfl,hI⟩));(exact⟨_,rfl⟩)));(refine bn ?_;intro w (hI:Inv _ _ w _)))
 go_wp2_with fail;go_ret;rw[hgz.out];exact⟨rfl,hI.end_,hI.mbk aM⟩
theorem Rx(w0:World)(b:Nat)(e0:TypeId)(zs:List Int)(hzl:zs.length=16)(hb:w0.heap[b]? =some (.cells (mix zs [false]).toArray e0 (0,0)))(k:Nat)(hk:k<5)(vF:aI (sub zs 0 7) k=true)(had c:List Int)(Vt:had.length=2)(hc3:c.length=3)(hh:gi had 0<=0):
  Calls prog 157 #[.pointer (some ⟨b,0,none⟩),.int .i64 k,ia (sub zs 7 2),ia had,ia c] w0 λe w'=>e=.returned (.bool (gN (gi (dX zs 14 k) 14) (gi (sub (dX zs 14 k) 0 7) 1)))∧Step [b] w0 w'∧w'.heap[b]? =some (.cells (mix (dX zs 14 k) [gN (gi (dX zs 14 k) 14) (gi (sub (dX zs 14 k) 0 7) 1)]).toArray e0 (0,0)):=by
 have hI:=yS hb;have hvl:(sub zs 0 7).length=7:=by rw[ay];omega
 have hb2:(sub zs 7 2).length=2:=by rw[ay];omega
 have hs:gb [false] 0=false:=rfl;have hmem:=HD vF;have hwr:=HD (yV hk);have vg:(k:Int).toNat=k:=by simp
 have hsh:(k:Nat) <64:=by omega
 have hh0:decide (0<gi had 0)=false:=by simp;omega
 have hz0:dX zs 14 k=zs.set 14 (bits BinOp.or IntKind.i64 (gi zs 14) (2^k)):=rfl;replace hz0:=HD hz0;clear vF hh;go_enter func157,ntmps157;go_upto_region 1 with(refine YX ?_;intro bx w hI)
 (try simp only[QN])
 (refine aH (C:=λw'=>Inv _ _ w' _) [] (λw'=>Inv _ _ w' _) hI.drew (λ_ h=>h) mixed KF ?_;clear hI;(repeat(first| ((with_reducible apply aZ);rfl;rfl;(focus(intro w (hI:Inv _ _ w _);go_wp2_with(first|with_reducible refine bA hI RF mU (by first|with_reducible exact mX|with_reducible exact gM) OM ?_|with_reducible refine bM hI RF mU (by exact tV) (by rw[hzl]) SI hs ?_|refine YL ?_|go_at_call 14;refine(gU _ (sub zs 0 7) _ hvl).mono ?_;rw[hmem.out];rintro e w1 ⟨rfl,hw1⟩;replace hI:=hI.call hw1;clear hw1);(try simp only[QN]);exact⟨rfl,rfl,hI⟩));(exact⟨_,rfl⟩)) | ((with_reducible apply cZ);rfl;rfl;(focus(intro D w hD hE;have hI:Inv _ _ w _:=hE;(try simp only[vV]at hI);go_wp2_with(with_reducible refine iy RF RF (by with_reducible exact gM) (by with_reducible exact kU) UM ?_);(try simp only[QN]);exact⟨rfl,rfl,hD⟩));(exact⟨_,rfl⟩))));(refine bn ?_;intro w (hI:Inv _ _ w _)))
 go_upto_region 3 with fail
 (try simp only[QN])
 (obtain⟨mE,qm⟩:=gX hI;refine aH (C:=λw'=>Inv _ _ w' _) [9] (λw'=>Inv _ _ w' (List.eraseIdx mE 3)) hI.drew (λw' h=>Inv.sub h (by subst qm;((try simp only[vV]);repeat(first|exact List.Sublist.slnil|with_reducible apply List.Sublist.cons_cons|apply List.Sublist.cons)))) mixed KF ?_;subst qm;clear hI;(repeat(first| ((with_reducible apply dw);rfl;rfl;rfl;(focus(intro w (hI:Inv _ _ w _);go_wp2_with((with_reducible refine kX hI RF RF Ty (by with_reducible exact nS) OM ?_);intro w hI);(try simp only[QN]);exact⟨rfl,rfl,hI⟩));(exact⟨undef,rfl⟩);(focus(intro w (hI:Inv _ _ w _);exact Inv.sub hI SB))) | ((with_reducible apply aZ);rfl;rfl;(focus(intro w (hI:Inv _ _ w _);go_wp2_with(with_reducible refine fV hI RF mU (by with_reducible exact nS) OM ?_);(try simp only[QN]);exact⟨rfl,rfl,hI⟩));(exact⟨_,rfl⟩))));(refine bn ?_;intro w (hI:Inv _ _ w _)))
 rw[hwr.out,<-hz0.out]at hI;have JW:(dX zs 14 k).length=16:=by unfold dX;rw[List.length_set];exact hzl
 clear hzl hvl hb2 hmem hz0 hs;generalize hgz:dX zs 14 k=z2 at*;replace hgz:=HD hgz;have hzl:=JW;have hv2:(sub z2 0 7).length=7:=by rw[ay];omega
 go_upto_region 4 with fail
 (try simp only[QN])
 (refine aH (C:=λw'=>Inv _ _ w' _) [] (λw'=>Inv _ _ w' _) hI.drew (λ_ h=>h) mixed KF ?_;clear hI;(repeat(first| ((with_reducible refine qd RF ?_);simp only[QN]) | ((with_reducible apply aZ);rfl;rfl;(focus(intro w (hI:Inv _ _ w _);go_wp2_with(refine YL ?_);(try simp only[QN]);exact⟨rfl,rfl,hI⟩));(exact⟨_,rfl⟩))));(refine bn ?_;intro w (hI:Inv _ _ w _)))
 go_upto_region 6 with fail
 (try simp only[QN])
 (obtain⟨mE,qm⟩:=gX hI;refine aH (C:=λw'=>Inv _ _ w' _) [12] (λw'=>Inv _ _ w' (List.eraseIdx mE 3)) hI.drew (λw' h=>Inv.sub h (by subst qm;((try simp only[vV]);repeat(first|exact List.Sublist.slnil|with_reducible apply List.Sublist.cons_cons|apply List.Sublist.cons)))) mixed KF ?_;subst qm;clear hI;(repeat(first| ((with_reducible apply dw);rfl;rfl;rfl;(focus(intro w (hI:Inv _ _ w _);go_wp2_with((with_reducible refine o7 (j:=0) hI RF RF (by rw[hzl]) Ty (by exact tV) SI ?_);intro w hI);(try simp only[QN]);exact⟨rfl,rfl,hI⟩));(exact⟨undef,rfl⟩);(focus(intro w (hI:Inv _ _ w _);exact Inv.sub hI SB))) | ((with_reducible apply aZ);rfl;rfl;(focus(intro w (hI:Inv _ _ w _);go_wp2_with(first|with_reducible refine bA hI RF mU (by with_reducible exact mX) OM ?_|with_reducible refine fV hI RF mU (by with_reducible exact nS) OM ?_|go_at_call 181;refine KD hI (ug _ (sub z2 0 7) _ hv2) ?_;intro w1 hI);(try simp only[QN]);exact⟨rfl,rfl,hI⟩));(exact⟨_,rfl⟩))));(refine bn ?_;intro w (hI:Inv _ _ w _)))
 exact W50
end B
namespace B
def xN(v c:List Int):List Int:=(v.set 1 (bits BinOp.or IntKind.i64 (gi v 1) (2^ (gi c 1).toNat))).set 0 (wrap64 (gi v 0+1))
def xO(v c:List Int):List Int:=(lv (v.set 1 (bits BinOp.andNot IntKind.i64 (gi v 1) (2^ (gi c 1).toNat))) (gi c 1).toNat (gi c 2).toNat 5).set 0 (wrap64 (gi v 0+1))
theorem JX(w0:World)(v c:List Int)(hv:v.length=7)(hc:c.length=3)(hw:Hid (∀i,-9223372036854775808<=gi v i∧gi v i<=9223372036854775807))
  (h1:aP (gi c 1)=true) (h2:aP (gi c 2)=true) (hk:gi c 0=0) (hh:(dY v (gi c 1)).2=false) (hm:aI v (gi c 1)=false):
  Calls prog 84 #[ia v,ia c] w0 λe w'=>e=.returned (.tuple #[ia (xN v c),.int .i64 0])∧Below w0.heap.size w0 w':=by
 have hI:=Inv.start w0;obtain⟨k,hk5,hke⟩:=lN h1;have vg:(k:Int).toNat=k:=by simp
 have hsh:(k:Nat) <64:=by omega
 have hk0:(gi c 0==0)=true:=by simp[hk]
 have Vv:xN v c=(v.set 1 (bits BinOp.or IntKind.i64 (gi v 1) (2^k))).set 0 (wrap64 (gi v 0+1)):=by unfold xN;rw[hke];simp
 have hg0:∀u,gi (v.set 1 u) 0=gi v 0:=λu=>by simp[gi,List.getElem?_set]
 replace Vv:=HD Vv;rw[hke]at h1 hh hm;clear hk;go_enter func84,ntmps84;go_upto_region 9 with(first|refine YL ?_|refine YX ?_;intro bx w hI|go_at_call 34;refine KR (dR _ _) ?_|go_at_call 17;refine KD hI (yH _ v _ hv hw) ?_;intro w1 hI|go_at_call 14;refine KD hI (gU _ v _ hv) ?_;intro w1 hI)
 (try simp only[QN])
 (obtain⟨mE,qm⟩:=gX hI;refine aH (C:=λw'=>Inv _ _ w' _) [7] (λw'=>Inv _ _ w' (List.eraseIdx (mE) 2)) hI.drew (λw' h=>Inv.sub h (by subst qm;((try simp only[vV]);repeat(first|exact List.Sublist.slnil|with_reducible apply List.Sublist.cons_cons|apply List.Sublist.cons)))) mixed KF ?_;subst qm;clear hI;(repeat(first| ((with_reducible apply dw);rfl;rfl;rfl;(focus(intro w (hI:Inv _ _ w _);go_wp2_with(refine YS ?_;intro w hI);(try simp only[QN]);exact⟨rfl,rfl,hI⟩));(exact⟨undef,rfl⟩);(focus(intro w (hI:Inv _ _ w _);exact Inv.sub hI SB))) | ((with_reducible apply aZ);rfl;rfl;(focus(intro w (hI:Inv _ _ w _);go_wp2_with(refine YL ?_);(try simp only[QN]);exact⟨rfl,rfl,hI⟩));(exact⟨_,rfl⟩))));(refine bn ?_;intro w (hI:Inv _ _ w _)))
 go_wp2_with(first|refine YL ?_|refine YS ?_;intro w hI);have hwr:wrap64 (2^k)=2^k:=by
  have:k=0∨k=1∨k=2∨k=3∨k=4:=by omega
  rcases this with rfl|rfl|rfl|rfl|rfl<;>(unfold wrap64;decide)
 rw[hwr,<-Vv.out]at hI;exact bodyPost_ret (aF hI rfl rfl aA mX (by rw[Vv.out];simpa using hv)) rfl ⟨rfl,hI.below⟩
theorem H5(w0:World)(v c:List Int)(hv:v.length=7)(hc:c.length=3)
  (h1:aP (gi c 1)=true) (h2:aP (gi c 2)=true)
  (hk0:(gi c 0==0)=false) (hk1:(gi c 0==1)=true) (hm:aI v (gi c 1)=true) (hm2:aI v (gi c 2)=true) (hd:(gi c 2==gi c 1)=false):
  Calls prog 84 #[ia v,ia c] w0 λe w'=>e=.returned (.tuple #[ia (xO v c),.int .i64 0])∧Below w0.heap.size w0 w':=by
 have hI:=Inv.start w0;obtain⟨k,hk5,hke⟩:=lN h1;obtain⟨d,hd5,hde⟩:=lN h2;have vg:(k:Int).toNat=k:=by simp
 have hsh:(k:Nat) <64:=by omega
 have Vv:xO v c=(lv (v.set 1 (bits BinOp.andNot IntKind.i64 (gi v 1) (2^k))) k d 5).set 0 (wrap64 (gi v 0+1)):=by unfold xO;rw[hke,hde];simp
 replace Vv:=HD Vv;rw[hke]at h1 hm hd;rw[hde]at h2 hm2 hd;go_enter func84,ntmps84;go_upto_region 13 with(first|refine YL ?_|refine YX ?_;intro bx w hI|go_at_call 34;refine KR (dR _ _) ?_|go_at_call 14;refine KD hI (gU _ v _ hv) ?_;intro w1 hI)
 (try simp only[QN])
 (obtain⟨mE,qm⟩:=gX hI;refine aH (C:=λw'=>Inv _ _ w' _) [7] (λw'=>Inv _ _ w' (List.eraseIdx (mE) 2)) hI.drew (λw' h=>Inv.sub h (by subst qm;((try simp only[vV]);repeat(first|exact List.Sublist.slnil|with_reducible apply List.Sublist.cons_cons|apply List.Sublist.cons)))) mixed KF ?_;subst qm;clear hI;(repeat(first| ((with_reducible apply dw);rfl;rfl;rfl;(focus(intro w (hI:Inv _ _ w _);go_wp2_with(refine YS ?_;intro w hI);(try simp only[QN]);exact⟨rfl,rfl,hI⟩));(exact⟨undef,rfl⟩);(focus(intro w (hI:Inv _ _ w _);exact Inv.sub hI SB))) | ((with_reducible apply aZ);rfl;rfl;(focus(intro w (hI:Inv _ _ w _);go_wp2_with(refine YL ?_);(try simp only[QN]);exact⟨rfl,rfl,hI⟩));(exact⟨_,rfl⟩))));(refine bn ?_;intro w (hI:Inv _ _ w _)))
 go_wp2_with(refine YL ?_);have hwr:wrap64 (2^k)=2^k:=by
  have:k=0∨k=1∨k=2∨k=3∨k=4:=by omega
  rcases this with rfl|rfl|rfl|rfl|rfl<;>(unfold wrap64;decide)
 rw[hwr]at hI|-;obtain⟨b1,b2,b3,h3,h4,h5⟩:=nm3 hI;subst h3 h4 h5;obtain⟨v1,hv1⟩:=EZ (v.set 1 (bits BinOp.andNot IntKind.i64 (gi v 1) (2^k)));rw[<-hv1]at hI Vv|-;have hg0:gi v1 0=gi v 0:=by rw[hv1];simp[gi,List.getElem?_set]
 have hl1:v1.length=7:=by rw[hv1];simpa using hv
 have hgs:∀j:Nat,gi (sub v1 2 5) j=gi v1 (2+j)∨5<=j:=by
  intro j;by_cases h:j<5
  ·left;simp[gi,sub,h]
  ·right;omega
 clear hv1 hm hm2
 go_loopg [8,9,79] 5 (λn p q i wr=>∃j:Nat,n=5-j∧j<=5∧i=.int .i64 j∧Inv [] w0 wr [ib b1 30 (aj 7),ib b2 48 c,ib b3 30 (lv v1 k d j)])
 case atStart=>exact⟨0,rfl,by omega,rfl,hI⟩
 case round=>
  clear hI;obtain⟨j,rfl,hj,rfl,hI⟩:=hrel;have hlj:=zT v1 k d j;by_cases MK:j<5
  ·have hg:gi (sub v1 2 5) j=gi v1 (2+j):=by have:=hgs j;omega
   by_cases hjk:j=k
   ·have hs:lv v1 k d (j+1)=(lv v1 k d j).set (2+j) (d+1):=by rw[lv,if_pos (Or.inl hjk)]
    have aih:((j:Int)==k)=true:=by simp[hjk]
    clear hjk;go_wp2_with(first|refine YL ?_|refine YS ?_;intro w hI);go_roundg (5- (j+1))
    case measure=>omega
    case rel=>exact⟨j+1,rfl,by omega,by go_num,by rw[hs];exact hI⟩
   ·have aih:((j:Int)==k)=false:=by simp;omega
    by_cases hjh:gi v1 (2+j)=k+1
    ·have hs:lv v1 k d (j+1)=(lv v1 k d j).set (2+j) (d+1):=by rw[lv,if_pos (Or.inr hjh)]
     have jU:(gi (sub v1 2 5) j==(k:Int)+1)=true:=by rw[hg];simp[hjh]
     clear hjk hjh hg hgs;go_wp2_with(first|refine YL ?_|refine YS ?_;intro w hI);go_roundg (5- (j+1))
     case measure=>omega
     case rel=>exact⟨j+1,rfl,by omega,by go_num,by rw[hs];exact hI⟩
    ·have hs:lv v1 k d (j+1)=lv v1 k d j:=by rw[lv,if_neg (λh=>h.elim hjk hjh)]
     have jU:(gi (sub v1 2 5) j==(k:Int)+1)=false:=by rw[hg];simpa using hjh
     clear hjk hjh hg hgs;go_wp2_with(refine YL ?_);go_roundg (5- (j+1))
     case measure=>omega
     case rel=>exact⟨j+1,rfl,by omega,by go_num,by rw[hs];exact hI⟩
  ·obtain rfl:j=5:=by omega
   have hg5:∀i,i<2->gi (lv v1 k d 5) i=gi v1 i:=by
    intro i hi;have:∀j,gi (lv v1 k d j) i=gi v1 i:=by
     intro j
     induction j with
     |zero=>rfl
     |succ j ih=>
      unfold lv
      split
      ·rw[<-ih];unfold gi;rw[List.getD_eq_getElem?_getD,List.getElem?_set_ne OM,<-List.getD_eq_getElem?_getD]
      ·exact ih
    exact this 5
   have ajf:=(hg5 0 OM).trans hg0;clear hgs hg5;go_wp2_with(first|refine YL ?_|refine YS ?_;intro w hI);rw[<-Vv.out]at hI;exact bodyPost_ret (aF hI rfl rfl aA mX (by rw[Vv.out];simpa using hlj.trans hl1)) rfl ⟨rfl,hI.below⟩
def bQ(v c:List Int):List Int×Int:=if I4 v c=true then(xN v c,0)else if JQ v c=true then(xO v c,0)else(aj 7,5)
theorem adu(w0:World)(v c:List Int)(hv:v.length=7)(hc:c.length=3)(hw:Hid (∀i,-9223372036854775808<=gi v i∧gi v i<=9223372036854775807)):
  Calls prog 84 #[ia v,ia c] w0 λe w'=>e=.returned (.tuple #[ia (bQ v c).1,.int .i64 (bQ v c).2])∧Below w0.heap.size w0 w':=by
 have no:I4 v c=false->JQ v c=false->kW w0 v c->Calls prog 84 #[ia v,ia c] w0 λe w'=>e=.returned (.tuple #[ia (bQ v c).1,.int .i64 (bQ v c).2])∧Below w0.heap.size w0 w':=by
  intro a b h;rw[show bQ v c=(aj 7,5)from by unfold bQ;rw[a,b];simp];exact h
 cases h1:aP (gi c 1)
 ·exact no (by unfold I4;simp[h1]) (by unfold JQ;simp[h1]) (Ur w0 v c hv hc h1)
 cases h2:aP (gi c 2)
 ·exact no (by unfold I4;simp[h2]) (by unfold JQ;simp[h2]) (Us w0 v c hv hc h1 h2)
 cases hk:(gi c 0==0)
 ·cases hk1:(gi c 0==1)
  ·exact no (by unfold I4;simp[hk]) (by unfold JQ;simp[hk1]) (Uv w0 v c hv hc h1 h2 hk hk1)
  cases hm:aI v (gi c 1)
  ·exact no (by unfold I4;simp[hk]) (by unfold JQ;simp[hm]) (Uw w0 v c hv hc h1 h2 hk hk1 hm)
  cases hm2:aI v (gi c 2)
  ·exact no (by unfold I4;simp[hk]) (by unfold JQ;simp[hm2]) (Ux w0 v c hv hc h1 h2 hk hk1 hm hm2)
  cases hd:(gi c 2==gi c 1)
  ·have a:I4 v c=false:=by unfold I4;simp[hk]
   have b:JQ v c=true:=by unfold JQ;simp only[h1,h2,hk1,hm,hm2,hd];rfl
   rw[show bQ v c=(xO v c,0)from by unfold bQ;rw[a,b];simp];exact H5 w0 v c hv hc h1 h2 hk hk1 hm hm2 hd
  ·exact no (by unfold I4;simp[hk]) (by unfold JQ;simp[hd]) (Uy w0 v c hv hc h1 h2 hk hk1 hm hm2 hd)
 ·have b:JQ v c=false:=by have:=eq_of_beq hk;unfold JQ;simp[this]
  cases hh:(dY v (gi c 1)).2
  ·cases hm:aI v (gi c 1)
   ·have a:I4 v c=true:=by unfold I4;simp only[h1,h2,hk,hh,hm];rfl
    rw[show bQ v c=(xN v c,0)from by unfold bQ;rw[a];simp];exact JX w0 v c hv hc hw h1 h2 (eq_of_beq hk) hh hm
   ·exact no (by unfold I4;simp[hm]) b (Uu w0 v c hv hc hw h1 h2 hk hh hm)
  ·exact no (by unfold I4;simp[hh]) b (Ut w0 v c hv hc hw h1 h2 hk hh)
theorem nY(v c:List Int)(hv:v.length=7):(bQ v c).1.length=7:=by
 unfold bQ
 split
 ·simp[xN,hv]
 ·split
  ·simp[xO,zT,hv]
  ·exact aa 7
end B
namespace C
def jc(x:List Int)(i:Nat)(n:Int):List Int:=(x.set i (gi x i+n)).set 0 (wrap64 (gi x 0+1))
theorem FU(x:List Int)(i:Nat)(n:Int):(jc x i n).length=x.length:=by simp[jc]
def vG(x:List Int):Prop:=nV (cellsOf x)=true
theorem yY{x:List Int}(hr:vG x)(k:Nat)(hk:k<4):JZ (gi x (1+k*7))∧JZ (gi x (1+k*7+1))∧(∀g∈sub x (1+k*7+2) 5,JZ g)∧(sub x (1+k*7+2) 5).sum<=1099511627776:=by
 have h:=(oJ _ 4).1 hr k hk;replace h:oI (cellAt (cellsOf x) k)=true:=h;rw[zW _ k hk,zV]at h;have h2:sub (sub x (1+k*7) 7) 2 5=sub x (1+k*7+2) 5:=by
  unfold sub;rw[List.drop_take,List.drop_drop,List.take_take];congr 1
 rw[h2,nQ _ _ _ _ OM,nQ _ _ _ _ OM]at h;exact h
theorem aai{x:List Int}(h:mi x=true):vG x:=(PL h).2.1
theorem VD{x:List Int}(key f:Nat)(n:Int)(hx:x.length=174)(hr:vG x)(hk:key<4)(hf:f<7)(hn:1<=n)(hc:cntF x key f<=1099511627776-n):vG (jc x (1+key*7+f) n):=by
 refine(oJ _ 4).2 λj hj=>?_
 have hcj:=(oJ _ 4).1 hr j hj;show oI (cellAt (cellsOf (jc x (1+key*7+f) n)) j)=true;replace hcj:oI (cellAt (cellsOf x) j)=true:=hcj;rw[zW _ j hj]at hcj|-;unfold jc;rw[lU _ _ _ _ _ OM];by_cases he:j=key
 ·subst he
  rw[yX];have hg:gi x (1+j*7+f)=gi (sub x (1+j*7) 7) f:=(nQ x _ 7 f hf).symm;rw[hg];refine RG _ f n (by rw[ay];omega) hf hn hcj ?_;have h2:sub (sub x (1+j*7) 7) 2 5=sub x (1+j*7+2) 5:=by
   unfold sub;rw[List.drop_take,List.drop_drop,List.take_take];congr 1
  rw[h2,<-hg];exact hc
 ·rw[lU _ _ _ _ _ OM]
  exact hcj
theorem RH(w0:World)(x:List Int)(key n:Int)(hx:x.length=174)(hk:0<=key∧key<4)(hn:1<=n∧n<=1099511627776)(hwf:-9223372036854775808<=gi x (1+key.toNat*7))(hgt:gi x (1+key.toNat*7)<=1099511627776-n):
  Calls prog 145 #[ia x,.int .i64 key,.int .i64 n,.func (.func 146) #[] #[]] w0 λe w'=>e=.returned (.tuple #[ia (jc x (1+key.toNat*7) n),.int .i64 0])∧Below w0.heap.size w0 w':=by
 have hI:=Inv.start w0;obtain⟨hk0,hk1⟩:=hk;have hg:∀u,gi (x.set (1+key.toNat*7) u) 0=gi x 0:=λu=>by simp[gi,List.getElem?_set]
 go_enter func145,ntmps145;go_wp2_with(first|refine YL ?_|refine YS ?_;intro w hI|refine YX ?_;intro bx w hI|go_at_call 146;refine KD hI (JI _ _ _ (gi x (1+key.toNat*7)) (rq hI aM OM)) ?_;intro w1 hI);exact W59
theorem RI(w0:World)(x:List Int)(key n:Int)(hx:x.length=174)(hk:0<=key∧key<4)(hn:1<=n∧n<=1099511627776)(hwf:-9223372036854775808<=gi x (1+key.toNat*7+1))(hgt:gi x (1+key.toNat*7+1)<=1099511627776-n):
  Calls prog 145 #[ia x,.int .i64 key,.int .i64 n,.func (.func 147) #[] #[]] w0 λe w'=>e=.returned (.tuple #[ia (jc x (1+key.toNat*7+1) n),.int .i64 0])∧Below w0.heap.size w0 w':=by
 have hI:=Inv.start w0;obtain⟨hk0,hk1⟩:=hk;have hg:∀u,gi (x.set (1+key.toNat*7+1) u) 0=gi x 0:=λu=>by simp[gi,List.getElem?_set]
 go_enter func145,ntmps145;go_wp2_with(first|refine YL ?_|refine YS ?_;intro w hI|refine YX ?_;intro bx w hI|go_at_call 147;refine KD hI (JJ _ _ _ (gi x (1+key.toNat*7+1)) (rq hI aM OM)) ?_;intro w1 hI);exact W59
theorem Nu(w0:World)(x:List Int)(key n:Int)(t tt:Nat)(hx:x.length=174)(hk:0<=key∧key<4)(hn:1<=n∧n<=1099511627776)(ht:w0.cell? ⟨t,0,none⟩=some (.int .i64 tt))(hto:tt<5)(hg:∀g∈sub x (1+key.toNat*7+2) 5,JZ g)(hgt:(sub x (1+key.toNat*7+2) 5).sum<=1099511627776-n):
  Calls prog 145 #[ia x,.int .i64 key,.int .i64 n,.func (.func 148) #[] #[.pointer (some ⟨t,0,none⟩)]] w0 λe w'=>e=.returned (.tuple #[ia (jc x (1+key.toNat*7+2+tt) n),.int .i64 0])∧Below w0.heap.size w0 w':=by
 have hI:=Inv.start w0;obtain⟨hk0,hk1⟩:=hk;have hg0:∀u,gi (x.set (1+key.toNat*7+2+tt) u) 0=gi x 0:=λu=>by simp[gi,List.getElem?_set]
 have hgi:=hg _ (zX (sub x (1+key.toNat*7+2) 5) tt (by rw[ay];omega));rw[nQ _ _ _ _ hto]at hgi;obtain⟨ajh,aji⟩:=hgi;replace hg:=HD hg;replace ht:=HD ht;go_enter func145,ntmps145;go_wp2_with(first|refine YL ?_|refine YS ?_;intro w hI|refine YX ?_;intro bx w hI|go_at_call 148;refine KD hI (FT _ _ (1+key.toNat*7) t tt x _ (hI.ibk aM) (hI.cell ht.out) hto OM hg.out) ?_;intro w1 hI);exact W59
def jK(x:List Int)(i:Nat)(key n:Int):List Int×Int:=if ng key n=true then(if 1099511627776-n<gi x i then(aj 174,6)else(jc x i n,0))else(aj 174,5)
theorem sV(x:List Int)(i:Nat)(key n:Int)(hx:x.length=174):(jK x i key n).1.length=174:=by
 unfold jK
 split
 ·split
  ·simp[aa]
  ·simp[jc,hx]
 ·simp[aa]
theorem agl(w0:World)(x:List Int)(key n:Int)(hx:x.length=174)(hw:vG x):
  Calls prog 104 #[ia x,.int .i64 key,.int .i64 n] w0 λe w'=>e=.returned (.tuple #[ia (jK x (1+key.toNat*7) key n).1,.int .i64 (jK x (1+key.toNat*7) key n).2])∧Below w0.heap.size w0 w':=by
 have hI:=Inv.start w0;cases ha:ng key n
 ·rw[show jK x (1+key.toNat*7) key n=(aj 174,5)from by simp[jK,ha]]
  go_enter func104,ntmps104;exact W81
 ·obtain⟨hk0,hk1,hn0,hn1⟩:=vC ha
  by_cases hgt:1099511627776-n<gi x (1+key.toNat*7)
  ·rw[show jK x (1+key.toNat*7) key n=(aj 174,6)from by simp[jK,ha,hgt]]
   go_enter func104,ntmps104;go_wp2_with(first|refine YL ?_|refine YS ?_;intro w hI|refine YX ?_;intro bx w hI|go_at_call 144;refine KR (mq _ _ _) ?_|go_at_call 145;refine KD hI (M_ _ x key n hx ⟨hk0,hk1⟩ ⟨hn0,hn1⟩ hgt) ?_;intro w1 hI);exact Ui
  ·rw[show jK x (1+key.toNat*7) key n=(jc x (1+key.toNat*7) n,0)from by simp[jK,ha,hgt]]
   have hm:(jc x (1+key.toNat*7) n).length=174:=by simp[jc,hx]
   have hle:gi x (1+key.toNat*7)<=1099511627776-n:=by omega
   have hc0:-9223372036854775808<=gi x (1+key.toNat*7):=by have:=(yY hw key.toNat OM).1.1;omega
   clear hw;go_enter func104,ntmps104;go_wp2_with(first|refine YL ?_|refine YS ?_;intro w hI|refine YX ?_;intro bx w hI|go_at_call 144;refine KR (mq _ _ _) ?_|go_at_call 145;refine KD hI (RH _ x key n hx ⟨hk0,hk1⟩ ⟨hn0,hn1⟩ hc0 hle) ?_;intro w1 hI);exact afH
theorem agm(w0:World)(x:List Int)(key n:Int)(hx:x.length=174)(hw:vG x):
  Calls prog 105 #[ia x,.int .i64 key,.int .i64 n] w0 λe w'=>e=.returned (.tuple #[ia (jK x (1+key.toNat*7+1) key n).1,.int .i64 (jK x (1+key.toNat*7+1) key n).2])∧Below w0.heap.size w0 w':=by
 have hI:=Inv.start w0;cases ha:ng key n
 ·rw[show jK x (1+key.toNat*7+1) key n=(aj 174,5)from by simp[jK,ha]]
  go_enter func105,ntmps105;exact W81
 ·obtain⟨hk0,hk1,hn0,hn1⟩:=vC ha
  by_cases hgt:1099511627776-n<gi x (1+key.toNat*7+1)
  ·rw[show jK x (1+key.toNat*7+1) key n=(aj 174,6)from by simp[jK,ha,hgt]]
   go_enter func105,ntmps105;go_wp2_with(first|refine YL ?_|refine YS ?_;intro w hI|refine YX ?_;intro bx w hI|go_at_call 144;refine KR (mq _ _ _) ?_|go_at_call 145;refine KD hI (Na _ x key n hx ⟨hk0,hk1⟩ ⟨hn0,hn1⟩ hgt) ?_;intro w1 hI);exact Ui
  ·rw[show jK x (1+key.toNat*7+1) key n=(jc x (1+key.toNat*7+1) n,0)from by simp[jK,ha,hgt]]
   have hm:(jc x (1+key.toNat*7+1) n).length=174:=by simp[jc,hx]
   have hle:gi x (1+key.toNat*7+1)<=1099511627776-n:=by omega
   have hc0:-9223372036854775808<=gi x (1+key.toNat*7+1):=by have:=(yY hw key.toNat OM).2.1.1;omega
   clear hw;go_enter func105,ntmps105;go_wp2_with(first|refine YL ?_|refine YS ?_;intro w hI|refine YX ?_;intro bx w hI|go_at_call 144;refine KR (mq _ _ _) ?_|go_at_call 145;refine KD hI (RI _ x key n hx ⟨hk0,hk1⟩ ⟨hn0,hn1⟩ hc0 hle) ?_;intro w1 hI);exact afH
def kD(x:List Int)(key n tt:Int):List Int×Int:=
 if aP tt=true∧ng key n=true then(if 1099511627776-n< (sub x (1+key.toNat*7+2) 5).sum then(aj 174,6)else(jc x (1+key.toNat*7+2+tt.toNat) n,0))else(aj 174,5)
theorem wz(x:List Int)(key n tt:Int)(hx:x.length=174):(kD x key n tt).1.length=174:=by
 unfold kD
 split
 ·split
  ·simp[aa]
  ·simp[jc,hx]
 ·simp[aa]
theorem adx(w0:World)(x:List Int)(key n tt:Int)(hx:x.length=174)(hr:vG x):
  Calls prog 106 #[ia x,.int .i64 key,.int .i64 n,.int .i64 tt] w0 λe w'=>e=.returned (.tuple #[ia (kD x key n tt).1,.int .i64 (kD x key n tt).2])∧Below w0.heap.size w0 w':=by
 have hI:=Inv.start w0;cases hm:aP tt
 ·rw[show kD x key n tt=(aj 174,5)from by simp[kD,hm]]
  go_enter func106,ntmps106;go_wp2_with(first|refine YX ?_;intro bx w hI|with_reducible refine aS hI RF aM (by with_reducible exact nS) RF ?_|(with_reducible refine bN hI RF ?_);intro bx w hI|refine YL ?_|refine YS ?_;intro w hI|go_at_call 132;refine KR (dR _ _) ?_);exact Ui
 cases ha:ng key n
 ·rw[show kD x key n tt=(aj 174,5)from by simp[kD,ha]]
  go_enter func106,ntmps106;go_wp2_with(first|refine YL ?_|refine YX ?_;intro bx w hI|with_reducible refine aS hI RF aM (by with_reducible exact nS) RF ?_|(with_reducible refine bN hI RF ?_);intro bx w hI|refine YS ?_;intro w hI|go_at_call 144;refine KR (mq _ _ _) ?_|go_at_call 132;refine KR (dR _ _) ?_);exact Ui
 obtain⟨hk0,hk1,hn0,hn1⟩:=vC ha;obtain⟨t0,t5⟩:=dW hm;obtain⟨p,rfl⟩:∃p:Nat,tt=p:=⟨tt.toNat,by omega⟩;have hp5:p<5:=by omega
 have hp:(p:Int).toNat=p:=by simp
 have hc:=HD (yY hr key.toNat OM).2.2.1;by_cases hgt:1099511627776-n< (sub x (1+key.toNat*7+2) 5).sum
 ·rw[show kD x key n p=(aj 174,6)from by simp[kD,ha,hm,hgt]]
  go_enter func106,ntmps106;go_wp2_with(first|refine YL ?_|refine YX ?_;intro bx w hI|with_reducible refine aS hI RF aM (by with_reducible exact nS) RF ?_|(with_reducible refine bN hI RF ?_);intro bx w hI|refine YS ?_;intro w hI|go_at_call 144;refine KR (mq _ _ _) ?_|go_at_call 132;refine KR (dR _ _) ?_|go_at_call 145;refine KD hI (J2 _ x key n _ p hx ⟨hk0,hk1⟩ ⟨hn0,hn1⟩ (by rw[mV (hI.blk aM)];rfl) hp5 hc.out hgt) ?_;intro w1 hI);exact Ui
 ·rw[show kD x key n p=(jc x (1+key.toNat*7+2+p) n,0)from by simp[kD,ha,hm,hgt]]
  have hm2:(jc x (1+key.toNat*7+2+p) n).length=174:=by simp[jc,hx]
  have hle:(sub x (1+key.toNat*7+2) 5).sum<=1099511627776-n:=by omega
  go_enter func106,ntmps106;go_wp2_with(first|refine YL ?_|refine YX ?_;intro bx w hI|with_reducible refine aS hI RF aM (by with_reducible exact nS) RF ?_|(with_reducible refine bN hI RF ?_);intro bx w hI|refine YS ?_;intro w hI|go_at_call 144;refine KR (mq _ _ _) ?_|go_at_call 132;refine KR (dR _ _) ?_|go_at_call 145;refine KD hI (Nu _ x key n _ p hx ⟨hk0,hk1⟩ ⟨hn0,hn1⟩ (by rw[mV (hI.blk aM)];rfl) hp5 hc.out hle) ?_;intro w1 hI);exact bodyPost_ret (aF hI rfl rfl aA wX hm2) rfl ⟨rfl,hI.below⟩
def lD(x:List Int)(who:Int)(dead:List Int):List Int:=Dn x who.toNat (wrap64 (gi dead 0+1)) (cellsOf dead)
def FV(x:List Int)(who:Int)(dead:List Int):List Int:=(lV who dead (lD x who dead) 5).set 0 (wrap64 (gi x 0+1))
def uh(x:List Int)(who:Int)(dead:List Int):List Int×Int:=
 if aP who=true then(if 0<gi x (29+who.toNat)then(aj 174,8)else(FV x who dead,0))else(aj 174,5)
theorem ady(w0:World)(x dead:List Int)(who:Int)(hx:x.length=174)(hd:dead.length=174)(h1:aP who=true)(hh:gi x (29+who.toNat)<=0):
  Calls prog 125 #[ia x,.int .i64 who,ia dead] w0 λe w'=>e=.returned (.tuple #[ia (FV x who dead),.int .i64 0])∧Below w0.heap.size w0 w':=by
 have hI:=Inv.start w0;have hn:=aa 174;obtain⟨ho0,ho1⟩:=dW h1;have hcl:=AF dead hd;have hce:sub dead 1 28=cellsOf dead:=rfl;have hi0:dF (x.set (29+who.toNat) (wrap64 (gi dead 0+1))) (34+who.toNat*28) (cellsOf dead)=lD x who dead:=rfl;have hl0:(lD x who dead).length=174:=sU x _ _ _ hx OM hcl;have hg0:gi (lD x who dead) 0=gi x 0:=VA x _ _ _ hx OM hcl;have hlt:=λj hj=>zU who dead (lD x who dead) hl0 hd j hj
 go_enter func125,ntmps125;go_upto_region 5 with(first|refine YL ?_|refine YX ?_;intro bx w hI|go_at_call 132;refine KR (dR _ _) ?_)
 (try simp only[QN])
 (obtain⟨mE,qm⟩:=gX hI;refine aH (C:=λw'=>Inv _ _ w' _) [9,12] (λw'=>Inv _ _ w' (List.eraseIdx (mE) 2)) hI.drew (λw' h=>Inv.sub h (by subst qm;((try simp only[vV]);repeat(first|exact List.Sublist.slnil|with_reducible apply List.Sublist.cons_cons|apply List.Sublist.cons)))) mixed KF ?_;subst qm;clear hI;(repeat(first| ((with_reducible apply dw);rfl;rfl;rfl;(focus(intro w (hI:Inv _ _ w _);go_wp2_with(refine YS ?_;intro w hI);(try simp only[QN]);exact⟨rfl,rfl,hI⟩));(exact⟨undef,rfl⟩);(focus(intro w (hI:Inv _ _ w _);exact Inv.sub hI SB))) | ((with_reducible apply aZ);rfl;rfl;(focus(intro w (hI:Inv _ _ w _);go_wp2_with(refine YL ?_);(try simp only[QN]);exact⟨rfl,rfl,hI⟩));(exact⟨_,rfl⟩)) | ((with_reducible apply cZ);rfl;rfl;(focus(intro D w hD hE;have hI:Inv _ _ w _:=hE;(try simp only[vV]at hI);go_wp2_with(refine YL ?_);(try simp only[QN]);exact⟨rfl,rfl,hD⟩));(exact⟨_,rfl⟩))));(refine bn ?_;intro w (hI:Inv _ _ w _)))
 rw[hce,hi0]at hI;clear hi0 hce;generalize hid:Hid (gi (lD x who dead) 0=gi x 0∧∀j,j<=5->(lV who dead (lD x who dead) j).length=174∧gi (lV who dead (lD x who dead) j) 0=gi (lD x who dead) 0)=PP;have TI:PP:=by rw[<-hid];exact HD ⟨hg0,hlt⟩
 subst hid;clear hlt hg0 hl0;go_wp2_with(refine YL ?_);obtain⟨br,bd,b1,h3,h2,h0⟩:=nm3 hI;subst h3 h2 h0
 go_loopg [33] 5 (λkk i wr=>∃(j:Nat),kk=5-j∧j<=5∧i=.int .i64 j∧Inv [] w0 wr [ib br 41 (aj 174),ib bd 41 dead,ib b1 41 (lV who dead (lD x who dead) j)])
 case atStart=>exact⟨0,rfl,by omega,rfl,hI⟩
 case round=>
  clear hI;obtain⟨j,rfl,hj,rfl,hI⟩:=hrel;by_cases hlj:j<5
  ·have vg:(j:Int).toNat=j:=by simp
   have heh:gi (sub dead 29 5) j=gi dead (29+j):=nQ dead 29 5 j hlj;have h5l:(sub dead 29 5).length=5:=by rw[ay];omega
   have hyl:(lV who dead (lD x who dead) j).length=174:=(TI.out.2 j hj).1;have hs:Hid (lV who dead (lD x who dead) (j+1)=jS who dead (lV who dead (lD x who dead) j) j):=HD rfl;have hel:sub dead (34+j*28) 28=leftOf dead j:=(wu dead j hlj).symm;have hll:(leftOf dead j).length=28:=xQ dead j hd hlj;generalize lV who dead (lD x who dead) j=y at*;by_cases hw1:(j:Int)=who
   ·have hq:((j:Int) != who)=false:=by simp[hw1]
    have hk:Hid (jS who dead y j=y):=HD (by unfold jS;rw[if_neg (λh=>h.1 hw1)]);clear hw1;go_wp2_with(refine YL ?_);go_roundg (5- (j+1))
    case measure=>omega
    case rel=>exact⟨j+1,rfl,by omega,by go_num,by rw[hs.out,hk.out];exact hI⟩
   ·have hq:((j:Int) != who)=true:=by simpa using hw1
    by_cases hh0:0<gi dead (29+j)
    ·by_cases hy0:gi y (29+j)=0
     ·have hq2:(gi y (29+j)==0)=true:=by simpa using hy0
      have hk:Hid (jS who dead y j=dF (y.set (29+j) (gi dead (29+j))) (34+j*28) (leftOf dead j)):=HD (by unfold jS;rw[if_pos ⟨hw1,hh0,hy0⟩];rfl);clear hw1 hy0;generalize gi dead (29+j)=hv at*;go_upto_region 10 with(refine YL ?_)
      (try simp only[QN])
      (obtain⟨mE,qm⟩:=gX hI;refine aH (C:=λw'=>Inv _ _ w' _) [9,12] (λw'=>Inv _ _ w' (List.eraseIdx (mE) 2)) hI.drew (λw' h=>Inv.sub h (by subst qm;((try simp only[vV]);repeat(first|exact List.Sublist.slnil|with_reducible apply List.Sublist.cons_cons|apply List.Sublist.cons)))) mixed KF ?_;subst qm;clear hI;(repeat(first| ((with_reducible apply dw);rfl;rfl;rfl;(focus(intro w (hI:Inv _ _ w _);go_wp2_with(refine YS ?_;intro w hI);(try simp only[QN]);exact⟨rfl,rfl,hI⟩));(exact⟨undef,rfl⟩);(focus(intro w (hI:Inv _ _ w _);exact Inv.sub hI SB))) | ((with_reducible apply aZ);rfl;rfl;(focus(intro w (hI:Inv _ _ w _);go_wp2_with(fail);(try simp only[QN]);exact⟨rfl,rfl,hI⟩));(exact⟨_,rfl⟩)) | ((with_reducible apply cZ);rfl;rfl;(focus(intro D w hD hE;have hI:Inv _ _ w _:=hE;(try simp only[vV]at hI);go_wp2_with(refine YL ?_);(try simp only[QN]);exact⟨rfl,rfl,hD⟩));(exact⟨_,rfl⟩))));(refine bn ?_;intro w (hI:Inv _ _ w _)))
      go_wp2_with(fail);go_roundg (5- (j+1))
      case measure=>omega
      case rel=>exact⟨j+1,rfl,by omega,by go_num,by rw[hs.out,hk.out];simp only[hel]at hI;exact hI⟩
     ·have hq2:(gi y (29+j)==0)=false:=by simpa using hy0
      have hk:Hid (jS who dead y j=y):=HD (by unfold jS;rw[if_neg (λh=>hy0 h.2.2)]);clear hw1 hy0;generalize gi dead (29+j)=hv at*;go_wp2_with(refine YL ?_);go_roundg (5- (j+1))
      case measure=>omega
      case rel=>exact⟨j+1,rfl,by omega,by go_num,by rw[hs.out,hk.out];exact hI⟩
    ·have hk:Hid (jS who dead y j=y):=HD (by unfold jS;rw[if_neg (λh=>hh0 h.2.1)])
     clear hw1;generalize gi dead (29+j)=hv at*;go_wp2_with(refine YL ?_);go_roundg (5- (j+1))
     case measure=>omega
     case rel=>exact⟨j+1,rfl,by omega,by go_num,by rw[hs.out,hk.out];exact hI⟩
  ·obtain rfl:j=5:=by omega
   have hyl:(lV who dead (lD x who dead) 5).length=174:=(TI.out.2 5 hj).1;have hy0:gi (lV who dead (lD x who dead) 5) 0=gi x 0:=(TI.out.2 5 hj).2.trans TI.out.1;have hres:(lV who dead (lD x who dead) 5).set 0 (wrap64 (gi x 0+1))=FV x who dead:=rfl;replace hres:=HD hres;generalize lV who dead (lD x who dead) 5=y at*;go_wp2_with(first|refine YL ?_|refine YS ?_;intro w hI);rw[hres.out]at hI;have aii:(FV x who dead).length=174:=by rw[<-hres.out,List.length_set,hyl]
   exact bodyPost_ret (aF hI rfl rfl aA wX aii) rfl ⟨rfl,hI.below⟩
theorem agn(w0:World)(x dead:List Int)(who:Int)(hx:x.length=174)(hd:dead.length=174):
  Calls prog 125 #[ia x,.int .i64 who,ia dead] w0 λe w'=>e=.returned (.tuple #[ia (uh x who dead).1,.int .i64 (uh x who dead).2])∧Below w0.heap.size w0 w':=by
 unfold uh;cases h1:aP who
 ·exact adv w0 x dead who hx hd h1
 ·by_cases hh:0<gi x (29+who.toNat)
  ·rw[if_pos rfl,if_pos hh];exact VB w0 x dead who hx hd h1 hh
  ·rw[if_pos rfl,if_neg hh];exact ady w0 x dead who hx hd h1 OM
theorem RJ(x:List Int)(who:Int)(dead:List Int)(hx:x.length=174)(hd:dead.length=174)(h1:aP who=true):(FV x who dead).length=174:=by
 obtain⟨ho0,ho1⟩:=dW h1;unfold FV;rw[List.length_set];exact(zU who dead _ (sU x _ _ _ hx OM (AF dead hd)) hd 5 OM).1
theorem Dr(x:List Int)(who:Int)(dead:List Int)(hx:x.length=174)(hd:dead.length=174):(uh x who dead).1.length=174:=by
 unfold uh
 split
 ·split
  ·exact aa 174
  ·exact RJ x who dead hx hd (by assumption)
 ·exact aa 174
end C
