/- An agent out of a hat. Conditions: none; over the given program. (And 9 texts more.) -/
import Derived.Test.YtjohlemgkcpoeaaGreatDoorR17
import Derived.Test.YtjohlemgkcpoeaaGreatDoorR10
import Derived.Test.YtjohlemgkcpoeaaGreatDoorR06
import Derived.Test.YtjohlemgkcpoeaaGreatDoorR07
import Derived.Conc.LeavingOf
import Derived.LaidLaws
import Derived.LaidHandle
import Derived.ChangeSlices
import Derived.WideShapes
import Derived.Carry
import Derived.RowKit
set_option linter.unusedVariables false
set_option linter.unusedSimpArgs false
set_option linter.unusedSectionVars false
set_option maxRecDepth 100000
set_option maxHeartbeats 4000000

open Go.Proofs.Tryz
namespace Go.jc
theorem yO:b8 0:=⟨dF,dF⟩
theorem Bj{a:Int}(ha:b8 a):bits .and .i64 a 0=0:=by
 obtain⟨n,h1,rfl⟩:=IE ha;exact(show∀a:Fin 8,bits .and .i64 (a.1:Int) 0=0 by decide+kernel) ⟨n,h1⟩
theorem m_{a:Ag}(h1:b8 a.ne)(h2:b8 a.no)(h3:b8 a.ta)(h4:b8 a.le)(h5:bits .and .i64 a.ne a.no=0)(h6:1<=a.co/\a.co<=9):DJ a=0:=by
 unfold b8 at*;unfold DJ;rw[if_neg (by unfold outs;omega),if_neg (by rw[h5];decide),if_neg (by unfold outs;omega)]

theorem ad_(main:aN)(h:Hp)(cZ:List Int)(lv:Value)(b k:Nat)(s:Int)(hl:Sl h bY lv cZ)(hk:k<=100000):bG aV main VK #[aG b,I 3] h [(b,jl lv k s)] (fun v A=>∃g k' s',v=Ag.val g/\DJ g=0/\k'<=k+18/\Sb [(b,jl lv k' s')] A):=by
 refine bG.bH func54 [(0,aG b),(1,I 3)] ?_;refine d_ ?_;refine aA.new (fun mW=>?_);refine d_ ?_;refine W.mono (Q:=(fun e gW iT F'=>e= .normal/\iT=[]/\(∃iI ta le co s1,Sub [(5,aG iI),(0,aG b),(1,I 3),(4,aG mW)] gW/\(b8 ta/\b8 le/\1<=co/\co<=9)/\Sb [(iI,.cells #[I 0,I 0,I ta,I le,I co] IZ (0,0)),(mW,.cells #[I 0,I 0,I 0,I 0,I 0] IZ (0,0)),(b,jl lv (k+8) s1)] F'))) ?_ ?_
 ·refine W.kQ [] (n:=17) O ?_;refine ay 0 ?_;refine ay 1 ?_;refine ay 2 ?_;refine ay 5 ?_;refine ay 6 ?_;refine ay 8 ?_;refine ay 9 ?_;refine ay 12 ?_;refine Any.Vp (i:=3) (j:=15) aB (aK O) (aK O) an an O O O O ?_ ?_
  ·refine(gq (A:=[(b,jl lv k s)]) (args:=[_,_]) rfl rfl (by first | exact .tail .all | exact .tail (.tail .all)) (fun h' hE hL=>zK _ h' cZ lv b k s 2 (hl.ext hE) aj aj) (fun v A' hv=>?_));refine⟨.inr aC.nil,?_⟩;obtain⟨r0,s1,rfl,hr0,bF⟩:=hv;refine Any.sb (by first | exact .cons (.cons bF) | exact .cons bF) ?_;obtain⟨i0,rfl⟩:∃i:Nat,r0=i:=⟨r0.toNat,aj⟩
   have hi0:i0<3:=by omega
   refine fJ 4 (Yv.eq (u:=I (p2 i0)) (JK O O O (Int.natCast_nonneg _)) (by show I (IntKind.i64.wrap _)=_;rw[(Vd i0 hi0).1])) O ?_;refine Any.Vp (i:=7) (j:=15) aB (aK O) (aK O) an an O O O O ?_ ?_
   ·refine(gq (A:=[(b,jl lv (k+1) s1)]) (args:=[_,_]) rfl rfl (by first | exact .tail .all | exact .tail (.tail .all)) (fun h' hE hL=>jW _ h' cZ lv b (k+1) s1 (hl.ext hE) aj) (fun v A' hv=>?_));refine⟨.inr aC.nil,?_⟩;obtain⟨f1,s2,rfl,WZ,bF⟩:=hv;refine Any.sb (by first | exact .cons (.cons bF) | exact .cons bF) ?_;refine Any.Vp (i:=10) (j:=15) aB (aK O) (aK O) an an O O O O ?_ ?_
    ·refine(gq (A:=[(b,jl lv (k+1+3) s2)]) (args:=[_,_]) rfl rfl (by first | exact .tail .all | exact .tail (.tail .all)) (fun h' hE hL=>jW _ h' cZ lv b (k+1+3) s2 (hl.ext hE) aj) (fun v A' hv=>?_));refine⟨.inr aC.nil,?_⟩;obtain⟨f2,s3,rfl,hf2,bF⟩:=hv;refine Any.sb (by first | exact .cons (.cons bF) | exact .cons bF) ?_;refine ay 11 ?_;refine Any.Vp (i:=13) (j:=15) aB (aK O) (aK O) an an O O O O ?_ ?_
     ·refine(gq (A:=[(b,jl lv (k+1+3+3) s3)]) (args:=[_,_,_]) rfl rfl (by first | exact .tail .all | exact .tail (.tail .all)) (fun h' hE hL=>oM _ h' cZ lv b (k+1+3+3) s3 1 9 (hl.ext hE) aj aj) (fun v A' hv=>?_));refine⟨.inr aC.nil,?_⟩;obtain⟨co,s4,rfl,Gw,bF⟩:=hv;refine Any.sb (by first | exact .cons (.cons bF) | exact .cons bF) ?_;refine ay 14 ?_;refine ae (i:=15) O an O O (eN O (fun iI=>?_));refine⟨.inr MR,?_⟩
      first | refine ae (i:=16) rfl an rfl rfl (eSW rfl rfl rfl ?_) | refine ae (i:=16) rfl an rfl rfl (eSA rfl rfl rfl ?_)
      refine⟨.inr MR,?_⟩;refine az ?_;exact⟨O,O,iI,_,_,co,s4,iw,⟨lZ hi0,LC WZ hf2,aj⟩,.refl⟩
     refine(eN O (fun iI=>?_));refine⟨.inr MR,?_⟩;refine ae (i:=13) rfl an rfl rfl (gq (A:=[(b,jl lv (k+1+3+3) s3)]) (args:=[_,_,_]) rfl rfl (by first | exact .tail .all | exact .tail (.tail .all)) (fun h' hE hL=>oM _ h' cZ lv b (k+1+3+3) s3 1 9 (hl.ext hE) aj aj) (fun v A' hv=>?_));refine⟨.inr aC.nil,?_⟩;obtain⟨co,s4,rfl,Gw,bF⟩:=hv;refine Any.sb (by first | exact .cons (.cons bF) | exact .cons bF) ?_;refine ay 14 ?_
     first | refine ae (i:=16) rfl an rfl rfl (eSW rfl rfl rfl ?_) | refine ae (i:=16) rfl an rfl rfl (eSA rfl rfl rfl ?_)
     refine⟨.inr MR,?_⟩;refine az ?_;exact⟨O,O,iI,_,_,co,s4,iw,⟨lZ hi0,LC WZ hf2,aj⟩,.refl⟩
    refine(eN O (fun iI=>?_));refine⟨.inr MR,?_⟩;refine ae (i:=10) rfl an rfl rfl (gq (A:=[(b,jl lv (k+1+3) s2)]) (args:=[_,_]) rfl rfl (by first | exact .tail .all | exact .tail (.tail .all)) (fun h' hE hL=>jW _ h' cZ lv b (k+1+3) s2 (hl.ext hE) aj) (fun v A' hv=>?_));refine⟨.inr aC.nil,?_⟩;obtain⟨f2,s3,rfl,hf2,bF⟩:=hv;refine Any.sb (by first | exact .cons (.cons bF) | exact .cons bF) ?_;refine ay 11 ?_;refine ae (i:=13) rfl an rfl rfl (gq (A:=[(b,jl lv (k+1+3+3) s3)]) (args:=[_,_,_]) rfl rfl (by first | exact .tail .all | exact .tail (.tail .all)) (fun h' hE hL=>oM _ h' cZ lv b (k+1+3+3) s3 1 9 (hl.ext hE) aj aj) (fun v A' hv=>?_));refine⟨.inr aC.nil,?_⟩;obtain⟨co,s4,rfl,Gw,bF⟩:=hv;refine Any.sb (by first | exact .cons (.cons bF) | exact .cons bF) ?_;refine ay 14 ?_
    first | refine ae (i:=16) rfl an rfl rfl (eSW rfl rfl rfl ?_) | refine ae (i:=16) rfl an rfl rfl (eSA rfl rfl rfl ?_)
    refine⟨.inr MR,?_⟩;refine az ?_;exact⟨O,O,iI,_,_,co,s4,iw,⟨lZ hi0,LC WZ hf2,aj⟩,.refl⟩
   refine(eN O (fun iI=>?_));refine⟨.inr MR,?_⟩;refine ae (i:=7) rfl an rfl rfl (gq (A:=[(b,jl lv (k+1) s1)]) (args:=[_,_]) rfl rfl (by first | exact .tail .all | exact .tail (.tail .all)) (fun h' hE hL=>jW _ h' cZ lv b (k+1) s1 (hl.ext hE) aj) (fun v A' hv=>?_));refine⟨.inr aC.nil,?_⟩;obtain⟨f1,s2,rfl,WZ,bF⟩:=hv;refine Any.sb (by first | exact .cons (.cons bF) | exact .cons bF) ?_;refine ae (i:=10) rfl an rfl rfl (gq (A:=[(b,jl lv (k+1+3) s2)]) (args:=[_,_]) rfl rfl (by first | exact .tail .all | exact .tail (.tail .all)) (fun h' hE hL=>jW _ h' cZ lv b (k+1+3) s2 (hl.ext hE) aj) (fun v A' hv=>?_));refine⟨.inr aC.nil,?_⟩;obtain⟨f2,s3,rfl,hf2,bF⟩:=hv;refine Any.sb (by first | exact .cons (.cons bF) | exact .cons bF) ?_;refine ay 11 ?_;refine ae (i:=13) rfl an rfl rfl (gq (A:=[(b,jl lv (k+1+3+3) s3)]) (args:=[_,_,_]) rfl rfl (by first | exact .tail .all | exact .tail (.tail .all)) (fun h' hE hL=>oM _ h' cZ lv b (k+1+3+3) s3 1 9 (hl.ext hE) aj aj) (fun v A' hv=>?_));refine⟨.inr aC.nil,?_⟩;obtain⟨co,s4,rfl,Gw,bF⟩:=hv;refine Any.sb (by first | exact .cons (.cons bF) | exact .cons bF) ?_;refine ay 14 ?_
   first | refine ae (i:=16) rfl an rfl rfl (eSW rfl rfl rfl ?_) | refine ae (i:=16) rfl an rfl rfl (eSA rfl rfl rfl ?_)
   refine⟨.inr MR,?_⟩;refine az ?_;exact⟨O,O,iI,_,_,co,s4,iw,⟨lZ hi0,LC WZ hf2,aj⟩,.refl⟩
  refine(eN O (fun iI=>?_));refine⟨.inr MR,?_⟩;refine ae (i:=3) rfl an rfl rfl (gq (A:=[(b,jl lv k s)]) (args:=[_,_]) rfl rfl (by first | exact .tail .all | exact .tail (.tail .all)) (fun h' hE hL=>zK _ h' cZ lv b k s 2 (hl.ext hE) aj aj) (fun v A' hv=>?_));refine⟨.inr aC.nil,?_⟩;obtain⟨r0,s1,rfl,hr0,bF⟩:=hv;refine Any.sb (by first | exact .cons (.cons bF) | exact .cons bF) ?_;obtain⟨i0,rfl⟩:∃i:Nat,r0=i:=⟨r0.toNat,aj⟩
  have hi0:i0<3:=by omega
  refine fJ 4 (Yv.eq (u:=I (p2 i0)) (JK O O O (Int.natCast_nonneg _)) (by show I (IntKind.i64.wrap _)=_;rw[(Vd i0 hi0).1])) O ?_;refine ae (i:=7) rfl an rfl rfl (gq (A:=[(b,jl lv (k+1) s1)]) (args:=[_,_]) rfl rfl (by first | exact .tail .all | exact .tail (.tail .all)) (fun h' hE hL=>jW _ h' cZ lv b (k+1) s1 (hl.ext hE) aj) (fun v A' hv=>?_));refine⟨.inr aC.nil,?_⟩;obtain⟨f1,s2,rfl,WZ,bF⟩:=hv;refine Any.sb (by first | exact .cons (.cons bF) | exact .cons bF) ?_;refine ae (i:=10) rfl an rfl rfl (gq (A:=[(b,jl lv (k+1+3) s2)]) (args:=[_,_]) rfl rfl (by first | exact .tail .all | exact .tail (.tail .all)) (fun h' hE hL=>jW _ h' cZ lv b (k+1+3) s2 (hl.ext hE) aj) (fun v A' hv=>?_));refine⟨.inr aC.nil,?_⟩;obtain⟨f2,s3,rfl,hf2,bF⟩:=hv;refine Any.sb (by first | exact .cons (.cons bF) | exact .cons bF) ?_;refine ay 11 ?_;refine ae (i:=13) rfl an rfl rfl (gq (A:=[(b,jl lv (k+1+3+3) s3)]) (args:=[_,_,_]) rfl rfl (by first | exact .tail .all | exact .tail (.tail .all)) (fun h' hE hL=>oM _ h' cZ lv b (k+1+3+3) s3 1 9 (hl.ext hE) aj aj) (fun v A' hv=>?_));refine⟨.inr aC.nil,?_⟩;obtain⟨co,s4,rfl,Gw,bF⟩:=hv;refine Any.sb (by first | exact .cons (.cons bF) | exact .cons bF) ?_;refine ay 14 ?_
  first | refine ae (i:=16) rfl an rfl rfl (eSW rfl rfl rfl ?_) | refine ae (i:=16) rfl an rfl rfl (eSA rfl rfl rfl ?_)
  refine⟨.inr MR,?_⟩;refine az ?_;exact⟨O,O,iI,_,_,co,s4,iw,⟨lZ hi0,LC WZ hf2,aj⟩,.refl⟩
 rintro e gW iT F' ⟨rfl,rfl,iI,ta,le,co,s1,zD,⟨hta,hle,Gw⟩,UO⟩;refine d_ ?_;refine W.env zD (W.sb UO ?_);refine W.O6 (n:=12) O ?_;refine ay 0 ?_;refine ay 1 ?_;refine ay 2 ?_;refine ay 3 ?_;refine ay 5 ?_;refine ay 6 ?_;refine ae (i:=4) O an O O (gq (A:=[(b,jl lv (k+8) s1)]) (args:=[_,_]) O O (.tail (.tail .all)) (fun h' hE hL=>jW _ h' cZ lv b (k+8) s1 (hl.ext hE) aj) (fun v A' hv=>?_));refine⟨.inr (aC.one (.head _) aC.nil),?_⟩;obtain⟨f3,s2,rfl,hf3,bF⟩:=hv;refine Any.sb (.cons (.cons bF)) ?_;refine ae (i:=7) O an O O (gq (A:=[(b,jl lv (k+8+3) s2)]) (args:=[_,_]) O O (.tail (.tail .all)) (fun h' hE hL=>jW _ h' cZ lv b (k+8+3) s2 (hl.ext hE) aj) (fun v A' hv=>?_));refine⟨.inr (aC.one (.head _) aC.nil),?_⟩;obtain⟨f4,s3,rfl,hf4,bF⟩:=hv;refine Any.sb (.cons (.cons bF)) ?_;have DN:=auM hta (LC hf3 hf4);refine ay 8 ?_;refine ay 9 ?_;refine ay 10 ?_;refine ae (i:=11) O an O O (eS O O O ?_);refine⟨.inl aB,?_⟩;refine az ?_;refine kJ ?_;refine cg (A:=[(b,_)]) (.tail (.tail .all)) (fun h' hE hL=>I8 _ h' cZ lv b (k+8+3+3) s3 3 (hl.ext hE) aj aj) (fun v A' hv=>?_);obtain⟨r1,s4,rfl,bF⟩:=hv;refine aA.sb (.cons (.cons bF)) ?_;refine d_ ?_;refine W.cond O (fun c34=>?_) (fun c34=>?_)
 ·refine lF ?_;refine cg (A:=[(b,_)]) (.tail (.tail .all)) (fun h' hE hL=>zK _ h' cZ lv b (k+8+3+3+1) s4 2 (hl.ext hE) aj aj) (fun v A' hv=>?_);obtain⟨q1,s5,rfl,hq1,bF⟩:=hv;refine aA.sb (.cons (.cons bF)) ?_;obtain⟨i1,rfl⟩:∃i:Nat,q1=i:=⟨q1.toNat,aj⟩
  have Vy:i1<3:=by omega
  refine Gh (u:=I (p2 i1)) (JK O O O (Int.natCast_nonneg _)) (by show I (IntKind.i64.wrap _)=_;rw[(Vd i1 Vy).1]) O wn O O ?_;refine jk ?_;refine cg (A:=[(b,_)]) (.tail (.tail .all)) (fun h' hE hL=>I8 _ h' cZ lv b _ _ 3 (hl.ext hE) aj aj) (fun v A' hv=>?_);obtain⟨r2,s6,rfl,bF⟩:=hv;refine aA.sb (.cons (.cons bF)) ?_;refine qj ?_;refine W.cond O (fun c42=>?_) (fun c42=>?_)
  ·refine W.O6 (n:=10) O ?_;refine ay 0 ?_;refine ay 1 ?_;refine ay 2 ?_;refine ay 5 ?_;refine ay 6 ?_;refine ae (i:=3) O an O O (gq (A:=[(b,_)]) (args:=[_,_]) O O (.tail (.tail .all)) (fun h' hE hL=>zK _ h' cZ lv b _ s6 2 (hl.ext hE) aj aj) (fun v A' hv=>?_));refine⟨.inr (aC.one (.head _) aC.nil),?_⟩;obtain⟨q2,s7,rfl,hq2,bF⟩:=hv;refine Any.sb (.cons (.cons bF)) ?_;obtain⟨i2,rfl⟩:∃i:Nat,q2=i:=⟨q2.toNat,aj⟩
   have hi2:i2<3:=by omega
   refine fJ 4 (Yv.eq (u:=I (p2 i2)) (JK O O O (Int.natCast_nonneg _)) (by show I (IntKind.i64.wrap _)=_;rw[(Vd i2 hi2).1])) O ?_;refine fJ 7 (yV O O O) O ?_;refine ay 8 ?_;refine ae (i:=9) O an O O (eS O O O ?_);refine⟨.inl aB,?_⟩;refine az ?_;refine jk ?_
   first
   | (
     have PX:=IG (lZ hi2) (lZ Vy);exact AY (hv:=qU nM) ⟨⟨p2 i1,_,_,le,co⟩,_,_,O,m_ (lZ Vy) PX.1 DN hle PX.2 Gw,aj,.skip O (.skip O .refl)⟩)
   | (
     have PX:=IG (lZ hi2) yO;exact AY (hv:=qU nM) ⟨⟨0,_,_,le,co⟩,_,_,O,m_ yO PX.1 DN hle PX.2 Gw,aj,.skip O (.skip O .refl)⟩)
   | exact AY (hv:=qU nM) ⟨⟨p2 i1,0,_,le,co⟩,_,_,rfl,m_ (lZ Vy) yO DN hle (Bj (lZ Vy)) Gw,aj,.skip rfl (.skip rfl .refl)⟩
   | exact AY (hv:=qU nM) ⟨⟨0,0,_,le,co⟩,_,_,rfl,m_ yO yO DN hle (Bj yO) Gw,aj,.skip rfl (.skip rfl .refl)⟩
  refine kR ?_
  first
  | (
    have PX:=IG (lZ hi2) (lZ Vy);exact AY (hv:=qU nM) ⟨⟨p2 i1,_,_,le,co⟩,_,_,O,m_ (lZ Vy) PX.1 DN hle PX.2 Gw,aj,.skip O (.skip O .refl)⟩)
  | (
    have PX:=IG (lZ hi2) yO;exact AY (hv:=qU nM) ⟨⟨0,_,_,le,co⟩,_,_,O,m_ yO PX.1 DN hle PX.2 Gw,aj,.skip O (.skip O .refl)⟩)
  | exact AY (hv:=qU nM) ⟨⟨p2 i1,0,_,le,co⟩,_,_,rfl,m_ (lZ Vy) yO DN hle (Bj (lZ Vy)) Gw,aj,.skip rfl (.skip rfl .refl)⟩
  | exact AY (hv:=qU nM) ⟨⟨0,0,_,le,co⟩,_,_,rfl,m_ yO yO DN hle (Bj yO) Gw,aj,.skip rfl (.skip rfl .refl)⟩
 refine lg ?_;refine cg (A:=[(b,_)]) (.tail (.tail .all)) (fun h' hE hL=>I8 _ h' cZ lv b _ _ 3 (hl.ext hE) aj aj) (fun v A' hv=>?_);obtain⟨r2,s6,rfl,bF⟩:=hv;refine aA.sb (.cons (.cons bF)) ?_;refine qj ?_;refine W.cond O (fun c42=>?_) (fun c42=>?_)
 ·refine W.O6 (n:=10) O ?_;refine ay 0 ?_;refine ay 1 ?_;refine ay 2 ?_;refine ay 5 ?_;refine ay 6 ?_;refine ae (i:=3) O an O O (gq (A:=[(b,_)]) (args:=[_,_]) O O (.tail (.tail .all)) (fun h' hE hL=>zK _ h' cZ lv b _ s6 2 (hl.ext hE) aj aj) (fun v A' hv=>?_));refine⟨.inr (aC.one (.head _) aC.nil),?_⟩;obtain⟨q2,s7,rfl,hq2,bF⟩:=hv;refine Any.sb (.cons (.cons bF)) ?_;obtain⟨i2,rfl⟩:∃i:Nat,q2=i:=⟨q2.toNat,aj⟩
  have hi2:i2<3:=by omega
  refine fJ 4 (Yv.eq (u:=I (p2 i2)) (JK O O O (Int.natCast_nonneg _)) (by show I (IntKind.i64.wrap _)=_;rw[(Vd i2 hi2).1])) O ?_;refine fJ 7 (yV O O O) O ?_;refine ay 8 ?_;refine ae (i:=9) O an O O (eS O O O ?_);refine⟨.inl aB,?_⟩;refine az ?_;refine jk ?_
  first
  | (
    have PX:=IG (lZ hi2) (lZ Vy);exact AY (hv:=qU nM) ⟨⟨p2 i1,_,_,le,co⟩,_,_,O,m_ (lZ Vy) PX.1 DN hle PX.2 Gw,aj,.skip O (.skip O .refl)⟩)
  | (
    have PX:=IG (lZ hi2) yO;exact AY (hv:=qU nM) ⟨⟨0,_,_,le,co⟩,_,_,O,m_ yO PX.1 DN hle PX.2 Gw,aj,.skip O (.skip O .refl)⟩)
  | exact AY (hv:=qU nM) ⟨⟨p2 i1,0,_,le,co⟩,_,_,rfl,m_ (lZ Vy) yO DN hle (Bj (lZ Vy)) Gw,aj,.skip rfl (.skip rfl .refl)⟩
  | exact AY (hv:=qU nM) ⟨⟨0,0,_,le,co⟩,_,_,rfl,m_ yO yO DN hle (Bj yO) Gw,aj,.skip rfl (.skip rfl .refl)⟩
 refine kR ?_
 first
 | (
   have PX:=IG (lZ hi2) (lZ Vy);exact AY (hv:=qU nM) ⟨⟨p2 i1,_,_,le,co⟩,_,_,O,m_ (lZ Vy) PX.1 DN hle PX.2 Gw,aj,.skip O (.skip O .refl)⟩)
 | (
   have PX:=IG (lZ hi2) yO;exact AY (hv:=qU nM) ⟨⟨0,_,_,le,co⟩,_,_,O,m_ yO PX.1 DN hle PX.2 Gw,aj,.skip O (.skip O .refl)⟩)
 | exact AY (hv:=qU nM) ⟨⟨p2 i1,0,_,le,co⟩,_,_,rfl,m_ (lZ Vy) yO DN hle (Bj (lZ Vy)) Gw,aj,.skip rfl (.skip rfl .refl)⟩
 | exact AY (hv:=qU nM) ⟨⟨0,0,_,le,co⟩,_,_,rfl,m_ yO yO DN hle (Bj yO) Gw,aj,.skip rfl (.skip rfl .refl)⟩
theorem ab_(main:aN)(h:Hp)(cZ:List Int)(lv:Value)(b k:Nat)(s:Int)(hl:Sl h bY lv cZ)(hk:k<=1000):bG aV main TS #[aG b,I 4,I 3] h [(b,jl lv k s)]
  (fun v A=>∃gs Sp k' s',Os IZ Ag.row v gs Sp/\(gs.length<=4/\∀g∈gs,DJ g=0)/\k'<=k+100/\Sb ((b,jl lv k' s')::Sp) A):=by
 refine bG.bH func22 [(0,aG b),(1,I 4),(2,I 3)] ?_;refine CW ?_;refine cg (A:=[(b,_)]) .all (fun h' hE hL=>oM _ h' cZ lv b k s 0 4 (hl.ext hE) aj aj) (fun v A' hv=>?_);obtain⟨r,s1,rfl,hr,bF⟩:=hv;refine aA.sb bF ?_;obtain⟨m,rfl⟩:∃m:Nat,r=m:=⟨r.toNat,aj⟩
 refine gI ?_
 refine W.uq (σ:=Nat) (τ:=List Ag×Value×ah) (υ:=Nat×Int) (fun i t u=>i<=m/\Os IZ Ag.row t.2.1 t.1 t.2.2/\(∀p∈t.1,DJ p=0)/\t.1.length+i=m/\u.1+18*i<=k+1+18*m) (fun i t _=>[(8,I i),(7,t.2.1),(0,aG b),(2,I 3)])
  (fun _ t u=>(b,jl lv u.1 u.2)::t.2.2) (fun i _ _=>i) m ([],.slice none 0 0,[]) (k+1,s1) ⟨Nat.le_refl _,.nil .nil,(fun p hp=>by cases hp),by simp,by simp⟩ iw .refl ?_
 rintro i ⟨ps,vp,Sp⟩ ⟨k1,s2⟩ ⟨hi,hO,zU,hlen,hk1⟩;simp only at hO zU hlen hk1⊢;obtain⟨va,vc,rfl⟩:=hO.aU;refine lg ?_;refine W.aJ O (fun c13=>?_) (fun c13=>?_)
 ·skip
  refine kR ?_;refine cg (A:=[(b,_)]) .head (fun h' hE hL=>ad_ _ h' cZ lv b k1 s2 (hl.ext hE) aj) (fun v A' hv=>?_);obtain⟨p,k2,s3,rfl,hcp,hk2,bF⟩:=hv;refine aA.sb (bF.app (D:=Sp) .refl) ?_;refine aA.zZ (cs:= #[I p.ne,I p.no,I p.ta,I p.le,I p.co]) (fun mP=>?_) O;refine oe O wn O O (bV (row:=Ag.row) (l':=[p]) O O O hO (.tail (.tail .all)) (fun h2 _ hl=>Sl.mk (hl mP _ (.head _)) O (Part.all (flat Ag.row [p]))) (by simp;omega) dF O (fun v' S' qm=>?_));refine zW rfl rfl rfl<|aA.nil<|iE<|fH<|W.region rfl<|aiH rfl rfl rfl ?_;refine gI ?_;refine⟨O,i-1,(ps++[p],v',S'),(k2,s3),⟨aj,qm,fun q hq=>?_,by simp;omega,by simp only;omega⟩,aj,⟨lk O (show I _=I _ by congr 1;omega),O,O,O,trivial⟩,.skip O .refl⟩;rcases dh.1 hq with hq | hq
  ·exact zU q hq
  rw[dP.1 hq];exact hcp
 skip
 refine iC ?_;exact iQ (vs:=[_]) ⟨ps,Sp,k1,s2,hO,⟨aj,zU⟩,aj,.refl⟩

theorem EU.mk'{l:List Int}{d co wa qu:Int}(h1:1<=l.length/\l.length<=3)(h2:∀n∈l,0<=n/\n<=7)(h3:l.Pairwise (· < ·))(h4:0<=d/\d<=5)(h5:1<=co/\co<=6)(h6:0<=wa/\wa<=2)(h7:0<=qu/\qu<=12):EU ⟨l,d,co,wa,qu⟩:=by
 refine⟨h1.1,h1.2,fun n hn=>by have:=h2 n hn;omega,h3,?_,?_,?_,?_⟩ <;>simp only <;>omega
theorem auN(p q:Be):(!decide ([p.fl,p.day]=[q.fl,q.day]))=decide (p≠q):=by
 obtain⟨x,y⟩:=p;obtain⟨x',y'⟩:=q;by_cases h:x=x'/\y=y'
 ·simp[h]
 simp[h]
theorem acd(main:aN)(h:Hp)(l l':List Be)(v v':Value)(hl:Sl h Be.row v l)(hl':Sl h Be.row v' l')(hn:l.length<=100000):Pu aV main TR #[v,v'] h (.bool (decide (l=l'))):=by
 obtain⟨a,cap,rfl⟩:=hl.aU;obtain⟨a',f_,rfl⟩:=hl'.aU;refine bG.bH func19 [(0,.slice a l.length cap),(1,.slice a' l'.length f_)] ?_;refine gZ ?_;refine W.loop (σ:=Nat) (fun k=>k<=l.length/\k<=l'.length/\l.take k=l'.take k) (fun k=>[(5,I k),(0,.slice a l.length cap),(1,.slice a' l'.length f_)]) (fun _=>[]) (fun k=>l.length-k) 0 ⟨Nat.zero_le _,Nat.zero_le _,O⟩ iw qE ?_;rintro k ⟨hk,fA,he⟩;refine kR ?_;refine aA.ask (fun aqA=>?_) (fun aqA=>?_)
 ·refine lg ?_;refine W.aJ O (fun Xn=>?_) (fun Xn=>?_)
  ·obtain⟨p,hp,-⟩:=has (show k<l.length by omega);obtain⟨q,hq,-⟩:=has (show k<l'.length by omega);obtain⟨b,off,c,E,fz,rfl,hb,Vh,YZ,Gq⟩:=hl.at hp;have hx2:c.extract (off+k*2) (off+k*2+2)= #[I p.fl,I p.day]:=Vh;clear Vh Gq;obtain⟨b',J8,c',E',fz',rfl,wz,Vh,hy2,Gq⟩:=hl'.at hq;have hx3:c'.extract (J8+k*2) (J8+k*2+2)= #[I q.fl,I q.day]:=Vh;clear Vh Gq;refine kJ ?_;refine W.jS (n:=9) O ?_;refine ay 0 ?_;refine ay 1 ?_;refine ay 2 ?_;refine ay 3 ?_;refine ay 4 ?_;refine ay 5 ?_;refine ay 6 ?_;refine ay 7 ?_;refine fJ 8 (Yv.eq (u:=.bool (decide (p≠q))) (an_ [p.fl,p.day] [q.fl,q.day] O O O O O O O) (congrArg Value.bool (auN p q))) O ?_;refine az ?_;refine fH ?_;refine W.aJ O (fun Rf=>?_) (fun Rf=>?_)
   ·refine gZ ?_;refine lQ ?_;refine congrArg Value.bool (decide_eq_false fun e=>?_).symm;subst e;rw[hp]at hq
    cases hq
    exact Rf O
   refine kR ?_;have hpq:p=q:=Decidable.byContradiction Rf;subst hpq;exact⟨O,k+1,⟨aj,aj,by rw[I_ hp,I_ hq,he]⟩,aj,iw,qE⟩
  refine Qu ?_;refine lQ ?_;refine congrArg Value.bool (decide_eq_decide.2 ⟨fun e=>?_,fun e=>?_⟩)
  ·have e':l.length=l'.length:=by omega
   have zI:k=l.length:=by omega
   rw[<-List.take_length (l:=l),<-List.take_length (l:=l'),<-e',<-zI,he]
  rw[e]
 refine lg ?_;refine W.iq ?_;refine Qu ?_;refine lQ ?_;refine congrArg Value.bool (decide_eq_decide.2 ⟨fun e=>?_,fun e=>?_⟩)
 ·have e':l.length=l'.length:=by omega
  have zI:k=l.length:=by omega
  rw[<-List.take_length (l:=l),<-List.take_length (l:=l'),<-e',<-zI,he]
 rw[e]

inductive OsM:List (Value×Mt)->ah->Prop
 | nil:OsM [] []
 | cons {p:Value×Mt} {l:List (Value×Mt)} {A B:ah}:Os aX bY p.1 p.2.ks A->OsM l B->OsM (p::l) (A++B)
variable{A F:ah}{D:yD}{Eg:TypeId}{Q:fO}{a:Option Addr}{args:Array Value}{b ba bf bm bp br cap k0 k2 k3:Nat}{c:Code}{ds:List Deferred}{h:Hp}{ks1:List Int}{td:List Nat}{u vk:Value}{x:Cx}{zg:Nat×Nat}{α:Type}{SK Sm f k1 m p r:List α}{ρ:Env}
theorem OsM.shut{l:List (Value×Mt)}(h:OsM l A):eH A:=by
 induction h with
 | nil=>exact .nil
 | cons h _ ih=>exact h.shut.app ih
theorem OsM.snoc{l:List (Value×Mt)}{p:Value×Mt}{B:ah}(h:OsM l A)(hs:Os aX bY p.1 p.2.ks B):OsM (l++[p]) (A++B):=by
 induction h with
 | nil=>have:=OsM.cons hs .nil;simpa using this
 | cons h1 _ ih=>have:=OsM.cons h1 ih;rw[<-eF]at this;exact this
theorem ZC{l:List (Value×Mt)}(hs:OsM l A)
  (H:∀h',Ext x.h h'->(∀p∈l,Sl h' bY p.1 p.2.ks/\Zs h' p.1)->W {x with h:=h'} c Q ρ ds F):W x c Q ρ ds (A++F):=by
 induction hs generalizing x with
 | nil=>exact H x.h ⟨fun _ _ q=>q,fun _ q=>q⟩ fun p hp=>by cases hp
 | cons h1 h2 ih=>
  rw[eF];refine eY h1 fun h' hE P7 hz=>ih (x:={x with h:=h'}) fun Gm TA aO=>H Gm (hE.trans TA) fun p hp=>?_;rcases bU.1 hp with rfl | hp
  ·exact⟨P7.ext TA,hz.ext TA⟩
  exact aO p hp

theorem anl{l:List Int}{q r:Int}(h:l.Pairwise (· < ·))(hq:l[l.length-1]? =some q)(hr:q<r):(l++[r]).Pairwise (· < ·):=by
 rw[List.pairwise_append];refine⟨h,List.pairwise_singleton ..,fun a ha b hb=>?_⟩;rw[dP.1 hb];obtain⟨i,hi⟩:=List.getElem?_of_mem ha
 have Gp:i<l.length:=by
  rcases bQ i l.length with h' | h'
  ·exact h'
  rw[fM h']at hi;cases hi
 rcases bQ i (l.length-1)with h' | h'
 ·rw[jh Gp,dY]at hi;rw[jh aj,dY]at hq;have:=List.pairwise_iff_getElem.1 h i (l.length-1) Gp aj h';omega
 have:i=l.length-1:=by omega
 subst this;rw[hi]at hq
 cases hq
 omega

theorem ZE(main:aN)(h:Hp)(cZ:List Int)(lv:Value)(b k:Nat)(s:Int)(hl:Sl h bY lv cZ)(hk:k<=10000):bG aV main Qw #[aG b] h [(b,jl lv k s)]
  (fun v A=>∃kv x S k' s',v= .agg #[kv,I x.d,I x.co,I x.wa,I x.qu]/\Os aX bY kv x.ks S/\EU x/\(∀n∈x.ks,n<=7)/\k'<=k+20/\Sb ((b,jl lv k' s')::S) A):=by
 refine bG.bH func28 [(0,aG b)] ?_;refine d_ ?_;refine aA.new (fun oJ=>?_);refine lF ?_;refine cg (A:=[(b,_)]) (.tail .all) (fun h' hE hL=>zK _ h' cZ lv b k s 7 (hl.ext hE) aj aj) (fun v A' hv=>?_);obtain⟨r0,s1,rfl,hr0,bF⟩:=hv;refine aA.sb (.cons bF) ?_;refine aA.zZ (cs:= #[I r0]) (fun zC=>?_) O;refine zT ?_;refine cg (A:=[(b,_)]) (.tail (.tail .all)) (fun h' hE hL=>zK _ h' cZ lv b (k+1) s1 5 (hl.ext hE) aj aj) (fun v A' hv=>?_);obtain⟨d,s2,rfl,hd,bF⟩:=hv;refine aA.sb (.cons (.cons bF)) ?_;refine d_ ?_;refine cg (A:=[(b,_)]) (.tail (.tail .all)) (fun h' hE hL=>oM _ h' cZ lv b (k+1+1) s2 1 6 (hl.ext hE) aj aj) (fun v A' hv=>?_);obtain⟨r3,s3,rfl,hr3,bF⟩:=hv;refine aA.sb (.cons (.cons bF)) ?_;refine aA.zZ (cs:= #[I 1,I 2,I 2,I 3,I r3]) (fun Zu=>?_) O;refine cg (A:=[(b,_)]) (.tail (.tail (.tail .all))) (fun h' hE hL=>EN _ h' cZ lv b (k+1+1+1) s3 [1,2,2,3,r3] _ (hl.ext hE) (Sl.mk (hL Zu _ (.head _)) O (Part.all [I 1,I 2,I 2,I 3,I r3])) aj (by simp) (by simp)) (fun v A' hv=>?_);obtain⟨co,s4,rfl,Gw,bF⟩:=hv;refine aA.sb (.skip O (.cons (.cons bF))) ?_
 have ayq:1<=co/\co<=6:=by
  simp only[bU,List.not_mem_nil,or_false]at Gw;omega
 refine zT ?_;refine cg (A:=[(b,_)]) (.tail (.tail .all)) (fun h' hE hL=>zK _ h' cZ lv b (k+1+1+1+1) s4 2 (hl.ext hE) aj aj) (fun v A' hv=>?_);obtain⟨wa,s5,rfl,hwa,bF⟩:=hv;refine aA.sb (.cons (.cons bF)) ?_;refine zT ?_;refine cg (A:=[(b,_)]) (.tail (.tail .all)) (fun h' hE hL=>zK _ h' cZ lv b (k+1+1+1+1+1) s5 12 (hl.ext hE) aj aj) (fun v A' hv=>?_);obtain⟨qu,s6,rfl,hqu,bF⟩:=hv;refine aA.sb (.cons (.cons bF)) ?_;refine zT ?_;refine aA.new (fun nP=>?_);refine lg ?_;refine aA.zZ (cs:= #[I 0,I 0,I 1,I 1,I 2]) (fun pW=>?_) O;refine cg (A:=[(b,_)]) (.tail (.tail (.tail (.tail .all)))) (fun h' hE hL=>EN _ h' cZ lv b (k+1+1+1+1+1+1) s6 [0,0,1,1,2] _ (hl.ext hE) (Sl.mk (hL pW _ (.head _)) O (Part.all [I 0,I 0,I 1,I 1,I 2])) aj (by simp) (by simp)) (fun v A' hv=>?_);obtain⟨r4,s7,rfl,hr4,bF⟩:=hv;refine aA.sb (.skip O (.cons (.cons (.cons bF)))) ?_
 have aAF:0<=r4/\r4<=2:=by
  simp only[bU,List.not_mem_nil,or_false]at hr4;omega
 obtain⟨m,rfl⟩:∃m:Nat,r4=m:=⟨r4.toNat,aj⟩
 refine gI ?_
 refine W.uq (σ:=Nat) (τ:=List Int×Value×ah) (υ:=Nat×Int) (fun i t u=>i<=2/\Os aX bY t.2.1 t.1 t.2.2/\(1<=t.1.length/\t.1.length+i<=3)/\(∀n∈t.1,0<=n/\n<=7)/\t.1.Pairwise (· < ·)/\u.1+i<=k+9) (fun i _ _=>[(4,I i),(3,aG nP),(2,aG oJ),(0,aG b)])
  (fun _ t u=>(nP,.cells #[t.2.1,I d,I co,I wa,I qu] kD (0,0))::(oJ,.cells #[.slice none 0 0,I 0,I 0,I 0,I 0] kD (0,0))::(b,jl lv u.1 u.2)::t.2.2) (fun i _ _=>i) m ([r0],.slice (some ⟨zC,0,none⟩) 1 1,[(zC,.cells #[I r0] aX (0,0))]) (k+1+1+1+1+1+1+1,s7)
  ⟨aj,.inr ⟨zC, #[I r0],1,[],O,O,O,Nat.le_refl _,Part.all [I r0],.nil⟩,⟨Nat.le_refl _,by simp;omega⟩,(fun n hn=>by rw[dP.1 hn];omega),List.pairwise_singleton ..,by simp only;omega⟩ iw (.cons (.aT (dK (l₁:=[_,_]) (l₂:=[_])))) ?_
 rintro i ⟨ks,kv,S⟩ ⟨k1,u1⟩ ⟨hi,hO,⟨hl1,hl3⟩,Tf,hup,hk1⟩;simp only at hO hl1 hl3 Tf hup hk1⊢;rcases id hO with⟨he,-⟩ | ⟨XU,cc,ND,Jc,rfl,rfl,Y4,ZJ,hpt,hJc⟩
 ·rw[he]at hl1;exact absurd hl1 dF
 refine lg ?_;refine W.aJ O (fun JW=>?_) (fun JW=>?_)
 ·obtain⟨q,hq,-⟩:=has (show ks.length-1<ks.length by omega);have hq7:=Tf q (dL hq);have hqc:=Part.TM hpt hq 0 dF;have aAG:cc[0+(ks.length-1)*1]? =some (I q):=hqc;refine iC ?_;refine b_ (Yv.eq (u:=I ((ks.length-1:Nat):Int)) (Vr O O O) (by congr 1;omega)) O ?_;refine FT ?_;refine W.aJ O (fun c37=>?_) (fun c37=>?_)
  ·refine W.O6 (n:=10) O ?_;refine ay 0 ?_;refine ay 1 ?_;refine ay 2 ?_;refine ay 3 ?_;refine ay 4 ?_;refine ae (i:=5) O an O O (gq (A:=[(b,_)]) (args:=[_,_,_]) O O (.tail (.tail .head)) (fun h' hE hL=>oM _ h' cZ lv b k1 u1 (q+1) 7 (hl.ext hE) aj aj) (fun v A' hv=>?_));refine⟨.inr (aC.one (.head _) aC.nil),?_⟩;obtain⟨r,u2,rfl,hr,bF⟩:=hv;refine Any.sb (.cons (.cons (bF.app .refl))) ?_;refine abl (i:=6) (cs:= #[I r]) (fun ap3=>?_) O;refine ae (i:=7) O an O O (bV (row:=bY) (l':=[r]) O O O hO (.tail (.tail (.tail (.tail .all)))) (fun h2 _ hl=>Sl.mk (hl ap3 _ (.head _)) O (Part.all [I r])) (by simp;omega) dF O (fun v' S' xM=>?_));refine⟨.inr (aC.one (.tail _ (.head _)) aC.nil),?_⟩;have mM:one v'=true:=by obtain⟨_,_,rfl⟩:=xM.aU;rfl
   refine ay 8 ?_;refine ae (i:=9) O an O O (eS O O O ?_);refine⟨.inl aB,?_⟩;refine az ?_;refine jk ?_;refine⟨O,i-1,(ks++[r],v',S'),(k1+1,u2),⟨aj,xM,⟨by simp,by simp only[jA,gK,List.length_nil];omega⟩,fun n hn=>?_,anl hup hq aj,by simp only;omega⟩,aj,⟨lk O (show I _=I _ by congr 1;omega),O,O,O,trivial⟩,.skip O .refl⟩;rcases dh.1 hn with hn | hn
   ·exact Tf n hn
   rw[dP.1 hn];omega
  refine kR ?_;exact⟨O,i-1,(ks,_,_),(k1,u1),⟨aj,hO,⟨hl1,by simp only;omega⟩,Tf,hup,by simp only;omega⟩,aj,⟨lk O (show I _=I _ by congr 1;omega),O,O,O,trivial⟩,.refl⟩
 refine iC ?_;refine AY (hv:=qU nM) ⟨_,⟨ks,d,co,wa,qu⟩,_,k1,u1,O,hO,EU.mk' ⟨hl1,aj⟩ Tf hup aj ayq aj aj,(fun n hn=>(Tf n hn).2),aj,.skip O (.skip O .refl)⟩
theorem pa(c:Array Value)(l:List Int)(h:c=(flat bY l).toArray:=by rfl):Part c 0 (flat bY l):=by
 subst h;exact Part.all _
theorem aea{f:Fl}(h1:1<=f.pl/\f.pl<=9)(h2:1<=f.lo/\f.lo<=6)(h3:f.lo<=f.hi/\f.hi<=6)(h4:0<=f.co/\f.co<=9):lu f=0:=by
 unfold lu;rw[if_neg (by unfold outs;omega),if_neg aj,if_neg (by unfold outs;omega)]
theorem aeb(main:aN)(h:Hp)(cZ:List Int)(lv:Value)(b k:Nat)(s:Int)(hl:Sl h bY lv cZ)(hk:k<3000000000):bG aV main VH #[.pointer (some ⟨b,0,none⟩)] h [(b,jl lv k s)] (fun v A=>∃f s',v=Fl.val f/\lu f=0/\Sb [(b,jl lv (k+6) s')] A):=by
 refine bG.bH func27 [(0,.pointer (some ⟨b,0,none⟩))] ?_;refine d_ ?_;refine aA.new (fun oJ=>?_);refine kJ ?_;refine cg (A:=[(b,_)]) (.tail .head) (fun h' hE hL=>oM _ h' cZ lv b k s 1 6 (hl.ext hE) aj aj) (fun v A' hv=>?_);obtain⟨r,s1,rfl,hr,bF⟩:=hv;refine aA.sb (.cons (bF.app .refl)) ?_;refine aA.zZ (cs:= #[I 1,I 2,I 2,I 3,I r]) (fun yc=>?_) O;refine cg (A:=[(b,_)]) (.tail (.tail .head)) (fun h' hE hL=>EN _ h' cZ lv b (k+1) s1 [1,2,2,3,r] _ (hl.ext hE) (Sl.mk (hL yc _ (.head _)) O (pa _ _)) aj (by simp) (by simp)) (fun v A' hv=>?_);obtain⟨lo,s2,rfl,Qb,bF⟩:=hv;refine aA.sb (F':=[(oJ,_),(b,_)]) (.skip O (.cons (bF.app .refl))) ?_;refine lg ?_;refine cg (A:=[(b,_)]) (.tail .head) (fun h' hE hL=>oM _ h' cZ lv b (k+2) s2 1 9 (hl.ext hE) aj aj) (fun v A' hv=>?_);obtain⟨r2,s3,rfl,hr2,bF⟩:=hv;refine aA.sb (.cons (bF.app .refl)) ?_;refine aA.zZ (cs:= #[I 2,I 3,I 4,I 5,I r2]) (fun amX=>?_) O;refine cg (A:=[(b,_)]) (.tail (.tail .head)) (fun h' hE hL=>EN _ h' cZ lv b (k+3) s3 [2,3,4,5,r2] _ (hl.ext hE) (Sl.mk (hL amX _ (.head _)) O (pa _ _)) aj (by simp) (by simp)) (fun v A' hv=>?_);obtain⟨pl,s4,rfl,OI,bF⟩:=hv;refine aA.sb (F':=[(oJ,_),(b,_)]) (.skip O (.cons (bF.app .refl))) ?_;refine gI ?_;refine aA.zZ (cs:= #[I 0,I 1,I 1,I 2]) (fun agT=>?_) O;refine cg (A:=[(b,_)]) (.tail (.tail .head)) (fun h' hE hL=>EN _ h' cZ lv b (k+4) s4 [0,1,1,2] _ (hl.ext hE) (Sl.mk (hL agT _ (.head _)) O (pa _ _)) aj (by simp) (by simp)) (fun v A' hv=>?_);obtain⟨d,s5,rfl,hd,bF⟩:=hv;refine aA.sb (F':=[(oJ,_),(b,_)]) (.skip O (.cons (bF.app .refl))) ?_;have aAH:1<=lo/\lo<=6:=by simp at Qb;omega
 have hd2:0<=d/\d<=2:=by simp at hd;omega
 obtain⟨hi,hhi⟩:∃hi,min 6 (lo+d)=hi:=⟨_,rfl⟩
 refine asT O ?_;refine b_ ((ZP O O O).eq (u:=I hi) (congrArg I hhi)) O ?_;refine b_ (dw (cs:= #[I lo,I hi]) O O O) O ?_;refine zT ?_;refine aA.zZ (cs:= #[I 0,I 1,I 2,I 3,I 9]) (fun lX=>?_) O;refine cg (A:=[(b,_)]) (.tail (.tail .head)) (fun h' hE hL=>EN _ h' cZ lv b (k+5) s5 [0,1,2,3,9] _ (hl.ext hE) (Sl.mk (hL lX _ (.head _)) O (pa _ _)) aj (by simp) (by simp)) (fun v A' hv=>?_);obtain⟨co,s6,rfl,Gw,bF⟩:=hv;refine aA.sb (F':=[(oJ,_),(b,_)]) (.skip O (.cons (bF.app .refl))) ?_;refine b_ (dw (cs:= #[I pl,I lo,I hi,I co]) O O O) O ?_;refine gI ?_;refine AY (hv:=qU nM) ⟨⟨pl,lo,hi,co⟩,s6,O,?_,.skip O .refl⟩;simp at OI Gw;exact aea (by simp only;omega) (by simp only;omega) (by simp only;omega) (by simp only;omega)
structure yD.OK(D:yD):Prop where
 gk:JC D.gs=0
 pk:0<=D.ps/\D.ps<=63
 sk:jP D.Vj [] D.rs=0
 fk:dU D.fs []=0
 me:∀p∈D.jJ,EU p.2
 m4:D.jJ.length<=4
inductive yD.Own(D:yD):ah->Prop
 | mk {Sa Sp Sr Sf Sm SK:ah}:Os IZ Ag.row D.va D.gs Sa->Os aaO Pn.row D.nS D.Vj Sp->Os aX bY D.vr D.rs Sr->Os A_ Fl.row D.vf D.fs Sf->Os kD yM D.vm D.jJ Sm->OsM D.jJ SK->yD.Own D (Sa++(Sp++(Sr++(Sf++(Sm++SK)))))
theorem yD.Own.shut(H:D.Own A):eH A:=by
 cases H with
 | mk h1 h2 h3 h4 h5 h6=>exact h1.shut.app (h2.shut.app (h3.shut.app (h4.shut.app (h5.shut.app h6.shut))))
theorem xI(H:D.Own A)(uU:D.OK)(hg:x.h 0=some (.cells #[QI kC] Eg zg))(z0:x.h.z 0)
  (K:∀h',Ext x.h h'->D.At h'->W {x with h:=h'} c Q ρ ds F):W x c Q ρ ds (A++F):=by
 cases H with
 | mk h1 h2 h3 h4 h5 h6=>
  simp only[eF];refine eY h1 fun a e1 s1 y1=>?_;refine eY h2 fun b e2 s2 y2=>?_;refine eY h3 fun c e3 s3 y3=>?_;refine eY h4 fun d e4 s4 y4=>?_;refine eY h5 fun e e5 s5 y5=>?_;refine ZC h6 fun f e6 aO=>?_;have g6:=e6;have g5:=e5.trans g6;have g4:=e4.trans g5;have g3:=e3.trans g4;have g2:=e2.trans g3;have g1:=e1.trans g2;exact K f g1 ⟨s1.ext g2,y1.ext g2,uU.gk,uU.pk,s2.ext g3,s3.ext g4,uU.sk,s4.ext g5,y4.ext g5,uU.fk,s5.ext g6,fun p hp=>⟨(aO p hp).1,(aO p hp).2,uU.me p hp⟩,uU.m4,⟨Eg,zg,g1.1 _ _ hg⟩,g1.2 _ z0⟩

theorem XW:∀{l:List Ag},(∀g∈l,DJ g=0)->FH l=0
 | [],_=>rfl
 | a::l,h=>by
  rw[FH,if_pos (h a (bT ..))];exact XW fun g hg=>h g (dH _ hg)
theorem ahn{ps:List Pn}{rs:List Int}(h1:ps.length<=4)(h2:∀p∈ps,oN p=0)(h3:rs.length=ps.length)(h4:∀r∈rs,0<=r/\r<=20):jP ps [] rs=0:=by
 unfold jP;rw[if_neg (by rw[amN h1 h2];decide),if_neg dF];unfold UF;rw[if_neg aj,if_neg aj,if_neg];rw[Bool.not_eq_true,List.any_eq_false];intro r hr;have:=h4 r hr;rw[decide_eq_true_eq];unfold outs;omega
theorem ace:∀{fs:List Fl},(∀f∈fs,lu f=0)->kV fs=0
 | [],_=>rfl
 | a::l,h=>by
  rw[kV,if_pos (h a (bT ..))];exact ace fun g hg=>h g (dH _ hg)
theorem aec{fs:List Fl}(h:1<=fs.length/\fs.length<=2)(hf:∀f∈fs,lu f=0):dU fs []=0:=by
 unfold dU;rw[if_neg aj,if_neg aj,if_neg (by rw[ace hf];decide),if_neg dF]
 rfl
theorem auO{Sk G:List α}:(Sm++((SK++Sk)++G)).Perm (Sk++(Sm++(SK++G))):=by
 classical
 rw[List.perm_iff_count];intro y;simp only[List.count_append];omega
theorem auP{Sa Sp Sr Sf:List α}:(Sa++(Sp++(Sr++(Sf++(Sm++SK))))).Perm (Sm++(SK++(Sf++(Sr++(Sp++Sa))))):=by
 classical
 rw[List.perm_iff_count];intro y;simp only[List.count_append];omega

theorem aed(main:aN)(h:Hp)(cZ:List Int)(lv:Value)(b k:Nat)(s:Int)(n:Nat)(hl:Sl h bY lv cZ)(hk:k<=100)(hn:n<=4):bG aV main Vz #[aG b,I n] h [(b,jl lv k s)]
  (fun v A=>∃D k' s' S,v=yD.V D/\D.OK/\D.jJ.length<=n/\(∀p∈D.jJ,∀m∈p.2.ks,m<=7)/\D.Own S/\k'<=k+1000/\Sb ((b,jl lv k' s')::S) A):=by
 refine bG.bH func7 [(0,aG b),(1,I n)] ?_;refine d_ ?_;refine aA.new (fun mW=>?_);refine lF ?_;refine cg (A:=[(b,_)]) (.tail .all) (fun h' hE hL=>ab_ _ h' cZ lv b k s (hl.ext hE) aj) (fun v A' hv=>?_);obtain⟨gs,Sa,k1,s1,hOa,hgs,hk1,bF⟩:=hv;obtain⟨aa,ca,rfl⟩:=hOa.aU;refine aA.sb (.cons bF) ?_;refine zT ?_;refine cg (A:=[(b,_)]) (.tail .head) (fun h' hE hL=>agS _ h' cZ lv b k1 s1 3 (hl.ext hE) aj aj) (fun v A' hv=>?_);obtain⟨Vj,Sp,k2,s2,hOp,hps,hk2,bF⟩:=hv;obtain⟨ap,cp',rfl⟩:=hOp.aU;refine aA.sb (.cons (bF.app (D:=Sa) .refl)) ?_;refine zT ?_;refine aA.new (fun iI=>?_);refine gI ?_;refine W.sb (F':=(iI,.cells #[.slice aa gs.length ca,I 0,.slice ap Vj.length cp',.slice none 0 0,.slice none 0 0,.slice none 0 0] fC (0,0))::(mW,.cells #[.slice none 0 0,I 0,.slice none 0 0,.slice none 0 0,.slice none 0 0,.slice none 0 0] fC (0,0))::(b,jl lv k2 s2)::(Sp++Sa)) .refl ?_;refine W.mono (Q:=(fun e gW iT F'=>e= .normal/\iT=[]/\(∃ps rs ar cr Sr k3 s3,Sub [(5,aG iI),(4,aG mW),(0,aG b),(1,I n)] gW/\(0<=ps/\ps<=63)/\Os aX bY (.slice ar rs.length cr) rs Sr/\(rs.length=Vj.length/\∀r∈rs,0<=r/\r<=20)/\k3<=k+400/\Sb ((iI,.cells #[.slice aa gs.length ca,I ps,.slice ap Vj.length cp',.slice ar rs.length cr,.slice none 0 0,.slice none 0 0] fC (0,0))::(mW,.cells #[.slice none 0 0,I 0,.slice none 0 0,.slice none 0 0,.slice none 0 0,.slice none 0 0] fC (0,0))::(b,jl lv k3 s3)::(Sr++(Sp++Sa))) F'))) ?_ ?_
 ·refine W.kQ [] (n:=11) O ?_;refine ay 0 ?_;refine ay 2 ?_;refine ay 3 ?_;refine Any.Vp (i:=1) (j:=4) aB (aK O) (aK O) an an O O O O ?_ ?_
  ·refine(gq (A:=[(b,jl lv k2 s2)]) (args:=[_,_]) O O (.tail (.tail .head)) (fun h' hE hL=>XV _ h' cZ lv b k2 s2 (hl.ext hE) aj) (fun v A' hv=>?_));refine⟨.inr aC.nil,?_⟩;obtain⟨ps,s3,rfl,akB,bF⟩:=hv;refine Any.sb (.cons (.cons (bF.app (D:=Sp++Sa) .refl))) ?_;refine ae (i:=4) rfl an rfl rfl (Ef.YH (CG rfl rfl) ⟨.inr (by first | exact aC.nil | exact aC.refl | exact fun _ h=>h | ((repeat(first | exact fun _ h=>h | apply aC.cons | apply aC.app)) <;>fail) | (repeat(first | exact aC.nil | refine aC.one zS ?_))),?_⟩);refine ay 5 ?_;refine ay 7 ?_;refine ae (i:=6) O an O O (gq (A:=[(b,jl lv (k2+6) s3)]) (args:=[_,_]) O O (.tail (.tail .head)) (fun h' hE hL=>UM _ h' cZ lv b (k2+6) s3 Vj.length (hl.ext hE) aj aj) (fun v A' hv=>?_));refine⟨.inr aC.nil,?_⟩;obtain⟨rs,Sr,k3,s4,hOr,hrs,hk3,bF⟩:=hv;obtain⟨ar,cr,rfl⟩:=hOr.aU;refine Any.sb (.cons (.cons (bF.app (D:=Sp++Sa) .refl))) ?_;refine ae (i:=8) O an O O (eS O O O ?_);refine⟨.inr MR,?_⟩;refine ay 9 ?_;refine ae (i:=10) O an O O (eS O O O ?_);refine⟨.inr MR,?_⟩;refine az ?_;exact⟨O,O,ps,rs,ar,cr,Sr,k3,s4,iw,akB,hOr,hrs,aj,.refl⟩
  refine(Ef.YH (CG rfl rfl) ⟨.inr (by first | exact aC.nil | exact aC.refl | exact fun _ h=>h | ((repeat(first | exact fun _ h=>h | apply aC.cons | apply aC.app)) <;>fail) | (repeat(first | exact aC.nil | refine aC.one zS ?_))),?_⟩);refine ay 5 ?_;refine ae (i:=1) O an O O (gq (A:=[(b,jl lv k2 s2)]) (args:=[_,_]) O O (.tail (.tail .head)) (fun h' hE hL=>XV _ h' cZ lv b k2 s2 (hl.ext hE) aj) (fun v A' hv=>?_));refine⟨.inr aC.nil,?_⟩;obtain⟨ps,s3,rfl,akB,bF⟩:=hv;refine Any.sb (.cons (.cons (bF.app (D:=Sp++Sa) .refl))) ?_;refine ay 7 ?_;refine ae (i:=6) O an O O (gq (A:=[(b,jl lv (k2+6) s3)]) (args:=[_,_]) O O (.tail (.tail .head)) (fun h' hE hL=>UM _ h' cZ lv b (k2+6) s3 Vj.length (hl.ext hE) aj aj) (fun v A' hv=>?_));refine⟨.inr aC.nil,?_⟩;obtain⟨rs,Sr,k3,s4,hOr,hrs,hk3,bF⟩:=hv;obtain⟨ar,cr,rfl⟩:=hOr.aU;refine Any.sb (.cons (.cons (bF.app (D:=Sp++Sa) .refl))) ?_;refine ae (i:=8) O an O O (eS O O O ?_);refine⟨.inr MR,?_⟩;refine ay 9 ?_;refine ae (i:=10) O an O O (eS O O O ?_);refine⟨.inr MR,?_⟩;refine az ?_;exact⟨O,O,ps,rs,ar,cr,Sr,k3,s4,iw,akB,hOr,hrs,aj,.refl⟩
 rintro e gW iT F' ⟨rfl,rfl,ps,rs,ar,cr,Sr,k3,s3,zD,akB,hOr,hrs,hk3,UO⟩;refine gI ?_;refine W.env zD (W.sb UO ?_);refine d_ ?_;refine cg (A:=[(b,_)]) (.tail (.tail .head)) (fun h' hE hL=>oM _ h' cZ lv b k3 s3 1 2 (hl.ext hE) aj aj) (fun v A' hv=>?_);obtain⟨r,s4,rfl,hr,bF⟩:=hv;refine aA.sb (.cons (.cons (bF.app (D:=Sr++(Sp++Sa)) .refl))) ?_;obtain⟨m,rfl⟩:∃m:Nat,r=m:=⟨r.toNat,aj⟩
 refine gI ?_;obtain⟨G,hG⟩:∃G,Sr++(Sp++Sa)=G:=⟨_,rfl⟩
 rw[hG]
 refine W.uq (σ:=Nat) (τ:=List Fl×Value×ah) (υ:=Nat×Int) (fun i t u=>i<=2/\Os A_ Fl.row t.2.1 t.1 t.2.2/\(∀f∈t.1,lu f=0)/\t.1.length+i=m/\u.1+6*i=k3+1+6*m) (fun i _ _=>[(6,I i),(5,aG iI),(4,aG mW),(0,aG b),(1,I n)])
  (fun _ t u=>(iI,.cells #[.slice aa gs.length ca,I ps,.slice ap Vj.length cp',.slice ar rs.length cr,t.2.1,.slice none 0 0] fC (0,0))::(mW,.cells #[.slice none 0 0,I 0,.slice none 0 0,.slice none 0 0,.slice none 0 0,.slice none 0 0] fC (0,0))::(b,jl lv u.1 u.2)::(t.2.2++G)) (fun i _ _=>i) m ([],.slice none 0 0,[]) (k3+1,s4) ⟨aj,.nil .nil,(fun f hf=>by cases hf),by simp,by simp⟩ iw .refl ?_
 rintro i ⟨fs,vf,Sf⟩ ⟨k4,s5⟩ ⟨hi,hOf,hcf,CV,QH⟩;simp only at hOf hcf CV QH⊢;obtain⟨af,cf,rfl⟩:=hOf.aU;refine lg ?_;refine W.aJ O (fun JW=>?_) (fun JW=>?_)
 ·skip
  refine lF ?_;refine W.O6 (n:=8) O ?_;refine ay 0 ?_;refine ay 1 ?_;refine ay 2 ?_;refine ae (i:=3) O an O O (gq (A:=[(b,_)]) (args:=[_]) O O (.tail (.tail .head)) (fun h' hE hL=>aeb _ h' cZ lv b k4 s5 (hl.ext hE) aj) (fun v A' hv=>?_));refine⟨.inr (aC.one (.head _) aC.nil),?_⟩;obtain⟨f,s6,rfl,ays,bF⟩:=hv;refine Any.sb (.cons (.cons (bF.app (D:=Sf++G) .refl))) ?_;refine abl (i:=4) (cs:= #[I f.pl,I f.lo,I f.hi,I f.co]) (fun ayt=>?_) O;refine ae (i:=5) O an O O (bV (row:=Fl.row) (l':=[f]) O O O hOf (.tail (.tail (.tail (.tail .head)))) (fun h2 _ hl=>Sl.mk (hl ayt _ (.head _)) O (Part.all (flat Fl.row [f]))) (by simp;omega) dF O (fun v' S' xM=>?_));refine⟨.inr (aC.one (.tail _ (.head _)) aC.nil),?_⟩;have mM:one v'=true:=by obtain⟨_,_,rfl⟩:=xM.aU;rfl
  refine ay 6 ?_;refine ae (i:=7) O an O O (eS O O O ?_);refine⟨.inl aB,?_⟩;refine az ?_;refine jk ?_;refine⟨O,i-1,(fs++[f],v',S'),(k4+6,s6),⟨aj,xM,fun g hg=>?_,by simp;omega,by simp only;omega⟩,aj,⟨lk O (show I _=I _ by congr 1;omega),O,O,O,O,trivial⟩,.skip O .refl⟩;rcases dh.1 hg with hg | hg
  ·exact hcf g hg
  rw[dP.1 hg];exact ays
 obtain rfl:i=0:=by omega
 refine gZ ?_;refine cg (A:=[(b,_)]) (.tail (.tail .head)) (fun h' hE hL=>oM _ h' cZ lv b k4 s5 0 n (hl.ext hE) aj aj) (fun v A' hv=>?_);obtain⟨r,s6,rfl,hr2,bF⟩:=hv;refine aA.sb (.cons (.cons (bF.app (D:=Sf++G) .refl))) ?_;obtain⟨q,rfl⟩:∃q:Nat,r=q:=⟨r.toNat,aj⟩
 refine gI ?_;obtain⟨G2,hG2⟩:∃G2,Sf++G=G2:=⟨_,rfl⟩
 rw[hG2]
 refine W.uq (σ:=Nat) (τ:=List (Value×Mt)×Value×ah×ah) (υ:=Nat×Int) (fun i t u=>i<=4/\Os kD yM t.2.1 t.1 t.2.2.1/\OsM t.1 t.2.2.2/\(∀p∈t.1,EU p.2/\∀n∈p.2.ks,n<=7)/\t.1.length+i=q/\u.1+20*i<=k4+1+20*q) (fun i _ _=>[(7,I i),(5,aG iI),(4,aG mW),(0,aG b)])
  (fun _ t u=>(iI,.cells #[.slice aa gs.length ca,I ps,.slice ap Vj.length cp',.slice ar rs.length cr,.slice af fs.length cf,t.2.1] fC (0,0))::(mW,.cells #[.slice none 0 0,I 0,.slice none 0 0,.slice none 0 0,.slice none 0 0,.slice none 0 0] fC (0,0))::(b,jl lv u.1 u.2)::(t.2.2.1++(t.2.2.2++G2))) (fun i _ _=>i) q ([],.slice none 0 0,[],[]) (k4+1,s6) ⟨aj,.nil .nil,.nil,(fun f hf=>by cases hf),by simp,by simp⟩ iw .refl ?_
 rintro i ⟨jJ,vm,Sm,SK⟩ ⟨k5,s7⟩ ⟨hi2,hOm,hOK,hmt,hml,hk5⟩;simp only at hOm hOK hmt hml hk5⊢;obtain⟨am,cm,rfl⟩:=hOm.aU;refine lg ?_;refine W.aJ O (fun Wj=>?_) (fun Wj=>?_)
 ·skip
  refine lF ?_;refine W.O6 (n:=8) O ?_;refine ay 0 ?_;refine ay 1 ?_;refine ay 2 ?_;refine ae (i:=3) O an O O (gq (A:=[(b,_)]) (args:=[_]) O O (.tail (.tail .head)) (fun h' hE hL=>ZE _ h' cZ lv b k5 s7 (hl.ext hE) aj) (fun v A' hv=>?_));refine⟨.inr (aC.one (.head _) aC.nil),?_⟩;obtain⟨kv,x,Sk,k6,s8,rfl,hOk,hx,hx7,hk6,bF⟩:=hv;obtain⟨ak,ck,rfl⟩:=hOk.aU;refine Any.sb (.cons (.cons (bF.app (D:=Sm++(SK++G2)) .refl))) ?_;refine abl (i:=4) (cs:= #[.slice ak x.ks.length ck,I x.d,I x.co,I x.wa,I x.qu]) (fun Le=>?_) O;refine ae (i:=5) O an O O (bV (row:=yM) (l':=[(.slice ak x.ks.length ck,x)]) O O O hOm (.tail (.tail (.tail (.tail (.app .head))))) (fun h2 _ hl=>Sl.mk (hl Le _ (.head _)) O (Part.all (flat yM [(.slice ak x.ks.length ck,x)]))) (by simp;omega) dF O (fun v' S' xM=>?_));refine⟨.inr (aC.one (.tail _ (.head _)) aC.nil),?_⟩;have mM:one v'=true:=by obtain⟨_,_,rfl⟩:=xM.aU;rfl
  refine ay 6 ?_;refine ae (i:=7) O an O O (eS O O O ?_);refine⟨.inl aB,?_⟩;refine az ?_;refine jk ?_;refine⟨O,i-1,(jJ++[(.slice ak x.ks.length ck,x)],v',S',SK++Sk),(k6,s8),⟨aj,xM,hOK.snoc hOk,fun g hg=>?_,by simp;omega,by simp only;omega⟩,aj,⟨lk O (show I _=I _ by congr 1;omega),O,O,O,trivial⟩,.skip O (.cons (.cons (.cons (.aT auO))))⟩;rcases dh.1 hg with hg | hg
  ·exact hmt g hg
  rw[dP.1 hg];exact⟨hx,hx7⟩
 obtain rfl:i=0:=by omega
 refine iC ?_;subst hG2 hG;refine AY (hv:=qU nM) ⟨⟨.slice aa gs.length ca,.slice ap Vj.length cp',.slice ar rs.length cr,.slice af fs.length cf,.slice am jJ.length cm,ps,gs,Vj,rs,fs,jJ⟩,k5,s7,_,O,⟨?_,akB,ahn (by show Vj.length<=4;omega) hps.2 hrs.1 hrs.2,aec (by show 1<=fs.length/\fs.length<=2;omega) hcf,fun p hp=>(hmt p hp).1,by show jJ.length<=4;omega⟩,by show jJ.length<=n;omega,fun p hp=>(hmt p hp).2,.mk hOa hOp hOr hOf hOm hOK,aj,.skip O (.skip O (.cons (.aT auP)))⟩;show JC gs=0;unfold JC;rw[if_neg aj];exact XW hgs.2
def aq2:List Ag:=[⟨1,0,1,2,1⟩,⟨2,4,2,0,2⟩,⟨4,0,4,1,1⟩,⟨6,1,6,0,5⟩]
def akC:List Pn:=[⟨8,12,-3⟩,⟨4,9,-3⟩,⟨2,5,2⟩]
def aq3:List Int:=[6,6,2]
def akD(c0:Int):List Fl:=[⟨4,2,3,c0⟩,⟨3,3,5,2⟩]
def auQ(ks1:List Int):List Mt:=[⟨[0],0,3,0,9⟩,⟨ks1,0,2,1,8⟩,⟨[1,3],1,4,1,4⟩,⟨[6],5,2,0,1⟩]
def acf(c0:Int)(ks1:List Int):Mo:=⟨aq2,0,akD c0,auQ ks1⟩
theorem aq4:(acf 1 [2]).way 2=some [0,1]:=by kernel_rfl
theorem afD:uQ (acf 1 [2]).mi=[⟨0,0⟩,⟨1,1⟩,⟨0,3⟩,⟨0,6⟩]/\(jF (akD 1) (stM (acf 1 [2]).mi)).2.1=11:=⟨aB,aB⟩
theorem anm:(acf 1 [2]).cost=10:=by kernel_rfl
theorem akE:sD akC (acf 1 [2]).JE aq3=([0,0,1,-1],9,0):=by kernel_rfl
theorem ano:Vb (acf 0 [2])=2:=by kernel_rfl
theorem akF:(acf 1 [2,6]).worth 1 [2,6] 2=some (2,2):=by kernel_rfl
abbrev yR(b n:Nat):Value:=.slice (some ⟨b,0,none⟩) n n
def ZF(ba bp br bf bm k0 k2 k3:Nat)(c0:Int)(vk:Value):ah:=
 [(ba,.cells #[I 1,I 0,I 1,I 2,I 1,I 2,I 4,I 2,I 0,I 2,I 4,I 0,I 4,I 1,I 1,I 6,I 1,I 6,I 0,I 5] IZ (0,0)),(bp,.cells #[I 8,I 12,I (-3),I 4,I 9,I (-3),I 2,I 5,I 2] aaO (0,0)),(br,.cells #[I 6,I 6,I 2] aX (0,0)),
  (bf,.cells #[I 4,I 2,I 3,I c0,I 3,I 3,I 5,I 2] A_ (0,0)),
  (bm,.cells #[yR k0 1,I 0,I 3,I 0,I 9,vk,I 0,I 2,I 1,I 8,yR k2 2,I 1,I 4,I 1,I 4,yR k3 1,I 5,I 2,I 0,I 1] kD (0,0)),(k0,.cells #[I 0] aX (0,0)),(k2,.cells #[I 1,I 3] aX (0,0)),(k3,.cells #[I 6] aX (0,0))]
abbrev exV(ba bp br bf bm:Nat):Value:=.agg #[yR ba 4,I 0,yR bp 3,yR br 3,yR bf 2,yR bm 4]
theorem aq5{a k0 k2 k3 z:List α}:(((a++(p++(r++(f++(m++(k0++(k2++k3)))))))++k1)++z).Perm (m++(k3++(k2++(k1++(k0++(f++(r++(p++(a++z))))))))):=by
 classical
 rw[List.perm_iff_count];intro y;simp only[List.count_append];omega
theorem aho(main:aN)(h:Hp):bG aV main alM #[] h [] (fun v A=>∃ba bp br bf bm k0 k1 k2 k3,v=exV ba bp br bf bm/\Sb (ZF ba bp br bf bm k0 k2 k3 1 (yR k1 1)++[(k1,.cells #[I 2] aX (0,0))]) A):=by
 refine bG.bH func29 [] ?_;refine d_ ?_;refine aA.new (fun β0=>?_);refine gI ?_;refine b_ (dw (cs:= #[I 1,I 0,I 1,I 2,I 1]) O O aB) O ?_;refine b_ (dw (cs:= #[I 2,I 4,I 2,I 0,I 2]) O O aB) O ?_;refine b_ (dw (cs:= #[I 4,I 0,I 4,I 1,I 1]) O O aB) O ?_;refine b_ (dw (cs:= #[I 6,I 1,I 6,I 0,I 5]) O O aB) O ?_;refine aA.zZ (cs:= #[I 1,I 0,I 1,I 2,I 1,I 2,I 4,I 2,I 0,I 2,I 4,I 0,I 4,I 1,I 1,I 6,I 1,I 6,I 0,I 5]) (fun iI=>?_) O (hf:=by kernel_rfl);refine b_ (dw (cs:= #[I 8,I 12,I (-3)]) O O aB) O ?_;refine b_ (dw (cs:= #[I 4,I 9,I (-3)]) O O aB) O ?_;refine b_ (dw (cs:= #[I 2,I 5,I 2]) O O aB) O ?_;refine aA.zZ (cs:= #[I 8,I 12,I (-3),I 4,I 9,I (-3),I 2,I 5,I 2]) (fun Oi=>?_) O (hf:=by kernel_rfl);refine aA.zZ (cs:= #[I 6,I 6,I 2]) (fun VY=>?_) O (hf:=by kernel_rfl);refine b_ (dw (cs:= #[I 2,I 3]) O O aB) O ?_;refine b_ (dw (cs:= #[I 4,I 2,I 3,I 1]) O O aB) O ?_;refine b_ (dw (cs:= #[I 3,I 5]) O O aB) O ?_;refine b_ (dw (cs:= #[I 3,I 3,I 5,I 2]) O O aB) O ?_;refine aA.zZ (cs:= #[I 4,I 2,I 3,I 1,I 3,I 3,I 5,I 2]) (fun akA=>?_) O (hf:=by kernel_rfl);refine aA.zZ (cs:= #[I 0]) (fun ajV=>?_) O (hf:=by kernel_rfl);refine b_ (dw (cs:= #[yR ajV 1,I 0,I 3,I 0,I 9]) O O aB) O ?_;refine aA.zZ (cs:= #[I 2]) (fun abw=>?_) O (hf:=by kernel_rfl);refine b_ (dw (cs:= #[yR abw 1,I 0,I 2,I 1,I 8]) O O aB) O ?_;refine aA.zZ (cs:= #[I 1,I 3]) (fun mP=>?_) O (hf:=by kernel_rfl);refine b_ (dw (cs:= #[yR mP 2,I 1,I 4,I 1,I 4]) O O aB) O ?_;refine aA.zZ (cs:= #[I 6]) (fun pW=>?_) O (hf:=by kernel_rfl);refine b_ (dw (cs:= #[yR pW 1,I 5,I 2,I 0,I 1]) O O aB) O ?_;refine aA.zZ (cs:= #[yR ajV 1,I 0,I 3,I 0,I 9,yR abw 1,I 0,I 2,I 1,I 8,yR mP 2,I 1,I 4,I 1,I 4,yR pW 1,I 5,I 2,I 0,I 1]) (fun ajY=>?_) O (hf:=by kernel_rfl);refine b_ (dw (cs:= #[yR iI 4,I 0,yR Oi 3,yR VY 3,yR akA 2,yR ajY 4]) O O aB) O ?_;refine gI ?_;refine AY (hv:=qU nM) ⟨iI,Oi,VY,akA,ajY,ajV,abw,mP,pW,O,?_⟩;exact .trans (.right (C:=[(β0,Obj.cells #[yR iI 4,I 0,yR Oi 3,yR VY 3,yR akA 2,yR ajY 4] 30 (0,0))]) .refl (.cons O .nil)) (.aT (aq5 (a:=[_]) (p:=[_]) (r:=[_]) (f:=[_]) (m:=[_]) (k0:=[_]) (k1:=[_]) (k2:=[_]) (k3:=[_]) (z:=[_])))

theorem ayw(main:aN)(h:Hp):bG aV main alN #[] h [] (fun v A=>∃ba bp br bf bm k0 k1 k2 k3,v=exV ba bp br bf bm/\Sb (ZF ba bp br bf bm k0 k2 k3 0 (yR k1 1)++[(k1,.cells #[I 2] aX (0,0))]) A):=by
 refine bG.bH func30 [] ?_;refine d_ ?_;refine aA.new (fun β0=>?_);refine gI ?_;refine c0 (fun h' hE hL=>aho _ h') (fun v A' hv=>?_);obtain⟨ba,bp,br,bf,bm,k0,k1,k2,k3,rfl,bF⟩:=hv;refine aA.sb (bF.app .refl) ?_;unfold ZF;refine aA.new (fun vg=>?_);refine Qv ?_;refine AY (hv:=qU nM) ⟨ba,bp,br,bf,bm,k0,k1,k2,k3,O,?_⟩;exact .skip O (.right (B:=ZF ba bp br bf bm k0 k2 k3 0 (yR k1 1)++[(k1,.cells #[I 2] aX (0,0))]) (C:=[_]) .refl (.cons O .nil))
theorem ayx(main:aN)(h:Hp):bG aV main alO #[] h [] (fun v A=>∃ba bp br bf bm k0 k1 k2 k3,v=exV ba bp br bf bm/\Sb (ZF ba bp br bf bm k0 k2 k3 1 (yR k1 2)++[(k1,.cells #[I 2,I 6] aX (0,0))]) A):=by
 refine bG.bH func31 [] ?_;refine d_ ?_;refine aA.new (fun β0=>?_);refine gI ?_;refine c0 (fun h' hE hL=>aho _ h') (fun v A' hv=>?_);obtain⟨ba,bp,br,bf,bm,k0,k1,k2,k3,rfl,bF⟩:=hv;refine aA.sb (bF.app .refl) ?_;unfold ZF;refine aA.new (fun vg=>?_);refine lg ?_;refine aA.zZ (cs:= #[I 2,I 6]) (fun iI=>?_) O;refine gZ ?_;refine AY (hv:=qU nM) ⟨ba,bp,br,bf,bm,k0,iI,k2,k3,O,?_⟩;exact .trans (.aT (dK (l₁:=ZF ba bp br bf bm k0 k2 k3 1 (yR iI 2)) (l₂:=[(iI,.cells #[I 2,I 6] aX (0,0))]))) (.cons (.skip O (.right (B:=ZF ba bp br bf bm k0 k2 k3 1 (yR iI 2)) (C:=[(k1,.cells #[I 2] aX (0,0)),(β0,.cells #[yR ba 4,I 0,yR bp 3,yR br 3,yR bf 2,yR bm 4] 30 (0,0))]) .refl (.cons O (.cons O .nil)))))
theorem akG(main:aN)(h:Hp)(x:Be):bG aV main adg #[.agg #[I x.fl,I x.day]] h [] (fun v A=>∃S,Os ku Be.row v [⟨0,0⟩,x,⟨0,3⟩,⟨0,6⟩] S/\Sb S A):=by
 refine bG.bH func33 [(0,.agg #[I x.fl,I x.day])] ?_;refine d_ ?_;refine aA.box (fun vg=>?_);refine lF ?_;refine b_ (dw (cs:= #[I 0,I 0]) O O aB) O ?_;refine asR O ?_;refine b_ (dw (cs:= #[I 0,I 3]) O O aB) O ?_;refine b_ (dw (cs:= #[I 0,I 6]) O O aB) O ?_;refine aA.zZ (cs:= #[I 0,I 0,I x.fl,I x.day,I 0,I 3,I 0,I 6]) (fun yc=>?_) O (hf:=by kernel_rfl);refine gI ?_;exact iQ (vs:=[_]) ⟨[(yc,_)],.inr ⟨yc,_,4,[],O,O,O,Nat.le_refl _,Part.all (flat Be.row [⟨0,0⟩,x,⟨0,3⟩,⟨0,6⟩]),.nil⟩,.right (C:=[_]) .refl (.cons O .nil)⟩
theorem aA.ZC{ops:Array Oper}{l:List (Value×Mt)}(hs:OsM l A)
  (H:∀h',Ext x.h h'->(∀p∈l,Sl h' bY p.1 p.2.ks/\Zs h' p.1)->aA {x with h:=h'} ops td Q ρ ds F):aA x ops td Q ρ ds (A++F):=by
 induction hs generalizing x with
 | nil=>exact H x.h ⟨fun _ _ q=>q,fun _ q=>q⟩ fun p hp=>by cases hp
 | cons h1 h2 ih=>
  rw[eF];refine aA.eY h1 fun h' hE P7 hz=>ih (x:={x with h:=h'}) fun Gm TA aO=>H Gm (hE.trans TA) fun p hp=>?_;rcases bU.1 hp with rfl | hp
  ·exact⟨P7.ext TA,hz.ext TA⟩
  exact aO p hp
theorem aA.xI{ops:Array Oper}(H:D.Own A)(uU:D.OK)(hg:x.h 0=some (.cells #[QI kC] Eg zg))(z0:x.h.z 0)
  (K:∀h',Ext x.h h'->D.At h'->aA {x with h:=h'} ops td Q ρ ds F):aA x ops td Q ρ ds (A++F):=by
 cases H with
 | mk h1 h2 h3 h4 h5 h6=>
  simp only[eF];refine aA.eY h1 fun a e1 s1 y1=>?_;refine aA.eY h2 fun b e2 s2 y2=>?_;refine aA.eY h3 fun c e3 s3 y3=>?_;refine aA.eY h4 fun d e4 s4 y4=>?_;refine aA.eY h5 fun e e5 s5 y5=>?_;refine aA.ZC h6 fun f e6 aO=>?_;have g6:=e6;have g5:=e5.trans g6;have g4:=e4.trans g5;have g3:=e3.trans g4;have g2:=e2.trans g3;have g1:=e1.trans g2;exact K f g1 ⟨s1.ext g2,y1.ext g2,uU.gk,uU.pk,s2.ext g3,s3.ext g4,uU.sk,s4.ext g5,y4.ext g5,uU.fk,s5.ext g6,fun p hp=>⟨(aO p hp).1,(aO p hp).2,uU.me p hp⟩,uU.m4,⟨Eg,zg,g1.1 _ _ hg⟩,g1.2 _ z0⟩

def exD(ba bp br bf bm k0 k2 k3:Nat)(c0:Int)(vk:Value)(ks1:List Int):yD:=
 ⟨yR ba 4,yR bp 3,yR br 3,yR bf 2,yR bm 4,0,aq2,akC,aq3,akD c0,[(yR k0 1,⟨[0],0,3,0,9⟩),(vk,⟨ks1,0,2,1,8⟩),(yR k2 2,⟨[1,3],1,4,1,4⟩),(yR k3 1,⟨[6],5,2,0,1⟩)]⟩
theorem XY{c0:Int}(h0:0<=c0/\c0<=1)(h1:EU ⟨ks1,0,2,1,8⟩):(exD ba bp br bf bm k0 k2 k3 c0 vk ks1).OK:=by
 have hc:c0=0\/c0=1:=by omega
 refine⟨aB,⟨Int.le_refl _,by show(0:Int)<=63;decide⟩,aB,by rcases hc with rfl | rfl <;>kernel_rfl,fun p hp=>?_,Nat.le_refl _⟩;simp only[exD,bU,List.not_mem_nil,or_false]at hp;rcases hp with rfl | rfl | rfl | rfl
 ·exact EU.mk' dF dF dF dF dF dF dF
 ·exact h1
 ·exact EU.mk' dF dF dF dF dF dF dF
 exact EU.mk' dF dF dF dF dF dF dF
theorem aq6{a k0 k2 k3:List α}:(a++(p++(r++(f++(m++(k0++(k1++(k2++(k3++[]))))))))).Perm ((a++(p++(r++(f++(m++(k0++(k2++k3)))))))++k1):=by
 classical
 rw[List.perm_iff_count];intro y;simp only[List.count_append];simp only[List.count_nil];omega
theorem Pq{c0:Int}{S1:ah}(h1:Os aX bY vk ks1 S1):∃A,(exD ba bp br bf bm k0 k2 k3 c0 vk ks1).Own A/\Sb A (ZF ba bp br bf bm k0 k2 k3 c0 vk++S1):=by
 obtain⟨a1,c1,e1⟩:=h1.aU
 refine⟨_,.mk (.inr ⟨ba,_,4,[],O,O,O,Nat.le_refl _,Part.all (flat Ag.row aq2),.nil⟩) (.inr ⟨bp,_,3,[],O,O,O,Nat.le_refl _,Part.all (flat Pn.row akC),.nil⟩) (.inr ⟨br,_,3,[],O,O,O,Nat.le_refl _,Part.all (flat bY aq3),.nil⟩) (.inr ⟨bf,_,2,[],O,O,O,Nat.le_refl _,Part.all (flat Fl.row (akD c0)),.nil⟩) (.inr ⟨bm,_,4,[],O,O,O,Nat.le_refl _,Part.all (flat yM (exD ba bp br bf bm k0 k2 k3 c0 vk ks1).jJ),.nil⟩)
  (.cons (.inr ⟨k0,_,1,[],O,O,O,Nat.le_refl _,Part.all (flat bY [0]),.nil⟩) (.cons h1 (.cons (.inr ⟨k2,_,2,[],O,O,O,Nat.le_refl _,Part.all (flat bY [1,3]),.nil⟩) (.cons (.inr ⟨k3,_,1,[],O,O,O,Nat.le_refl _,Part.all (flat bY [6]),.nil⟩) .nil)))),?_⟩
 subst e1;exact .aT (aq6 (a:=[_]) (p:=[_]) (r:=[_]) (f:=[_]) (m:=[_]) (k0:=[_]) (k2:=[_]) (k3:=[_]))

theorem Px{c0:Int}:(exD ba bp br bf bm k0 k2 k3 c0 vk ks1).mo=acf c0 ks1:=rfl
theorem aq7{c0:Int}:(exD ba bp br bf bm k0 k2 k3 c0 vk ks1).fs=akD c0:=rfl
theorem akH:EU ⟨[2],0,2,1,8⟩:=EU.mk' dF dF dF dF dF dF dF
theorem ayy:EU ⟨[2,6],0,2,1,8⟩:=EU.mk' dF dF dF dF dF dF dF
theorem os1:Os aX bY (yR b 1) [2] [(b,.cells #[I 2] aX (0,0))]:=.inr ⟨b,_,1,[],O,O,O,Nat.le_refl _,Part.all (flat bY [2]),.nil⟩
theorem os2:Os aX bY (yR b 2) [2,6] [(b,.cells #[I 2,I 6] aX (0,0))]:=.inr ⟨b,_,2,[],O,O,O,Nat.le_refl _,Part.all (flat bY [2,6]),.nil⟩
theorem akI:(exD ba bp br bf bm k0 k2 k3 1 vk [2]).out=[0,0,1,-1]/\(exD ba bp br bf bm k0 k2 k3 1 vk [2]).share.2.1=9:=by
 have e:(exD ba bp br bf bm k0 k2 k3 1 vk [2]).share=([0,0,1,-1],9,0):=akE;unfold yD.out;rw[e];exact⟨aB,O⟩

theorem Ve{main:aN}(hS:∀S,main.ok S->∃Fin,S=Mn aV Fin)(qJ:main.b=true)(h:Hp)(Eg:TypeId)(zg:Nat×Nat)(hg:h 0=some (.cells #[QI kC] Eg zg))(z0:h.z 0):bG aV main VB #[] h [] (fun v A=>v= .bool true/\eH A):=by
 refine bG.bH func8 [] ?_;refine lg ?_;refine c0 (fun h' hE hL=>aho _ h') (fun v A' hv=>?_);obtain⟨ba,bp,br,bf,bm,k0,k1,k2,k3,rfl,bF⟩:=hv;obtain⟨AO,Ob,hsO⟩:=Pq (ba:=ba) (bp:=bp) (br:=br) (bf:=bf) (bm:=bm) (k0:=k0) (k2:=k2) (k3:=k3) (c0:=1) (os1 (b:=k1));refine aA.sb ((hsO.trans bF).app .refl) ?_;refine aA.xI Ob (XY dF akH) (hg) (z0) (fun q1 zD H1=>?_);refine c0 (fun h' hE hL=>auy hS qJ h' _ (H1.ext hE) 2 (by show 2<4;decide)) (fun v A' hv=>?_);obtain⟨uw,Sw,rfl,hOw,bF⟩:=hv;rw[Px,aq4]at hOw⊢;rw[show(some [(0:Int),1]).getD []=[0,1]from rfl]at hOw;rw[show(if(some [(0:Int),1]).isSome=true then(0:Int)else 11)=0 from rfl];obtain⟨aw,cw,rfl⟩:=hOw.aU;refine aA.sb (F':=Sw) (by first | exact bF | exact bF.right .nil) ?_;refine kR ?_;refine c0 (fun h' hE hL=>aho _ h') (fun v A' hv=>?_);obtain⟨ba,bp,br,bf,bm,k0,k1,k2,k3,rfl,bF⟩:=hv;obtain⟨AO,Ob,hsO⟩:=Pq (ba:=ba) (bp:=bp) (br:=br) (bf:=bf) (bm:=bm) (k0:=k0) (k2:=k2) (k3:=k3) (c0:=1) (os1 (b:=k1));refine aA.sb ((hsO.trans bF).app .refl) ?_;refine aA.xI Ob (XY dF akH) (hg) (z0) (fun q2 NY H2=>?_);refine c0 (fun h' hE hL=>aqU hS qJ h' _ (H2.ext hE)) (fun v A' hv=>?_);obtain⟨up,Sp,rfl,hOp,bF⟩:=hv;rw[Px,afD.1]at hOp;rw[aq7,Px,afD.2];obtain⟨ap,cp',rfl⟩:=hOp.aU;refine aA.sb (bF.app .refl) ?_;refine gZ ?_;refine c0 (fun h' hE hL=>aho _ h') (fun v A' hv=>?_);obtain⟨ba,bp,br,bf,bm,k0,k1,k2,k3,rfl,bF⟩:=hv;obtain⟨AO,Ob,hsO⟩:=Pq (ba:=ba) (bp:=bp) (br:=br) (bf:=bf) (bm:=bm) (k0:=k0) (k2:=k2) (k3:=k3) (c0:=1) (os1 (b:=k1));refine aA.sb ((hsO.trans bF).app .refl) ?_;refine aA.xI Ob (XY dF akH) (hg) (z0) (fun q3 hE3 H3=>?_);refine c0 (fun h' hE hL=>anh hS qJ h' _ (H3.ext hE)) (fun v A' hv=>?_);obtain⟨us,Ss,rfl,hOs,bF⟩:=hv;rw[akI.1]at hOs;rw[akI.2];obtain⟨as',LU,rfl⟩:=hOs.aU;refine aA.sb (bF.app .refl) ?_;refine gZ ?_;refine c0 (fun h' hE hL=>aho _ h') (fun v A' hv=>?_);obtain⟨ba,bp,br,bf,bm,k0,k1,k2,k3,rfl,bF⟩:=hv;obtain⟨AO,Ob,hsO⟩:=Pq (ba:=ba) (bp:=bp) (br:=br) (bf:=bf) (bm:=bm) (k0:=k0) (k2:=k2) (k3:=k3) (c0:=1) (os1 (b:=k1));refine aA.sb ((hsO.trans bF).app .refl) ?_;refine aA.xI Ob (XY dF akH) (hg) (z0) (fun q4 Xd H4=>?_);refine c0 (fun h' hE hL=>aqW hS qJ h' _ (H4.ext hE)) (fun v A' hv=>?_);obtain⟨rfl,bF⟩:=hv;rw[Px,anm];refine aA.sb (.left .refl bF) ?_;refine kR ?_;refine c0 (fun h' hE hL=>ayw _ h') (fun v A' hv=>?_);obtain⟨ba,bp,br,bf,bm,k0,k1,k2,k3,rfl,bF⟩:=hv;obtain⟨AO,Ob,hsO⟩:=Pq (ba:=ba) (bp:=bp) (br:=br) (bf:=bf) (bm:=bm) (k0:=k0) (k2:=k2) (k3:=k3) (c0:=0) (os1 (b:=k1));refine aA.sb ((hsO.trans bF).app .refl) ?_;refine aA.xI Ob (XY dF akH) (hg) (z0) (fun q5 hE5 H5=>?_);refine c0 (fun h' hE hL=>akr hS qJ h' _ (H5.ext hE)) (fun v A' hv=>?_);obtain⟨rfl,bF⟩:=hv;rw[Px,ano];refine aA.sb (.left .refl bF) ?_;refine kR ?_;refine c0 (fun h' hE hL=>ayx _ h') (fun v A' hv=>?_);obtain⟨ba,bp,br,bf,bm,k0,k1,k2,k3,rfl,bF⟩:=hv;obtain⟨AO,Ob,hsO⟩:=Pq (ba:=ba) (bp:=bp) (br:=br) (bf:=bf) (bm:=bm) (k0:=k0) (k2:=k2) (k3:=k3) (c0:=1) (os2 (b:=k1));refine aA.sb ((hsO.trans bF).app .refl) ?_;refine aA.xI Ob (XY dF ayy) (hg) (z0) (fun q6 hE6 H6=>?_);refine c0 (fun h' hE hL=>anj hS qJ h' _ (H6.ext hE) 1 (yR k1 2) ⟨[2,6],0,2,1,8⟩ O) (fun v A' hv=>?_);obtain⟨rfl,bF⟩:=hv;rw[Px,show([2,6]:List Int).length=2 from rfl,akF];refine aA.sb (.left .refl bF) ?_;refine gI ?_;refine aA.new (fun yg=>?_);refine lg ?_;refine Gh (u:=.bool true) (yt O O O) O O wn O O ?_;refine d_ ?_;refine Gh (u:=.bool true) (yt O O O) O O (aI O O O) O O ?_;refine gI ?_;refine Gh (u:=.bool true) (yt O O O) O O (aI O O O) O O ?_;refine gI ?_;refine Gh (u:=.bool true) (yt O O O) O O (aI O O O) O O ?_;refine gI ?_;refine Gh (u:=.bool true) (yt O O O) O O (aI O O O) O O ?_;refine gI ?_;refine Gh (u:=.bool true) (yt O O O) O O (aI O O O) O O ?_;refine gI ?_;refine Gh (u:=.bool true) (yt O O O) O O (aI O O O) O O ?_;refine gI ?_;refine Gh (u:=.bool true) (yt O O O) O O (aI O O O) O O ?_;refine gI ?_;refine Gh (u:=.bool true) (yt O O O) O O (aI O O O) O O ?_;refine gI ?_;refine Gh (u:=.bool true) (yt O O O) O O (aI O O O) O O ?_;refine d_ ?_
 first | refine kw_ (ZW rfl rfl) rfl ?_ | refine kw_ (Qm rfl rfl) rfl ?_
 refine oq (dw (cs:= #[I 2,I 2]) O O aB) O (aI O O O) O O ?_;refine Gh (u:=.bool true) (ai5 [2,2] [2,2] O O O O O O O) O O (aI O O O) O O ?_;refine gI ?_;refine aA.zZ (cs:= #[I 0,I 1]) (fun ayz=>?_) O;refine cp (g:=some _) (u:=.bool true) (fun h' hE hL=>?_) ?_
 ·exact XD main h' [0,1] [0,1] _ _ (hOw.sl fun b o hb=>hL b o (by simp[hb])) (Sl.mk (hL ayz _ (.head _)) O (Part.all (flat bY [0,1]))) dF
 refine gI ?_;refine oq (dw (cs:= #[I 1,I 1]) O O aB) O (aI O O O) O O ?_;refine c0 (g:=some _) (fun h' hE hL=>akG _ h' ⟨1,1⟩) (fun v A' hv=>?_);obtain⟨Sq,hOq,bF⟩:=hv;obtain⟨aq',cq',rfl⟩:=hOq.aU;refine aA.sb (bF.app .refl) ?_;refine cp (g:=some _) (u:=.bool true) (fun h' hE hL=>?_) ?_
 ·exact acd main h' [⟨0,0⟩,⟨1,1⟩,⟨0,3⟩,⟨0,6⟩] [⟨0,0⟩,⟨1,1⟩,⟨0,3⟩,⟨0,6⟩] _ _ (hOp.sl fun b o hb=>hL b o (by simp[hb])) (hOq.sl fun b o hb=>hL b o (by simp[hb])) dF
 refine gI ?_;refine aA.zZ (cs:= #[I 0,I 0,I 1,I (-1)]) (fun auT=>?_) O;refine cp (g:=some _) (u:=.bool true) (fun h' hE hL=>?_) ?_
 ·exact XD main h' [0,0,1,-1] [0,0,1,-1] _ _ (hOs.sl fun b o hb=>hL b o (by simp[hb])) (Sl.mk (hL auT _ (.head _)) O (Part.all (flat bY [0,0,1,-1]))) dF
 refine lF ?_;refine iQ (vs:=[.bool true]) ⟨O,?_⟩
 repeat(first | exact hOw.shut | exact hOp.shut | exact hOs.shut | exact hOq.shut | refine eH.cons rfl ?_ | refine eH.app ?_ ?_ | exact .nil)
def acg(P:Program)(main:aN)(f:FuncId)(args:Array Value)(h:Hp)(u:Value):Prop:=
 ∃(fn:Func) (c:Code) (ρ:Env),P.funcs[f]? =some fn/\fn.body=some c/\args.size<=fn.ntmps/\LV ρ args/\W ⟨P,main,f,fn.ntmps,none,h⟩ c (fun e ρ ds F=>ds=[]/\eH F/\leave P main fn h (fun v _=>v=u) e ρ [] F) ρ [] []

section
variable{P:Program}{main:aN}{h:Hp}
theorem acg.gX{f:FuncId}{fn:Func}(hf:P.funcs[f]? =some fn)(hb:fn.body=some c)(ha:args.size<=fn.ntmps)(ρ:Env)(LD:LV ρ args)
  (H:W ⟨P,main,f,fn.ntmps,none,h⟩ c (fun e ρ ds F=>ds=[]/\eH F/\leave P main fn h (fun v _=>v=u) e ρ [] F) ρ [] []):acg P main f args h u:=⟨fn,c,ρ,hf,hb,ha,LD,H⟩
variable{fn:Func}{e:Exit}{ρ:Env}{F:ah}
theorem lvq{vs:List Value}(hu:pack vs=u)(he:e= .ret\/e= .normal:=by first | exact .inl rfl | exact .inr rfl)(hv:ada ρ fn.results.toList=some vs:=by rfl)(hs:eH F:=by repeat(first | exact eH.nil | assumption | refine eH.cons rfl ?_ | refine eH.app ?_ ?_)):([]:List Deferred)=[]/\eH F/\leave P main fn h (fun v _=>v=u) e ρ [] F:=
 ⟨O,hs,iQ hu he hv⟩
end
theorem acg.run{P:Program}{f:FuncId}{W:World}(hi:P.inits.idxOf? f=none)(T:acg P (G_ P (AX P fun v _=>v=u)) f args (kZ W) u):
  ∃M last o w' t',runNT P (M+1) (Conc.solo (Conc.G (Frame.enter P f args .normal) []) W) #[]=(.ended o w',t')/\runN P M (Conc.solo (Conc.G (Frame.enter P f args .normal) []) W)= .next last/\Go.step P last= .ended o w'/\Conc.Good P (fun v w'=>v=u/\Kept W w') last o w' t':=by
 obtain⟨fn,c,ρ,h1,h2,h3,h4,h5⟩:=T;exact Mn.run (Mn.top (R:=fun v=>v=u) h1 h2 hi h3 ρ h4 aaE (fun b o hb=>(lN.1 hb).2) (fun v w hv _=>hv) h5)

theorem Kept.below{w w':World}(h:Kept w w'):Go.RowKit.Below w.heap.size w w':=⟨h.os,h.tape,h.output,h.size,h.block⟩

theorem Py(l:List Int):flat bY l=l.map fun n=>.int .i64 n:=by
 induction l with
 | nil=>rfl
 | cons a l ih=>rw[iW,ih];rfl
theorem Part.aq8{c:Array Value}{off:Nat}{xs:List Value}(h:∀j,j<xs.length->c[off+j]? =xs[j]?)(iK:xs≠[]):Part c off xs:=by
 have hlen:off+xs.length<=c.size:=by
  have ayB:0<xs.length:=List.length_pos_iff.2 iK;have:=h (xs.length-1) aj;rw[jh aj]at this;rcases bQ (off+(xs.length-1)) c.size with h' | h'
  ·omega
  rw[Array.getElem?_eq_none h']at this;cases this
 refine⟨c.toList.take off,c.toList.drop (off+xs.length),?_,by simp;omega⟩;apply List.ext_getElem?;intro i;have oH:c.toList.length=c.size:=by simp
 rcases bQ i off with h1 | h1
 ·rw[List.getElem?_append_left (by simp;omega),List.getElem?_take,if_pos h1]
 rw[List.getElem?_append_right (by simp;omega)];have e1:(c.toList.take off).length=off:=by simp;omega
 rw[e1];rcases bQ (i-off) xs.length with h2 | h2
 ·rw[List.getElem?_append_left h2,<-h _ h2];simp only[Array.getElem?_toList]
  congr 1;omega
 rw[List.getElem?_append_right h2,List.getElem?_drop]
 congr 1;omega
theorem Sl.kZ{W:World}{a:Addr}{n:Nat}{zs:List Int}(hz:n<=zs.length)(h:∀i,i<zs.length->W.cell? (a.add i)=some (.int .i64 (zs.getD i 0))):Sl (kZ W) bY (.slice (some a) n cap) (zs.take n):=by
 refine⟨some a,cap,by rw[List.length_take,Nat.min_eq_left hz],fun iK=>?_⟩
 have ayB:0<n:=by
  rcases Nat.eq_zero_or_pos n with h' | h'
  ·subst h';simp at iK
  exact h'
 obtain⟨b,off,spot⟩:=a
 have hsp:spot=none:=by
  have:=h 0 aj
  cases hs:spot with
  | none=>rfl
  | some s=>
   subst hs;exfalso;simp only[World.cell?,Addr.add,if_true]at this;split at this
   ·simp at this
   cases this
 subst hsp
 have cell:∀i,i<zs.length->∃c E fz,W.heap[b]? =some (.cells c E fz)/\c[off+i]? =some (.int .i64 (zs.getD i 0)):=fun i hi=>by
  have:=h i hi;rw[show(⟨b,off,none⟩:Addr).add i=⟨b,off+i,none⟩ by unfold Addr.add;split <;>simp[*]]at this;simp only[World.cell?]at this;split at this
  ·rename_i c E fz hb;exact⟨c,E,fz,hb,by simpa using this⟩
  cases this
 obtain⟨c,E,fz,hb,h0⟩:=cell 0 aj;refine⟨b,off,c,E,fz,O,lN.2 ⟨hb,O⟩,Part.aq8 (fun j hj=>?_) ?_⟩
 ·rw[Py,List.length_map,List.length_take]at hj;obtain⟨c',E',fz',wz,hj'⟩:=cell j aj;rw[hb]at wz
  cases wz
  rw[hj',Py,iL,List.getElem?_take,if_pos aj,jh aj];simp[List.getD,jh (show j<zs.length by omega)]
 rw[Py];intro e;exact iK (List.map_eq_nil_iff.1 e)
theorem yD.Own.lC(H:D.Own A):lC #[D.va,I D.ps,D.nS,D.vr,D.vf,D.vm].toList=true:=by
 cases H with
 | mk h1 h2 h3 h4 h5 h6=>
  obtain⟨_,_,e1⟩:=h1.aU;obtain⟨_,_,e2⟩:=h2.aU;obtain⟨_,_,e3⟩:=h3.aU;obtain⟨_,_,e4⟩:=h4.aU;obtain⟨_,_,e5⟩:=h5.aU;rw[e1,e2,e3,e4,e5];rfl
theorem Sl.take{row:α->List Value}{w:Nat}[Rw row w]{n:Nat}{l:List α}(H:Sl h row (.slice a n cap) l){m:Nat}(hm:m<=l.length):Sl h row (.slice a m cap) (l.take m):=by
 obtain⟨a',f_,e,hx⟩:=H
 cases e
 refine⟨a,cap,by rw[List.length_take,Nat.min_eq_left hm],fun iK=>?_⟩;obtain⟨b,off,c,E,fz,rfl,hb,hp⟩:=hx (by rintro rfl;simp at iK);refine⟨b,off,c,E,fz,O,hb,?_⟩;rw[show flat row l=[]++(flat row (l.take m)++flat row (l.drop m)) by rw[List.nil_append,<-wR,List.take_append_drop]]at hp;exact hp.sub
theorem Zs.take{n m f_:Nat}(H:Zs h (.slice a n cap)):Zs h (.slice a m f_):=fun b off _ _ e=>by
 cases e
 exact H b off n cap O

theorem Os.addr{row:α->List Value}{w:Nat}[Rw row w]{E:TypeId}{n:Nat}{l:List α}(H:Os E row (.slice a n cap) l A):(a.map (·.spot)=some none\/a=none)/\l.length<=cap:=by
 rcases H with⟨rfl,e,_⟩ | ⟨β,c,f_,J,e,_,_,h2,_⟩
 ·cases e;exact⟨.inr rfl,Nat.le_refl _⟩
 cases e;exact⟨.inl rfl,h2⟩
theorem Vm(main:aN)(hS:∀S,main.ok S->∃Fin,S=Mn aV Fin)(qJ:main.b=true)(h:Hp)(cZ:List Int)(lv:Value)(Eg:TypeId)(zg:Nat×Nat)(hl:Sl h bY lv cZ)(hg:h 0=some (.cells #[QI kC] Eg zg))(z0:h.z 0):acg aV main lH #[lv] h (.bool true):=by
 refine acg.gX qc O (by show 1<=97;decide) [(0,lv)] ⟨O,trivial⟩ ?_;refine jk ?_;refine c0 (fun h' hE hL=>ags _ h' cZ lv (hl.ext hE)) (fun v A' hv=>?_);obtain⟨bh,s0,rfl,rfl⟩:=hv;refine cg (A:=[(bh,_)]) .head (fun h' hE hL=>aed _ h' cZ lv bh 0 s0 4 (hl.ext hE) dF dF) (fun v A' hv=>?_);obtain⟨D,k1,s1,SO,rfl,uU,-,-,Ob,-,bF⟩:=hv;refine aA.sb (F':=SO) (.trans (.skip O .refl) (.trans bF (.right .refl .nil))) ?_;refine aA.new (fun nP=>?_);refine aA.alf (n:=6) (vs:= #[D.va,I D.ps,D.nS,D.vr,D.vf,D.vm]) ?_ (hc:=by show 0+6<=6;decide) (h1:=Ob.lC);refine qj ?_;refine W.sb (F':=SO++[(nP,.cells #[D.va,I D.ps,D.nS,D.vr,D.vf,D.vm] fC (0,0))]) (.aT (dK (l₂:=[_]))) ?_;refine xI Ob uU hg z0 (fun h1 zD H1=>?_);refine gI ?_;refine c0 (fun h' hE hL=>akr hS qJ h' D (H1.ext hE)) (fun v A' hv=>?_);obtain⟨rfl,bF⟩:=hv;refine aA.sb (.left .refl bF) ?_;refine FT ?_;refine c0 (fun h' hE hL=>ank hS qJ h' D (H1.ext hE)) (fun v A' hv=>?_);obtain⟨zU,vf,vs,vo,S1,S2,S3,rfl,hO1,Ci,hO3,bF⟩:=hv;obtain⟨af,cf,rfl⟩:=hO1.aU;obtain⟨as',LU,rfl⟩:=Ci.aU;obtain⟨ao,co,rfl⟩:=hO3.aU;refine aA.sb (F':=S1++(S2++S3)) (.trans bF (.right .refl (.cons O .nil))) ?_;refine lF ?_;refine aA.new (fun mX=>?_);refine kR ?_;refine Gh (u:=.bool false) (Fe O O O) O O wn O O ?_;refine d_ ?_;refine Gh (u:=.bool false) (Fe O O O) O O (aI O O O) O O ?_;refine jk ?_;have hlen:(stM D.mo.mi).length=(nZ D.mo.mi).length:=by simp[stM]
 refine Gh (u:=.bool false) (Fe O O O) (congrArg Value.bool (decide_eq_false (by rw[hlen];simp))) O (aI O O O) O O ?_;refine d_ ?_;refine W.iq ?_;refine kR ?_;have hlen:(stM D.mo.mi).length=(nZ D.mo.mi).length:=by simp[stM]
 have hn4:=(wI zU).ns
 refine W.sb (F':=S1++(S2++(S3++[(mX,.cells #[.slice af D.fs.length cf,.slice as' (stM D.mo.mi).length LU] j_ (0,0))]))) (.trans (.aT (by
  have e:S1++(S2++(S3++[(mX,Obj.cells #[.slice af D.fs.length cf,.slice as' (stM D.mo.mi).length LU] j_ (0,0))]))=(S1++(S2++S3))++[(mX,Obj.cells #[.slice af D.fs.length cf,.slice as' (stM D.mo.mi).length LU] j_ (0,0))]:=by simp
  rw[e];exact dK (l₂:=[_]))) .refl) ?_
 obtain⟨ayC,ayD⟩:=Ci.addr;refine eY hO1 (fun h2 NY ahc Gq=>?_);refine eY Ci (fun h3 hE3 Oa hz2=>?_);refine eY hO3 (fun h4 Xd auU hz3=>?_);obtain⟨ss,hss⟩:∃ss,stM D.mo.mi=ss:=⟨_,rfl⟩
 obtain⟨ord,auV⟩:∃ord,nZ D.mo.mi=ord:=⟨_,rfl⟩
 obtain⟨late,aoH⟩:∃late,Vb D.mo=late:=⟨_,rfl⟩
 have Xz:late=if xC D.fs ss<0 then xC D.fs ss else ord.getD (xC D.fs ss).toNat 0:=by rw[<-aoH,<-hss,<-auV];rfl
 rw[hss]at ayD Oa zU hn4 hlen⊢;rw[auV]at auU hlen⊢;rw[aoH];have hg4:=((zD.trans NY).trans (hE3.trans Xd)).1 _ _ hg;have z4:=((zD.trans NY).trans (hE3.trans Xd)).2 _ z0;refine W.loop (σ:=Nat) (fun k=>1<=k/\k<=ss.length+1/\∀i,i+1<k->lW D.fs ss (jq i)=true) (fun k=>[(9,I k),(4,I late),(6,aG mX),(7,.slice ao ord.length co)]) (fun _=>[(mX,.cells #[.slice af D.fs.length cf,.slice as' ss.length LU] j_ (0,0))]) (fun k=>ss.length+1-k) 1 ⟨Nat.le_refl _,aj,fun i hi=>by omega⟩ iw .refl ?_;rintro k ⟨hk1,hk2,aO⟩;refine FT ?_;refine W.aJ O (fun c47=>?_) (fun c47=>?_)
 ·refine kJ ?_;refine W.jS (n:=9) O ?_;refine ay 0 ?_;refine ay 1 ?_;refine ay 2 ?_;refine ay 3 ?_;refine ay 4 ?_;refine fJ 5 (WU (m:=k) O O O ayC) O ?_;refine ay 6 ?_;refine ae (i:=7) O an O O (eN O (fun VY=>?_));refine⟨.inr aiJ,?_⟩
  first | refine ae (i:=8) rfl an rfl rfl (eSW rfl rfl rfl ?_) | refine ae (i:=8) rfl an rfl rfl (eSA rfl rfl rfl ?_)
  refine⟨.inl aB,?_⟩;refine az ?_;refine lF ?_;refine c0 (fun h' hE hL=>Zf main hS qJ h' D.fs (ss.take k) (.slice af D.fs.length cf) (.slice as' k LU) Eg zg (ahc.ext ((hE3.trans Xd).trans hE)) (Sl.take (Oa.ext (Xd.trans hE)) aj) (Gq.ext ((hE3.trans Xd).trans hE)) (Zs.take (hz2.ext (Xd.trans hE))) (hE.1 _ _ hg4) (hE.2 _ z4)) (fun v A' hv=>?_);obtain⟨u,S4,rfl,hO4,bF⟩:=hv;have hbo:=U9 (yN k zU);have FQ:(jF D.fs (ss.take k)).1.length=k:=by rw[hbo.2,List.length_take];omega
  have hbe:(jF D.fs (ss.take k)).2.2=0:=by rw[hbo.1]
  rw[hbe];obtain⟨ab,cb,rfl⟩:=hO4.aU;rw[FQ]at hO4⊢;refine aA.sb (bF.app .refl) ?_;refine oz ?_;refine Gh (u:=.bool false) (Fe O O O) O O wn O O ?_;refine lF ?_;refine Gh (u:=.bool false) (Fe O O O) (congrArg Value.bool (decide_eq_false (by simp))) O (aI O O O) O O ?_;refine d_ ?_;refine W.iq ?_;refine jk ?_;have hbd:=ad3 (m:=k) zU aj aj;have hba:=akg (yN k zU);refine eY hO4 (fun h5 hE5 ayF hz4=>?_);refine W.loop (σ:=Nat) (fun j=>j<=k/\∀i b,i<j->(jF D.fs (ss.take k)).1[i]? =some b->0<=b.fl) (fun j=>[(14,I j),(11,.slice ab k cb),(9,I k),(4,I late),(6,aG mX),(7,.slice ao ord.length co)]) (fun _=>[(mX,.cells #[.slice af D.fs.length cf,.slice as' ss.length LU] j_ (0,0))]) (fun j=>k-j) 0 ⟨Nat.zero_le _,fun i b hi=>by omega⟩ iw (by first | exact .refl | exact .skip rfl .refl) ?_;rintro j ⟨hj,CV⟩;refine jk ?_;refine W.aJ O (fun c73=>?_) (fun c73=>?_)
  ·obtain⟨p,hp,-⟩:=has (show j<(jF D.fs (ss.take k)).1.length by omega);obtain⟨b4,ayG,c4,E4,fz4,e4,hb4,hx4,hy4,auW⟩:=Sl.at (show Sl h5 Be.row (.slice ab (jF D.fs (ss.take k)).1.length cb) (jF D.fs (ss.take k)).1 by rw[FQ];exact ayF) hp
   cases e4
   have aAI:c4[ayG+j*2+0]? =some (I p.fl):=auW 0 dF;clear hx4 auW;refine CW ?_;refine W.aJ O (fun c81=>?_) (fun c81=>?_)
   ·have aoN:lW D.fs (ss.take k) BR=false:=by
     rcases hsr:lW D.fs (ss.take k) BR with _ | _
     ·rfl
     have:=hba.2 hsr p (dL hp);omega
    have hle:xC D.fs ss=((k-1:Nat):Int):=am8 aj (by rw[<-hbd];exact aoN) (fun j hj=>aO j aj);obtain⟨q,hq,-⟩:=has (show k-1<ord.length by omega)
    have hlq:late=q:=by
     rw[Xz,if_neg aj,hle,Int.toNat_natCast,List.getD_eq_getElem?_getD,hq];rfl
    obtain⟨b3,ayH,c3,E3,fz3,e3,hb3,hx3,hy3,auX⟩:=auU.at hq
    cases e3
    have aAJ:c3[ayH+(k-1)*1]? =some (I q):=auX 0 dF;clear hx3 auX;replace hb3:=hE5.1 _ _ hb3;refine kJ ?_;refine b_ (Yv.eq (u:=I ((k-1:Nat):Int)) (Vr O O O) (by congr 1;omega)) O ?_;refine d_ ?_;refine Gh (u:=.bool true) (yt O O O) (congrArg Value.bool (decide_eq_true hlq)) O wn O O ?_;refine zT ?_;refine c0 (g:=some _) (fun h' hE hL=>Ve hS qJ h' Eg zg ((hE5.trans hE).1 _ _ hg4) ((hE5.trans hE).2 _ z4)) (fun v A' hv=>?_) (hw:=aI O O O);obtain⟨rfl,aq9⟩:=hv;refine aA.sb (.left .refl aq9) ?_;refine CW ?_;exact lvq (hs:=.cons O .nil) O
   refine kR ?_;refine⟨O,j+1,⟨aj,fun i b hi hb=>?_⟩,aj,iw,.refl⟩;rcases bQ i j with h' | h'
   ·exact CV i b h' hb
   obtain rfl:i=j:=by omega
   rw[hp]at hb
   cases hb
   omega
  refine iC ?_;obtain rfl:j=k:=by omega
  have Lh:lW D.fs (ss.take j) BR=true:=by
   refine hba.1 fun b hb=>?_;obtain⟨i,hi⟩:=List.getElem?_of_mem hb
   have hij:i<j:=by
    rcases bQ i j with h' | h'
    ·exact h'
    rw[fM aj]at hi;cases hi
   exact CV i b hij hi
  refine⟨O,j+1,⟨aj,aj,fun i hi=>?_⟩,aj,iw,.refl⟩;by_cases e:i=j-1
  ·subst e;rw[<-hbd];exact Lh
  exact aO i aj
 refine kR ?_;have hle:xC D.fs ss= -1:=akh (fun j hj=>aO j aj);refine Gh (u:=.bool true) (yt O O O) (congrArg Value.bool (decide_eq_true (by rw[Xz,hle];rfl))) O wn O O ?_;refine zT ?_;refine c0 (g:=some _) (fun h' hE hL=>Ve hS qJ h' Eg zg ((zD.trans hE).1 _ _ hg) ((zD.trans hE).2 _ z0)) (fun v A' hv=>?_) (hw:=aI O O O);obtain⟨rfl,aq9⟩:=hv;refine aA.sb (.left .refl aq9) ?_;refine lF ?_;exact lvq (hs:=.cons O .nil) O
end Go.jc
