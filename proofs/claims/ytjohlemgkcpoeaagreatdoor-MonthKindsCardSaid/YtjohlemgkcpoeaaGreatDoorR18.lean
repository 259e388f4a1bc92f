/- A month out of a hat. Conditions: none; over the given program. (And 9 texts more.) -/
import Derived.Test.YtjohlemgkcpoeaaGreatDoorR17
import Derived.Test.YtjohlemgkcpoeaaGreatDoorR06
import Derived.Test.YtjohlemgkcpoeaaGreatDoorR07
import Derived.Conc.LeavingOf
import Derived.LaidLaws
import Derived.LaidHandle
import Derived.ChangeSlices
import Derived.WideShapes
import Derived.Carry
import Derived.RowKit
import Derived.Conc.HoldsTime
import Derived.Test.YtjohlemgkcpoeaaGreatDoorR10
import Derived.Test.YtjohlemgkcpoeaaGreatDoorCards
import Derived.Test.YtjohlemgkcpoeaaGreatDoorTie
import Derived.SevenTiedAt
set_option linter.unusedVariables false
set_option linter.unusedSimpArgs false
set_option linter.unusedSectionVars false
set_option maxRecDepth 100000
set_option maxHeartbeats 40000000

open Go.Proofs.Tryz
namespace Go.jc
structure yD.OK(D:yD):Prop where
 gk:JC D.gs=0
 pk:0<=D.ps/\D.ps<=63
 sk:jP D.Vj [] D.rs=0
 fk:dU D.fs []=0
 me:∀p∈D.jJ,EU p.2
 m4:D.jJ.length<=4
inductive yD.Own(D:yD):ah->Prop
 | mk {Sa Sp Sr Sf Sm SK:ah}:Os IZ Ag.row D.va D.gs Sa->Os aaO Pn.row D.nS D.Vj Sp->Os aX bY D.vr D.rs Sr->Os A_ Fl.row D.vf D.fs Sf->Os kD yM D.vm D.jJ Sm->OsM D.jJ SK->yD.Own D (Sa++(Sp++(Sr++(Sf++(Sm++SK)))))
variable{A F:ah}{D D':yD}{Eg:TypeId}{N:Mo}{P:Program}{Q:fO}{args:Array Value}{b ba bf bm bp br i j k0 k2 k3:Nat}{c:Code}{ds:List Deferred}{f:FuncId}{fs:List Fl}{k:Int}{ks ks1:List Int}{s:ChangeSpec}{td:List Nat}{u vk:Value}{w':World}{x:Mt}{zg:Nat×Nat}{α:Type}{SK Sa Sf Sk Sm Sr a k1 m p r:List α}{ρ:Env}
theorem yD.Own.shut(H:D.Own A):eH A:=by
 cases H with
 | mk h1 h2 h3 h4 h5 h6=>exact h1.shut.app (h2.shut.app (h3.shut.app (h4.shut.app (h5.shut.app h6.shut))))
theorem xI{x:Cx}(H:D.Own A)(uU:D.OK)(hg:x.h 0=some (.cells #[QI kC] Eg zg))(z0:x.h.z 0)
  (K:∀h',Ext x.h h'->D.At h'->W {x with h:=h'} c Q ρ ds F):W x c Q ρ ds (A++F):=by
 cases H with
 | mk h1 h2 h3 h4 h5 h6=>
  simp only[eF];refine eY h1 fun a e1 s1 y1=>?_;refine eY h2 fun b e2 s2 y2=>?_;refine eY h3 fun c e3 s3 y3=>?_;refine eY h4 fun d e4 s4 y4=>?_;refine eY h5 fun e e5 s5 y5=>?_;refine ZC h6 fun f e6 aO=>?_;have g6:=e6;have g5:=e5.trans g6;have g4:=e4.trans g5;have g3:=e3.trans g4;have g2:=e2.trans g3;have g1:=e1.trans g2;exact K f g1 ⟨s1.ext g2,y1.ext g2,uU.gk,uU.pk,s2.ext g3,s3.ext g4,uU.sk,s4.ext g5,y4.ext g5,uU.fk,s5.ext g6,fun p hp=>⟨(aO p hp).1,(aO p hp).2,uU.me p hp⟩,uU.m4,⟨Eg,zg,g1.1 _ _ hg⟩,g1.2 _ z0⟩

theorem XW:∀{l:List Ag},(∀g∈l,DJ g=0)->FH l=0
 | [],_=>rfl
 | a::l,h=>by
  rw[FH,if_pos (h a (bT ..))];exact XW fun g hg=>h g (dH _ hg)
theorem ahn{ps:List Pn}{rs:List Int}(h1:ps.length<=4)(h2:∀p∈ps,oN p=0)(h3:rs.length=ps.length)(h4:∀r∈rs,0<=r/\r<=20):jP ps [] rs=0:=by
 unfold jP;rw[if_neg (by rw[amN h1 h2];decide),if_neg dF];unfold UF;rw[if_neg aj,if_neg aj,if_neg];rw[Bool.not_eq_true,List.any_eq_false];intro r hr;have:=h4 r hr;rw[decide_eq_true_eq];unfold outs;omega
theorem ace:∀{fs:List Fl},(∀f∈fs,lu f=0)->kV fs=0
 | [],_=>rfl
 | a::l,h=>by
  rw[kV,if_pos (h a (bT ..))];exact ace fun g hg=>h g (dH _ hg)
theorem aec(h:1<=fs.length/\fs.length<=2)(hf:∀f∈fs,lu f=0):dU fs []=0:=by
 unfold dU;rw[if_neg aj,if_neg aj,if_neg (by rw[ace hf];decide),if_neg dF]
 rfl
theorem auO{G:List α}:(Sm++((SK++Sk)++G)).Perm (Sk++(Sm++(SK++G))):=by
 classical
 rw[List.perm_iff_count];intro y;simp only[List.count_append];omega
theorem auP{Sp:List α}:(Sa++(Sp++(Sr++(Sf++(Sm++SK))))).Perm (Sm++(SK++(Sf++(Sr++(Sp++Sa))))):=by
 classical
 rw[List.perm_iff_count];intro y;simp only[List.count_append];omega

theorem aed(main:aN)(h:Hp)(cZ:List Int)(lv:Value)(b k:Nat)(s:Int)(n:Nat)(hl:Sl h bY lv cZ)(hk:k<=100)(hn:n<=4):bG aV main Vz #[aG b,I n] h [(b,jl lv k s)]
  (fun v A=>∃D k' s' S,v=yD.V D/\D.OK/\D.jJ.length<=n/\(∀p∈D.jJ,∀m∈p.2.ks,m<=7)/\D.Own S/\k'<=k+1000/\Sb ((b,jl lv k' s')::S) A):=by
 refine bG.bH func7 [(0,aG b),(1,I n)] ?_;refine d_ ?_;refine aA.new (fun mW=>?_);refine lF ?_;refine cg (A:=[(b,_)]) (.tail .all) (fun h' hE hL=>ab_ _ h' cZ lv b k s (hl.ext hE) aj) (fun v A' hv=>?_);obtain⟨gs,Sa,k1,s1,hOa,hgs,hk1,bF⟩:=hv;obtain⟨aa,ca,rfl⟩:=hOa.aU;refine aA.sb (.cons bF) ?_;refine zT ?_;refine cg (A:=[(b,_)]) (.tail .head) (fun h' hE hL=>agS _ h' cZ lv b k1 s1 3 (hl.ext hE) aj aj) (fun v A' hv=>?_);obtain⟨Vj,Sp,k2,s2,hOp,hps,hk2,bF⟩:=hv;obtain⟨ap,cp',rfl⟩:=hOp.aU;refine aA.sb (.cons (bF.app (D:=Sa) .refl)) ?_;refine zT ?_;refine aA.new (fun iI=>?_);refine gI ?_;refine W.sb (F':=(iI,.cells #[.slice aa gs.length ca,I 0,.slice ap Vj.length cp',.slice none 0 0,.slice none 0 0,.slice none 0 0] fC (0,0))::(mW,.cells #[.slice none 0 0,I 0,.slice none 0 0,.slice none 0 0,.slice none 0 0,.slice none 0 0] fC (0,0))::(b,jl lv k2 s2)::(Sp++Sa)) .refl ?_;refine W.mono (Q:=(fun e gW iT F'=>e= .normal/\iT=[]/\(∃ps rs ar cr Sr k3 s3,Sub [(5,aG iI),(4,aG mW),(0,aG b),(1,I n)] gW/\(0<=ps/\ps<=63)/\Os aX bY (.slice ar rs.length cr) rs Sr/\(rs.length=Vj.length/\∀r∈rs,0<=r/\r<=20)/\k3<=k+400/\Sb ((iI,.cells #[.slice aa gs.length ca,I ps,.slice ap Vj.length cp',.slice ar rs.length cr,.slice none 0 0,.slice none 0 0] fC (0,0))::(mW,.cells #[.slice none 0 0,I 0,.slice none 0 0,.slice none 0 0,.slice none 0 0,.slice none 0 0] fC (0,0))::(b,jl lv k3 s3)::(Sr++(Sp++Sa))) F'))) ?_ ?_
 ·refine W.kQ [] (n:=11) O ?_;refine ay 0 ?_;refine ay 2 ?_;refine ay 3 ?_;refine Any.Vp (i:=1) (j:=4) aB (aK O) (aK O) an an O O O O ?_ ?_
  ·refine(gq (A:=[(b,jl lv k2 s2)]) (args:=[_,_]) O O (.tail (.tail .head)) (fun h' hE hL=>XV _ h' cZ lv b k2 s2 (hl.ext hE) aj) (fun v A' hv=>?_));refine⟨.inr aC.nil,?_⟩;obtain⟨ps,s3,rfl,akB,bF⟩:=hv;refine Any.sb (.cons (.cons (bF.app (D:=Sp++Sa) .refl))) ?_;refine ae (i:=4) rfl an rfl rfl (Ef.YH (CG rfl rfl) ⟨.inr (by first | exact aC.nil | exact aC.refl | exact fun _ h=>h | ((repeat(first | exact fun _ h=>h | apply aC.cons | apply aC.app)) <;>fail) | (repeat(first | exact aC.nil | refine aC.one zS ?_))),?_⟩);refine ay 5 ?_;refine ay 7 ?_;refine ae (i:=6) O an O O (gq (A:=[(b,jl lv (k2+6) s3)]) (args:=[_,_]) O O (.tail (.tail .head)) (fun h' hE hL=>UM _ h' cZ lv b (k2+6) s3 Vj.length (hl.ext hE) aj aj) (fun v A' hv=>?_));refine⟨.inr aC.nil,?_⟩;obtain⟨rs,Sr,k3,s4,hOr,hrs,hk3,bF⟩:=hv;obtain⟨ar,cr,rfl⟩:=hOr.aU;refine Any.sb (.cons (.cons (bF.app (D:=Sp++Sa) .refl))) ?_;refine ae (i:=8) O an O O (eS O O O ?_);refine⟨.inr MR,?_⟩;refine ay 9 ?_;refine ae (i:=10) O an O O (eS O O O ?_);refine⟨.inr MR,?_⟩;refine az ?_;exact⟨O,O,ps,rs,ar,cr,Sr,k3,s4,iw,akB,hOr,hrs,aj,.refl⟩
  refine(Ef.YH (CG rfl rfl) ⟨.inr (by first | exact aC.nil | exact aC.refl | exact fun _ h=>h | ((repeat(first | exact fun _ h=>h | apply aC.cons | apply aC.app)) <;>fail) | (repeat(first | exact aC.nil | refine aC.one zS ?_))),?_⟩);refine ay 5 ?_;refine ae (i:=1) O an O O (gq (A:=[(b,jl lv k2 s2)]) (args:=[_,_]) O O (.tail (.tail .head)) (fun h' hE hL=>XV _ h' cZ lv b k2 s2 (hl.ext hE) aj) (fun v A' hv=>?_));refine⟨.inr aC.nil,?_⟩;obtain⟨ps,s3,rfl,akB,bF⟩:=hv;refine Any.sb (.cons (.cons (bF.app (D:=Sp++Sa) .refl))) ?_;refine ay 7 ?_;refine ae (i:=6) O an O O (gq (A:=[(b,jl lv (k2+6) s3)]) (args:=[_,_]) O O (.tail (.tail .head)) (fun h' hE hL=>UM _ h' cZ lv b (k2+6) s3 Vj.length (hl.ext hE) aj aj) (fun v A' hv=>?_));refine⟨.inr aC.nil,?_⟩;obtain⟨rs,Sr,k3,s4,hOr,hrs,hk3,bF⟩:=hv;obtain⟨ar,cr,rfl⟩:=hOr.aU;refine Any.sb (.cons (.cons (bF.app (D:=Sp++Sa) .refl))) ?_;refine ae (i:=8) O an O O (eS O O O ?_);refine⟨.inr MR,?_⟩;refine ay 9 ?_;refine ae (i:=10) O an O O (eS O O O ?_);refine⟨.inr MR,?_⟩;refine az ?_;exact⟨O,O,ps,rs,ar,cr,Sr,k3,s4,iw,akB,hOr,hrs,aj,.refl⟩
 rintro e gW iT F' ⟨rfl,rfl,ps,rs,ar,cr,Sr,k3,s3,zD,akB,hOr,hrs,hk3,UO⟩;refine gI ?_;refine W.env zD (W.sb UO ?_);refine d_ ?_;refine cg (A:=[(b,_)]) (.tail (.tail .head)) (fun h' hE hL=>oM _ h' cZ lv b k3 s3 1 2 (hl.ext hE) aj aj) (fun v A' hv=>?_);obtain⟨r,s4,rfl,hr,bF⟩:=hv;refine aA.sb (.cons (.cons (bF.app (D:=Sr++(Sp++Sa)) .refl))) ?_;obtain⟨m,rfl⟩:∃m:Nat,r=m:=⟨r.toNat,aj⟩
 refine gI ?_;obtain⟨G,hG⟩:∃G,Sr++(Sp++Sa)=G:=⟨_,rfl⟩
 rw[hG]
 refine W.uq (σ:=Nat) (τ:=List Fl×Value×ah) (υ:=Nat×Int) (fun i t u=>i<=2/\Os A_ Fl.row t.2.1 t.1 t.2.2/\(∀f∈t.1,lu f=0)/\t.1.length+i=m/\u.1+6*i=k3+1+6*m) (fun i _ _=>[(6,I i),(5,aG iI),(4,aG mW),(0,aG b),(1,I n)])
  (fun _ t u=>(iI,.cells #[.slice aa gs.length ca,I ps,.slice ap Vj.length cp',.slice ar rs.length cr,t.2.1,.slice none 0 0] fC (0,0))::(mW,.cells #[.slice none 0 0,I 0,.slice none 0 0,.slice none 0 0,.slice none 0 0,.slice none 0 0] fC (0,0))::(b,jl lv u.1 u.2)::(t.2.2++G)) (fun i _ _=>i) m ([],.slice none 0 0,[]) (k3+1,s4) ⟨aj,.nil .nil,(fun f hf=>by cases hf),by simp,by simp⟩ iw .refl ?_
 rintro i ⟨fs,vf,Sf⟩ ⟨k4,s5⟩ ⟨hi,hOf,hcf,CV,QH⟩;simp only at hOf hcf CV QH⊢;obtain⟨af,cf,rfl⟩:=hOf.aU;refine lg ?_;refine W.aJ O (fun JW=>?_) (fun JW=>?_)
 ·skip
  refine lF ?_;refine W.O6 (n:=8) O ?_;refine ay 0 ?_;refine ay 1 ?_;refine ay 2 ?_;refine ae (i:=3) O an O O (gq (A:=[(b,_)]) (args:=[_]) O O (.tail (.tail .head)) (fun h' hE hL=>aeb _ h' cZ lv b k4 s5 (hl.ext hE) aj) (fun v A' hv=>?_));refine⟨.inr (aC.one (.head _) aC.nil),?_⟩;obtain⟨f,s6,rfl,ays,bF⟩:=hv;refine Any.sb (.cons (.cons (bF.app (D:=Sf++G) .refl))) ?_;refine abl (i:=4) (cs:= #[I f.pl,I f.lo,I f.hi,I f.co]) (fun ayt=>?_) O;refine ae (i:=5) O an O O (bV (row:=Fl.row) (l':=[f]) O O O hOf (.tail (.tail (.tail (.tail .head)))) (fun h2 _ hl=>Sl.mk (hl ayt _ (.head _)) O (Part.all (flat Fl.row [f]))) (by simp;omega) dF O (fun v' S' xM=>?_));refine⟨.inr (aC.one (.tail _ (.head _)) aC.nil),?_⟩;have mM:one v'=true:=by obtain⟨_,_,rfl⟩:=xM.aU;rfl
  refine ay 6 ?_;refine ae (i:=7) O an O O (eS O O O ?_);refine⟨.inl aB,?_⟩;refine az ?_;refine jk ?_;refine⟨O,i-1,(fs++[f],v',S'),(k4+6,s6),⟨aj,xM,fun g hg=>?_,by simp;omega,by simp only;omega⟩,aj,⟨lk O (show I _=I _ by congr 1;omega),O,O,O,O,trivial⟩,.skip O .refl⟩;rcases dh.1 hg with hg | hg
  ·exact hcf g hg
  rw[dP.1 hg];exact ays
 obtain rfl:i=0:=by omega
 refine gZ ?_;refine cg (A:=[(b,_)]) (.tail (.tail .head)) (fun h' hE hL=>oM _ h' cZ lv b k4 s5 0 n (hl.ext hE) aj aj) (fun v A' hv=>?_);obtain⟨r,s6,rfl,hr2,bF⟩:=hv;refine aA.sb (.cons (.cons (bF.app (D:=Sf++G) .refl))) ?_;obtain⟨q,rfl⟩:∃q:Nat,r=q:=⟨r.toNat,aj⟩
 refine gI ?_;obtain⟨G2,hG2⟩:∃G2,Sf++G=G2:=⟨_,rfl⟩
 rw[hG2]
 refine W.uq (σ:=Nat) (τ:=List (Value×Mt)×Value×ah×ah) (υ:=Nat×Int) (fun i t u=>i<=4/\Os kD yM t.2.1 t.1 t.2.2.1/\OsM t.1 t.2.2.2/\(∀p∈t.1,EU p.2/\∀n∈p.2.ks,n<=7)/\t.1.length+i=q/\u.1+20*i<=k4+1+20*q) (fun i _ _=>[(7,I i),(5,aG iI),(4,aG mW),(0,aG b)])
  (fun _ t u=>(iI,.cells #[.slice aa gs.length ca,I ps,.slice ap Vj.length cp',.slice ar rs.length cr,.slice af fs.length cf,t.2.1] fC (0,0))::(mW,.cells #[.slice none 0 0,I 0,.slice none 0 0,.slice none 0 0,.slice none 0 0,.slice none 0 0] fC (0,0))::(b,jl lv u.1 u.2)::(t.2.2.1++(t.2.2.2++G2))) (fun i _ _=>i) q ([],.slice none 0 0,[],[]) (k4+1,s6) ⟨aj,.nil .nil,.nil,(fun f hf=>by cases hf),by simp,by simp⟩ iw .refl ?_
 rintro i ⟨jJ,vm,Sm,SK⟩ ⟨k5,s7⟩ ⟨hi2,hOm,hOK,hmt,hml,hk5⟩;simp only at hOm hOK hmt hml hk5⊢;obtain⟨am,cm,rfl⟩:=hOm.aU;refine lg ?_;refine W.aJ O (fun Wj=>?_) (fun Wj=>?_)
 ·skip
  refine lF ?_;refine W.O6 (n:=8) O ?_;refine ay 0 ?_;refine ay 1 ?_;refine ay 2 ?_;refine ae (i:=3) O an O O (gq (A:=[(b,_)]) (args:=[_]) O O (.tail (.tail .head)) (fun h' hE hL=>ZE _ h' cZ lv b k5 s7 (hl.ext hE) aj) (fun v A' hv=>?_));refine⟨.inr (aC.one (.head _) aC.nil),?_⟩;obtain⟨kv,x,Sk,k6,s8,rfl,hOk,hx,hx7,hk6,bF⟩:=hv;obtain⟨ak,ck,rfl⟩:=hOk.aU;refine Any.sb (.cons (.cons (bF.app (D:=Sm++(SK++G2)) .refl))) ?_;refine abl (i:=4) (cs:= #[.slice ak x.ks.length ck,I x.d,I x.co,I x.wa,I x.qu]) (fun Le=>?_) O;refine ae (i:=5) O an O O (bV (row:=yM) (l':=[(.slice ak x.ks.length ck,x)]) O O O hOm (.tail (.tail (.tail (.tail (.app .head))))) (fun h2 _ hl=>Sl.mk (hl Le _ (.head _)) O (Part.all (flat yM [(.slice ak x.ks.length ck,x)]))) (by simp;omega) dF O (fun v' S' xM=>?_));refine⟨.inr (aC.one (.tail _ (.head _)) aC.nil),?_⟩;have mM:one v'=true:=by obtain⟨_,_,rfl⟩:=xM.aU;rfl
  refine ay 6 ?_;refine ae (i:=7) O an O O (eS O O O ?_);refine⟨.inl aB,?_⟩;refine az ?_;refine jk ?_;refine⟨O,i-1,(jJ++[(.slice ak x.ks.length ck,x)],v',S',SK++Sk),(k6,s8),⟨aj,xM,hOK.snoc hOk,fun g hg=>?_,by simp;omega,by simp only;omega⟩,aj,⟨lk O (show I _=I _ by congr 1;omega),O,O,O,trivial⟩,.skip O (.cons (.cons (.cons (.aT auO))))⟩;rcases dh.1 hg with hg | hg
  ·exact hmt g hg
  rw[dP.1 hg];exact⟨hx,hx7⟩
 obtain rfl:i=0:=by omega
 refine iC ?_;subst hG2 hG;refine AY (hv:=qU nM) ⟨⟨.slice aa gs.length ca,.slice ap Vj.length cp',.slice ar rs.length cr,.slice af fs.length cf,.slice am jJ.length cm,ps,gs,Vj,rs,fs,jJ⟩,k5,s7,_,O,⟨?_,akB,ahn (by show Vj.length<=4;omega) hps.2 hrs.1 hrs.2,aec (by show 1<=fs.length/\fs.length<=2;omega) hcf,fun p hp=>(hmt p hp).1,by show jJ.length<=4;omega⟩,by show jJ.length<=n;omega,fun p hp=>(hmt p hp).2,.mk hOa hOp hOr hOf hOm hOK,aj,.skip O (.skip O (.cons (.aT auP)))⟩;show JC gs=0;unfold JC;rw[if_neg aj];exact XW hgs.2
structure yD.alB(D D':yD):Prop where
 gs:D'.gs=D.gs
 ps:D'.ps=D.ps
 Vj:D'.Vj=D.Vj
 rs:D'.rs=D.rs
 fs:D'.fs=D.fs
 mts:D'.jJ.map (·.2)=D.jJ.map (·.2)
theorem yD.alB.ok(H:D.alB D'){h:Hp}(hA:D.At h):D'.OK:=by
 refine⟨by rw[H.gs];exact hA.gk,by rw[H.ps];exact hA.pk,by rw[H.Vj,H.rs];exact hA.sk,by rw[H.fs];exact hA.fk,fun p hp=>?_,?_⟩
 ·have:p.2∈D'.jJ.map (·.2):=List.mem_map.2 ⟨p,hp,O⟩;rw[H.mts]at this;obtain⟨q,hq,e⟩:=List.mem_map.1 this;exact e▸(hA.me q hq).2.2
 have:=congrArg List.length H.mts;rw[List.length_map,List.length_map]at this;rw[this];exact hA.m4
theorem yD.alB.mo(H:D.alB D'):D'.mo=D.mo:=by
 unfold yD.mo;rw[H.gs,H.ps,H.fs,H.mts]
theorem Sb.pl{T:ah}{U:ah->ah}(h:L8 A F U)(k:Sb T (U [])):Sb (A++T) F:=
 .trans (Sb.app .refl k) (.aT h.perm.1)
theorem yD.Own.alD(H:D.Own A):lC #[D.va,I D.ps,D.nS,D.vr,D.vf,D.vm].toList=true:=by
 cases H with
 | mk h1 h2 h3 h4 h5 h6=>
  obtain⟨_,_,e1⟩:=h1.aU;obtain⟨_,_,e2⟩:=h2.aU;obtain⟨_,_,e3⟩:=h3.aU;obtain⟨_,_,e4⟩:=h4.aU;obtain⟨_,_,e5⟩:=h5.aU;rw[e1,e2,e3,e4,e5];rfl
theorem ase{p q r:α}{G:List α}:(Sk++(p::q::r::(Sm++(SK++G)))).Perm (p::q::r::(Sm++((SK++Sk)++G))):=by
 classical
 rw[List.perm_iff_count];intro y;simp only[List.count_append,List.count_cons];omega
theorem asf{Sp:List α}:(Sm++(SK++(Sa++(Sp++(Sr++Sf))))).Perm (Sa++(Sp++(Sr++(Sf++(Sm++SK))))):=by
 classical
 rw[List.perm_iff_count];intro y;simp only[List.count_append];omega
theorem avS{E:TypeId}{row:α->List Value}{w:Nat}[Rw row w]{β:Nat}:Os E row (.slice (some ⟨β,0,none⟩) 0 0) ([]:List α) [(β,.cells #[] E (0,0))]:=.inr ⟨β, #[],0,[],O,O,(Nat.zero_mul w).symm,Nat.le_refl _,Part.all [],.nil⟩

theorem aez(main:aN)(h:Hp)(D:yD)(H:D.At h):bG aV main acy #[D.V] h [] (fun v A=>∃D' S,v=yD.V D'/\D.alB D'/\D'.Own S/\Sb S A):=by
 refine bG.bH func13 [(0,D.V)] ?_;have hm4:=H.m4;have CV:(2*(([]:List Fl).length+D.fs.length)+768)*32<=2 ^ 48:=by have:=(Uf H.fk).2.1;simp;omega
 have hg4:=(Iq.xE H.gk).len;refine d_ ?_;refine aA.box (fun vg=>?_);refine aA.new (fun oJ=>?_);refine qj ?_;refine W.sb (F':=(vg,.cells #[D.va,I D.ps,D.nS,D.vr,D.vf,D.vm] fC (0,0))::(oJ,.cells #[.slice none 0 0,I 0,.slice none 0 0,.slice none 0 0,.slice none 0 0,.slice none 0 0] fC (0,0))::[]) (.aT (.swap ..)) ?_;refine W.freeze O (fun h1 zD hb1 _=>?_);have H1:=H.ext zD;refine W.seq ?_;refine W.mono (Q:=(fun e gW iT F'=>e= .normal/\iT=[]/\(∃nP va nS vr vf Sa Sp Sr Sf,Sub [(3,aG nP),(1,aG vg),(2,aG oJ)] gW/\(Os IZ Ag.row va D.gs Sa/\Os aaO Pn.row nS D.Vj Sp/\Os aX bY vr D.rs Sr/\Os A_ Fl.row vf D.fs Sf)/\Sb ((nP,.cells #[va,I D.ps,nS,vr,vf,.slice none 0 0] fC (0,0))::(oJ,.cells #[.slice none 0 0,I 0,.slice none 0 0,.slice none 0 0,.slice none 0 0,.slice none 0 0] fC (0,0))::(Sa++(Sp++(Sr++Sf)))) F'))) ?_ ?_
 ·refine W.kQ [] (n:=18) O ?_;refine ay 0 ?_;refine ay 1 ?_;refine ay 3 ?_;refine ay 4 ?_;refine ay 5 ?_;refine ay 6 ?_;refine ay 8 ?_;refine ay 9 ?_;refine ay 12 ?_;refine ay 13 ?_
  iterate 7
   all_goals first
    | ((with_reducible show Any _ _ _ 8 _ _ _ _ _);refine Any.arX (i:=2) (j:=11) (k:=16) (by decide+kernel) (aK rfl) (aK rfl) (aK rfl) an an an rfl rfl rfl rfl rfl rfl ?_ ?_ ?_)
    | ((with_reducible show Any _ _ _ 7 _ _ _ _ _);first | refine Any.arX (i:=7) (j:=11) (k:=16) (by decide+kernel) (aK rfl) (aK rfl) (aK rfl) an an an rfl rfl rfl rfl rfl rfl ?_ ?_ ?_ | refine Any.Vp (i:=2) (j:=11) (by decide+kernel) (aK rfl) (aK rfl) an an rfl rfl rfl rfl ?_ ?_ | refine Any.Vp (i:=2) (j:=16) (by decide+kernel) (aK rfl) (aK rfl) an an rfl rfl rfl rfl ?_ ?_)
    | ((with_reducible show Any _ _ _ 6 _ _ _ _ _);first | refine Any.arX (i:=10) (j:=11) (k:=16) (by decide+kernel) (aK rfl) (aK rfl) (aK rfl) an an an rfl rfl rfl rfl rfl rfl ?_ ?_ ?_ | refine Any.Vp (i:=7) (j:=11) (by decide+kernel) (aK rfl) (aK rfl) an an rfl rfl rfl rfl ?_ ?_ | refine Any.Vp (i:=7) (j:=16) (by decide+kernel) (aK rfl) (aK rfl) an an rfl rfl rfl rfl ?_ ?_ | refine ae (i:=2) rfl an rfl rfl ?_ (hr:=by decide+kernel))
    | ((with_reducible show Any _ _ _ 5 _ _ _ _ _);first | refine Any.Vp (i:=10) (j:=11) (by decide+kernel) (aK rfl) (aK rfl) an an rfl rfl rfl rfl ?_ ?_ | refine Any.Vp (i:=10) (j:=16) (by decide+kernel) (aK rfl) (aK rfl) an an rfl rfl rfl rfl ?_ ?_ | refine Any.Vp (i:=11) (j:=16) (by decide+kernel) (aK rfl) (aK rfl) an an rfl rfl rfl rfl ?_ ?_ | refine ae (i:=7) rfl an rfl rfl ?_ (hr:=by decide+kernel))
    | ((with_reducible show Any _ _ _ 4 _ _ _ _ _);first | refine Any.Vp (i:=14) (j:=16) (by decide+kernel) (aK rfl) (aK rfl) an an rfl rfl rfl rfl ?_ ?_ | refine ae (i:=10) rfl an rfl rfl ?_ (hr:=by decide+kernel) | refine ae (i:=11) rfl an rfl rfl ?_ (hr:=by decide+kernel))
    | ((with_reducible show Any _ _ _ 3 _ _ _ _ _);refine ae (i:=14) rfl an rfl rfl ?_ (hr:=by decide+kernel))
    | ((with_reducible show Any _ _ _ 2 _ _ _ _ _);refine ae (i:=16) rfl an rfl rfl ?_ (hr:=by decide+kernel))
    | ((with_reducible show Any _ _ _ 1 _ _ _ _ _);refine ae (i:=17) rfl an rfl rfl ?_ (hr:=by decide+kernel))
   all_goals first
    | (
      refine oL (args:=[_]) O O (fun h' hE hL=>ade _ h' D.gs _ (H1.ga.ext hE) aj) (fun v A' hv=>⟨.inr aC.nil,?_⟩);obtain⟨Sa,hOa,bF⟩:=hv;obtain⟨aa,ca,rfl⟩:=hOa.aU;refine Any.sb (bF.app .refl) ?_)
    | (
      refine oL (args:=[_]) O O (fun h' hE hL=>ahl _ h' D.Vj _ (H1.pn.ext hE) (by have:=(amM H.sk).1.len;omega)) (fun v A' hv=>⟨.inr aC.nil,?_⟩);obtain⟨Sp,hOp,bF⟩:=hv;obtain⟨ap,cp',rfl⟩:=hOp.aU;refine Any.sb (bF.app .refl) ?_)
    | (
      refine oL (args:=[_]) O O (fun h' hE hL=>acz _ h' D.rs _ (H1.rr.ext hE) (by have:=(amM H.sk).1.len;have:=(amM H.sk).2.2.len;omega)) (fun v A' hv=>⟨.inr aC.nil,?_⟩);obtain⟨Sr,hOr,bF⟩:=hv;obtain⟨ar,cr,rfl⟩:=hOr.aU;refine Any.sb (bF.app .refl) ?_)
    | (refine Vq rfl (fun agT _ _=>⟨.inr aC.nil,?_⟩))
    | (refine eN rfl (fun nP=>⟨.inr aC.nil,?_⟩))
    | (
      refine bV (row:=Fl.row) (l:=[]) (l':=D.fs) rfl rfl rfl (avS (β:=agT)) (by repeat(first | exact .head | apply L8.tail | apply L8.app)) (fun h2 hE _=>H1.ff.ext hE) CV dF rfl (fun v' Sf hOf=>⟨.inr aC.nil,?_⟩);rw[List.nil_append]at hOf;obtain⟨af,cf,rfl⟩:=hOf.aU;refine aq (i:=15) (dw rfl rfl rfl) rfl an rfl rfl ?_)
    | (
      refine eSA (n:=6) (vs:= #[.slice aa D.gs.length ca,I D.ps,.slice ap D.Vj.length cp',.slice ar D.rs.length cr,.slice af D.fs.length cf,.slice none 0 0]) O O O ⟨.inr aC.nil,?_⟩;refine az ?_;refine⟨O,O,nP,_,_,_,_,Sa,Sp,Sr,Sf,⟨rfl,rfl,rfl,trivial⟩,⟨hOa,hOp,hOr,hOf⟩,?_⟩;refine Sb.pl (A:=[_]) (by repeat(first | exact .head | apply L8.tail | apply L8.app)) (Sb.pl (A:=[_]) (by repeat(first | exact .head | apply L8.tail | apply L8.app)) ?_);refine Sb.pl (A:=Sa) (by repeat(first | exact .head | apply L8.tail | apply L8.app)) (Sb.pl (A:=Sp) (by repeat(first | exact .head | apply L8.tail | apply L8.app)) ?_);exact Sb.pl (A:=Sr) (by repeat(first | exact .head | apply L8.tail | apply L8.app)) (Sb.aT (by simp))
      )
 rintro e gW iT F' ⟨rfl,rfl,nP,va,nS,vr,vf,Sa,Sp,Sr,Sf,NY,⟨hOa,hOp,hOr,hOf⟩,UO⟩;refine gI ?_;refine W.env NY (W.sb UO ?_);obtain⟨am,cm,em⟩:=H.mm.aU;have hmm:=H1.mm;rw[em]at hmm hb1;refine lF ?_;obtain⟨G,hG⟩:∃G,Sa++(Sp++(Sr++Sf))=G:=⟨_,rfl⟩
 rw[hG]
 refine W.loop (σ:=Nat×List (Value×Mt)×Value×ah×ah) (fun s=>s.1<=D.jJ.length/\Os kD yM s.2.2.1 s.2.1 s.2.2.2.1/\OsM s.2.1 s.2.2.2.2/\s.2.1.map (·.2)=(D.jJ.take s.1).map (·.2)) (fun s=>[(4,I s.1),(3,aG nP),(1,aG vg),(2,aG oJ)])
  (fun s=>(nP,.cells #[va,I D.ps,nS,vr,vf,s.2.2.1] fC (0,0))::(oJ,.cells #[.slice none 0 0,I 0,.slice none 0 0,.slice none 0 0,.slice none 0 0,.slice none 0 0] fC (0,0))::(s.2.2.2.1++(s.2.2.2.2++G))) (fun s=>D.jJ.length-s.1) (0,[],.slice none 0 0,[],[]) ⟨Nat.zero_le _,.nil .nil,.nil,O⟩ iw .refl ?_
 rintro⟨k,ms,vm',Sm,SK⟩ ⟨hk,hOm,hOK,hms⟩;simp only at hk hOm hOK hms⊢;obtain⟨am',cm',rfl⟩:=hOm.aU;refine FT ?_;refine W.aJ O (fun Rf=>?_) (fun Rf=>?_)
 ·have zI:k<D.jJ.length:=by omega
  obtain⟨⟨kv,x⟩,hp,yI⟩:=has zI;obtain⟨Tf,zks,uU⟩:=H1.me _ (dL hp);obtain⟨b,off,c,E,fz,rfl,hb,hx,hy,hz⟩:=hmm.at hp;have okv:=Tf.one;rw[Iw okv]at hx;have Aq:c.extract (off+k*5) (off+k*5+5)= #[kv,I x.d,I x.co,I x.wa,I x.qu]:=hx;have hmk:ms.length=k:=by have:=congrArg List.length hms;simpa[Nat.min_eq_left hk]using this
  have hk3:x.ks.length<=3:=uU.k3;clear hx hz;refine iC ?_;refine aA.new (fun iI=>?_);refine aA.Yi (vs:= #[kv,I x.d,I x.co,I x.wa,I x.qu]) ?_ (h1:=by show(one kv&&true)=true;rw[okv];rfl);refine kJ ?_;refine c0 (fun h' hE hL=>acz _ h' x.ks kv (Tf.ext hE) aj) (fun v A' hv=>?_);obtain⟨Sk,hOk,bF⟩:=hv;obtain⟨ak,ck,rfl⟩:=hOk.aU;refine aA.sb (F':=(iI,_)::(nP,.cells #[va,I D.ps,nS,vr,vf,.slice am' ms.length cm'] fC (0,0))::(oJ,_)::(Sm++((SK++Sk)++G))) (.trans (.aT ase.symm) (bF.app .refl)) ?_;refine jk ?_;refine aA.zZ (cs:= #[.slice ak x.ks.length ck,I x.d,I x.co,I x.wa,I x.qu]) (fun azN=>?_) O;refine oe O wn O O (bV (row:=yM) (l':=[(.slice ak x.ks.length ck,x)]) O O O hOm (.tail (.tail (.tail (.tail .head)))) (fun h2 _ hl=>Sl.mk (hl azN _ (.head _)) O (Part.all (flat yM [(.slice ak x.ks.length ck,x)]))) (by simp;omega) dF O (fun v' S' xM=>?_));have mM:one v'=true:=by obtain⟨_,_,rfl⟩:=xM.aU;rfl
  refine awJ O ?_;refine aA.sto ?_ (h1:=mM);refine aA.nil<|iE<|fH<|W.region rfl<|aiH rfl rfl rfl ?_;refine gI ?_;refine⟨O,(k+1,ms++[(.slice ak x.ks.length ck,x)],v',S',SK++Sk),⟨zI,xM,hOK.snoc hOk,?_⟩,by simp only;omega,iw,.skip O (.trans .refl (.skip O .refl))⟩;simp only;rw[List.map_append,hms,List.take_add_one,hp];simp
 obtain rfl:k=D.jJ.length:=by omega
 rw[List.take_length]at hms;have Ob:yD.Own ⟨va,nS,vr,vf,.slice am' ms.length cm',D.ps,D.gs,D.Vj,D.rs,D.fs,ms⟩ _:=.mk hOa hOp hOr hOf hOm hOK;refine kR ?_;refine aA.alf (n:=6) (vs:= #[va,I D.ps,nS,vr,vf,.slice am' ms.length cm']) ?_ (hc:=by show 0+6<=6;decide) (h1:=Ob.alD);refine d_ ?_;subst hG;exact AY (hv:=qU nM) ⟨⟨va,nS,vr,vf,.slice am' ms.length cm',D.ps,D.gs,D.Vj,D.rs,D.fs,ms⟩,_,O,⟨O,O,O,O,O,hms⟩,Ob,.skip O (.skip O (.aT asf.symm))⟩
def aq2:List Ag:=[⟨1,0,1,2,1⟩,⟨2,4,2,0,2⟩,⟨4,0,4,1,1⟩,⟨6,1,6,0,5⟩]
def akC:List Pn:=[⟨8,12,-3⟩,⟨4,9,-3⟩,⟨2,5,2⟩]
def aq3:List Int:=[6,6,2]
def akD(c0:Int):List Fl:=[⟨4,2,3,c0⟩,⟨3,3,5,2⟩]
def auQ(ks1:List Int):List Mt:=[⟨[0],0,3,0,9⟩,⟨ks1,0,2,1,8⟩,⟨[1,3],1,4,1,4⟩,⟨[6],5,2,0,1⟩]
def acf(c0:Int)(ks1:List Int):Mo:=⟨aq2,0,akD c0,auQ ks1⟩
theorem aq4:(acf 1 [2]).way 2=some [0,1]:=by kernel_rfl
theorem afD:uQ (acf 1 [2]).mi=[⟨0,0⟩,⟨1,1⟩,⟨0,3⟩,⟨0,6⟩]/\(jF (akD 1) (stM (acf 1 [2]).mi)).2.1=11:=⟨aB,aB⟩
theorem anm:(acf 1 [2]).cost=10:=by kernel_rfl
theorem akE:sD akC (acf 1 [2]).JE aq3=([0,0,1,-1],9,0):=by kernel_rfl
theorem ano:Vb (acf 0 [2])=2:=by kernel_rfl
theorem akF:(acf 1 [2,6]).worth 1 [2,6] 2=some (2,2):=by kernel_rfl
abbrev yR(b n:Nat):Value:=.slice (some ⟨b,0,none⟩) n n
def ZF(ba bp br bf bm k0 k2 k3:Nat)(c0:Int)(vk:Value):ah:=
 [(ba,.cells #[I 1,I 0,I 1,I 2,I 1,I 2,I 4,I 2,I 0,I 2,I 4,I 0,I 4,I 1,I 1,I 6,I 1,I 6,I 0,I 5] IZ (0,0)),(bp,.cells #[I 8,I 12,I (-3),I 4,I 9,I (-3),I 2,I 5,I 2] aaO (0,0)),(br,.cells #[I 6,I 6,I 2] aX (0,0)),
  (bf,.cells #[I 4,I 2,I 3,I c0,I 3,I 3,I 5,I 2] A_ (0,0)),
  (bm,.cells #[yR k0 1,I 0,I 3,I 0,I 9,vk,I 0,I 2,I 1,I 8,yR k2 2,I 1,I 4,I 1,I 4,yR k3 1,I 5,I 2,I 0,I 1] kD (0,0)),(k0,.cells #[I 0] aX (0,0)),(k2,.cells #[I 1,I 3] aX (0,0)),(k3,.cells #[I 6] aX (0,0))]
abbrev exV(ba bp br bf bm:Nat):Value:=.agg #[yR ba 4,I 0,yR bp 3,yR br 3,yR bf 2,yR bm 4]
theorem aq5{f k0 k2 k3 z:List α}:(((a++(p++(r++(f++(m++(k0++(k2++k3)))))))++k1)++z).Perm (m++(k3++(k2++(k1++(k0++(f++(r++(p++(a++z))))))))):=by
 classical
 rw[List.perm_iff_count];intro y;simp only[List.count_append];omega
theorem aho(main:aN)(h:Hp):bG aV main alM #[] h [] (fun v A=>∃ba bp br bf bm k0 k1 k2 k3,v=exV ba bp br bf bm/\Sb (ZF ba bp br bf bm k0 k2 k3 1 (yR k1 1)++[(k1,.cells #[I 2] aX (0,0))]) A):=by
 refine bG.bH func29 [] ?_;refine d_ ?_;refine aA.new (fun β0=>?_);refine gI ?_;refine b_ (dw (cs:= #[I 1,I 0,I 1,I 2,I 1]) O O aB) O ?_;refine b_ (dw (cs:= #[I 2,I 4,I 2,I 0,I 2]) O O aB) O ?_;refine b_ (dw (cs:= #[I 4,I 0,I 4,I 1,I 1]) O O aB) O ?_;refine b_ (dw (cs:= #[I 6,I 1,I 6,I 0,I 5]) O O aB) O ?_;refine aA.zZ (cs:= #[I 1,I 0,I 1,I 2,I 1,I 2,I 4,I 2,I 0,I 2,I 4,I 0,I 4,I 1,I 1,I 6,I 1,I 6,I 0,I 5]) (fun iI=>?_) O (hf:=by kernel_rfl);refine b_ (dw (cs:= #[I 8,I 12,I (-3)]) O O aB) O ?_;refine b_ (dw (cs:= #[I 4,I 9,I (-3)]) O O aB) O ?_;refine b_ (dw (cs:= #[I 2,I 5,I 2]) O O aB) O ?_;refine aA.zZ (cs:= #[I 8,I 12,I (-3),I 4,I 9,I (-3),I 2,I 5,I 2]) (fun Oi=>?_) O (hf:=by kernel_rfl);refine aA.zZ (cs:= #[I 6,I 6,I 2]) (fun VY=>?_) O (hf:=by kernel_rfl);refine b_ (dw (cs:= #[I 2,I 3]) O O aB) O ?_;refine b_ (dw (cs:= #[I 4,I 2,I 3,I 1]) O O aB) O ?_;refine b_ (dw (cs:= #[I 3,I 5]) O O aB) O ?_;refine b_ (dw (cs:= #[I 3,I 3,I 5,I 2]) O O aB) O ?_;refine aA.zZ (cs:= #[I 4,I 2,I 3,I 1,I 3,I 3,I 5,I 2]) (fun akA=>?_) O (hf:=by kernel_rfl);refine aA.zZ (cs:= #[I 0]) (fun ajV=>?_) O (hf:=by kernel_rfl);refine b_ (dw (cs:= #[yR ajV 1,I 0,I 3,I 0,I 9]) O O aB) O ?_;refine aA.zZ (cs:= #[I 2]) (fun abw=>?_) O (hf:=by kernel_rfl);refine b_ (dw (cs:= #[yR abw 1,I 0,I 2,I 1,I 8]) O O aB) O ?_;refine aA.zZ (cs:= #[I 1,I 3]) (fun mP=>?_) O (hf:=by kernel_rfl);refine b_ (dw (cs:= #[yR mP 2,I 1,I 4,I 1,I 4]) O O aB) O ?_;refine aA.zZ (cs:= #[I 6]) (fun pW=>?_) O (hf:=by kernel_rfl);refine b_ (dw (cs:= #[yR pW 1,I 5,I 2,I 0,I 1]) O O aB) O ?_;refine aA.zZ (cs:= #[yR ajV 1,I 0,I 3,I 0,I 9,yR abw 1,I 0,I 2,I 1,I 8,yR mP 2,I 1,I 4,I 1,I 4,yR pW 1,I 5,I 2,I 0,I 1]) (fun ajY=>?_) O (hf:=by kernel_rfl);refine b_ (dw (cs:= #[yR iI 4,I 0,yR Oi 3,yR VY 3,yR akA 2,yR ajY 4]) O O aB) O ?_;refine gI ?_;refine AY (hv:=qU nM) ⟨iI,Oi,VY,akA,ajY,ajV,abw,mP,pW,O,?_⟩;exact .trans (.right (C:=[(β0,Obj.cells #[yR iI 4,I 0,yR Oi 3,yR VY 3,yR akA 2,yR ajY 4] 30 (0,0))]) .refl (.cons O .nil)) (.aT (aq5 (a:=[_]) (p:=[_]) (r:=[_]) (f:=[_]) (m:=[_]) (k0:=[_]) (k1:=[_]) (k2:=[_]) (k3:=[_]) (z:=[_])))

theorem ayw(main:aN)(h:Hp):bG aV main alN #[] h [] (fun v A=>∃ba bp br bf bm k0 k1 k2 k3,v=exV ba bp br bf bm/\Sb (ZF ba bp br bf bm k0 k2 k3 0 (yR k1 1)++[(k1,.cells #[I 2] aX (0,0))]) A):=by
 refine bG.bH func30 [] ?_;refine d_ ?_;refine aA.new (fun β0=>?_);refine gI ?_;refine c0 (fun h' hE hL=>aho _ h') (fun v A' hv=>?_);obtain⟨ba,bp,br,bf,bm,k0,k1,k2,k3,rfl,bF⟩:=hv;refine aA.sb (bF.app .refl) ?_;unfold ZF;refine aA.new (fun vg=>?_);refine Qv ?_;refine AY (hv:=qU nM) ⟨ba,bp,br,bf,bm,k0,k1,k2,k3,O,?_⟩;exact .skip O (.right (B:=ZF ba bp br bf bm k0 k2 k3 0 (yR k1 1)++[(k1,.cells #[I 2] aX (0,0))]) (C:=[_]) .refl (.cons O .nil))
theorem ayx(main:aN)(h:Hp):bG aV main alO #[] h [] (fun v A=>∃ba bp br bf bm k0 k1 k2 k3,v=exV ba bp br bf bm/\Sb (ZF ba bp br bf bm k0 k2 k3 1 (yR k1 2)++[(k1,.cells #[I 2,I 6] aX (0,0))]) A):=by
 refine bG.bH func31 [] ?_;refine d_ ?_;refine aA.new (fun β0=>?_);refine gI ?_;refine c0 (fun h' hE hL=>aho _ h') (fun v A' hv=>?_);obtain⟨ba,bp,br,bf,bm,k0,k1,k2,k3,rfl,bF⟩:=hv;refine aA.sb (bF.app .refl) ?_;unfold ZF;refine aA.new (fun vg=>?_);refine lg ?_;refine aA.zZ (cs:= #[I 2,I 6]) (fun iI=>?_) O;refine gZ ?_;refine AY (hv:=qU nM) ⟨ba,bp,br,bf,bm,k0,iI,k2,k3,O,?_⟩;exact .trans (.aT (dK (l₁:=ZF ba bp br bf bm k0 k2 k3 1 (yR iI 2)) (l₂:=[(iI,.cells #[I 2,I 6] aX (0,0))]))) (.cons (.skip O (.right (B:=ZF ba bp br bf bm k0 k2 k3 1 (yR iI 2)) (C:=[(k1,.cells #[I 2] aX (0,0)),(β0,.cells #[yR ba 4,I 0,yR bp 3,yR br 3,yR bf 2,yR bm 4] 30 (0,0))]) .refl (.cons O (.cons O .nil)))))
theorem akG(main:aN)(h:Hp)(x:Be):bG aV main adg #[.agg #[I x.fl,I x.day]] h [] (fun v A=>∃S,Os ku Be.row v [⟨0,0⟩,x,⟨0,3⟩,⟨0,6⟩] S/\Sb S A):=by
 refine bG.bH func33 [(0,.agg #[I x.fl,I x.day])] ?_;refine d_ ?_;refine aA.box (fun vg=>?_);refine lF ?_;refine b_ (dw (cs:= #[I 0,I 0]) O O aB) O ?_;refine asR O ?_;refine b_ (dw (cs:= #[I 0,I 3]) O O aB) O ?_;refine b_ (dw (cs:= #[I 0,I 6]) O O aB) O ?_;refine aA.zZ (cs:= #[I 0,I 0,I x.fl,I x.day,I 0,I 3,I 0,I 6]) (fun yc=>?_) O (hf:=by kernel_rfl);refine gI ?_;exact iQ (vs:=[_]) ⟨[(yc,_)],.inr ⟨yc,_,4,[],O,O,O,Nat.le_refl _,Part.all (flat Be.row [⟨0,0⟩,x,⟨0,3⟩,⟨0,6⟩]),.nil⟩,.right (C:=[_]) .refl (.cons O .nil)⟩
theorem aA.ZC{x:Cx}{ops:Array Oper}{l:List (Value×Mt)}(hs:OsM l A)
  (H:∀h',Ext x.h h'->(∀p∈l,Sl h' bY p.1 p.2.ks/\Zs h' p.1)->aA {x with h:=h'} ops td Q ρ ds F):aA x ops td Q ρ ds (A++F):=by
 induction hs generalizing x with
 | nil=>exact H x.h ⟨fun _ _ q=>q,fun _ q=>q⟩ fun p hp=>by cases hp
 | cons h1 h2 ih=>
  rw[eF];refine aA.eY h1 fun h' hE P7 hz=>ih (x:={x with h:=h'}) fun Gm TA aO=>H Gm (hE.trans TA) fun p hp=>?_;rcases bU.1 hp with rfl | hp
  ·exact⟨P7.ext TA,hz.ext TA⟩
  exact aO p hp
theorem aA.xI{x:Cx}{ops:Array Oper}(H:D.Own A)(uU:D.OK)(hg:x.h 0=some (.cells #[QI kC] Eg zg))(z0:x.h.z 0)
  (K:∀h',Ext x.h h'->D.At h'->aA {x with h:=h'} ops td Q ρ ds F):aA x ops td Q ρ ds (A++F):=by
 cases H with
 | mk h1 h2 h3 h4 h5 h6=>
  simp only[eF];refine aA.eY h1 fun a e1 s1 y1=>?_;refine aA.eY h2 fun b e2 s2 y2=>?_;refine aA.eY h3 fun c e3 s3 y3=>?_;refine aA.eY h4 fun d e4 s4 y4=>?_;refine aA.eY h5 fun e e5 s5 y5=>?_;refine aA.ZC h6 fun f e6 aO=>?_;have g6:=e6;have g5:=e5.trans g6;have g4:=e4.trans g5;have g3:=e3.trans g4;have g2:=e2.trans g3;have g1:=e1.trans g2;exact K f g1 ⟨s1.ext g2,y1.ext g2,uU.gk,uU.pk,s2.ext g3,s3.ext g4,uU.sk,s4.ext g5,y4.ext g5,uU.fk,s5.ext g6,fun p hp=>⟨(aO p hp).1,(aO p hp).2,uU.me p hp⟩,uU.m4,⟨Eg,zg,g1.1 _ _ hg⟩,g1.2 _ z0⟩

def exD(ba bp br bf bm k0 k2 k3:Nat)(c0:Int)(vk:Value)(ks1:List Int):yD:=
 ⟨yR ba 4,yR bp 3,yR br 3,yR bf 2,yR bm 4,0,aq2,akC,aq3,akD c0,[(yR k0 1,⟨[0],0,3,0,9⟩),(vk,⟨ks1,0,2,1,8⟩),(yR k2 2,⟨[1,3],1,4,1,4⟩),(yR k3 1,⟨[6],5,2,0,1⟩)]⟩
theorem XY{c0:Int}(h0:0<=c0/\c0<=1)(h1:EU ⟨ks1,0,2,1,8⟩):(exD ba bp br bf bm k0 k2 k3 c0 vk ks1).OK:=by
 have hc:c0=0\/c0=1:=by omega
 refine⟨aB,⟨Int.le_refl _,by show(0:Int)<=63;decide⟩,aB,by rcases hc with rfl | rfl <;>kernel_rfl,fun p hp=>?_,Nat.le_refl _⟩;simp only[exD,bU,List.not_mem_nil,or_false]at hp;rcases hp with rfl | rfl | rfl | rfl
 ·exact EU.mk' dF dF dF dF dF dF dF
 ·exact h1
 ·exact EU.mk' dF dF dF dF dF dF dF
 exact EU.mk' dF dF dF dF dF dF dF
theorem aq6{f k0 k2 k3:List α}:(a++(p++(r++(f++(m++(k0++(k1++(k2++(k3++[]))))))))).Perm ((a++(p++(r++(f++(m++(k0++(k2++k3)))))))++k1):=by
 classical
 rw[List.perm_iff_count];intro y;simp only[List.count_append];simp only[List.count_nil];omega
theorem Pq{c0:Int}{S1:ah}(h1:Os aX bY vk ks1 S1):∃A,(exD ba bp br bf bm k0 k2 k3 c0 vk ks1).Own A/\Sb A (ZF ba bp br bf bm k0 k2 k3 c0 vk++S1):=by
 obtain⟨a1,c1,e1⟩:=h1.aU
 refine⟨_,.mk (.inr ⟨ba,_,4,[],O,O,O,Nat.le_refl _,Part.all (flat Ag.row aq2),.nil⟩) (.inr ⟨bp,_,3,[],O,O,O,Nat.le_refl _,Part.all (flat Pn.row akC),.nil⟩) (.inr ⟨br,_,3,[],O,O,O,Nat.le_refl _,Part.all (flat bY aq3),.nil⟩) (.inr ⟨bf,_,2,[],O,O,O,Nat.le_refl _,Part.all (flat Fl.row (akD c0)),.nil⟩) (.inr ⟨bm,_,4,[],O,O,O,Nat.le_refl _,Part.all (flat yM (exD ba bp br bf bm k0 k2 k3 c0 vk ks1).jJ),.nil⟩)
  (.cons (.inr ⟨k0,_,1,[],O,O,O,Nat.le_refl _,Part.all (flat bY [0]),.nil⟩) (.cons h1 (.cons (.inr ⟨k2,_,2,[],O,O,O,Nat.le_refl _,Part.all (flat bY [1,3]),.nil⟩) (.cons (.inr ⟨k3,_,1,[],O,O,O,Nat.le_refl _,Part.all (flat bY [6]),.nil⟩) .nil)))),?_⟩
 subst e1;exact .aT (aq6 (a:=[_]) (p:=[_]) (r:=[_]) (f:=[_]) (m:=[_]) (k0:=[_]) (k2:=[_]) (k3:=[_]))

theorem Px{c0:Int}:(exD ba bp br bf bm k0 k2 k3 c0 vk ks1).mo=acf c0 ks1:=rfl
theorem aq7{c0:Int}:(exD ba bp br bf bm k0 k2 k3 c0 vk ks1).fs=akD c0:=rfl
theorem akH:EU ⟨[2],0,2,1,8⟩:=EU.mk' dF dF dF dF dF dF dF
theorem ayy:EU ⟨[2,6],0,2,1,8⟩:=EU.mk' dF dF dF dF dF dF dF
theorem os1:Os aX bY (yR b 1) [2] [(b,.cells #[I 2] aX (0,0))]:=.inr ⟨b,_,1,[],O,O,O,Nat.le_refl _,Part.all (flat bY [2]),.nil⟩
theorem os2:Os aX bY (yR b 2) [2,6] [(b,.cells #[I 2,I 6] aX (0,0))]:=.inr ⟨b,_,2,[],O,O,O,Nat.le_refl _,Part.all (flat bY [2,6]),.nil⟩
theorem akI:(exD ba bp br bf bm k0 k2 k3 1 vk [2]).out=[0,0,1,-1]/\(exD ba bp br bf bm k0 k2 k3 1 vk [2]).share.2.1=9:=by
 have e:(exD ba bp br bf bm k0 k2 k3 1 vk [2]).share=([0,0,1,-1],9,0):=akE;unfold yD.out;rw[e];exact⟨aB,O⟩

theorem Ve{main:aN}(hS:∀S,main.ok S->∃Fin,S=Mn aV Fin)(qJ:main.b=true)(h:Hp)(Eg:TypeId)(zg:Nat×Nat)(hg:h 0=some (.cells #[QI kC] Eg zg))(z0:h.z 0):bG aV main VB #[] h [] (fun v A=>v= .bool true/\eH A):=by
 refine bG.bH func8 [] ?_;refine lg ?_;refine c0 (fun h' hE hL=>aho _ h') (fun v A' hv=>?_);obtain⟨ba,bp,br,bf,bm,k0,k1,k2,k3,rfl,bF⟩:=hv;obtain⟨AO,Ob,hsO⟩:=Pq (ba:=ba) (bp:=bp) (br:=br) (bf:=bf) (bm:=bm) (k0:=k0) (k2:=k2) (k3:=k3) (c0:=1) (os1 (b:=k1));refine aA.sb ((hsO.trans bF).app .refl) ?_;refine aA.xI Ob (XY dF akH) (hg) (z0) (fun q1 zD H1=>?_);refine c0 (fun h' hE hL=>auy hS qJ h' _ (H1.ext hE) 2 (by show 2<4;decide)) (fun v A' hv=>?_);obtain⟨uw,Sw,rfl,hOw,bF⟩:=hv;rw[Px,aq4]at hOw⊢;rw[show(some [(0:Int),1]).getD []=[0,1]from rfl]at hOw;rw[show(if(some [(0:Int),1]).isSome=true then(0:Int)else 11)=0 from rfl];obtain⟨aw,cw,rfl⟩:=hOw.aU;refine aA.sb (F':=Sw) (by first | exact bF | exact bF.right .nil) ?_;refine kR ?_;refine c0 (fun h' hE hL=>aho _ h') (fun v A' hv=>?_);obtain⟨ba,bp,br,bf,bm,k0,k1,k2,k3,rfl,bF⟩:=hv;obtain⟨AO,Ob,hsO⟩:=Pq (ba:=ba) (bp:=bp) (br:=br) (bf:=bf) (bm:=bm) (k0:=k0) (k2:=k2) (k3:=k3) (c0:=1) (os1 (b:=k1));refine aA.sb ((hsO.trans bF).app .refl) ?_;refine aA.xI Ob (XY dF akH) (hg) (z0) (fun q2 NY H2=>?_);refine c0 (fun h' hE hL=>aqU hS qJ h' _ (H2.ext hE)) (fun v A' hv=>?_);obtain⟨up,Sp,rfl,hOp,bF⟩:=hv;rw[Px,afD.1]at hOp;rw[aq7,Px,afD.2];obtain⟨ap,cp',rfl⟩:=hOp.aU;refine aA.sb (bF.app .refl) ?_;refine gZ ?_;refine c0 (fun h' hE hL=>aho _ h') (fun v A' hv=>?_);obtain⟨ba,bp,br,bf,bm,k0,k1,k2,k3,rfl,bF⟩:=hv;obtain⟨AO,Ob,hsO⟩:=Pq (ba:=ba) (bp:=bp) (br:=br) (bf:=bf) (bm:=bm) (k0:=k0) (k2:=k2) (k3:=k3) (c0:=1) (os1 (b:=k1));refine aA.sb ((hsO.trans bF).app .refl) ?_;refine aA.xI Ob (XY dF akH) (hg) (z0) (fun q3 hE3 H3=>?_);refine c0 (fun h' hE hL=>anh hS qJ h' _ (H3.ext hE)) (fun v A' hv=>?_);obtain⟨us,Ss,rfl,hOs,bF⟩:=hv;rw[akI.1]at hOs;rw[akI.2];obtain⟨as',LU,rfl⟩:=hOs.aU;refine aA.sb (bF.app .refl) ?_;refine gZ ?_;refine c0 (fun h' hE hL=>aho _ h') (fun v A' hv=>?_);obtain⟨ba,bp,br,bf,bm,k0,k1,k2,k3,rfl,bF⟩:=hv;obtain⟨AO,Ob,hsO⟩:=Pq (ba:=ba) (bp:=bp) (br:=br) (bf:=bf) (bm:=bm) (k0:=k0) (k2:=k2) (k3:=k3) (c0:=1) (os1 (b:=k1));refine aA.sb ((hsO.trans bF).app .refl) ?_;refine aA.xI Ob (XY dF akH) (hg) (z0) (fun q4 Xd H4=>?_);refine c0 (fun h' hE hL=>aqW hS qJ h' _ (H4.ext hE)) (fun v A' hv=>?_);obtain⟨rfl,bF⟩:=hv;rw[Px,anm];refine aA.sb (.left .refl bF) ?_;refine kR ?_;refine c0 (fun h' hE hL=>ayw _ h') (fun v A' hv=>?_);obtain⟨ba,bp,br,bf,bm,k0,k1,k2,k3,rfl,bF⟩:=hv;obtain⟨AO,Ob,hsO⟩:=Pq (ba:=ba) (bp:=bp) (br:=br) (bf:=bf) (bm:=bm) (k0:=k0) (k2:=k2) (k3:=k3) (c0:=0) (os1 (b:=k1));refine aA.sb ((hsO.trans bF).app .refl) ?_;refine aA.xI Ob (XY dF akH) (hg) (z0) (fun q5 hE5 H5=>?_);refine c0 (fun h' hE hL=>akr hS qJ h' _ (H5.ext hE)) (fun v A' hv=>?_);obtain⟨rfl,bF⟩:=hv;rw[Px,ano];refine aA.sb (.left .refl bF) ?_;refine kR ?_;refine c0 (fun h' hE hL=>ayx _ h') (fun v A' hv=>?_);obtain⟨ba,bp,br,bf,bm,k0,k1,k2,k3,rfl,bF⟩:=hv;obtain⟨AO,Ob,hsO⟩:=Pq (ba:=ba) (bp:=bp) (br:=br) (bf:=bf) (bm:=bm) (k0:=k0) (k2:=k2) (k3:=k3) (c0:=1) (os2 (b:=k1));refine aA.sb ((hsO.trans bF).app .refl) ?_;refine aA.xI Ob (XY dF ayy) (hg) (z0) (fun q6 hE6 H6=>?_);refine c0 (fun h' hE hL=>anj hS qJ h' _ (H6.ext hE) 1 (yR k1 2) ⟨[2,6],0,2,1,8⟩ O) (fun v A' hv=>?_);obtain⟨rfl,bF⟩:=hv;rw[Px,show([2,6]:List Int).length=2 from rfl,akF];refine aA.sb (.left .refl bF) ?_;refine gI ?_;refine aA.new (fun yg=>?_);refine lg ?_;refine Gh (u:=.bool true) (yt O O O) O O wn O O ?_;refine d_ ?_;refine Gh (u:=.bool true) (yt O O O) O O (aI O O O) O O ?_;refine gI ?_;refine Gh (u:=.bool true) (yt O O O) O O (aI O O O) O O ?_;refine gI ?_;refine Gh (u:=.bool true) (yt O O O) O O (aI O O O) O O ?_;refine gI ?_;refine Gh (u:=.bool true) (yt O O O) O O (aI O O O) O O ?_;refine gI ?_;refine Gh (u:=.bool true) (yt O O O) O O (aI O O O) O O ?_;refine gI ?_;refine Gh (u:=.bool true) (yt O O O) O O (aI O O O) O O ?_;refine gI ?_;refine Gh (u:=.bool true) (yt O O O) O O (aI O O O) O O ?_;refine gI ?_;refine Gh (u:=.bool true) (yt O O O) O O (aI O O O) O O ?_;refine gI ?_;refine Gh (u:=.bool true) (yt O O O) O O (aI O O O) O O ?_;refine d_ ?_
 first | refine kw_ (ZW rfl rfl) rfl ?_ | refine kw_ (Qm rfl rfl) rfl ?_
 refine oq (dw (cs:= #[I 2,I 2]) O O aB) O (aI O O O) O O ?_;refine Gh (u:=.bool true) (ai5 [2,2] [2,2] O O O O O O O) O O (aI O O O) O O ?_;refine gI ?_;refine aA.zZ (cs:= #[I 0,I 1]) (fun ayz=>?_) O;refine cp (g:=some _) (u:=.bool true) (fun h' hE hL=>?_) ?_
 ·exact XD main h' [0,1] [0,1] _ _ (hOw.sl fun b o hb=>hL b o (by simp[hb])) (Sl.mk (hL ayz _ (.head _)) O (Part.all (flat bY [0,1]))) dF
 refine gI ?_;refine oq (dw (cs:= #[I 1,I 1]) O O aB) O (aI O O O) O O ?_;refine c0 (g:=some _) (fun h' hE hL=>akG _ h' ⟨1,1⟩) (fun v A' hv=>?_);obtain⟨Sq,hOq,bF⟩:=hv;obtain⟨aq',cq',rfl⟩:=hOq.aU;refine aA.sb (bF.app .refl) ?_;refine cp (g:=some _) (u:=.bool true) (fun h' hE hL=>?_) ?_
 ·exact acd main h' [⟨0,0⟩,⟨1,1⟩,⟨0,3⟩,⟨0,6⟩] [⟨0,0⟩,⟨1,1⟩,⟨0,3⟩,⟨0,6⟩] _ _ (hOp.sl fun b o hb=>hL b o (by simp[hb])) (hOq.sl fun b o hb=>hL b o (by simp[hb])) dF
 refine gI ?_;refine aA.zZ (cs:= #[I 0,I 0,I 1,I (-1)]) (fun auT=>?_) O;refine cp (g:=some _) (u:=.bool true) (fun h' hE hL=>?_) ?_
 ·exact XD main h' [0,0,1,-1] [0,0,1,-1] _ _ (hOs.sl fun b o hb=>hL b o (by simp[hb])) (Sl.mk (hL auT _ (.head _)) O (Part.all (flat bY [0,0,1,-1]))) dF
 refine lF ?_;refine iQ (vs:=[.bool true]) ⟨O,?_⟩
 repeat(first | exact hOw.shut | exact hOp.shut | exact hOs.shut | exact hOq.shut | refine eH.cons rfl ?_ | refine eH.app ?_ ?_ | exact .nil)
theorem alI{ss:List St}:(jF fs ss).2.1<=6*ss.length:=by
 by_cases zU:dU fs ss=0
 ·have hh:=wI zU;obtain⟨q,-,hq⟩:=(XK hh).1;have hn:=hh.ns;have hl:=Lp (p:=q) hh ss.length aj;rw[(U9 zU).1];show(lY fs ss).1<=_;rw[<-hq,Lr hh];omega
 rw[show jF fs ss=([],0,dU fs ss)from if_pos zU];show(0:Int)<=_;omega
theorem aic{M:oU}:FI M=(jF M.fs (stM M)).2.1:=by
 unfold FI;split
 ·rename_i e;have h1:=alI (fs:=M.fs) (ss:=stM M);have h2:=aky (fs:=M.fs) (ss:=stM M);rw[e]at h1 h2⊢;simp only[List.length_nil]at h1;omega
 rfl
theorem aix:(uQ D.mo.mi).length=D.jJ.length:=by
 simp[uQ,yD.mo,Mo.mi]

theorem acF{main:aN}(hS:∀S,main.ok S->∃Fin,S=Mn aV Fin)(qJ:main.b=true)(h:Hp)(D:yD)(H:D.At h):bG aV main abM #[D.V] h [] (fun v F=>v= .tuple #[I D.mo.JD,.bool true]/\eH F):=by
 obtain⟨am,cm,em⟩:=H.mm.aU;refine bG.bH func11 [(0,D.V)] ?_;unfold yD.V;refine d_ ?_;refine aA.box (fun vg=>?_);refine lg ?_;refine c0 (fun h' hE hL=>aqU hS qJ h' D (H.ext hE)) (fun v A' hv=>?_);obtain⟨vb,SB,rfl,hOB,bF⟩:=hv;obtain⟨ab,cb,rfl⟩:=hOB.aU;rw[aix]at hOB⊢;rw[em];refine aA.sb (F':=[(vg,.cells #[D.va,I D.ps,D.nS,D.vr,D.vf,.slice am D.jJ.length cm] fC (0,0))]) (.trans (.left .refl hOB.shut) (bF.app .refl)) ?_;refine FT ?_;refine W.O6 (n:=13) O ?_;refine ay 0 ?_;refine ay 1 ?_;refine aqe (i:=2) (u:=.bool true) (yt O O O) O O an O O ?_;refine ay 3 ?_;refine aq (i:=4) (xO O O) O (bD O O O O) O O ?_;refine aq (i:=5) (aer O O) O (bD O O O O) O O ?_;refine aq (i:=6) (o8 O O) O (bD O O O O) O O ?_;refine aq (i:=7) (CG O O) O (bD O O O O) O O ?_;refine aq (i:=8) (aer O O) O (bD O O O O) O O ?_;refine aqe (i:=9) (u:=.bool true) (yt O O O) (congrArg Value.bool (decide_eq_true O)) O (bD O O O O) O O ?_;refine ay 10 ?_;refine ay 11 ?_;refine ay 12 ?_;refine az ?_;refine d_ ?_;refine iQ (vs:=[_,_]) ⟨?_,.cons O .nil⟩;rw[show(jF D.fs (stM D.mo.mi)).2.1=D.mo.JD from(aic (M:=D.mo.mi)).symm]
 rfl
theorem Tm.av6{t:Tm}{k v:Nat}(hj:j<3):(t.up k v).at j=if j=k then v else t.at j:=by
 match j,hj with
 | 0,_=>match k with
  | 0=>rfl
  | 1=>rfl
  | 2=>rfl
  | _+3=>rfl
 | 1,_=>match k with
  | 0=>rfl
  | 1=>rfl
  | 2=>rfl
  | _+3=>rfl
 | 2,_=>match k with
  | 0=>rfl
  | 1=>rfl
  | 2=>rfl
  | n+3=>rfl
theorem ads{a:Ag}{t n:Tm}{j:Nat}(hj:j<3):∀{m:Nat},(Zn a t n m).at j=if j<m then V9 a (t.at j)else n.at j
 | 0=>by simp[Zn]
 | m+1=>by
  rw[Xw,Tm.av6 hj,ads hj];by_cases e:j=m
  ·subst e;simp
  rw[if_neg e];by_cases h:j<m
  ·rw[if_pos h,if_pos aj]
  rw[if_neg h,if_neg aj]
theorem ahK{gs:List Ag}{m j:Nat}(hj:j<m)(hm:m<=3):∀{w:List Nat} {t e t1:Tm},goG (stT gs m) gs.length t w e->t1.at 0=t.at j->∃e1,goG (stT gs 1) gs.length t1 w e1/\e1.at 0=e.at j
 | [],t,e,t1,h,ht=>⟨t1,rfl,by rw[show t=e from h]at ht;exact ht⟩
 | i::r,t,e,t1,⟨hi,u,hu,h⟩,ht=>by
  have hg:gs[i]? =some gs[i]:=jh hi;unfold stT at hu;rw[hg]at hu;simp only at hu;split at hu
  ·rename_i hc
   cases hu
   have Y4:Zm gs[i] (t.at j)=true:=List.all_eq_true.1 hc j (List.mem_range.2 hj);obtain⟨e1,h1,h2⟩:=ahK hj hm (t1:=Zn gs[i] t1 t1 1) h (by rw[ads aj,ads aj,if_pos aj,if_pos hj,ht]);refine⟨e1,⟨hi,Zn gs[i] t1 t1 1,?_,h1⟩,h2⟩;unfold stT;rw[hg];simp only;rw[if_pos];simp only[adJ,List.range_one,List.all_cons,List.all_nil,Bool.and_true];rw[ht];exact Y4
  cases hu
theorem aoK{e:Tm}{ps m:Nat}(hj:j<m)(hm:m<=3)(h:isT ps m e=true):amz (e.at j) ps=true:=by
 refine List.all_eq_true.1 h _ ?_;have h3:e.ns.length=3:=rfl;rw[Tm.at,List.getD_eq_getElem?_getD,jh aj];exact List.mem_take_iff_getElem.2 ⟨j,aj,O⟩
theorem aiz{gs:List Ag}{ps:Int}{w:List Int}(hg:gs.length<=4)(hm:ks.length<=3)(hk:ks[j]? =some k)(h:nH gs ks ps=some w):∃w',nH gs [k] ps=some w'/\w'.length<=w.length:=by
 unfold nH at h⊢;rw[jR]at h;obtain⟨l,hl,rfl⟩:=h
 have hj:j<ks.length:=by
  rcases bQ j ks.length with h' | h'
  ·exact h'
  rw[fM h']at hk;cases hk
 obtain⟨hlm,e,hgo,hi⟩:=(UJ (st:=stT gs ks.length) (N:=gs.length) (most:=5) (is:=isT ps.toNat ks.length) (t0:=adK ks) (n:=15626) hg dF).1 l hl
 obtain⟨e1,h1,h2⟩:=ahK hj hm (t1:=adK [k]) hgo (by
  have e1:∀j,j<3->(adK ks).at j=(ks.getD j 0).toNat:=fun j hj=>by
   match j,hj with
   | 0,_=>rfl
   | 1,_=>rfl
   | 2,_=>rfl
  rw[e1 j aj,List.getD_eq_getElem?_getD,hk];rfl)
 obtain⟨w',hw',hwl⟩:=(UJ (st:=stT gs 1) (N:=gs.length) (most:=5) (is:=isT ps.toNat 1) (t0:=adK [k]) (n:=15626) hg dF).2 l e1 h1 (by
  have:=aoK hj hm hi;rw[<-h2]at this;simp only[isT,Tm.ns,List.take_succ_cons,List.take_zero,List.all_cons,List.all_nil,Bool.and_true];exact this) hlm
 refine⟨zs w',?_,by rw[rZ,rZ];exact hwl⟩;have hw2:aoh gs [k] ps=some w':=hw';rw[hw2];rfl

theorem av_{b c:List α}:(a++(b++c)).Perm (b++(a++c)):=by
 classical
 rw[List.perm_iff_count];intro y;simp only[List.count_append];omega
theorem OsM.set{l:List (Value×Mt)}{B:ah}{p':Value×Mt}(h:OsM l A)(hB:Os aX bY p'.1 p'.2.ks B):∀{i:Nat},i<l.length->∃A',OsM (l.set i p') A'/\Sb A' (B++A):=by
 induction h with
 | nil=>intro i hi;exact absurd hi (Nat.not_lt_zero _)
 | @cons p l A1 A2 h1 h2 ih=>
  intro i hi
  match i with
  | 0=>exact⟨B++A2,.cons hB h2,.app .refl (.left .refl h1.shut)⟩
  | i+1=>
   obtain⟨A',h3,h4⟩:=ih (i:=i) (by simpa using hi);exact⟨A1++A',.cons h1 h3,.trans (.app .refl h4) (.aT av_.symm)⟩
theorem alK(o:Option (Int×Int))(n:Int):∃q,tkF o n=some q:=by
 rcases o with _ | ⟨a,b⟩
 ·exact⟨_,O⟩
 exact⟨_,O⟩
theorem aaZ(hk:ks[j]? =some k):N.worth i ks (j+1)=tkF (N.worth i ks j) ((N.kind i k).JD-N.JD):=
 ad9 (by unfold Mo.known;rw[iL,hk];rfl)
theorem aiB(hx:N.mts[i]? =some x)(hk:x.ks=[k]):N.kind i k=N:=by
 unfold Mo.kind;rw[hx];show(⟨N.gs,N.ps,N.fs,N.mts.set i {x with ks:=[k]}⟩:Mo)=N;have e:({x with ks:=[k]}:Mt)=x:=by rw[<-hk]
 have e2:N.mts.set i x=N.mts:=by
  apply List.ext_getElem?;intro j;rw[List.getElem?_set];split
  ·rename_i h;subst h;split
   ·exact hx.symm
   rename_i h;rw[fM aj]
  rfl
 rw[e,e2]
theorem aiF(hx:N.mts[i]? =some x)(h1:1<=x.ks.length)(h2:x.ks.length<=1):akz (N.worth i x.ks x.ks.length)= #[I 0,I 0]:=by
 obtain⟨k,hk⟩:∃k,x.ks=[k]:=List.length_eq_one_iff.1 aj;rw[hk];show akz (N.worth i [k] (0+1))=_;rw[aaZ (k:=k) O,aiB hx hk,Int.sub_self];rfl
theorem alL{w:List Int}(hg:N.gs.length<=4)(hx:N.mts[i]? =some x)(h3:x.ks.length<=3)(hk:x.ks[j]? =some k)(hw:N.way i=some w):∃w',(N.kind i k).way i=some w'/\w'.length<=w.length:=by
 unfold Mo.way at hw;rw[hx]at hw
 have Gp:i<N.mts.length:=by
  rcases bQ i N.mts.length with h' | h'
  ·exact h'
  rw[fM h']at hx;cases hx
 have e:(N.kind i k).way i=nH N.gs [k] N.ps:=by
  unfold Mo.kind;rw[hx];unfold Mo.way;show(match(N.mts.set i {x with ks:=[k]})[i]? with | some x=>nH N.gs x.ks N.ps | none=>none)=_;rw[List.getElem?_set_self Gp]
 rw[e];exact aiz hg h3 hk hw
def acg(P:Program)(main:aN)(f:FuncId)(args:Array Value)(h:Hp)(u:Value):Prop:=
 ∃(fn:Func) (c:Code) (ρ:Env),P.funcs[f]? =some fn/\fn.body=some c/\args.size<=fn.ntmps/\LV ρ args/\W ⟨P,main,f,fn.ntmps,none,h⟩ c (fun e ρ ds F=>ds=[]/\eH F/\leave P main fn h (fun v _=>v=u) e ρ [] F) ρ [] []

section
variable{P:Program}{main:aN}{h:Hp}
theorem acg.gX{fn:Func}(hf:P.funcs[f]? =some fn)(hb:fn.body=some c)(ha:args.size<=fn.ntmps)(ρ:Env)(LD:LV ρ args)
  (H:W ⟨P,main,f,fn.ntmps,none,h⟩ c (fun e ρ ds F=>ds=[]/\eH F/\leave P main fn h (fun v _=>v=u) e ρ [] F) ρ [] []):acg P main f args h u:=⟨fn,c,ρ,hf,hb,ha,LD,H⟩
variable{fn:Func}{e:Exit}{ρ:Env}{F:ah}
theorem lvq{vs:List Value}(hu:pack vs=u)(he:e= .ret\/e= .normal:=by first | exact .inl rfl | exact .inr rfl)(hv:ada ρ fn.results.toList=some vs:=by rfl)(hs:eH F:=by repeat(first | exact eH.nil | assumption | refine eH.cons rfl ?_ | refine eH.app ?_ ?_)):([]:List Deferred)=[]/\eH F/\leave P main fn h (fun v _=>v=u) e ρ [] F:=
 ⟨O,hs,iQ hu he hv⟩
end
theorem acg.run{W:World}(hi:P.inits.idxOf? f=none)(T:acg P (G_ P (AX P fun v _=>v=u)) f args (kZ W) u):
  ∃M last o w' t',runNT P (M+1) (Conc.solo (Conc.G (Frame.enter P f args .normal) []) W) #[]=(.ended o w',t')/\runN P M (Conc.solo (Conc.G (Frame.enter P f args .normal) []) W)= .next last/\Go.step P last= .ended o w'/\Conc.Good P (fun v w'=>v=u/\Kept W w') last o w' t':=by
 obtain⟨fn,c,ρ,h1,h2,h3,h4,h5⟩:=T;exact Mn.run (Mn.top (R:=fun v=>v=u) h1 h2 hi h3 ρ h4 aaE (fun b o hb=>(lN.1 hb).2) (fun v w hv _=>hv) h5)

theorem Kept.below{w:World}(h:Kept w w'):Go.RowKit.Below w.heap.size w w':=⟨h.os,h.tape,h.output,h.size,h.block⟩

theorem Py(l:List Int):flat bY l=l.map fun n=>.int .i64 n:=by
 induction l with
 | nil=>rfl
 | cons a l ih=>rw[iW,ih];rfl
theorem Part.aq8{c:Array Value}{off:Nat}{xs:List Value}(h:∀j,j<xs.length->c[off+j]? =xs[j]?)(iK:xs≠[]):Part c off xs:=by
 have hlen:off+xs.length<=c.size:=by
  have ayB:0<xs.length:=List.length_pos_iff.2 iK;have:=h (xs.length-1) aj;rw[jh aj]at this;rcases bQ (off+(xs.length-1)) c.size with h' | h'
  ·omega
  rw[Array.getElem?_eq_none h']at this;cases this
 refine⟨c.toList.take off,c.toList.drop (off+xs.length),?_,by simp;omega⟩;apply List.ext_getElem?;intro i;have oH:c.toList.length=c.size:=by simp
 rcases bQ i off with h1 | h1
 ·rw[List.getElem?_append_left (by simp;omega),List.getElem?_take,if_pos h1]
 rw[List.getElem?_append_right (by simp;omega)];have e1:(c.toList.take off).length=off:=by simp;omega
 rw[e1];rcases bQ (i-off) xs.length with h2 | h2
 ·rw[List.getElem?_append_left h2,<-h _ h2];simp only[Array.getElem?_toList]
  congr 1;omega
 rw[List.getElem?_append_right h2,List.getElem?_drop]
 congr 1;omega
theorem Sl.kZ{W:World}{a:Addr}{n cap:Nat}{zs:List Int}(hz:n<=zs.length)(h:∀i,i<zs.length->W.cell? (a.add i)=some (.int .i64 (zs.getD i 0))):Sl (kZ W) bY (.slice (some a) n cap) (zs.take n):=by
 refine⟨some a,cap,by rw[List.length_take,Nat.min_eq_left hz],fun iK=>?_⟩
 have ayB:0<n:=by
  rcases Nat.eq_zero_or_pos n with h' | h'
  ·subst h';simp at iK
  exact h'
 obtain⟨b,off,spot⟩:=a
 have hsp:spot=none:=by
  have:=h 0 aj
  cases hs:spot with
  | none=>rfl
  | some s=>
   subst hs;exfalso;simp only[World.cell?,Addr.add,if_true]at this;split at this
   ·simp at this
   cases this
 subst hsp
 have cell:∀i,i<zs.length->∃c E fz,W.heap[b]? =some (.cells c E fz)/\c[off+i]? =some (.int .i64 (zs.getD i 0)):=fun i hi=>by
  have:=h i hi;rw[show(⟨b,off,none⟩:Addr).add i=⟨b,off+i,none⟩ by unfold Addr.add;split <;>simp[*]]at this;simp only[World.cell?]at this;split at this
  ·rename_i c E fz hb;exact⟨c,E,fz,hb,by simpa using this⟩
  cases this
 obtain⟨c,E,fz,hb,h0⟩:=cell 0 aj;refine⟨b,off,c,E,fz,O,lN.2 ⟨hb,O⟩,Part.aq8 (fun j hj=>?_) ?_⟩
 ·rw[Py,List.length_map,List.length_take]at hj;obtain⟨c',E',fz',wz,hj'⟩:=cell j aj;rw[hb]at wz
  cases wz
  rw[hj',Py,iL,List.getElem?_take,if_pos aj,jh aj];simp[List.getD,jh (show j<zs.length by omega)]
 rw[Py];intro e;exact iK (List.map_eq_nil_iff.1 e)
theorem alP{Sa Sp Sr Sf SK:ah}{kv:Value}{XU ND βk:Nat}{cc:Array Value}(uU:D'.OK)(h1:Os IZ Ag.row D'.va D'.gs Sa)(h2:Os aaO Pn.row D'.nS D'.Vj Sp)(h3:Os aX bY D'.vr D'.rs Sr)(h4:Os A_ Fl.row D'.vf D'.fs Sf)(h6:OsM D'.jJ SK)(hi:D'.jJ[i]? =some (kv,x))(hk:0<=k/\k<=63)(IW:cc.size=ND*5)(hle:D'.jJ.length<=ND)(hpt:Part cc 0 (flat yM D'.jJ)):
  ∃SK',(D'.kind i x k (.slice (some ⟨βk,0,none⟩) 1 1) (.slice (some ⟨XU,0,none⟩) D'.jJ.length ND)).OK/\(D'.kind i x k (.slice (some ⟨βk,0,none⟩) 1 1) (.slice (some ⟨XU,0,none⟩) D'.jJ.length ND)).Own (Sa++(Sp++(Sr++(Sf++([(XU,.cells (cc.setIfInBounds (0+i*5) (.slice (some ⟨βk,0,none⟩) 1 1)) kD (0,0))]++SK')))))/\Sb SK' ([(βk,.cells #[I k] aX (0,0))]++SK):=by
 have Gp:i<D'.jJ.length:=by
  rcases bQ i D'.jJ.length with h' | h'
  ·exact h'
  rw[fM h']at hi;cases hi
 obtain⟨SK',hM,bF⟩:=h6.set (p':=(.slice (some ⟨βk,0,none⟩) 1 1,{x with ks:=[k]})) (B:=[(βk,.cells #[I k] aX (0,0))]) (.inr ⟨βk, #[I k],1,[],rfl,rfl,rfl,Nat.le_refl _,Part.all [I k],.nil⟩) Gp;refine⟨SK',⟨uU.gk,uU.pk,uU.sk,uU.fk,fun p hp=>?_,by show(D'.jJ.set _ _).length<=4;rw[List.length_set];exact uU.m4⟩,.mk h1 h2 h3 h4 (.inr ⟨XU,_,ND,[],?_,O,by rw[Array.size_setIfInBounds];exact IW,?_,ahk hpt O hi,.nil⟩) hM,bF⟩
 ·rcases List.mem_or_eq_of_mem_set hp with hp | rfl
  ·exact uU.me p hp
  have hx:=uU.me _ (dL hi);exact⟨Nat.le_refl _,by show 1<=3;decide,fun n hn=>by rw[dP.1 hn];exact hk,List.pairwise_singleton ..,hx.d,hx.co,hx.wa,hx.qu⟩
 ·show Value.slice _ _ _=Value.slice _ (D'.jJ.set i _).length _;rw[List.length_set]
 show(D'.jJ.set i _).length<=_;rw[List.length_set];exact hle

theorem acw(main:aN)(hS:∀S,main.ok S->∃Fin,S=Mn aV Fin)(qJ:main.b=true)(h:Hp)(cZ:List Int)(lv:Value)(Eg:TypeId)(zg:Nat×Nat)(hl:Sl h bY lv cZ)(hg:h 0=some (.cells #[QI kC] Eg zg))(z0:h.z 0):acg aV main aat #[lv] h (.bool true):=by
 refine acg.gX aaF O (by show 1<=157;decide) [(0,lv)] ⟨O,trivial⟩ ?_;refine jk ?_;refine c0 (fun h' hE hL=>ags _ h' cZ lv (hl.ext hE)) (fun v A' hv=>?_);obtain⟨bh,s0,rfl,rfl⟩:=hv;refine kJ ?_;refine cg (A:=[(bh,_)]) .head (fun h' hE hL=>aed _ h' cZ lv bh 0 s0 3 (hl.ext hE) dF dF) (fun v A' hv=>?_);obtain⟨D,k1,s1,SO,rfl,uU,-,-,Ob,hk1,bF⟩:=hv;refine aA.sb (F':=(bh,jl lv k1 s1)::SO) (.trans bF (.right .refl .nil)) ?_;refine aA.new (fun mW=>?_);refine aA.alf (n:=6) (vs:= #[D.va,I D.ps,D.nS,D.vr,D.vf,D.vm]) ?_ (hc:=by show 0+6<=6;decide) (h1:=Ob.alD);refine qj ?_;refine W.sb (F':=SO++[(mW,.cells #[D.va,I D.ps,D.nS,D.vr,D.vf,D.vm] fC (0,0)),(bh,jl lv k1 s1)]) (.aT (dK (l₂:=[_,_]))) ?_;refine xI Ob uU hg z0 (fun h1 zD H1=>?_);obtain⟨am,cm,em⟩:=H1.mm.aU;have hm4:=H1.m4;refine lF ?_;refine Gh (u:=.slice am D.jJ.length cm) (CG O O) em O wn O O ?_;refine gI ?_;refine W.aJ O (fun ZH=>?_) (fun ZH=>?_)
 ·refine d_ ?_;refine c0 (fun h' hE hL=>Ve hS qJ h' Eg zg ((zD.trans hE).1 _ _ hg) ((zD.trans hE).2 _ z0)) (fun v A' hv=>?_);obtain⟨rfl,aq9⟩:=hv;refine aA.sb (.left .refl aq9) ?_;refine lF ?_;exact lvq (hs:=.cons O (.cons O .nil)) O
 refine lg ?_;refine Gh (u:=.slice am D.jJ.length cm) (CG O O) em O wn O O ?_;refine d_ ?_;have ayB:1<=D.jJ.length:=by omega
 refine cg (A:=[(bh,_)]) (.tail .all) (fun h' hE hL=>zK _ h' cZ lv bh k1 s1 ((D.jJ.length:Int)-1) ((hl.ext zD).ext hE) aj aj) (fun v A' hv=>?_);obtain⟨r,s2,rfl,hr,pJ⟩:=hv;refine aA.sb (.cons pJ) ?_;obtain⟨i,rfl⟩:∃i:Nat,r=i:=⟨r.toNat,aj⟩
 have hi:i<D.jJ.length:=by omega
 obtain⟨⟨kv,x⟩,hp,-⟩:=has hi;obtain⟨Tf,zks,hmt⟩:=H1.me _ (dL hp);have azR:1<=x.ks.length:=hmt.k1;have azS:x.ks.length<=3:=hmt.k3;have hmx:D.mo.mts[i]? =some x:=by show(D.jJ.map (·.2))[i]? =_;rw[iL,hp];rfl
 refine lg ?_;refine c0 (fun h' hE hL=>anj hS qJ h' D (H1.ext hE) i kv x hp) (fun v A' hv=>?_);obtain⟨rfl,yu⟩:=hv;obtain⟨wa,wb,-,-,ew⟩:=aq0 (D.mo.worth i x.ks x.ks.length);rw[ew];refine aA.sb (.left .refl yu) ?_;refine gI ?_;refine aA.new (fun mX=>?_);refine lg ?_;refine c0 (fun h' hE hL=>acF hS qJ h' D (H1.ext hE)) (fun v A' hv=>?_);obtain⟨rfl,aAt⟩:=hv;refine aA.sb (.left .refl aAt) ?_;refine gZ ?_;refine c0 (fun h' hE hL=>auy hS qJ h' D (H1.ext hE) i hi) (fun v A' hv=>?_);obtain⟨u,SW,rfl,hOw,ajS⟩:=hv;obtain⟨aw,cw,rfl⟩:=hOw.aU;obtain⟨wl,hwl⟩:∃n,((D.mo.way i).getD []).length=n:=⟨_,rfl⟩
 obtain⟨e1,he1,he2⟩:∃e:Int,(if(D.mo.way i).isSome then 0 else 11)=e/\(e=0\/e=11):=⟨_,rfl,by split <;>simp⟩
 rw[hwl,he1];have hb0:0<=D.mo.JD/\D.mo.JD<=24:=ab9;obtain⟨now,awj⟩:∃n,D.mo.JD=n:=⟨_,rfl⟩
 rw[awj]at hb0⊢;refine aA.sb (F':=[(mX,.cells #[I wa,I wb] 35 (0,0)),(mW,.cells #[D.va,I D.ps,D.nS,D.vr,D.vf,D.vm] fC (0,0)),(bh,jl lv (k1+1) s2)]) (.trans (.left .refl hOw.shut) (ajS.app .refl)) ?_;refine kR ?_;refine W.cut [(65,.bool false),(11,I e1),(10,.slice aw wl cw),(8,I now),(6,aG mX),(5,I i),(4,aG mW)] [(mX,.cells #[I wa,I wb] 35 (0,0)),(mW,.cells #[D.va,I D.ps,D.nS,D.vr,D.vf,D.vm] fC (0,0)),(bh,jl lv (k1+1) s2)] ?_ ?_
 ·refine d_ ?_;refine Gh (u:=.bool false) (Fe O O O) O O wn O O ?_;refine d_ ?_;refine Gh (u:=.bool false) (PI O O) O O (aI O O O) O O ?_;refine kJ ?_;refine aA.ask (fun aqg=>?_) (fun aqg=>?_)
  ·refine zT ?_;refine Gh (u:=.bool false) (Fe O O O) (congrArg Value.bool (decide_eq_false (fun hn=>hn (he2.resolve_left aqg)))) O (aI O O O) O O ?_;refine d_ ?_;refine aA.nil ?_;exact⟨O,O,iw,.refl⟩
  refine lF ?_;refine aA.nil ?_;exact⟨O,O,iw,.refl⟩
 refine W.iq ?_;refine gI ?_;obtain⟨ak,ck,rfl⟩:=(show Sl h1 bY kv x.ks from Tf).aU;obtain⟨bm,om,cmm,Em,zm,eam,hbm,hxm,hym,hzm⟩:=(show Sl h1 yM (.slice am D.jJ.length cm) D.jJ from em▸H1.mm).at hp
 cases eam
 have aBR:cmm[om+i*5+0]? =some (.slice ak x.ks.length ck):=hzm 0 dF;clear hxm hzm;refine d_ ?_;refine Gh (u:=.slice (some ⟨bm,om,none⟩) D.jJ.length cm) (CG O O) em O wn O O ?_;refine kR ?_;refine b_ (dw (cs:= #[I 0,I 0]) O O aB) O ?_;refine aA.new (fun yg=>?_);refine kR ?_;refine W.loop (σ:=Nat) (fun j=>j<=x.ks.length) (fun j=>[(14,I j),(13,aG yg),(12,.slice ak x.ks.length ck),(11,I e1),(10,.slice aw wl cw),(8,I now),(6,aG mX),(5,I i),(4,aG mW)]) (fun j=>[(yg,.cells (akz (D.mo.worth i x.ks j)) 35 (0,0)),(mX,.cells #[I wa,I wb] 35 (0,0)),(mW,.cells #[D.va,I D.ps,D.nS,D.vr,D.vf,D.vm] fC (0,0)),(bh,jl lv (k1+1) s2)]) (fun j=>x.ks.length-j) 0 (Nat.zero_le _) iw .refl ?_;rintro j hj;refine kR ?_;refine W.aJ O (fun c76=>?_) (fun c76=>?_)
 ·have hjl:j<x.ks.length:=by omega
  obtain⟨k,hk,-⟩:=has hjl;have azU:=hmt.ks k (dL hk);obtain⟨bk,ok,ckk,Ek,zk,eak,hbk,hxk,hyk,hzk⟩:=(show Sl h1 bY (.slice ak x.ks.length ck) x.ks from Tf).at hk
  cases eak
  have aBS:ckk[ok+j*1]? =some (I k):=hzk 0 dF;clear hxk hzk;refine jk ?_;refine c0 (fun h' hE hL=>aez _ h' D (H1.ext hE)) (fun v A' hv=>?_);obtain⟨D',S',rfl,ahL,aqp,azW⟩:=hv;refine aA.sb (azW.app .refl) ?_;refine aA.new (fun akA=>?_);refine aA.alf (n:=6) (vs:= #[D'.va,I D'.ps,D'.nS,D'.vr,D'.vf,D'.vm]) ?_ (hc:=by show 0+6<=6;decide) (h1:=aqp.alD);refine qj ?_;have azX:=ahL.mo;have azY:=ahL.ok H1;have hml:D'.jJ.length=D.jJ.length:=by have:=congrArg List.length ahL.mts;simpa using this
  obtain⟨kv',hp'⟩:∃kv',D'.jJ[i]? =some (kv',x):=by
   have h1:=congrArg (fun l=>l[i]?) ahL.mts;simp only[iL,hp]at h1
   cases hq:D'.jJ[i]? with
   | none=>rw[hq]at h1;cases h1
   | some q=>rw[hq]at h1;exact⟨q.1,by rw[show q=(q.1,q.2)from rfl,show q.2=x by simpa using h1]⟩
  cases aqp with
  | @mk Sa Sp Sr Sf Sm SK g1 g2 g3 g4 g5 g6=>
  rcases id g5 with⟨he,-⟩ | ⟨XU,cc,ND,Jc,emv,rfl,Y4,ZJ,hpt,hJc⟩
  ·rw[he]at hml;simp at hml;omega
  rw[emv];have hcc:i*5+5<=cc.size:=by omega
  have azZ:i<D'.jJ.length:=by omega
  refine W.sb (F':=(XU,.cells cc kD (0,0))::(akA,.cells #[D'.va,I D'.ps,D'.nS,D'.vr,D'.vf,.slice (some ⟨XU,0,none⟩) D'.jJ.length ND] fC (0,0))::((Sa++(Sp++(Sr++(Sf++SK))))++[(yg,.cells (akz (D.mo.worth i x.ks j)) 35 (0,0)),(mX,.cells #[I wa,I wb] 35 (0,0)),(mW,.cells #[D.va,I D.ps,D.nS,D.vr,D.vf,D.vm] fC (0,0)),(bh,jl lv (k1+1) s2)])) ?_ ?_
  ·simp only[eF,List.cons_append,List.nil_append];refine Sb.pl (A:=[_]) (by repeat(first | exact .head | apply L8.tail | apply L8.app)) (Sb.pl (A:=[_]) (by repeat(first | exact .head | apply L8.tail | apply L8.app)) ?_);show Sb _ (Sa++(Sp++(Sr++(Sf++(Jc++(SK++_))))));exact .app .refl (.app .refl (.app .refl (.app .refl (.left .refl hJc))))
  refine W.seq ?_;refine W.yh (n:=11) O ?_;refine ay 0 ?_;refine ay 1 ?_;refine ay 2 ?_;refine ay 3 ?_;refine ay 4 ?_;refine ay 5 ?_;refine ay 6 ?_;refine abl (i:=7) (cs:= #[I k]) (fun βk=>?_) O;refine ay 8 ?_;refine ay 9 ?_;refine ae (i:=10) O an O O (eS O O O ?_ (hc:=by show 0+i*5+0<cc.size;omega));refine⟨.inl aB,?_⟩;refine az ?_;refine fH ?_;obtain⟨SK',awc,aqu,az0⟩:=alP (βk:=βk) (k:=k) azY g1 g2 g3 g4 g6 hp' azU Y4 ZJ hpt;generalize hD2:D'.kind i x k (.slice (some ⟨βk,0,none⟩) 1 1) (.slice (some ⟨XU,0,none⟩) D'.jJ.length ND)=D2 at awc aqu;have awd:D2.mo=D.mo.kind i k:=by rw[<-hD2,ani hp',azX]
  have hV:D2.V= .agg #[D'.va,I D'.ps,D'.nS,D'.vr,D'.vf,.slice (some ⟨XU,0,none⟩) D'.jJ.length ND]:=by rw[<-hD2];rfl
  have hi2:i<D2.jJ.length:=by rw[<-hD2];show i<(D'.jJ.set _ _).length;rw[List.length_set];exact azZ
  refine W.sb (F':=(Sa++(Sp++(Sr++(Sf++([(XU,.cells (cc.setIfInBounds (0+i*5) (.slice (some ⟨βk,0,none⟩) 1 1)) kD (0,0))]++SK')))))++((akA,.cells #[D'.va,I D'.ps,D'.nS,D'.vr,D'.vf,.slice (some ⟨XU,0,none⟩) D'.jJ.length ND] fC (0,0))::[(yg,.cells (akz (D.mo.worth i x.ks j)) 35 (0,0)),(mX,.cells #[I wa,I wb] 35 (0,0)),(mW,.cells #[D.va,I D.ps,D.nS,D.vr,D.vf,D.vm] fC (0,0)),(bh,jl lv (k1+1) s2)])) ?_ ?_
  ·simp only[eF,List.cons_append,List.nil_append];refine Sb.pl (A:=Sa) (by repeat(first | exact .head | apply L8.tail | apply L8.app)) (Sb.pl (A:=Sp) (by repeat(first | exact .head | apply L8.tail | apply L8.app)) (Sb.pl (A:=Sr) (by repeat(first | exact .head | apply L8.tail | apply L8.app)) (Sb.pl (A:=Sf) (by repeat(first | exact .head | apply L8.tail | apply L8.app)) (Sb.pl (A:=[_]) (by repeat(first | exact .head | apply L8.tail | apply L8.app)) ?_))));refine .trans (.app az0 .refl) ?_;simp only[eF];exact Sb.pl (A:=[_]) (by repeat(first | exact .head | apply L8.tail | apply L8.app)) (Sb.pl (A:=SK) (by repeat(first | exact .head | apply L8.tail | apply L8.app)) .refl)
  refine xI aqu awc (zD.1 _ _ hg) (zD.2 _ z0) (fun h2 NY H2=>?_);refine gI ?_;refine c0 (fun h' hE hL=>show bG aV main abM #[.agg #[D'.va,I D'.ps,D'.nS,D'.vr,D'.vf,.slice (some ⟨XU,0,none⟩) D'.jJ.length ND]] h' [] (fun v F=>v= .tuple #[I D2.mo.JD,.bool true]/\eH F)from by rw[<-hV];exact acF hS qJ h' D2 (H2.ext hE)) (fun v A' hv=>?_);obtain⟨rfl,az2⟩:=hv;refine aA.sb (.left .refl az2) ?_;have hn0:0<=D2.mo.JD/\D2.mo.JD<=24:=ab9;rw[awd]at hn0⊢;obtain⟨n,hn⟩:∃n,(D.mo.kind i k).JD=n:=⟨_,rfl⟩
  rw[hn]at hn0⊢;refine gZ ?_;refine c0 (fun h' hE hL=>show bG aV main aaI #[.agg #[D'.va,I D'.ps,D'.nS,D'.vr,D'.vf,.slice (some ⟨XU,0,none⟩) D'.jJ.length ND],I i] h' [] (fun v F=>∃u S,v= .tuple #[u,I (if(D2.mo.way i).isSome then 0 else 11)]/\Os aX bY u ((D2.mo.way i).getD []) S/\Sb S F)from by rw[<-hV];exact auy hS qJ h' D2 (H2.ext hE) i hi2) (fun v A' hv=>?_);obtain⟨u2,SW2,rfl,awe,axv⟩:=hv;obtain⟨aw2,cw2,rfl⟩:=awe.aU;obtain⟨wl2,asj⟩:∃n,((D2.mo.way i).getD []).length=n:=⟨_,rfl⟩
  obtain⟨e2,hf2⟩:∃e:Int,(if(D2.mo.way i).isSome then 0 else 11)=e:=⟨_,rfl⟩
  have awf:e1=0->e2=0/\wl2<=wl:=fun h0=>by
   cases hw:D.mo.way i with
   | none=>rw[hw]at he1;subst he1;cases h0
   | some w=>
    obtain⟨w',hw',hle⟩:=alL (Iq.xE H1.gk).len hmx azS hk hw;rw[awd,hw']at hf2 asj;rw[hw]at hwl;exact⟨hf2.symm,by rw[<-asj,<-hwl];exact hle⟩
  rw[asj,hf2];refine aA.sb (F':=(akA,.cells #[D'.va,I D'.ps,D'.nS,D'.vr,D'.vf,.slice (some ⟨XU,0,none⟩) D'.jJ.length ND] fC (0,0))::[(yg,.cells (akz (D.mo.worth i x.ks j)) 35 (0,0)),(mX,.cells #[I wa,I wb] 35 (0,0)),(mW,.cells #[D.va,I D.ps,D.nS,D.vr,D.vf,D.vm] fC (0,0)),(bh,jl lv (k1+1) s2)]) (.trans (.left .refl awe.shut) (axv.app .refl)) ?_;refine kR ?_;refine W.cut [(118,.bool false),(16,I n),(14,I j),(13,aG yg),(12,.slice (some ⟨bk,ok,none⟩) x.ks.length ck),(11,I e1),(10,.slice aw wl cw),(8,I now),(6,aG mX),(5,I i),(4,aG mW)] [(yg,.cells (akz (D.mo.worth i x.ks j)) 35 (0,0)),(mX,.cells #[I wa,I wb] 35 (0,0)),(mW,.cells #[D.va,I D.ps,D.nS,D.vr,D.vf,D.vm] fC (0,0)),(bh,jl lv (k1+1) s2)] ?_ ?_
  ·refine d_ ?_;refine Gh (u:=.bool false) (PI O O) O O wn O O ?_;refine lF ?_;refine aA.ask (fun alQ=>?_) (fun alQ=>?_)
   ·refine zT ?_;refine Gh (u:=.bool false) (Fe O O O) (congrArg Value.bool (decide_eq_false (fun hn=>hn (awf alQ).1))) O (aI O O O) O O ?_;refine kJ ?_;refine Gh (u:=.bool false) (WH O O O) (congrArg Value.bool (decide_eq_false (by have:=(awf alQ).2;omega))) O (aI O O O) O O ?_;refine gI ?_;refine aA.nil ?_;exact⟨O,O,iw,.skip O .refl⟩
   refine gI ?_;refine aA.noU ?_;refine aA.noU ?_;refine aA.noU ?_;refine aA.noU ?_;refine aA.noU ?_;refine gI ?_;refine aA.nil ?_;exact⟨O,O,iw,.skip O .refl⟩
  refine W.iq ?_;refine gI ?_
  obtain⟨a0,b0,hc0,hs0,hz0⟩:∃a b,akz (D.mo.worth i x.ks j)= #[I a,I b]/\(1<=j->D.mo.worth i x.ks j=some (a,b))/\(j=0->D.mo.worth i x.ks j=none):=by
   rcases Nat.eq_zero_or_pos j with rfl | hj1
   ·exact⟨0,0,O,fun h=>absurd h aj,fun _=>rfl⟩
   obtain⟨k',fA,-⟩:=has (show j-1<x.ks.length by omega);have h1:=aaZ (N:=D.mo) (i:=i) fA;obtain⟨⟨a,b⟩,hq⟩:=alK (D.mo.worth i x.ks (j-1)) ((D.mo.kind i k').JD-D.mo.JD);rw[hq,show j-1+1=j by omega]at h1;exact⟨a,b,by rw[h1];rfl,fun _=>h1,fun h=>by omega⟩
  rw[hc0];obtain⟨q,hq⟩:∃q:Int×Int,(if j=0 then(n-now,n-now)else(a0,b0))=q:=⟨_,rfl⟩
  have awh:akz (D.mo.worth i x.ks (j+1))= #[I (min q.1 (n-now)),I (max q.2 (n-now))]:=by
   rw[aaZ hk,hn,awj];rcases Nat.eq_zero_or_pos j with h0 | h0
   ·rw[hz0 h0,<-hq,if_pos h0];show #[I (n-now),I (n-now)]= #[I (min (n-now) (n-now)),I (max (n-now) (n-now))];rw[Int.min_self,Int.max_self]
   rw[hs0 h0,<-hq,if_neg aj];rfl
  refine W.cut [(16,I n),(14,I j),(13,aG yg),(12,.slice (some ⟨bk,ok,none⟩) x.ks.length ck),(11,I e1),(10,.slice aw wl cw),(8,I now),(6,aG mX),(5,I i),(4,aG mW)] [(yg,.cells #[I q.1,I q.2] 35 (0,0)),(mX,.cells #[I wa,I wb] 35 (0,0)),(mW,.cells #[D.va,I D.ps,D.nS,D.vr,D.vf,D.vm] fC (0,0)),(bh,jl lv (k1+1) s2)] ?_ ?_
  ·refine kJ ?_;refine W.aJ O (fun az3=>?_) (fun az3=>?_)
   ·refine FT ?_;refine aA.nil ?_;rw[if_pos aj]at hq;subst hq;exact⟨O,O,iw,.refl⟩
   refine W.skip ?_;rw[if_neg aj]at hq;subst hq;exact⟨O,O,iw,.refl⟩
  refine Qu ?_;refine aA.nil<|iE<|fH<|W.region rfl<|aiH rfl rfl rfl ?_;refine gI ?_;refine⟨O,j+1,hjl,aj,iw,?_⟩;rw[awh];exact .refl
 obtain rfl:j=x.ks.length:=by omega
 refine lg ?_;rw[ew];refine gI ?_;refine Gh (u:=.bool true) (ai5 [wa,wb] [wa,wb] O O O O O O O) (congrArg Value.bool (decide_eq_true O)) O wn O O ?_;refine kJ ?_;refine aA.ask (fun awm=>?_) (fun awm=>?_)
 ·refine lg ?_;refine c0 (g:=some _) (fun h' hE hL=>Ve hS qJ h' Eg zg ((zD.trans hE).1 _ _ hg) ((zD.trans hE).2 _ z0)) (fun v A' hv=>?_) (hw:=aI O O O);obtain⟨rfl,aq9⟩:=hv;refine aA.sb (.left .refl aq9) ?_;refine lF ?_;exact lvq (hs:=.cons O (.cons O (.cons O (.cons O .nil)))) O
 first | refine kw_ (ZW rfl rfl) rfl ?_ | refine kw_ (Qm rfl rfl) rfl ?_
 refine oq (dw (cs:= #[I 0,I 0]) O O aB) O (aI O O O) O O ?_
 have h00:wa=0/\wb=0:=by
  have h1:=aiF hmx azR aj;rw[ew]at h1;simpa using h1
 refine Gh (u:=.bool true) (ai5 [wa,wb] [0,0] O O O O O O O) (congrArg Value.bool (decide_eq_true (by rw[h00.1,h00.2]))) O (aI O O O) O O ?_;refine gI ?_;refine c0 (g:=some _) (fun h' hE hL=>Ve hS qJ h' Eg zg ((zD.trans hE).1 _ _ hg) ((zD.trans hE).2 _ z0)) (fun v A' hv=>?_) (hw:=aI O O O);obtain⟨rfl,aq9⟩:=hv;refine aA.sb (.left .refl aq9) ?_;refine lF ?_;exact lvq (hs:=.cons O (.cons O (.cons O (.cons O .nil)))) O
open Go.Proofs.YtjohlemgkcpoeaaGreatDoor
theorem ayI:ownKnob aV.godebug=none:=by kernel_rfl
theorem akK:laidOutB aV=true:=by kernel_rfl
theorem et0:aV.globalNamed "errors.errorType" =some 0:=by kernel_rfl
abbrev aq_:String:=match(Rows.laid_errors_errorType:DataW Unit)with
 | .iface s _=>s
 | _=> ""
theorem rt0:(aV.cutTypes.find? (·.1==aq_)).map (·.2)=some yB:=by kernel_rfl
theorem auY:aV.types.size=391:=by kernel_rfl
theorem anq:((List.range 391).filter fun t=>aV.rowNamed t [101,114,114,111,114])=[kC]:=by kernel_rfl
theorem Oc:aV.underlying tV=some (.slice aX):=by kernel_rfl
theorem ahp:aV.underlying aX=some (.int .i64):=by kernel_rfl
theorem aee:aV.underlying KO=some .bool:=by kernel_rfl
theorem ahq:aV.cellsOf aX=1:=by kernel_rfl

abbrev Ry:List (String×DataW Unit):=[("errors.errorType",Rows.laid_errors_errorType)]
theorem anr{W:World}(h:laidMetH aV Ry W):∃E z,W.heap[0]? =some (.cells #[QI kC] E z):=by
 have h':laidMet aV [] W/\handlesMet aV Ry W:=h;obtain⟨name,u,ty,e1,e2,e3,e4,e5⟩:=h'.2 _ (dP.2 rfl);have en:name=[101,114,114,111,114]:=(Option.some.inj e1).symm;subst en;obtain rfl:=Option.some.inj (rt0.symm.trans e2);have hm:ty∈(List.range 391).filter fun t=>aV.rowNamed t [101,114,114,111,114]:=List.mem_filter.2 ⟨List.mem_range.2 (by rw[<-auY];exact e3),e4⟩;rw[anq]at hm;obtain rfl:=dP.1 hm;simp only[World.var?]at e5;rw[et0,Option.bind_some]at e5;split at e5
 ·rename_i cs E z hb;obtain rfl:=Option.some.inj e5;exact⟨E,z,hb⟩
 cases e5

noncomputable def Wx(os:Go.Os):World:=
 let w0:=World.holding aV os ⟨#[], #[],[]⟩
 {w0 with heap:=w0.heap.modify 0 fun
   | .cells _ t frozen=>.cells #[QI kC] t frozen
   | o=>o}
theorem Vl(os:Go.Os)(args:Array Value):laidMetH aV Ry ((Wx os).forCall (fun _ _=>0) ⟨#[],args,[]⟩).memory:=
 laidMetH_of_parts (laidMet_nil _ _) aB

theorem Wu{l:List (String×DataW Unit)}{w:World}(hh:w.heap=w'.heap)(h:laidMetH P l w):laidMetH P l w':=h.of_heap hh

theorem XZ{H:Type}{enc:TypeId×Value->H}{C:Checked}{os:Go.Os}{fn:Func}{conds:List PathCond}{apart:Bool}{X:World->Array Value->Prop}(w0:World)(args:Array Value)(fuel:Nat)(hos:w0.os=os)
  (hv:(w0.forCall (fun _ _=>0) ⟨#[],args,[]⟩).variablesB C.prog=true)
  (
   hr:((w0.forCall (fun _ _=>0) ⟨#[],args,[]⟩).heap.toList.drop C.prog.globals.size).take ((begin C.prog (fun _ _=>0) default).world.heap.size-C.prog.globals.size)=
   (begin C.prog (fun _ _=>0) default).world.heap.toList.drop C.prog.globals.size)
  (uU:Input.okWideB C.prog (w0.forCall (fun _ _=>0) ⟨#[],args,[]⟩) f ⟨#[],args,[]⟩=true)
  (Tn:s.preB enc C.prog fn conds apart (w0.forCall (fun _ _=>0) ⟨#[],args,[]⟩).memory args fuel=true)
  (oH:s.sizedB enc C.prog fn apart (w0.forCall (fun _ _=>0) ⟨#[],args,[]⟩).memory args fuel=true)
  (hx:X (w0.forCall (fun _ _=>0) ⟨#[],args,[]⟩).memory args):
  ∃(w:World) (tape:Tape) (i:Input),w.os=os/\(w.forCall tape i).Shaped C.prog/\i.vars=[]/\Input.okWide C.prog (w.forCall tape i) .any w.heap.size f i/\
   ((s.pre enc C.prog fn conds apart (w.forCall tape i).memory i.args/\X (w.forCall tape i).memory i.args)/\sizedMet enc C.prog fn (OpenSpec.ofChange s) apart (w.forCall tape i).memory i.args)/\({calm:=true}:Assume).holds C.prog (lone (Frame.enter C.prog f i.args .normal) [] (w.forCall tape i)):=
 ⟨w0,fun _ _=>0,⟨#[],args,[]⟩,hos,World.shaped_of_B hv hr,(Input.okWide_of_okWideB (base:=0) uU).1,(Input.okWide_of_okWideB uU).2,⟨⟨ChangeSpec.pre_of_preB Tn,hx⟩,sizedMet_of_sizedB oH⟩,by
  simp only[Assume.holds];exact⟨by simp,fun _ _ _ _=>rfl,by simp,by simp,by simp⟩⟩

section
open Go.ChangeShapes Go.WideShapes Go.RowKit
theorem arY{fn:Func}(os:Go.Os)(started:os.Started)(H:Type)(enc:TypeId×Value->H)(hfn:aV.funcs[f]? =some fn)(auZ:aV.inits.idxOf? f=none)(hp:fn.params.toList=[tV])(hpa:fn.params= #[tV])(hr:fn.resultTypes.toList=[KO])(hrs:fn.resultTypes.size=1)(hv:s.vars=[])
  (hs:∀d,s.fn H [d]={results:=[.lit (.bool true)],args:=[d]})
  (
   witness:∃(w:World) (tape:Tape) (i:Input),w.os=os/\(w.forCall tape i).Shaped aV/\i.vars=[]/\Input.okWide aV (w.forCall tape i) .any w.heap.size f i/\
   ((s.pre enc aV fn [] false (w.forCall tape i).memory i.args/\laidMetH aV Ry (w.forCall tape i).memory)/\sizedMet enc aV fn (OpenSpec.ofChange s) false (w.forCall tape i).memory i.args)/\({calm:=true}:Assume).holds aV (lone (Frame.enter aV f i.args .normal) [] (w.forCall tape i)))
  (T:∀(main:aN) (_:∀S,main.ok S->∃Fin,S=Mn aV Fin) (_:main.b=true) (h:Hp) (cZ:List Int) (lv:Value) (Eg:TypeId) (zg:Nat×Nat) (_:Sl h bY lv cZ) (_:h 0=some (.cells #[QI kC] Eg zg)) (_:h.z 0),acg aV main f #[lv] h (.bool true))
  (F:Stop.Interp):ReturnsInLeavingWide {calm:=true} Go.Proofs.Tryz.checked os f .any (fun w args=>(s.pre enc aV fn [] false w args/\laidMetH aV Ry w)/\sizedMet enc aV fn (OpenSpec.ofChange s) false w args) ((OpenSpec.ofChange s).postWith enc aV fn F (outsideKept [.timePasses]) false true false):=by
 refine returnsInLeavingWide_of_good (C:=Go.Proofs.Tryz.checked) ayI started witness ?_;intro w tape i _ _ _ uU Tn _;obtain⟨_,_,_,fn',ayJ,_,_,_,_,au0⟩:=uU;have e:fn'=fn:=Option.some.inj (ayJ.symm.trans hfn);subst e;obtain⟨⟨⟨ds,gs,before,hw,-⟩,hx⟩,-⟩:=Tn;have hW:=DataW.Whole.of_heap (w':=w.forCall tape i) (by rfl) hw;have hL:laidMetH aV Ry (w.forCall tape i):=Wu (by rfl) hx;generalize w.forCall tape i=W at*;have ara:∀(j:Nat) t v,fn'.params[j]? =some t->i.args[j]? =some v->Value.okWide aV W .any w.heap.size t v:=au0;have hW':=hW;obtain⟨p,q,hA0,hV,rfl,_,_⟩:=hW;have hA:DataW.TrodAll enc aV W 0 (fun _=>true) true fn'.params.toList i.args.toList ds p:=hA0;rw[hp]at hA;rw[hpa]at ara;obtain⟨v0,d0,ha,rfl,h0⟩:=trodAll_one hA;have aeP:i.args= #[v0]:=by simpa using ha
 rw[aeP]at ara hW'⊢;rw[hv]at hV;obtain⟨rfl,rfl⟩:=trodVars_none hV;simp only[List.append_nil]at hW';have fK:∀x∈p,x.block<W.heap.size:=fun x hx=>by simpa using hW'.lt x hx
 obtain⟨a0,len,cap,rfl⟩:=okWide_slice Oc (ara 0 tV v0 rfl rfl);obtain⟨E,z,hg⟩:=anr hL
 have P7:∃cZ,Sl (kZ W) bY (.slice a0 len cap) cZ:=by
  obtain⟨fuel,hf⟩:=h0;rcases open_ints Oc ahp ahq hf with⟨IW,_⟩ | ⟨a,aAK,f_,zs,IW,_,hl,hm,hz,_,ajo,_⟩
  ·simp[Value.cells]at IW;obtain⟨rfl,rfl,rfl⟩:=IW;exact⟨[],.nil⟩
  simp[Value.cells]at IW;obtain⟨rfl,rfl,rfl⟩:=IW;simp only[if_true]at hz;exact⟨zs.take len,Sl.kZ aj ajo⟩
 obtain⟨cZ,P7⟩:=P7;have hgs:kZ W 0=some (.cells #[QI kC] E z):=lN.2 ⟨hg,O⟩;obtain⟨M,last,o,w',t',h1,h2,h3,h4⟩:=acg.run auZ (T (G_ aV (AX aV fun v _=>v= .bool true)) (fun S h=>⟨_,h⟩) rfl (kZ W) cZ _ E z P7 hgs ⟨_,hg,rfl⟩);refine⟨M,last,o,w',t',h1,h2,h3,h4.mono fun v hF=>?_⟩;obtain⟨rfl,hk⟩:=hF;have hb:Below W.heap.size W {w' with os:=W.os}:=⟨rfl,hk.tape,hk.output,hk.size,hk.block⟩
 refine postWith_blind (postWith_of_post ⟨[d0],[],p,[],p,[],hW',?_,?_,?_,hb.frame _,fun h=>by cases h⟩ (hk.os▸Go.ConcM.OsLater.refl _))
 ·have hrl:Value.resultList fn'.resultTypes.size (.bool true)=[.bool true]:=by rw[hrs];rfl
  rw[List.append_nil,hs,hrl,hr];exact trodAll_mk1 (shut_bool aee true)
 ·rw[List.append_nil,hs,hp];exact trodAll_mk1 (Below.trod akK aB (of_decide_eq_true aB) h0 hb fK)
 rw[List.append_nil,hs,hv];rfl
end
theorem afF(Lk:Looks){p:Pinned}{s:OpenSpec}{c:OpenClaim}(al:List (List PathCond))(kinds:List LaidKind)(afE:Bool)(har:Bool×String)(lk:Bool)
  (hc:c.holds p s) (Y0:∀D∈al,(c.withDomain D).holds p s) (hw:c.wfByText s=true) (ayK:∀D∈al,(c.withDomain D).wfByText s=true)
  (ayL:c.laidByTextAt Lk p kinds afE)
  (fP:c.start= .entering) (Eo:c.noBlocks=false/\c.again=false) (hm:p.checked.prog.mainIs=some (har.1,har.2.toList)) (hn:(!har.1&&har.2.isEmpty&& !lk)=false)
  (hl:∀f fn,p.checked.prog.funcNamed c.func=some f->p.checked.prog.funcs[f]? =some fn->lk=p.checked.prog.looks []/\∀(j:Nat) t,fn.params[j]? =some t->p.checked.prog.wantsStandIn t=false)
  (hg:true=c.goesBy p.checked.prog):
  Claim7.holds p (.plain s) {stood:={row:=c,standIns:=[],harness:=har,looks:=lk},kinds:=[],alts:=al,goes:=true,laidByText:=true,laidKinds:=kinds,laidTests:=afE,laidLooks:=Lk}:=by
 have h6:∀r:OpenClaim,Claim7.isSixth {stood:={row:=r,standIns:=[],harness:=har,looks:=lk},kinds:=[]}=false:=fun r=>by simpa[Claim7.isSixth]using hn
 refine⟨Claim7.tied_new_at Lk kinds afE (Claim7.new_of_sixth hc har lk fP Eo hm (h6 c) hl) hw,fun D hD=>?_,ayL,(fun h=>by cases h),hg⟩;exact Claim7.tied_new_at Lk kinds afE (Claim7.new_of_sixth (Y0 D hD) har lk fP Eo hm (h6 _) hl) (ayK D hD)

end Go.jc
