/- A month out of a hat. Conditions: none; over the given program. (And 11 texts more.) -/
import Derived.Test.YtjohlemgkcpoeaaGreatDoorR17
import Derived.Test.YtjohlemgkcpoeaaGreatDoorR09
import Derived.Test.YtjohlemgkcpoeaaGreatDoorR06
import Derived.Test.YtjohlemgkcpoeaaGreatDoorR07
import Derived.Conc.LeavingOf
import Derived.LaidLaws
import Derived.LaidHandle
import Derived.ChangeSlices
import Derived.WideShapes
import Derived.Carry
import Derived.RowKit
set_option linter.unusedVariables false
set_option linter.unusedSimpArgs false
set_option linter.unusedSectionVars false
set_option maxRecDepth 100000
set_option maxHeartbeats 40000000

open Go.Proofs.Tryz
namespace Go.jc
structure yD.OK(D:yD):Prop where
 gk:JC D.gs=0
 pk:0<=D.ps/\D.ps<=63
 sk:jP D.Vj [] D.rs=0
 fk:dU D.fs []=0
 me:∀p∈D.jJ,EU p.2
 m4:D.jJ.length<=4
inductive yD.Own(D:yD):ah->Prop
 | mk {Sa Sp Sr Sf Sm SK:ah}:Os IZ Ag.row D.va D.gs Sa->Os aaO Pn.row D.nS D.Vj Sp->Os aX bY D.vr D.rs Sr->Os A_ Fl.row D.vf D.fs Sf->Os kD yM D.vm D.jJ Sm->OsM D.jJ SK->yD.Own D (Sa++(Sp++(Sr++(Sf++(Sm++SK)))))
variable{A F:ah}{D D':yD}{E E' b ba bf bm bp br wO cap k0 k2 k3 t t' β:Nat}{Eg:TypeId}{M:oU}{N:Mo}{P:Program}{a:Option Addr}{args c zc:Array Value}{ds:List Deferred}{h:Hp}{i:Int}{ks1:List Int}{p:Nat->Bool}{td:List Nat}{u vk xv z:Value}{x:Cx}{y yx:Operand}{zg:Nat×Nat}{α:Type}{SK Sa Sf Sk Sm Sr f k1 m r:List α}{ρ:Env}
theorem yD.Own.shut(H:D.Own A):eH A:=by
 cases H with
 | mk h1 h2 h3 h4 h5 h6=>exact h1.shut.app (h2.shut.app (h3.shut.app (h4.shut.app (h5.shut.app h6.shut))))
theorem xI{c:Code}{Q:fO}(H:D.Own A)(uU:D.OK)(hg:x.h 0=some (.cells #[QI kC] Eg zg))(z0:x.h.z 0)
  (K:∀h',Ext x.h h'->D.At h'->W {x with h:=h'} c Q ρ ds F):W x c Q ρ ds (A++F):=by
 cases H with
 | mk h1 h2 h3 h4 h5 h6=>
  simp only[eF];refine eY h1 fun a e1 s1 y1=>?_;refine eY h2 fun b e2 s2 y2=>?_;refine eY h3 fun c e3 s3 y3=>?_;refine eY h4 fun d e4 s4 y4=>?_;refine eY h5 fun e e5 s5 y5=>?_;refine ZC h6 fun f e6 aO=>?_;have g6:=e6;have g5:=e5.trans g6;have g4:=e4.trans g5;have g3:=e3.trans g4;have g2:=e2.trans g3;have g1:=e1.trans g2;exact K f g1 ⟨s1.ext g2,y1.ext g2,uU.gk,uU.pk,s2.ext g3,s3.ext g4,uU.sk,s4.ext g5,y4.ext g5,uU.fk,s5.ext g6,fun p hp=>⟨(aO p hp).1,(aO p hp).2,uU.me p hp⟩,uU.m4,⟨Eg,zg,g1.1 _ _ hg⟩,g1.2 _ z0⟩

theorem XW:∀{l:List Ag},(∀g∈l,DJ g=0)->FH l=0
 | [],_=>rfl
 | a::l,h=>by
  rw[FH,if_pos (h a (bT ..))];exact XW fun g hg=>h g (dH _ hg)
theorem ahn{ps:List Pn}{rs:List Int}(h1:ps.length<=4)(h2:∀p∈ps,oN p=0)(h3:rs.length=ps.length)(h4:∀r∈rs,0<=r/\r<=20):jP ps [] rs=0:=by
 unfold jP;rw[if_neg (by rw[amN h1 h2];decide),if_neg dF];unfold UF;rw[if_neg aj,if_neg aj,if_neg];rw[Bool.not_eq_true,List.any_eq_false];intro r hr;have:=h4 r hr;rw[decide_eq_true_eq];unfold outs;omega
theorem ace:∀{fs:List Fl},(∀f∈fs,lu f=0)->kV fs=0
 | [],_=>rfl
 | a::l,h=>by
  rw[kV,if_pos (h a (bT ..))];exact ace fun g hg=>h g (dH _ hg)
theorem aec{fs:List Fl}(h:1<=fs.length/\fs.length<=2)(hf:∀f∈fs,lu f=0):dU fs []=0:=by
 unfold dU;rw[if_neg aj,if_neg aj,if_neg (by rw[ace hf];decide),if_neg dF]
 rfl
theorem auO{G:List α}:(Sm++((SK++Sk)++G)).Perm (Sk++(Sm++(SK++G))):=by
 classical
 rw[List.perm_iff_count];intro y;simp only[List.count_append];omega
theorem auP{Sp:List α}:(Sa++(Sp++(Sr++(Sf++(Sm++SK))))).Perm (Sm++(SK++(Sf++(Sr++(Sp++Sa))))):=by
 classical
 rw[List.perm_iff_count];intro y;simp only[List.count_append];omega

theorem aed(main:aN)(h:Hp)(cZ:List Int)(lv:Value)(b k:Nat)(s:Int)(n:Nat)(hl:Sl h bY lv cZ)(hk:k<=100)(hn:n<=4):bG aV main Vz #[aG b,I n] h [(b,jl lv k s)]
  (fun v A=>∃D k' s' S,v=yD.V D/\D.OK/\D.jJ.length<=n/\(∀p∈D.jJ,∀m∈p.2.ks,m<=7)/\D.Own S/\k'<=k+1000/\Sb ((b,jl lv k' s')::S) A):=by
 refine bG.bH func7 [(0,aG b),(1,I n)] ?_;refine d_ ?_;refine aA.new (fun mW=>?_);refine lF ?_;refine cg (A:=[(b,_)]) (.tail .all) (fun h' hE hL=>ab_ _ h' cZ lv b k s (hl.ext hE) aj) (fun v A' hv=>?_);obtain⟨gs,Sa,k1,s1,hOa,hgs,hk1,bF⟩:=hv;obtain⟨aa,ca,rfl⟩:=hOa.aU;refine aA.sb (.cons bF) ?_;refine zT ?_;refine cg (A:=[(b,_)]) (.tail .head) (fun h' hE hL=>agS _ h' cZ lv b k1 s1 3 (hl.ext hE) aj aj) (fun v A' hv=>?_);obtain⟨Vj,Sp,k2,s2,hOp,hps,hk2,bF⟩:=hv;obtain⟨ap,cp',rfl⟩:=hOp.aU;refine aA.sb (.cons (bF.app (D:=Sa) .refl)) ?_;refine zT ?_;refine aA.new (fun iI=>?_);refine gI ?_;refine W.sb (F':=(iI,.cells #[.slice aa gs.length ca,I 0,.slice ap Vj.length cp',.slice none 0 0,.slice none 0 0,.slice none 0 0] fC (0,0))::(mW,.cells #[.slice none 0 0,I 0,.slice none 0 0,.slice none 0 0,.slice none 0 0,.slice none 0 0] fC (0,0))::(b,jl lv k2 s2)::(Sp++Sa)) .refl ?_;refine W.mono (Q:=(fun e gW iT F'=>e= .normal/\iT=[]/\(∃ps rs ar cr Sr k3 s3,Sub [(5,aG iI),(4,aG mW),(0,aG b),(1,I n)] gW/\(0<=ps/\ps<=63)/\Os aX bY (.slice ar rs.length cr) rs Sr/\(rs.length=Vj.length/\∀r∈rs,0<=r/\r<=20)/\k3<=k+400/\Sb ((iI,.cells #[.slice aa gs.length ca,I ps,.slice ap Vj.length cp',.slice ar rs.length cr,.slice none 0 0,.slice none 0 0] fC (0,0))::(mW,.cells #[.slice none 0 0,I 0,.slice none 0 0,.slice none 0 0,.slice none 0 0,.slice none 0 0] fC (0,0))::(b,jl lv k3 s3)::(Sr++(Sp++Sa))) F'))) ?_ ?_
 ·refine W.kQ [] (n:=11) O ?_;refine ay 0 ?_;refine ay 2 ?_;refine ay 3 ?_;refine Any.Vp (i:=1) (j:=4) aB (aK O) (aK O) an an O O O O ?_ ?_
  ·refine(gq (A:=[(b,jl lv k2 s2)]) (args:=[_,_]) O O (.tail (.tail .head)) (fun h' hE hL=>XV _ h' cZ lv b k2 s2 (hl.ext hE) aj) (fun v A' hv=>?_));refine⟨.inr aC.nil,?_⟩;obtain⟨ps,s3,rfl,akB,bF⟩:=hv;refine Any.sb (.cons (.cons (bF.app (D:=Sp++Sa) .refl))) ?_;refine ae (i:=4) rfl an rfl rfl (Ef.YH (CG rfl rfl) ⟨.inr (by first | exact aC.nil | exact aC.refl | exact fun _ h=>h | ((repeat(first | exact fun _ h=>h | apply aC.cons | apply aC.app)) <;>fail) | (repeat(first | exact aC.nil | refine aC.one zS ?_))),?_⟩);refine ay 5 ?_;refine ay 7 ?_;refine ae (i:=6) O an O O (gq (A:=[(b,jl lv (k2+6) s3)]) (args:=[_,_]) O O (.tail (.tail .head)) (fun h' hE hL=>UM _ h' cZ lv b (k2+6) s3 Vj.length (hl.ext hE) aj aj) (fun v A' hv=>?_));refine⟨.inr aC.nil,?_⟩;obtain⟨rs,Sr,k3,s4,hOr,hrs,hk3,bF⟩:=hv;obtain⟨ar,cr,rfl⟩:=hOr.aU;refine Any.sb (.cons (.cons (bF.app (D:=Sp++Sa) .refl))) ?_;refine ae (i:=8) O an O O (eS O O O ?_);refine⟨.inr MR,?_⟩;refine ay 9 ?_;refine ae (i:=10) O an O O (eS O O O ?_);refine⟨.inr MR,?_⟩;refine az ?_;exact⟨O,O,ps,rs,ar,cr,Sr,k3,s4,iw,akB,hOr,hrs,aj,.refl⟩
  refine(Ef.YH (CG rfl rfl) ⟨.inr (by first | exact aC.nil | exact aC.refl | exact fun _ h=>h | ((repeat(first | exact fun _ h=>h | apply aC.cons | apply aC.app)) <;>fail) | (repeat(first | exact aC.nil | refine aC.one zS ?_))),?_⟩);refine ay 5 ?_;refine ae (i:=1) O an O O (gq (A:=[(b,jl lv k2 s2)]) (args:=[_,_]) O O (.tail (.tail .head)) (fun h' hE hL=>XV _ h' cZ lv b k2 s2 (hl.ext hE) aj) (fun v A' hv=>?_));refine⟨.inr aC.nil,?_⟩;obtain⟨ps,s3,rfl,akB,bF⟩:=hv;refine Any.sb (.cons (.cons (bF.app (D:=Sp++Sa) .refl))) ?_;refine ay 7 ?_;refine ae (i:=6) O an O O (gq (A:=[(b,jl lv (k2+6) s3)]) (args:=[_,_]) O O (.tail (.tail .head)) (fun h' hE hL=>UM _ h' cZ lv b (k2+6) s3 Vj.length (hl.ext hE) aj aj) (fun v A' hv=>?_));refine⟨.inr aC.nil,?_⟩;obtain⟨rs,Sr,k3,s4,hOr,hrs,hk3,bF⟩:=hv;obtain⟨ar,cr,rfl⟩:=hOr.aU;refine Any.sb (.cons (.cons (bF.app (D:=Sp++Sa) .refl))) ?_;refine ae (i:=8) O an O O (eS O O O ?_);refine⟨.inr MR,?_⟩;refine ay 9 ?_;refine ae (i:=10) O an O O (eS O O O ?_);refine⟨.inr MR,?_⟩;refine az ?_;exact⟨O,O,ps,rs,ar,cr,Sr,k3,s4,iw,akB,hOr,hrs,aj,.refl⟩
 rintro e gW iT F' ⟨rfl,rfl,ps,rs,ar,cr,Sr,k3,s3,zD,akB,hOr,hrs,hk3,UO⟩;refine gI ?_;refine W.env zD (W.sb UO ?_);refine d_ ?_;refine cg (A:=[(b,_)]) (.tail (.tail .head)) (fun h' hE hL=>oM _ h' cZ lv b k3 s3 1 2 (hl.ext hE) aj aj) (fun v A' hv=>?_);obtain⟨r,s4,rfl,hr,bF⟩:=hv;refine aA.sb (.cons (.cons (bF.app (D:=Sr++(Sp++Sa)) .refl))) ?_;obtain⟨m,rfl⟩:∃m:Nat,r=m:=⟨r.toNat,aj⟩
 refine gI ?_;obtain⟨G,hG⟩:∃G,Sr++(Sp++Sa)=G:=⟨_,rfl⟩
 rw[hG]
 refine W.uq (σ:=Nat) (τ:=List Fl×Value×ah) (υ:=Nat×Int) (fun i t u=>i<=2/\Os A_ Fl.row t.2.1 t.1 t.2.2/\(∀f∈t.1,lu f=0)/\t.1.length+i=m/\u.1+6*i=k3+1+6*m) (fun i _ _=>[(6,I i),(5,aG iI),(4,aG mW),(0,aG b),(1,I n)])
  (fun _ t u=>(iI,.cells #[.slice aa gs.length ca,I ps,.slice ap Vj.length cp',.slice ar rs.length cr,t.2.1,.slice none 0 0] fC (0,0))::(mW,.cells #[.slice none 0 0,I 0,.slice none 0 0,.slice none 0 0,.slice none 0 0,.slice none 0 0] fC (0,0))::(b,jl lv u.1 u.2)::(t.2.2++G)) (fun i _ _=>i) m ([],.slice none 0 0,[]) (k3+1,s4) ⟨aj,.nil .nil,(fun f hf=>by cases hf),by simp,by simp⟩ iw .refl ?_
 rintro i ⟨fs,vf,Sf⟩ ⟨k4,s5⟩ ⟨hi,hOf,hcf,CV,QH⟩;simp only at hOf hcf CV QH⊢;obtain⟨af,cf,rfl⟩:=hOf.aU;refine lg ?_;refine W.aJ O (fun JW=>?_) (fun JW=>?_)
 ·skip
  refine lF ?_;refine W.O6 (n:=8) O ?_;refine ay 0 ?_;refine ay 1 ?_;refine ay 2 ?_;refine ae (i:=3) O an O O (gq (A:=[(b,_)]) (args:=[_]) O O (.tail (.tail .head)) (fun h' hE hL=>aeb _ h' cZ lv b k4 s5 (hl.ext hE) aj) (fun v A' hv=>?_));refine⟨.inr (aC.one (.head _) aC.nil),?_⟩;obtain⟨f,s6,rfl,ays,bF⟩:=hv;refine Any.sb (.cons (.cons (bF.app (D:=Sf++G) .refl))) ?_;refine abl (i:=4) (cs:= #[I f.pl,I f.lo,I f.hi,I f.co]) (fun ayt=>?_) O;refine ae (i:=5) O an O O (bV (row:=Fl.row) (l':=[f]) O O O hOf (.tail (.tail (.tail (.tail .head)))) (fun h2 _ hl=>Sl.mk (hl ayt _ (.head _)) O (Part.all (flat Fl.row [f]))) (by simp;omega) dF O (fun v' S' xM=>?_));refine⟨.inr (aC.one (.tail _ (.head _)) aC.nil),?_⟩;have mM:one v'=true:=by obtain⟨_,_,rfl⟩:=xM.aU;rfl
  refine ay 6 ?_;refine ae (i:=7) O an O O (eS O O O ?_);refine⟨.inl aB,?_⟩;refine az ?_;refine jk ?_;refine⟨O,i-1,(fs++[f],v',S'),(k4+6,s6),⟨aj,xM,fun g hg=>?_,by simp;omega,by simp only;omega⟩,aj,⟨lk O (show I _=I _ by congr 1;omega),O,O,O,O,trivial⟩,.skip O .refl⟩;rcases dh.1 hg with hg | hg
  ·exact hcf g hg
  rw[dP.1 hg];exact ays
 obtain rfl:i=0:=by omega
 refine gZ ?_;refine cg (A:=[(b,_)]) (.tail (.tail .head)) (fun h' hE hL=>oM _ h' cZ lv b k4 s5 0 n (hl.ext hE) aj aj) (fun v A' hv=>?_);obtain⟨r,s6,rfl,hr2,bF⟩:=hv;refine aA.sb (.cons (.cons (bF.app (D:=Sf++G) .refl))) ?_;obtain⟨q,rfl⟩:∃q:Nat,r=q:=⟨r.toNat,aj⟩
 refine gI ?_;obtain⟨G2,hG2⟩:∃G2,Sf++G=G2:=⟨_,rfl⟩
 rw[hG2]
 refine W.uq (σ:=Nat) (τ:=List (Value×Mt)×Value×ah×ah) (υ:=Nat×Int) (fun i t u=>i<=4/\Os kD yM t.2.1 t.1 t.2.2.1/\OsM t.1 t.2.2.2/\(∀p∈t.1,EU p.2/\∀n∈p.2.ks,n<=7)/\t.1.length+i=q/\u.1+20*i<=k4+1+20*q) (fun i _ _=>[(7,I i),(5,aG iI),(4,aG mW),(0,aG b)])
  (fun _ t u=>(iI,.cells #[.slice aa gs.length ca,I ps,.slice ap Vj.length cp',.slice ar rs.length cr,.slice af fs.length cf,t.2.1] fC (0,0))::(mW,.cells #[.slice none 0 0,I 0,.slice none 0 0,.slice none 0 0,.slice none 0 0,.slice none 0 0] fC (0,0))::(b,jl lv u.1 u.2)::(t.2.2.1++(t.2.2.2++G2))) (fun i _ _=>i) q ([],.slice none 0 0,[],[]) (k4+1,s6) ⟨aj,.nil .nil,.nil,(fun f hf=>by cases hf),by simp,by simp⟩ iw .refl ?_
 rintro i ⟨jJ,vm,Sm,SK⟩ ⟨k5,s7⟩ ⟨hi2,hOm,hOK,hmt,hml,hk5⟩;simp only at hOm hOK hmt hml hk5⊢;obtain⟨am,cm,rfl⟩:=hOm.aU;refine lg ?_;refine W.aJ O (fun Wj=>?_) (fun Wj=>?_)
 ·skip
  refine lF ?_;refine W.O6 (n:=8) O ?_;refine ay 0 ?_;refine ay 1 ?_;refine ay 2 ?_;refine ae (i:=3) O an O O (gq (A:=[(b,_)]) (args:=[_]) O O (.tail (.tail .head)) (fun h' hE hL=>ZE _ h' cZ lv b k5 s7 (hl.ext hE) aj) (fun v A' hv=>?_));refine⟨.inr (aC.one (.head _) aC.nil),?_⟩;obtain⟨kv,x,Sk,k6,s8,rfl,hOk,hx,hx7,hk6,bF⟩:=hv;obtain⟨ak,ck,rfl⟩:=hOk.aU;refine Any.sb (.cons (.cons (bF.app (D:=Sm++(SK++G2)) .refl))) ?_;refine abl (i:=4) (cs:= #[.slice ak x.ks.length ck,I x.d,I x.co,I x.wa,I x.qu]) (fun Le=>?_) O;refine ae (i:=5) O an O O (bV (row:=yM) (l':=[(.slice ak x.ks.length ck,x)]) O O O hOm (.tail (.tail (.tail (.tail (.app .head))))) (fun h2 _ hl=>Sl.mk (hl Le _ (.head _)) O (Part.all (flat yM [(.slice ak x.ks.length ck,x)]))) (by simp;omega) dF O (fun v' S' xM=>?_));refine⟨.inr (aC.one (.tail _ (.head _)) aC.nil),?_⟩;have mM:one v'=true:=by obtain⟨_,_,rfl⟩:=xM.aU;rfl
  refine ay 6 ?_;refine ae (i:=7) O an O O (eS O O O ?_);refine⟨.inl aB,?_⟩;refine az ?_;refine jk ?_;refine⟨O,i-1,(jJ++[(.slice ak x.ks.length ck,x)],v',S',SK++Sk),(k6,s8),⟨aj,xM,hOK.snoc hOk,fun g hg=>?_,by simp;omega,by simp only;omega⟩,aj,⟨lk O (show I _=I _ by congr 1;omega),O,O,O,trivial⟩,.skip O (.cons (.cons (.cons (.aT auO))))⟩;rcases dh.1 hg with hg | hg
  ·exact hmt g hg
  rw[dP.1 hg];exact⟨hx,hx7⟩
 obtain rfl:i=0:=by omega
 refine iC ?_;subst hG2 hG;refine AY (hv:=qU nM) ⟨⟨.slice aa gs.length ca,.slice ap Vj.length cp',.slice ar rs.length cr,.slice af fs.length cf,.slice am jJ.length cm,ps,gs,Vj,rs,fs,jJ⟩,k5,s7,_,O,⟨?_,akB,ahn (by show Vj.length<=4;omega) hps.2 hrs.1 hrs.2,aec (by show 1<=fs.length/\fs.length<=2;omega) hcf,fun p hp=>(hmt p hp).1,by show jJ.length<=4;omega⟩,by show jJ.length<=n;omega,fun p hp=>(hmt p hp).2,.mk hOa hOp hOr hOf hOm hOK,aj,.skip O (.skip O (.cons (.aT auP)))⟩;show JC gs=0;unfold JC;rw[if_neg aj];exact XW hgs.2
structure yD.alB(D D':yD):Prop where
 gs:D'.gs=D.gs
 ps:D'.ps=D.ps
 Vj:D'.Vj=D.Vj
 rs:D'.rs=D.rs
 fs:D'.fs=D.fs
 mts:D'.jJ.map (·.2)=D.jJ.map (·.2)
theorem yD.alB.ok(H:D.alB D')(hA:D.At h):D'.OK:=by
 refine⟨by rw[H.gs];exact hA.gk,by rw[H.ps];exact hA.pk,by rw[H.Vj,H.rs];exact hA.sk,by rw[H.fs];exact hA.fk,fun p hp=>?_,?_⟩
 ·have:p.2∈D'.jJ.map (·.2):=List.mem_map.2 ⟨p,hp,O⟩;rw[H.mts]at this;obtain⟨q,hq,e⟩:=List.mem_map.1 this;exact e▸(hA.me q hq).2.2
 have:=congrArg List.length H.mts;rw[List.length_map,List.length_map]at this;rw[this];exact hA.m4
theorem yD.alB.mo(H:D.alB D'):D'.mo=D.mo:=by
 unfold yD.mo;rw[H.gs,H.ps,H.fs,H.mts]
theorem Sb.pl{T:ah}{U:ah->ah}(h:L8 A F U)(k:Sb T (U [])):Sb (A++T) F:=
 .trans (Sb.app .refl k) (.aT h.perm.1)
theorem yD.Own.alD(H:D.Own A):lC #[D.va,I D.ps,D.nS,D.vr,D.vf,D.vm].toList=true:=by
 cases H with
 | mk h1 h2 h3 h4 h5 h6=>
  obtain⟨_,_,e1⟩:=h1.aU;obtain⟨_,_,e2⟩:=h2.aU;obtain⟨_,_,e3⟩:=h3.aU;obtain⟨_,_,e4⟩:=h4.aU;obtain⟨_,_,e5⟩:=h5.aU;rw[e1,e2,e3,e4,e5];rfl
theorem ase{p q r:α}{G:List α}:(Sk++(p::q::r::(Sm++(SK++G)))).Perm (p::q::r::(Sm++((SK++Sk)++G))):=by
 classical
 rw[List.perm_iff_count];intro y;simp only[List.count_append,List.count_cons];omega
theorem asf{Sp:List α}:(Sm++(SK++(Sa++(Sp++(Sr++Sf))))).Perm (Sa++(Sp++(Sr++(Sf++(Sm++SK))))):=by
 classical
 rw[List.perm_iff_count];intro y;simp only[List.count_append];omega
theorem avS{E:TypeId}{row:α->List Value}{w:Nat}[Rw row w]:Os E row (.slice (some ⟨β,0,none⟩) 0 0) ([]:List α) [(β,.cells #[] E (0,0))]:=.inr ⟨β, #[],0,[],O,O,(Nat.zero_mul w).symm,Nat.le_refl _,Part.all [],.nil⟩

theorem aez(main:aN)(h:Hp)(D:yD)(H:D.At h):bG aV main acy #[D.V] h [] (fun v A=>∃D' S,v=yD.V D'/\D.alB D'/\D'.Own S/\Sb S A):=by
 refine bG.bH func13 [(0,D.V)] ?_;have hm4:=H.m4;have CV:(2*(([]:List Fl).length+D.fs.length)+768)*32<=2 ^ 48:=by have:=(Uf H.fk).2.1;simp;omega
 have hg4:=(Iq.xE H.gk).len;refine d_ ?_;refine aA.box (fun vg=>?_);refine aA.new (fun oJ=>?_);refine qj ?_;refine W.sb (F':=(vg,.cells #[D.va,I D.ps,D.nS,D.vr,D.vf,D.vm] fC (0,0))::(oJ,.cells #[.slice none 0 0,I 0,.slice none 0 0,.slice none 0 0,.slice none 0 0,.slice none 0 0] fC (0,0))::[]) (.aT (.swap ..)) ?_;refine W.freeze O (fun h1 zD hb1 _=>?_);have H1:=H.ext zD;refine W.seq ?_;refine W.mono (Q:=(fun e gW iT F'=>e= .normal/\iT=[]/\(∃nP va nS vr vf Sa Sp Sr Sf,Sub [(3,aG nP),(1,aG vg),(2,aG oJ)] gW/\(Os IZ Ag.row va D.gs Sa/\Os aaO Pn.row nS D.Vj Sp/\Os aX bY vr D.rs Sr/\Os A_ Fl.row vf D.fs Sf)/\Sb ((nP,.cells #[va,I D.ps,nS,vr,vf,.slice none 0 0] fC (0,0))::(oJ,.cells #[.slice none 0 0,I 0,.slice none 0 0,.slice none 0 0,.slice none 0 0,.slice none 0 0] fC (0,0))::(Sa++(Sp++(Sr++Sf)))) F'))) ?_ ?_
 ·refine W.kQ [] (n:=18) O ?_;refine ay 0 ?_;refine ay 1 ?_;refine ay 3 ?_;refine ay 4 ?_;refine ay 5 ?_;refine ay 6 ?_;refine ay 8 ?_;refine ay 9 ?_;refine ay 12 ?_;refine ay 13 ?_
  iterate 7
   all_goals first
    | ((with_reducible show Any _ _ _ 8 _ _ _ _ _);refine Any.arX (i:=2) (j:=11) (k:=16) (by decide+kernel) (aK rfl) (aK rfl) (aK rfl) an an an rfl rfl rfl rfl rfl rfl ?_ ?_ ?_)
    | ((with_reducible show Any _ _ _ 7 _ _ _ _ _);first | refine Any.arX (i:=7) (j:=11) (k:=16) (by decide+kernel) (aK rfl) (aK rfl) (aK rfl) an an an rfl rfl rfl rfl rfl rfl ?_ ?_ ?_ | refine Any.Vp (i:=2) (j:=11) (by decide+kernel) (aK rfl) (aK rfl) an an rfl rfl rfl rfl ?_ ?_ | refine Any.Vp (i:=2) (j:=16) (by decide+kernel) (aK rfl) (aK rfl) an an rfl rfl rfl rfl ?_ ?_)
    | ((with_reducible show Any _ _ _ 6 _ _ _ _ _);first | refine Any.arX (i:=10) (j:=11) (k:=16) (by decide+kernel) (aK rfl) (aK rfl) (aK rfl) an an an rfl rfl rfl rfl rfl rfl ?_ ?_ ?_ | refine Any.Vp (i:=7) (j:=11) (by decide+kernel) (aK rfl) (aK rfl) an an rfl rfl rfl rfl ?_ ?_ | refine Any.Vp (i:=7) (j:=16) (by decide+kernel) (aK rfl) (aK rfl) an an rfl rfl rfl rfl ?_ ?_ | refine ae (i:=2) rfl an rfl rfl ?_ (hr:=by decide+kernel))
    | ((with_reducible show Any _ _ _ 5 _ _ _ _ _);first | refine Any.Vp (i:=10) (j:=11) (by decide+kernel) (aK rfl) (aK rfl) an an rfl rfl rfl rfl ?_ ?_ | refine Any.Vp (i:=10) (j:=16) (by decide+kernel) (aK rfl) (aK rfl) an an rfl rfl rfl rfl ?_ ?_ | refine Any.Vp (i:=11) (j:=16) (by decide+kernel) (aK rfl) (aK rfl) an an rfl rfl rfl rfl ?_ ?_ | refine ae (i:=7) rfl an rfl rfl ?_ (hr:=by decide+kernel))
    | ((with_reducible show Any _ _ _ 4 _ _ _ _ _);first | refine Any.Vp (i:=14) (j:=16) (by decide+kernel) (aK rfl) (aK rfl) an an rfl rfl rfl rfl ?_ ?_ | refine ae (i:=10) rfl an rfl rfl ?_ (hr:=by decide+kernel) | refine ae (i:=11) rfl an rfl rfl ?_ (hr:=by decide+kernel))
    | ((with_reducible show Any _ _ _ 3 _ _ _ _ _);refine ae (i:=14) rfl an rfl rfl ?_ (hr:=by decide+kernel))
    | ((with_reducible show Any _ _ _ 2 _ _ _ _ _);refine ae (i:=16) rfl an rfl rfl ?_ (hr:=by decide+kernel))
    | ((with_reducible show Any _ _ _ 1 _ _ _ _ _);refine ae (i:=17) rfl an rfl rfl ?_ (hr:=by decide+kernel))
   all_goals first
    | (
      refine oL (args:=[_]) O O (fun h' hE hL=>ade _ h' D.gs _ (H1.ga.ext hE) aj) (fun v A' hv=>⟨.inr aC.nil,?_⟩);obtain⟨Sa,hOa,bF⟩:=hv;obtain⟨aa,ca,rfl⟩:=hOa.aU;refine Any.sb (bF.app .refl) ?_)
    | (
      refine oL (args:=[_]) O O (fun h' hE hL=>ahl _ h' D.Vj _ (H1.pn.ext hE) (by have:=(amM H.sk).1.len;omega)) (fun v A' hv=>⟨.inr aC.nil,?_⟩);obtain⟨Sp,hOp,bF⟩:=hv;obtain⟨ap,cp',rfl⟩:=hOp.aU;refine Any.sb (bF.app .refl) ?_)
    | (
      refine oL (args:=[_]) O O (fun h' hE hL=>acz _ h' D.rs _ (H1.rr.ext hE) (by have:=(amM H.sk).1.len;have:=(amM H.sk).2.2.len;omega)) (fun v A' hv=>⟨.inr aC.nil,?_⟩);obtain⟨Sr,hOr,bF⟩:=hv;obtain⟨ar,cr,rfl⟩:=hOr.aU;refine Any.sb (bF.app .refl) ?_)
    | (refine Vq rfl (fun agT _ _=>⟨.inr aC.nil,?_⟩))
    | (refine eN rfl (fun nP=>⟨.inr aC.nil,?_⟩))
    | (
      refine bV (row:=Fl.row) (l:=[]) (l':=D.fs) rfl rfl rfl (avS (β:=agT)) (by repeat(first | exact .head | apply L8.tail | apply L8.app)) (fun h2 hE _=>H1.ff.ext hE) CV dF rfl (fun v' Sf hOf=>⟨.inr aC.nil,?_⟩);rw[List.nil_append]at hOf;obtain⟨af,cf,rfl⟩:=hOf.aU;refine aq (i:=15) (dw rfl rfl rfl) rfl an rfl rfl ?_)
    | (
      refine eSA (n:=6) (vs:= #[.slice aa D.gs.length ca,I D.ps,.slice ap D.Vj.length cp',.slice ar D.rs.length cr,.slice af D.fs.length cf,.slice none 0 0]) O O O ⟨.inr aC.nil,?_⟩;refine az ?_;refine⟨O,O,nP,_,_,_,_,Sa,Sp,Sr,Sf,⟨rfl,rfl,rfl,trivial⟩,⟨hOa,hOp,hOr,hOf⟩,?_⟩;refine Sb.pl (A:=[_]) (by repeat(first | exact .head | apply L8.tail | apply L8.app)) (Sb.pl (A:=[_]) (by repeat(first | exact .head | apply L8.tail | apply L8.app)) ?_);refine Sb.pl (A:=Sa) (by repeat(first | exact .head | apply L8.tail | apply L8.app)) (Sb.pl (A:=Sp) (by repeat(first | exact .head | apply L8.tail | apply L8.app)) ?_);exact Sb.pl (A:=Sr) (by repeat(first | exact .head | apply L8.tail | apply L8.app)) (Sb.aT (by simp))
      )
 rintro e gW iT F' ⟨rfl,rfl,nP,va,nS,vr,vf,Sa,Sp,Sr,Sf,NY,⟨hOa,hOp,hOr,hOf⟩,UO⟩;refine gI ?_;refine W.env NY (W.sb UO ?_);obtain⟨am,cm,em⟩:=H.mm.aU;have hmm:=H1.mm;rw[em]at hmm hb1;refine lF ?_;obtain⟨G,hG⟩:∃G,Sa++(Sp++(Sr++Sf))=G:=⟨_,rfl⟩
 rw[hG]
 refine W.loop (σ:=Nat×List (Value×Mt)×Value×ah×ah) (fun s=>s.1<=D.jJ.length/\Os kD yM s.2.2.1 s.2.1 s.2.2.2.1/\OsM s.2.1 s.2.2.2.2/\s.2.1.map (·.2)=(D.jJ.take s.1).map (·.2)) (fun s=>[(4,I s.1),(3,aG nP),(1,aG vg),(2,aG oJ)])
  (fun s=>(nP,.cells #[va,I D.ps,nS,vr,vf,s.2.2.1] fC (0,0))::(oJ,.cells #[.slice none 0 0,I 0,.slice none 0 0,.slice none 0 0,.slice none 0 0,.slice none 0 0] fC (0,0))::(s.2.2.2.1++(s.2.2.2.2++G))) (fun s=>D.jJ.length-s.1) (0,[],.slice none 0 0,[],[]) ⟨Nat.zero_le _,.nil .nil,.nil,O⟩ iw .refl ?_
 rintro⟨k,ms,vm',Sm,SK⟩ ⟨hk,hOm,hOK,hms⟩;simp only at hk hOm hOK hms⊢;obtain⟨am',cm',rfl⟩:=hOm.aU;refine FT ?_;refine W.aJ O (fun Rf=>?_) (fun Rf=>?_)
 ·have zI:k<D.jJ.length:=by omega
  obtain⟨⟨kv,x⟩,hp,yI⟩:=has zI;obtain⟨Tf,zks,uU⟩:=H1.me _ (dL hp);obtain⟨b,off,c,E,fz,rfl,hb,hx,hy,hz⟩:=hmm.at hp;have okv:=Tf.one;rw[Iw okv]at hx;have Aq:c.extract (off+k*5) (off+k*5+5)= #[kv,I x.d,I x.co,I x.wa,I x.qu]:=hx;have hmk:ms.length=k:=by have:=congrArg List.length hms;simpa[Nat.min_eq_left hk]using this
  have hk3:x.ks.length<=3:=uU.k3;clear hx hz;refine iC ?_;refine aA.new (fun iI=>?_);refine aA.Yi (vs:= #[kv,I x.d,I x.co,I x.wa,I x.qu]) ?_ (h1:=by show(one kv&&true)=true;rw[okv];rfl);refine kJ ?_;refine c0 (fun h' hE hL=>acz _ h' x.ks kv (Tf.ext hE) aj) (fun v A' hv=>?_);obtain⟨Sk,hOk,bF⟩:=hv;obtain⟨ak,ck,rfl⟩:=hOk.aU;refine aA.sb (F':=(iI,_)::(nP,.cells #[va,I D.ps,nS,vr,vf,.slice am' ms.length cm'] fC (0,0))::(oJ,_)::(Sm++((SK++Sk)++G))) (.trans (.aT ase.symm) (bF.app .refl)) ?_;refine jk ?_;refine aA.zZ (cs:= #[.slice ak x.ks.length ck,I x.d,I x.co,I x.wa,I x.qu]) (fun azN=>?_) O;refine oe O wn O O (bV (row:=yM) (l':=[(.slice ak x.ks.length ck,x)]) O O O hOm (.tail (.tail (.tail (.tail .head)))) (fun h2 _ hl=>Sl.mk (hl azN _ (.head _)) O (Part.all (flat yM [(.slice ak x.ks.length ck,x)]))) (by simp;omega) dF O (fun v' S' xM=>?_));have mM:one v'=true:=by obtain⟨_,_,rfl⟩:=xM.aU;rfl
  refine awJ O ?_;refine aA.sto ?_ (h1:=mM);refine aA.nil<|iE<|fH<|W.region rfl<|aiH rfl rfl rfl ?_;refine gI ?_;refine⟨O,(k+1,ms++[(.slice ak x.ks.length ck,x)],v',S',SK++Sk),⟨zI,xM,hOK.snoc hOk,?_⟩,by simp only;omega,iw,.skip O (.trans .refl (.skip O .refl))⟩;simp only;rw[List.map_append,hms,List.take_add_one,hp];simp
 obtain rfl:k=D.jJ.length:=by omega
 rw[List.take_length]at hms;have Ob:yD.Own ⟨va,nS,vr,vf,.slice am' ms.length cm',D.ps,D.gs,D.Vj,D.rs,D.fs,ms⟩ _:=.mk hOa hOp hOr hOf hOm hOK;refine kR ?_;refine aA.alf (n:=6) (vs:= #[va,I D.ps,nS,vr,vf,.slice am' ms.length cm']) ?_ (hc:=by show 0+6<=6;decide) (h1:=Ob.alD);refine d_ ?_;subst hG;exact AY (hv:=qU nM) ⟨⟨va,nS,vr,vf,.slice am' ms.length cm',D.ps,D.gs,D.Vj,D.rs,D.fs,ms⟩,_,O,⟨O,O,O,O,O,hms⟩,Ob,.skip O (.skip O (.aT asf.symm))⟩
def aq2:List Ag:=[⟨1,0,1,2,1⟩,⟨2,4,2,0,2⟩,⟨4,0,4,1,1⟩,⟨6,1,6,0,5⟩]
def akC:List Pn:=[⟨8,12,-3⟩,⟨4,9,-3⟩,⟨2,5,2⟩]
def aq3:List Int:=[6,6,2]
def akD(c0:Int):List Fl:=[⟨4,2,3,c0⟩,⟨3,3,5,2⟩]
def auQ(ks1:List Int):List Mt:=[⟨[0],0,3,0,9⟩,⟨ks1,0,2,1,8⟩,⟨[1,3],1,4,1,4⟩,⟨[6],5,2,0,1⟩]
def acf(c0:Int)(ks1:List Int):Mo:=⟨aq2,0,akD c0,auQ ks1⟩
theorem aq4:(acf 1 [2]).way 2=some [0,1]:=by kernel_rfl
theorem afD:uQ (acf 1 [2]).mi=[⟨0,0⟩,⟨1,1⟩,⟨0,3⟩,⟨0,6⟩]/\(jF (akD 1) (stM (acf 1 [2]).mi)).2.1=11:=⟨aB,aB⟩
theorem anm:(acf 1 [2]).cost=10:=by kernel_rfl
theorem akE:sD akC (acf 1 [2]).JE aq3=([0,0,1,-1],9,0):=by kernel_rfl
theorem ano:Vb (acf 0 [2])=2:=by kernel_rfl
theorem akF:(acf 1 [2,6]).worth 1 [2,6] 2=some (2,2):=by kernel_rfl
abbrev yR(b n:Nat):Value:=.slice (some ⟨b,0,none⟩) n n
def ZF(ba bp br bf bm k0 k2 k3:Nat)(c0:Int)(vk:Value):ah:=
 [(ba,.cells #[I 1,I 0,I 1,I 2,I 1,I 2,I 4,I 2,I 0,I 2,I 4,I 0,I 4,I 1,I 1,I 6,I 1,I 6,I 0,I 5] IZ (0,0)),(bp,.cells #[I 8,I 12,I (-3),I 4,I 9,I (-3),I 2,I 5,I 2] aaO (0,0)),(br,.cells #[I 6,I 6,I 2] aX (0,0)),
  (bf,.cells #[I 4,I 2,I 3,I c0,I 3,I 3,I 5,I 2] A_ (0,0)),
  (bm,.cells #[yR k0 1,I 0,I 3,I 0,I 9,vk,I 0,I 2,I 1,I 8,yR k2 2,I 1,I 4,I 1,I 4,yR k3 1,I 5,I 2,I 0,I 1] kD (0,0)),(k0,.cells #[I 0] aX (0,0)),(k2,.cells #[I 1,I 3] aX (0,0)),(k3,.cells #[I 6] aX (0,0))]
abbrev exV(ba bp br bf bm:Nat):Value:=.agg #[yR ba 4,I 0,yR bp 3,yR br 3,yR bf 2,yR bm 4]
theorem aq5{a p k0 k2 k3 z:List α}:(((a++(p++(r++(f++(m++(k0++(k2++k3)))))))++k1)++z).Perm (m++(k3++(k2++(k1++(k0++(f++(r++(p++(a++z))))))))):=by
 classical
 rw[List.perm_iff_count];intro y;simp only[List.count_append];omega
theorem aho(main:aN)(h:Hp):bG aV main alM #[] h [] (fun v A=>∃ba bp br bf bm k0 k1 k2 k3,v=exV ba bp br bf bm/\Sb (ZF ba bp br bf bm k0 k2 k3 1 (yR k1 1)++[(k1,.cells #[I 2] aX (0,0))]) A):=by
 refine bG.bH func29 [] ?_;refine d_ ?_;refine aA.new (fun β0=>?_);refine gI ?_;refine b_ (dw (cs:= #[I 1,I 0,I 1,I 2,I 1]) O O aB) O ?_;refine b_ (dw (cs:= #[I 2,I 4,I 2,I 0,I 2]) O O aB) O ?_;refine b_ (dw (cs:= #[I 4,I 0,I 4,I 1,I 1]) O O aB) O ?_;refine b_ (dw (cs:= #[I 6,I 1,I 6,I 0,I 5]) O O aB) O ?_;refine aA.zZ (cs:= #[I 1,I 0,I 1,I 2,I 1,I 2,I 4,I 2,I 0,I 2,I 4,I 0,I 4,I 1,I 1,I 6,I 1,I 6,I 0,I 5]) (fun iI=>?_) O (hf:=by kernel_rfl);refine b_ (dw (cs:= #[I 8,I 12,I (-3)]) O O aB) O ?_;refine b_ (dw (cs:= #[I 4,I 9,I (-3)]) O O aB) O ?_;refine b_ (dw (cs:= #[I 2,I 5,I 2]) O O aB) O ?_;refine aA.zZ (cs:= #[I 8,I 12,I (-3),I 4,I 9,I (-3),I 2,I 5,I 2]) (fun Oi=>?_) O (hf:=by kernel_rfl);refine aA.zZ (cs:= #[I 6,I 6,I 2]) (fun VY=>?_) O (hf:=by kernel_rfl);refine b_ (dw (cs:= #[I 2,I 3]) O O aB) O ?_;refine b_ (dw (cs:= #[I 4,I 2,I 3,I 1]) O O aB) O ?_;refine b_ (dw (cs:= #[I 3,I 5]) O O aB) O ?_;refine b_ (dw (cs:= #[I 3,I 3,I 5,I 2]) O O aB) O ?_;refine aA.zZ (cs:= #[I 4,I 2,I 3,I 1,I 3,I 3,I 5,I 2]) (fun akA=>?_) O (hf:=by kernel_rfl);refine aA.zZ (cs:= #[I 0]) (fun ajV=>?_) O (hf:=by kernel_rfl);refine b_ (dw (cs:= #[yR ajV 1,I 0,I 3,I 0,I 9]) O O aB) O ?_;refine aA.zZ (cs:= #[I 2]) (fun abw=>?_) O (hf:=by kernel_rfl);refine b_ (dw (cs:= #[yR abw 1,I 0,I 2,I 1,I 8]) O O aB) O ?_;refine aA.zZ (cs:= #[I 1,I 3]) (fun mP=>?_) O (hf:=by kernel_rfl);refine b_ (dw (cs:= #[yR mP 2,I 1,I 4,I 1,I 4]) O O aB) O ?_;refine aA.zZ (cs:= #[I 6]) (fun pW=>?_) O (hf:=by kernel_rfl);refine b_ (dw (cs:= #[yR pW 1,I 5,I 2,I 0,I 1]) O O aB) O ?_;refine aA.zZ (cs:= #[yR ajV 1,I 0,I 3,I 0,I 9,yR abw 1,I 0,I 2,I 1,I 8,yR mP 2,I 1,I 4,I 1,I 4,yR pW 1,I 5,I 2,I 0,I 1]) (fun ajY=>?_) O (hf:=by kernel_rfl);refine b_ (dw (cs:= #[yR iI 4,I 0,yR Oi 3,yR VY 3,yR akA 2,yR ajY 4]) O O aB) O ?_;refine gI ?_;refine AY (hv:=qU nM) ⟨iI,Oi,VY,akA,ajY,ajV,abw,mP,pW,O,?_⟩;exact .trans (.right (C:=[(β0,Obj.cells #[yR iI 4,I 0,yR Oi 3,yR VY 3,yR akA 2,yR ajY 4] 30 (0,0))]) .refl (.cons O .nil)) (.aT (aq5 (a:=[_]) (p:=[_]) (r:=[_]) (f:=[_]) (m:=[_]) (k0:=[_]) (k1:=[_]) (k2:=[_]) (k3:=[_]) (z:=[_])))

theorem ayw(main:aN)(h:Hp):bG aV main alN #[] h [] (fun v A=>∃ba bp br bf bm k0 k1 k2 k3,v=exV ba bp br bf bm/\Sb (ZF ba bp br bf bm k0 k2 k3 0 (yR k1 1)++[(k1,.cells #[I 2] aX (0,0))]) A):=by
 refine bG.bH func30 [] ?_;refine d_ ?_;refine aA.new (fun β0=>?_);refine gI ?_;refine c0 (fun h' hE hL=>aho _ h') (fun v A' hv=>?_);obtain⟨ba,bp,br,bf,bm,k0,k1,k2,k3,rfl,bF⟩:=hv;refine aA.sb (bF.app .refl) ?_;unfold ZF;refine aA.new (fun vg=>?_);refine Qv ?_;refine AY (hv:=qU nM) ⟨ba,bp,br,bf,bm,k0,k1,k2,k3,O,?_⟩;exact .skip O (.right (B:=ZF ba bp br bf bm k0 k2 k3 0 (yR k1 1)++[(k1,.cells #[I 2] aX (0,0))]) (C:=[_]) .refl (.cons O .nil))
theorem ayx(main:aN)(h:Hp):bG aV main alO #[] h [] (fun v A=>∃ba bp br bf bm k0 k1 k2 k3,v=exV ba bp br bf bm/\Sb (ZF ba bp br bf bm k0 k2 k3 1 (yR k1 2)++[(k1,.cells #[I 2,I 6] aX (0,0))]) A):=by
 refine bG.bH func31 [] ?_;refine d_ ?_;refine aA.new (fun β0=>?_);refine gI ?_;refine c0 (fun h' hE hL=>aho _ h') (fun v A' hv=>?_);obtain⟨ba,bp,br,bf,bm,k0,k1,k2,k3,rfl,bF⟩:=hv;refine aA.sb (bF.app .refl) ?_;unfold ZF;refine aA.new (fun vg=>?_);refine lg ?_;refine aA.zZ (cs:= #[I 2,I 6]) (fun iI=>?_) O;refine gZ ?_;refine AY (hv:=qU nM) ⟨ba,bp,br,bf,bm,k0,iI,k2,k3,O,?_⟩;exact .trans (.aT (dK (l₁:=ZF ba bp br bf bm k0 k2 k3 1 (yR iI 2)) (l₂:=[(iI,.cells #[I 2,I 6] aX (0,0))]))) (.cons (.skip O (.right (B:=ZF ba bp br bf bm k0 k2 k3 1 (yR iI 2)) (C:=[(k1,.cells #[I 2] aX (0,0)),(β0,.cells #[yR ba 4,I 0,yR bp 3,yR br 3,yR bf 2,yR bm 4] 30 (0,0))]) .refl (.cons O (.cons O .nil)))))
theorem akG(main:aN)(h:Hp)(x:Be):bG aV main adg #[.agg #[I x.fl,I x.day]] h [] (fun v A=>∃S,Os ku Be.row v [⟨0,0⟩,x,⟨0,3⟩,⟨0,6⟩] S/\Sb S A):=by
 refine bG.bH func33 [(0,.agg #[I x.fl,I x.day])] ?_;refine d_ ?_;refine aA.box (fun vg=>?_);refine lF ?_;refine b_ (dw (cs:= #[I 0,I 0]) O O aB) O ?_;refine asR O ?_;refine b_ (dw (cs:= #[I 0,I 3]) O O aB) O ?_;refine b_ (dw (cs:= #[I 0,I 6]) O O aB) O ?_;refine aA.zZ (cs:= #[I 0,I 0,I x.fl,I x.day,I 0,I 3,I 0,I 6]) (fun yc=>?_) O (hf:=by kernel_rfl);refine gI ?_;exact iQ (vs:=[_]) ⟨[(yc,_)],.inr ⟨yc,_,4,[],O,O,O,Nat.le_refl _,Part.all (flat Be.row [⟨0,0⟩,x,⟨0,3⟩,⟨0,6⟩]),.nil⟩,.right (C:=[_]) .refl (.cons O .nil)⟩
theorem aA.ZC{ops:Array Oper}{Q:fO}{l:List (Value×Mt)}(hs:OsM l A)
  (H:∀h',Ext x.h h'->(∀p∈l,Sl h' bY p.1 p.2.ks/\Zs h' p.1)->aA {x with h:=h'} ops td Q ρ ds F):aA x ops td Q ρ ds (A++F):=by
 induction hs generalizing x with
 | nil=>exact H x.h ⟨fun _ _ q=>q,fun _ q=>q⟩ fun p hp=>by cases hp
 | cons h1 h2 ih=>
  rw[eF];refine aA.eY h1 fun h' hE P7 hz=>ih (x:={x with h:=h'}) fun Gm TA aO=>H Gm (hE.trans TA) fun p hp=>?_;rcases bU.1 hp with rfl | hp
  ·exact⟨P7.ext TA,hz.ext TA⟩
  exact aO p hp
theorem aA.xI{ops:Array Oper}{Q:fO}(H:D.Own A)(uU:D.OK)(hg:x.h 0=some (.cells #[QI kC] Eg zg))(z0:x.h.z 0)
  (K:∀h',Ext x.h h'->D.At h'->aA {x with h:=h'} ops td Q ρ ds F):aA x ops td Q ρ ds (A++F):=by
 cases H with
 | mk h1 h2 h3 h4 h5 h6=>
  simp only[eF];refine aA.eY h1 fun a e1 s1 y1=>?_;refine aA.eY h2 fun b e2 s2 y2=>?_;refine aA.eY h3 fun c e3 s3 y3=>?_;refine aA.eY h4 fun d e4 s4 y4=>?_;refine aA.eY h5 fun e e5 s5 y5=>?_;refine aA.ZC h6 fun f e6 aO=>?_;have g6:=e6;have g5:=e5.trans g6;have g4:=e4.trans g5;have g3:=e3.trans g4;have g2:=e2.trans g3;have g1:=e1.trans g2;exact K f g1 ⟨s1.ext g2,y1.ext g2,uU.gk,uU.pk,s2.ext g3,s3.ext g4,uU.sk,s4.ext g5,y4.ext g5,uU.fk,s5.ext g6,fun p hp=>⟨(aO p hp).1,(aO p hp).2,uU.me p hp⟩,uU.m4,⟨Eg,zg,g1.1 _ _ hg⟩,g1.2 _ z0⟩

def exD(ba bp br bf bm k0 k2 k3:Nat)(c0:Int)(vk:Value)(ks1:List Int):yD:=
 ⟨yR ba 4,yR bp 3,yR br 3,yR bf 2,yR bm 4,0,aq2,akC,aq3,akD c0,[(yR k0 1,⟨[0],0,3,0,9⟩),(vk,⟨ks1,0,2,1,8⟩),(yR k2 2,⟨[1,3],1,4,1,4⟩),(yR k3 1,⟨[6],5,2,0,1⟩)]⟩
theorem XY{c0:Int}(h0:0<=c0/\c0<=1)(h1:EU ⟨ks1,0,2,1,8⟩):(exD ba bp br bf bm k0 k2 k3 c0 vk ks1).OK:=by
 have hc:c0=0\/c0=1:=by omega
 refine⟨aB,⟨Int.le_refl _,by show(0:Int)<=63;decide⟩,aB,by rcases hc with rfl | rfl <;>kernel_rfl,fun p hp=>?_,Nat.le_refl _⟩;simp only[exD,bU,List.not_mem_nil,or_false]at hp;rcases hp with rfl | rfl | rfl | rfl
 ·exact EU.mk' dF dF dF dF dF dF dF
 ·exact h1
 ·exact EU.mk' dF dF dF dF dF dF dF
 exact EU.mk' dF dF dF dF dF dF dF
theorem aq6{a p k0 k2 k3:List α}:(a++(p++(r++(f++(m++(k0++(k1++(k2++(k3++[]))))))))).Perm ((a++(p++(r++(f++(m++(k0++(k2++k3)))))))++k1):=by
 classical
 rw[List.perm_iff_count];intro y;simp only[List.count_append];simp only[List.count_nil];omega
theorem Pq{c0:Int}{S1:ah}(h1:Os aX bY vk ks1 S1):∃A,(exD ba bp br bf bm k0 k2 k3 c0 vk ks1).Own A/\Sb A (ZF ba bp br bf bm k0 k2 k3 c0 vk++S1):=by
 obtain⟨a1,c1,e1⟩:=h1.aU
 refine⟨_,.mk (.inr ⟨ba,_,4,[],O,O,O,Nat.le_refl _,Part.all (flat Ag.row aq2),.nil⟩) (.inr ⟨bp,_,3,[],O,O,O,Nat.le_refl _,Part.all (flat Pn.row akC),.nil⟩) (.inr ⟨br,_,3,[],O,O,O,Nat.le_refl _,Part.all (flat bY aq3),.nil⟩) (.inr ⟨bf,_,2,[],O,O,O,Nat.le_refl _,Part.all (flat Fl.row (akD c0)),.nil⟩) (.inr ⟨bm,_,4,[],O,O,O,Nat.le_refl _,Part.all (flat yM (exD ba bp br bf bm k0 k2 k3 c0 vk ks1).jJ),.nil⟩)
  (.cons (.inr ⟨k0,_,1,[],O,O,O,Nat.le_refl _,Part.all (flat bY [0]),.nil⟩) (.cons h1 (.cons (.inr ⟨k2,_,2,[],O,O,O,Nat.le_refl _,Part.all (flat bY [1,3]),.nil⟩) (.cons (.inr ⟨k3,_,1,[],O,O,O,Nat.le_refl _,Part.all (flat bY [6]),.nil⟩) .nil)))),?_⟩
 subst e1;exact .aT (aq6 (a:=[_]) (p:=[_]) (r:=[_]) (f:=[_]) (m:=[_]) (k0:=[_]) (k2:=[_]) (k3:=[_]))

theorem Px{c0:Int}:(exD ba bp br bf bm k0 k2 k3 c0 vk ks1).mo=acf c0 ks1:=rfl
theorem aq7{c0:Int}:(exD ba bp br bf bm k0 k2 k3 c0 vk ks1).fs=akD c0:=rfl
theorem akH:EU ⟨[2],0,2,1,8⟩:=EU.mk' dF dF dF dF dF dF dF
theorem ayy:EU ⟨[2,6],0,2,1,8⟩:=EU.mk' dF dF dF dF dF dF dF
theorem os1:Os aX bY (yR b 1) [2] [(b,.cells #[I 2] aX (0,0))]:=.inr ⟨b,_,1,[],O,O,O,Nat.le_refl _,Part.all (flat bY [2]),.nil⟩
theorem os2:Os aX bY (yR b 2) [2,6] [(b,.cells #[I 2,I 6] aX (0,0))]:=.inr ⟨b,_,2,[],O,O,O,Nat.le_refl _,Part.all (flat bY [2,6]),.nil⟩
theorem akI:(exD ba bp br bf bm k0 k2 k3 1 vk [2]).out=[0,0,1,-1]/\(exD ba bp br bf bm k0 k2 k3 1 vk [2]).share.2.1=9:=by
 have e:(exD ba bp br bf bm k0 k2 k3 1 vk [2]).share=([0,0,1,-1],9,0):=akE;unfold yD.out;rw[e];exact⟨aB,O⟩

theorem Ve{main:aN}(hS:∀S,main.ok S->∃Fin,S=Mn aV Fin)(qJ:main.b=true)(h:Hp)(Eg:TypeId)(zg:Nat×Nat)(hg:h 0=some (.cells #[QI kC] Eg zg))(z0:h.z 0):bG aV main VB #[] h [] (fun v A=>v= .bool true/\eH A):=by
 refine bG.bH func8 [] ?_;refine lg ?_;refine c0 (fun h' hE hL=>aho _ h') (fun v A' hv=>?_);obtain⟨ba,bp,br,bf,bm,k0,k1,k2,k3,rfl,bF⟩:=hv;obtain⟨AO,Ob,hsO⟩:=Pq (ba:=ba) (bp:=bp) (br:=br) (bf:=bf) (bm:=bm) (k0:=k0) (k2:=k2) (k3:=k3) (c0:=1) (os1 (b:=k1));refine aA.sb ((hsO.trans bF).app .refl) ?_;refine aA.xI Ob (XY dF akH) (hg) (z0) (fun q1 zD H1=>?_);refine c0 (fun h' hE hL=>auy hS qJ h' _ (H1.ext hE) 2 (by show 2<4;decide)) (fun v A' hv=>?_);obtain⟨uw,Sw,rfl,hOw,bF⟩:=hv;rw[Px,aq4]at hOw⊢;rw[show(some [(0:Int),1]).getD []=[0,1]from rfl]at hOw;rw[show(if(some [(0:Int),1]).isSome=true then(0:Int)else 11)=0 from rfl];obtain⟨aw,cw,rfl⟩:=hOw.aU;refine aA.sb (F':=Sw) (by first | exact bF | exact bF.right .nil) ?_;refine kR ?_;refine c0 (fun h' hE hL=>aho _ h') (fun v A' hv=>?_);obtain⟨ba,bp,br,bf,bm,k0,k1,k2,k3,rfl,bF⟩:=hv;obtain⟨AO,Ob,hsO⟩:=Pq (ba:=ba) (bp:=bp) (br:=br) (bf:=bf) (bm:=bm) (k0:=k0) (k2:=k2) (k3:=k3) (c0:=1) (os1 (b:=k1));refine aA.sb ((hsO.trans bF).app .refl) ?_;refine aA.xI Ob (XY dF akH) (hg) (z0) (fun q2 NY H2=>?_);refine c0 (fun h' hE hL=>aqU hS qJ h' _ (H2.ext hE)) (fun v A' hv=>?_);obtain⟨up,Sp,rfl,hOp,bF⟩:=hv;rw[Px,afD.1]at hOp;rw[aq7,Px,afD.2];obtain⟨ap,cp',rfl⟩:=hOp.aU;refine aA.sb (bF.app .refl) ?_;refine gZ ?_;refine c0 (fun h' hE hL=>aho _ h') (fun v A' hv=>?_);obtain⟨ba,bp,br,bf,bm,k0,k1,k2,k3,rfl,bF⟩:=hv;obtain⟨AO,Ob,hsO⟩:=Pq (ba:=ba) (bp:=bp) (br:=br) (bf:=bf) (bm:=bm) (k0:=k0) (k2:=k2) (k3:=k3) (c0:=1) (os1 (b:=k1));refine aA.sb ((hsO.trans bF).app .refl) ?_;refine aA.xI Ob (XY dF akH) (hg) (z0) (fun q3 hE3 H3=>?_);refine c0 (fun h' hE hL=>anh hS qJ h' _ (H3.ext hE)) (fun v A' hv=>?_);obtain⟨us,Ss,rfl,hOs,bF⟩:=hv;rw[akI.1]at hOs;rw[akI.2];obtain⟨as',LU,rfl⟩:=hOs.aU;refine aA.sb (bF.app .refl) ?_;refine gZ ?_;refine c0 (fun h' hE hL=>aho _ h') (fun v A' hv=>?_);obtain⟨ba,bp,br,bf,bm,k0,k1,k2,k3,rfl,bF⟩:=hv;obtain⟨AO,Ob,hsO⟩:=Pq (ba:=ba) (bp:=bp) (br:=br) (bf:=bf) (bm:=bm) (k0:=k0) (k2:=k2) (k3:=k3) (c0:=1) (os1 (b:=k1));refine aA.sb ((hsO.trans bF).app .refl) ?_;refine aA.xI Ob (XY dF akH) (hg) (z0) (fun q4 Xd H4=>?_);refine c0 (fun h' hE hL=>aqW hS qJ h' _ (H4.ext hE)) (fun v A' hv=>?_);obtain⟨rfl,bF⟩:=hv;rw[Px,anm];refine aA.sb (.left .refl bF) ?_;refine kR ?_;refine c0 (fun h' hE hL=>ayw _ h') (fun v A' hv=>?_);obtain⟨ba,bp,br,bf,bm,k0,k1,k2,k3,rfl,bF⟩:=hv;obtain⟨AO,Ob,hsO⟩:=Pq (ba:=ba) (bp:=bp) (br:=br) (bf:=bf) (bm:=bm) (k0:=k0) (k2:=k2) (k3:=k3) (c0:=0) (os1 (b:=k1));refine aA.sb ((hsO.trans bF).app .refl) ?_;refine aA.xI Ob (XY dF akH) (hg) (z0) (fun q5 hE5 H5=>?_);refine c0 (fun h' hE hL=>akr hS qJ h' _ (H5.ext hE)) (fun v A' hv=>?_);obtain⟨rfl,bF⟩:=hv;rw[Px,ano];refine aA.sb (.left .refl bF) ?_;refine kR ?_;refine c0 (fun h' hE hL=>ayx _ h') (fun v A' hv=>?_);obtain⟨ba,bp,br,bf,bm,k0,k1,k2,k3,rfl,bF⟩:=hv;obtain⟨AO,Ob,hsO⟩:=Pq (ba:=ba) (bp:=bp) (br:=br) (bf:=bf) (bm:=bm) (k0:=k0) (k2:=k2) (k3:=k3) (c0:=1) (os2 (b:=k1));refine aA.sb ((hsO.trans bF).app .refl) ?_;refine aA.xI Ob (XY dF ayy) (hg) (z0) (fun q6 hE6 H6=>?_);refine c0 (fun h' hE hL=>anj hS qJ h' _ (H6.ext hE) 1 (yR k1 2) ⟨[2,6],0,2,1,8⟩ O) (fun v A' hv=>?_);obtain⟨rfl,bF⟩:=hv;rw[Px,show([2,6]:List Int).length=2 from rfl,akF];refine aA.sb (.left .refl bF) ?_;refine gI ?_;refine aA.new (fun yg=>?_);refine lg ?_;refine Gh (u:=.bool true) (yt O O O) O O wn O O ?_;refine d_ ?_;refine Gh (u:=.bool true) (yt O O O) O O (aI O O O) O O ?_;refine gI ?_;refine Gh (u:=.bool true) (yt O O O) O O (aI O O O) O O ?_;refine gI ?_;refine Gh (u:=.bool true) (yt O O O) O O (aI O O O) O O ?_;refine gI ?_;refine Gh (u:=.bool true) (yt O O O) O O (aI O O O) O O ?_;refine gI ?_;refine Gh (u:=.bool true) (yt O O O) O O (aI O O O) O O ?_;refine gI ?_;refine Gh (u:=.bool true) (yt O O O) O O (aI O O O) O O ?_;refine gI ?_;refine Gh (u:=.bool true) (yt O O O) O O (aI O O O) O O ?_;refine gI ?_;refine Gh (u:=.bool true) (yt O O O) O O (aI O O O) O O ?_;refine gI ?_;refine Gh (u:=.bool true) (yt O O O) O O (aI O O O) O O ?_;refine d_ ?_
 first | refine kw_ (ZW rfl rfl) rfl ?_ | refine kw_ (Qm rfl rfl) rfl ?_
 refine oq (dw (cs:= #[I 2,I 2]) O O aB) O (aI O O O) O O ?_;refine Gh (u:=.bool true) (ai5 [2,2] [2,2] O O O O O O O) O O (aI O O O) O O ?_;refine gI ?_;refine aA.zZ (cs:= #[I 0,I 1]) (fun ayz=>?_) O;refine cp (g:=some _) (u:=.bool true) (fun h' hE hL=>?_) ?_
 ·exact XD main h' [0,1] [0,1] _ _ (hOw.sl fun b o hb=>hL b o (by simp[hb])) (Sl.mk (hL ayz _ (.head _)) O (Part.all (flat bY [0,1]))) dF
 refine gI ?_;refine oq (dw (cs:= #[I 1,I 1]) O O aB) O (aI O O O) O O ?_;refine c0 (g:=some _) (fun h' hE hL=>akG _ h' ⟨1,1⟩) (fun v A' hv=>?_);obtain⟨Sq,hOq,bF⟩:=hv;obtain⟨aq',cq',rfl⟩:=hOq.aU;refine aA.sb (bF.app .refl) ?_;refine cp (g:=some _) (u:=.bool true) (fun h' hE hL=>?_) ?_
 ·exact acd main h' [⟨0,0⟩,⟨1,1⟩,⟨0,3⟩,⟨0,6⟩] [⟨0,0⟩,⟨1,1⟩,⟨0,3⟩,⟨0,6⟩] _ _ (hOp.sl fun b o hb=>hL b o (by simp[hb])) (hOq.sl fun b o hb=>hL b o (by simp[hb])) dF
 refine gI ?_;refine aA.zZ (cs:= #[I 0,I 0,I 1,I (-1)]) (fun auT=>?_) O;refine cp (g:=some _) (u:=.bool true) (fun h' hE hL=>?_) ?_
 ·exact XD main h' [0,0,1,-1] [0,0,1,-1] _ _ (hOs.sl fun b o hb=>hL b o (by simp[hb])) (Sl.mk (hL auT _ (.head _)) O (Part.all (flat bY [0,0,1,-1]))) dF
 refine lF ?_;refine iQ (vs:=[.bool true]) ⟨O,?_⟩
 repeat(first | exact hOw.shut | exact hOp.shut | exact hOs.shut | exact hOq.shut | refine eH.cons rfl ?_ | refine eH.app ?_ ?_ | exact .nil)
theorem aix:(uQ D.mo.mi).length=D.jJ.length:=by
 simp[uQ,yD.mo,Mo.mi]

theorem av_{a b c:List α}:(a++(b++c)).Perm (b++(a++c)):=by
 classical
 rw[List.perm_iff_count];intro y;simp only[List.count_append];omega
theorem OsM.set{l:List (Value×Mt)}{B:ah}{p':Value×Mt}(h:OsM l A)(hB:Os aX bY p'.1 p'.2.ks B):∀{i:Nat},i<l.length->∃A',OsM (l.set i p') A'/\Sb A' (B++A):=by
 induction h with
 | nil=>intro i hi;exact absurd hi (Nat.not_lt_zero _)
 | @cons p l A1 A2 h1 h2 ih=>
  intro i hi
  match i with
  | 0=>exact⟨B++A2,.cons hB h2,.app .refl (.left .refl h1.shut)⟩
  | i+1=>
   obtain⟨A',h3,h4⟩:=ih (i:=i) (by simpa using hi);exact⟨A1++A',.cons h1 h3,.trans (.app .refl h4) (.aT av_.symm)⟩
def shN(a i:Nat):Nat:=if i<a then i else i+1
def shI(a:Nat)(i:Int):Int:=if i<a then i else i+1
theorem adz{a i:Nat}:shI a (i:Int)=(shN a i:Nat):=by
 unfold shI shN;by_cases h:i<a
 ·rw[if_pos aj,if_pos h]
 rw[if_neg aj,if_neg h];rfl
theorem aeG{a:Nat}(h:0<=i):(shI a i).toNat=shN a i.toNat/\0<=shI a i:=by
 obtain⟨n,rfl⟩:=Int.eq_ofNat_of_zero_le h;rw[adz];exact⟨O,Int.natCast_nonneg _⟩
theorem aq1{a:Nat}{j:Int}(h:shI a i=shI a j):i=j:=by
 unfold shI at h;split at h <;>split at h <;>omega
theorem an9{a:Nat}(hp:p a=false):∀{n:Nat},a<=n->(List.range (n+1)).filter p=((List.range n).map (shN a)).filter p
 | n,h=>by
  induction n with
  | zero=>
   obtain rfl:a=0:=by omega
   simp[hp]
  | succ n ih=>
   rw[List.range_succ,List.filter_append];by_cases e:a=n+1
   ·subst e
    have e2:(List.range (n+1)).map (shN (n+1))=List.range (n+1):=by
     have:∀i∈List.range (n+1),shN (n+1) i=i:=fun i hi=>if_pos (List.mem_range.1 hi);rw[List.map_congr_left this,List.map_id']
    rw[e2];simp[hp]
   rw[ih aj,List.range_succ (n:=n),List.map_append,List.filter_append];have e2:shN a n=n+1:=if_neg aj;simp[e2]
theorem aeE{a n:Nat}{q:Nat->Bool}(hp:p a=false)(ha:a<=n)(hq:∀i,q i=p (shN a i)):(zs ((List.range (n+1)).filter p))=(zs ((List.range n).filter q)).map (shI a):=by
 rw[an9 hp ha,List.filter_map];unfold zs;rw[List.map_map,List.map_map];have:(p∘shN a)=q:=by funext i;exact(hq i).symm
 rw[this];refine List.map_congr_left fun i _=>?_;show((shN a i:Nat):Int)=shI a i;rw[adz]

section
variable{f:Int->Int}{key aeM:Int->Int}
theorem arb{l:List Int}{j:Nat}{a b:Int}:swp (l.map f) j (f a) (f b)=(swp l j a b).map f:=by simp[swp,List.map_set]
theorem agi:∀(j:Nat) (l:List Int),(∀a∈l,key (f a)=aeM a)->sink key j (l.map f)=(sink aeM j l).map f
 | 0,l,_=>rfl
 | j+1,l,H=>by
  unfold sink;rw[iL,iL]
  cases ha:l[j]? with
  | none=>rfl
  | some a=>
   cases hb:l[j+1]? with
   | none=>rfl
   | some b=>
    simp only[Option.map_some];rw[H a (dL ha),H b (dL hb)];split
    ·rw[arb];exact agi j _ fun x hx=>H x ((aaQ ha hb).subset hx)
    rfl
theorem adT{l:List Int}(H:∀a∈l,key (f a)=aeM a):∀i,uH key (l.map f) i=(uH aeM l i).map f
 | 0=>rfl
 | i+1=>by
  show sink key (i+1) (uH key (l.map f) i)=(sink aeM (i+1) (uH aeM l i)).map f;rw[adT H i];exact agi _ _ fun a ha=>H a ((Ba aeM l i).subset ha)
theorem ak5{l:List Int}(H:∀a∈l,key (f a)=aeM a):JQ key (l.map f)=(JQ aeM l).map f:=by
 unfold JQ;rw[List.length_map];exact adT H _
end
theorem avj(hi:i∈nZ M):0<=i:=by
 obtain⟨n,p,l,rfl,-⟩:=Rq hi;exact Int.natCast_nonneg _
structure oU.Wo(M M':oU)(a:Nat):Prop where
 gs:M'.gs=M.gs
 ps:M'.ps=M.ps
 fs:M'.fs=M.fs
 n:M.l.length=M'.l.length+1
 la:a<=M'.l.length
 at_:∀i,(M'.l[i]?).map (·.x)=(M.l[shN a i]?).map (·.x)
 no:Gj M a=false
section
variable{M M':oU}{a:Nat}(H:M.Wo M' a)
include H
theorem oU.Wo.w:M'.w=M.w:=by funext x;unfold oU.w;rw[H.gs,H.ps]
theorem oU.Wo.Wl:jc.Wl M'=jc.Wl M:=by funext x;unfold jc.Wl;rw[H.w]
theorem oU.Wo.lI(i:Nat):Gj M' i=Gj M (shN a i):=by
 have h:=H.at_ i;unfold Gj
 cases e:M'.l[i]? <;>cases e':M.l[shN a i]? <;>rw[e,e']at h <;>simp at h⊢
 rw[H.w,h]
theorem oU.Wo.Ll(hi:0<=i):jc.Ll M (shI a i)=jc.Ll M' i:=by
 have h:=H.at_ i.toNat;unfold jc.Ll;rw[(aeG hi).1]
 cases e:M'.l[i.toNat]? <;>cases e':M.l[shN a i.toNat]? <;>rw[e,e']at h <;>simp at h⊢
 rw[H.Wl,h]
theorem oU.Wo.stI(hi:0<=i):jc.stI M (shI a i)=jc.stI M' i:=by
 have h:=H.at_ i.toNat;unfold jc.stI;rw[(aeG hi).1]
 cases e:M'.l[i.toNat]? <;>cases e':M.l[shN a i.toNat]? <;>rw[e,e']at h <;>simp at h⊢
 rw[H.Wl,h];simp
theorem oU.Wo.ord:nZ M=(nZ M').map (shI a):=by
 unfold nZ QL;rw[H.n,aeE H.no H.la H.lI];refine ak5 fun i hi=>H.Ll ?_;simp only[zs,List.mem_map]at hi;obtain⟨n,-,rfl⟩:=hi;exact Int.natCast_nonneg _
theorem oU.Wo.st:stM M=stM M':=by
 unfold stM;rw[H.ord,List.map_map];exact List.map_congr_left fun i hi=>H.stI (avj hi)
theorem oU.Wo.ber(i:Nat):Ls M' i=Ls M (shN a i):=by
 unfold Ls;rw[H.lI,H.fs,H.st,H.ord]
 have e:∀(l:List Int) (k:Nat),Iu (fun x=>decide (((shN a i:Nat):Int)=x)) (l.map (shI a)) k=Iu (fun x=>decide ((i:Int)=x)) l k:=fun l=>by
  induction l with
  | nil=>intro k;rfl
  | cons x l ih=>
   intro k;simp only[dQ,Iu];rw[ih];by_cases hx:(i:Int)=x
   ·rw[if_pos (decide_eq_true hx),if_pos (decide_eq_true (by rw[<-hx,adz]))]
   have h2:¬((shN a i:Nat):Int)=shI a x:=fun h=>hx (aq1 (a:=a) (by rw[adz];exact h));rw[if_neg (by simpa using h2),if_neg (by simpa using hx)]
 rw[e]
theorem oU.Wo.ayb:uQ M'=(uQ M).eraseIdx a/\(uQ M)[a]? =some fZ:=by
 constructor
 ·apply List.ext_getElem?;intro j;rw[List.getElem?_eraseIdx];simp only[uQ,iL,List.getElem?_range'];rw[H.n]
  have h1:∀n j:Nat,(List.range n)[j]? =if j<n then some j else none:=fun n j=>by
   split
   ·rw[List.getElem?_range (by assumption)]
   rw[fM (by simpa using by omega)]
  rw[h1,h1,h1];have ha:=H.la;have hb:=H.ber j;unfold shN at hb;by_cases hj:j<a
  ·rw[if_pos hj]at hb;rw[if_pos hj,if_pos aj,if_pos aj];show some _=some _;rw[hb]
  rw[if_neg hj]at hb;rw[if_neg hj];by_cases h2:j<M'.l.length
  ·rw[if_pos h2,if_pos aj];show some _=some _;rw[hb]
  rw[if_neg h2,if_neg aj,Option.map_none,Option.map_none]
 have ha:=H.la;unfold uQ;rw[iL,List.getElem?_range (by rw[H.n];omega)];show some (Ls M a)=_;unfold Ls;rw[H.no];rfl
theorem oU.Wo.set:mV M=(mV M').map (shI a):=by
 unfold mV O0;rw[H.n];refine aeE ?_ H.la fun i=>by rw[H.ber]
 have:Ls M a=fZ:=by unfold Ls;rw[H.no];rfl
 rw[this];rfl
end
theorem aoa(hi:i∈mV M):0<=i:=by
 simp only[mV,zs,List.mem_map]at hi;obtain⟨n,-,rfl⟩:=hi;exact Int.natCast_nonneg _

def Mo.wo(N:Mo)(a:Nat):Mo:={N with mts:=N.mts.eraseIdx a}
theorem aob{a i:Nat}:(N.wo a).mts[i]? =N.mts[shN a i]? :=by
 show(N.mts.eraseIdx a)[i]? =_;rw[List.getElem?_eraseIdx];unfold shN;split <;>rfl
theorem Mo.aoc{a:Nat}(ha:a<N.mts.length)(hw:N.way a=none):N.mi.Wo (N.wo a).mi a:=by
 have hx:N.mts[a]? =some N.mts[a]:=jh ha;refine⟨O,O,O,?_,?_,fun i=>?_,?_⟩
 ·show(N.mts.map _).length=((N.mts.eraseIdx a).map _).length+1;rw[List.length_map,List.length_map,List.length_eraseIdx,if_pos ha];omega
 ·show a<=((N.mts.eraseIdx a).map _).length;rw[List.length_map,List.length_eraseIdx,if_pos ha];omega
 ·show(((N.wo a).mts.map _)[i]?).map _=((N.mts.map _)[shN a i]?).map _;rw[iL,iL,aob]
 unfold Gj
 have e:N.mi.l[a]? =some ⟨0,.nilIface,N.mts[a],.nilIface,[]⟩:=by
  show(N.mts.map _)[a]? =_;rw[iL,hx];rfl
 rw[e];show(nH N.gs _ N.ps).isSome=false;unfold Mo.way at hw;rw[hx]at hw;rw[show nH N.gs N.mts[a].ks N.ps=none from hw];rfl
theorem ard{a:Nat}(ha:a<N.mts.length)(hw:N.way a=none):(N.wo a).cost=N.cost:=by
 unfold Mo.cost;rw[(Mo.aoc ha hw).set,List.flatMap_map]
 congr 1
 have e:∀l:List Int,(∀i∈l,0<=i)->l.flatMap (N.wo a).DY=l.flatMap fun i=>N.DY (shI a i):=fun l=>by
  induction l with
  | nil=>intro _;rfl
  | cons i l ih=>
   intro hl;rw[List.flatMap_cons,List.flatMap_cons,ih fun x hx=>hl x (dH _ hx)]
   congr 1
   unfold Mo.DY;rw[(aeG (hl i (bT ..))).1];unfold Mo.way;rw[aob];rfl
 exact e _ fun i hi=>aoa hi
theorem arf{a:Nat}(ha:a<N.mts.length)(hw:N.way a=none):(N.wo a).JE=N.JE:=by
 unfold Mo.JE;rw[(Mo.aoc ha hw).set,List.map_map];refine(List.map_congr_left fun i hi=>?_).symm;show ltI N (shI a i)=_;unfold ltI;rw[(aeG (aoa hi)).1,aob]
section
variable{α:Type}{row:α->List Value}{w:Nat}[rw':Rw row w]
theorem ai2{ty:Nat}[TD P t (.slice E)][TD P t' (.slice E')][TI P E w wO z zc]{x:Value}{l l':List α}{Q:Value->ah->Prop}(hzc:zc.size=w)
  (hs:Sl h row (.slice a l.length l.length) l) (hx:Sl h row x l') (hl:0<l'.length) (hb:(2*(l.length+l'.length)+768)*wO<=2 ^ 48) (hby:0<wO)
  (K:∀v' A',Os E row v' (l++l') A'->Q v' A'):tr P h (Builtin.append_ #[t,t'] ty #[.slice a l.length l.length,x]) [] Q:=by
 obtain⟨j,hj,hj1,hj2,hj3,hj4⟩:=TI.out (inferInstance:TI P E w wO z zc)
 have hm:((l.length+l'.length:Nat):Int)<=IntKind.i64.max:=by
  have h1:(2*(l.length+l'.length)+768)*1<=(2*(l.length+l'.length)+768)*wO:=Nat.mul_le_mul_left _ hby;have h2:IntKind.i64.max=9223372036854775807:=rfl;omega
 obtain⟨ax,J9,Sz,_⟩:=id hx;subst Sz;have e1:(#[t,t']:Array TypeId)[0]? =some t:=rfl;have e2:(#[t,t']:Array TypeId)[1]? =some t':=rfl;have e3:(#[Value.slice a l.length l.length,Value.slice ax l'.length J9]:Array Value)[0]? =some (.slice a l.length l.length):=rfl;have e4:(#[Value.slice a l.length l.length,Value.slice ax l'.length J9]:Array Value)[1]? =some (.slice ax l'.length J9):=rfl;simp only[Builtin.append_,e1,e2,e3,e4,bind_eq,au,bind_assoc,bind_pure,aF,fF,eU,if_false,Builtin.lenOf,Bool.not_false,if_true];have hc:¬(l.length+l'.length<=l.length):=by omega
 rw[if_neg hc];have c1:¬(((l.length+l'.length:Nat):Int)>IntKind.i64.max/\(false=true\/(wO:Nat)=0)):=by omega
 have c2:¬Builtin.nextslicecap (l.length+l'.length) l.length*wO>2 ^ 48:=by
  have:=Sj (show l.length<l.length+l'.length by omega);have:=Nat.mul_le_mul_right wO this;omega
 simp only[iO hj,hj2];have c1':¬(((l.length+l'.length:Nat):Int)>IntKind.i64.max):=by omega
 simp only[c1',false_and,if_false];rw[iO hj,hj2,if_neg c2];intro n ⟨tp,hn⟩;have GN:l.length+l'.length<=n:=by rw[hn];simp only[Question.cut];omega
 clear hn c2;show tr P h (Sem.bind (typeInfo E) _) [] Q;rw[iO hj,hj2]
 
 have room:∀{β:Type} {f:Unit->Sem β} {Q':β->ah->Prop},tr P h (f ()) [] Q'->tr P h ((askRoom (n*wO)).bind f) [] Q':=by
  intro β f Q' H;unfold askRoom;split
  ·exact⟨O,H⟩
  exact H
 refine room (cu (GV hs (cu (GV hx ?_))));simp only[jQ,hj4,newRow,bind_eq,au,bind_assoc,bind_pure];refine D_ fun r _ _=>?_;refine K _ _ (.inr ⟨r,_,n,[],by rw[jA],O,?_,by rw[jA];exact GN,?_,eH.nil⟩)
 ·simp only[Array.size_append,List.size_toArray,gU,GX,hzc,<-Nat.add_mul]
  congr 1;omega
 refine⟨[],(Builtin.zeroCells zc (n- (l.length+l'.length))).toList,?_,O⟩;rw[wR];simp only[Array.toList_append,List.nil_append,eF]

end
section rules
variable{x:Cx}{ρ:Env}{F:ah}{o:Oper}{R:Value->ah->Prop}{α:Type}{row:α->List Value}{w:Nat}[rw':Rw row w]
theorem ak6{l l':List α}(ho:o.op= .call ⟨.builtin .append, #[y,yx], #[t,t']⟩)[TD x.P t (.slice E)][TD x.P t' (.slice E')][TI x.P E w wO z zc]
  (hy:ev ρ y=some (.slice a l.length l.length)) (hx:ev ρ yx=some xv) (hs:Sl x.h row (.slice a l.length l.length) l) (aoY:∀h',Ext x.h h'->je F h'->Sl h' row xv l') (hl:0<l'.length) (hb:(2*(l.length+l'.length)+768)*wO<=2 ^ 48) (hby:0<wO) (hzc:zc.size=w)
  (K:∀v' A',Os E row v' (l++l') A'->R v' (A'++F)):Ef x ρ o F R:=fun e he=>
 ⟨[],F,.refl _,fun h' e1 e2=>by
  simp only[execOp,ho,resolve,invoke,builtin,List.map_toArray,dQ,List.map_nil,he y _ hy,he yx _ hx,bind_eq,au,bind_pure];exact cu (ai2 hzc (hs.ext e1) (aoY h' e1 e2) hl hb hby fun v' A' H=>⟨A'++F,.refl _,K v' A' H⟩)⟩
end rules
section rules
variable{x:Cx}{ρ:Env}{F:ah}{o:Oper}{R:Value->ah->Prop}{α:Type}{row:α->List Value}{w:Nat}[rw':Rw row w]
theorem avk{l:List α}{i m f_:Nat}{C:TypeId}{U:Obj->ah}{ax:Option Addr}(ho:o.op= .call ⟨.builtin .append, #[y,yx], #[t,t']⟩)[TD x.P t (.slice E)][TD x.P t' (.slice E')][TI x.P E w wO z zc]
  (hy:ev ρ y=some (.slice (some ⟨β,0,none⟩) i cap)) (hx:ev ρ yx=some (.slice ax m f_)) (hax:0<m->ax=some ⟨β,(i+1)*w,none⟩) (hm:i+1+m=l.length) (hlc:l.length<=cap) (hl:At β (.cells c C (0,0)) F U) (hc:c.size=cap*w) (hP:Part c 0 (flat row l))
  (K:∀c',c'.size=cap*w->Part c' 0 (flat row (l.eraseIdx i))->R (.slice (some ⟨β,0,none⟩) (i+m) cap) (U (.cells c' C (0,0)))):Ef x ρ o F R:=
 Ef.uY fun e he h' hE=>by
  have hd:(l.drop (i+1)).length=m:=by rw[List.length_drop];omega
  have ht:(l.take i).length=i:=by rw[List.length_take];omega
  have hP1:Part c ((i+1)*w) (flat row (l.drop (i+1))):=by
   have e:flat row l=flat row (l.take (i+1))++(flat row (l.drop (i+1))++[]):=by rw[List.append_nil,<-wR,List.take_append_drop]
   have h:=hP;rw[e]at h;have h2:=h.sub;rw[gU,List.length_take,Nat.min_eq_left aj,Nat.zero_add]at h2;exact h2
  have hP2:Part c 0 (flat row (l.take i)):=by
   have e:flat row l=[]++(flat row (l.take i)++flat row (l.drop i)):=by rw[List.nil_append,<-wR,List.take_append_drop]
   have h:=hP;rw[e]at h;exact h.sub
  have hfd:(flat row (l.drop (i+1))).length=m*w:=by rw[gU,hd]
  have hft:(flat row (l.take i)).length=i*w:=by rw[gU,ht]
  have aCQ:(i+1)*w+m*w<=c.size:=by rw[hc,<-Nat.add_mul];exact Nat.mul_le_mul_right _ aj
  have hle:i*w+m*w<=c.size:=by rw[hc,<-Nat.add_mul];exact Nat.mul_le_mul_right _ aj
  have e1:(#[t,t']:Array TypeId)[0]? =some t:=rfl;have e2:(#[t,t']:Array TypeId)[1]? =some t':=rfl;have e3:(#[Value.slice (some ⟨β,0,none⟩) i cap,Value.slice ax m f_]:Array Value)[0]? =some (.slice (some ⟨β,0,none⟩) i cap):=rfl;have e4:(#[Value.slice (some ⟨β,0,none⟩) i cap,Value.slice ax m f_]:Array Value)[1]? =some (.slice ax m f_):=rfl;simp only[execOp,ho,resolve,invoke,builtin,List.map_toArray,dQ,List.map_nil,he y _ hy,he yx _ hx,Builtin.append_,e1,e2,e3,e4,bind_eq,au,bind_assoc,bind_pure,aF,fF,eU,if_false,Builtin.lenOf,Bool.not_false,if_true];rw[if_pos (show i+m<=cap by omega)];have ea:(⟨β,0,none⟩:Addr).add (i*w)=⟨β,i*w,none⟩:=by rw[kF O];simp
  rw[ea]
  have read:∀{Q:Array Value->ah->Prop},Q (flat row (l.drop (i+1))).toArray F->tr x.P h' (Builtin.firstCells w m (Value.slice ax m f_)) F Q:=fun{Q} H=>by
   rcases Nat.eq_zero_or_pos m with h0 | h0
   ·subst h0;have e:flat row (l.drop (i+1))=[]:=jy.1 (by rw[hfd,Nat.zero_mul]);rw[e]at H
    cases ax with
    | none=>exact H
    | some a=>simp only[Builtin.firstCells,Nat.zero_mul,loadCells,loadCellsFrom];exact H
   rw[hax h0];simp only[Builtin.firstCells,loadCells];refine jL (.inr hl.mem) _ 0 #[] aj ?_;have h7:=hP1.extract;rw[hfd]at h7;simp only[Nat.add_zero,Array.empty_append];rw[h7];exact H
  refine cu (cu (read ?_));refine cu (l9 (flat row (l.drop (i+1))) 0 c (sH _) hl (by rw[hfd];omega) ?_);refine⟨_,.inl O,?_⟩;refine K _ (by rw[wQ,hc]) ?_;rw[List.eraseIdx_eq_take_drop_succ,wR,Nat.add_zero,<-hft];exact AQ _ _ hP2 (by rw[hft,hfd];exact hle)
theorem aol{S:ah->Prop}{s n l:Nat}{hi mx:Operand}{k k':IntKind}(ho:o.op= .slice t y none (some hi) (some mx))[TD x.P t (.slice E)][TI x.P E s wO z zc](hy:ev ρ y=some (.slice a l cap))(hn:n<=cap)(ha:∃b off,a=some ⟨b,off,none⟩)(hh:ev ρ hi=some (.int k n))(hm:ev ρ mx=some (.int k' n)):Yv x S ρ o (.slice a n n):=fun e he F hF h' hE=>by
 have e1:(0:Int)<=n/\(n:Int)<=cap:=by omega
 have e2:(0:Int)<=n/\(n:Int)<=(n:Nat):=by omega
 simp only[execOp,ho,he y _ hy,he hi _ hh,he mx _ hm,Instr.sliceAt,Instr.slice,Instr.sliceBounds,Instr.sliceBound,asIntOf,bind_eq,au,bind_assoc,bind_pure,Option.map_none,Option.map_some,aF,fF,if_pos e1,Int.toNat_natCast,if_pos e2,if_true,Nat.sub_zero]
 have e3:(if n=0 then a else Option.map (fun x=>x.add (0*s)) a)=a:=by
  obtain⟨b,off,rfl⟩:=ha;split
  ·rfl
  have ea:(⟨b,off,none⟩:Addr).add (0*s)=⟨b,off,none⟩:=by rw[kF O];simp
  exact congrArg some ea
 exact⟨congrArg (fun q=>Next.value (.slice q n n)) e3,O⟩
theorem Sl.drop{n:Nat}{l:List α}(H:Sl h row (.slice a n cap) l)(hn:n<=cap)(m:Nat):Sl h row (.slice (if cap=m then a else a.map (·.add (m*w))) (n-m) (cap-m)) (l.drop m):=by
 obtain⟨a',f_,e,hx⟩:=H
 cases e
 refine⟨_,_,by rw[List.length_drop],fun iK=>?_⟩
 have hm:m<l.length:=by
  rcases bQ m l.length with h' | h'
  ·exact h'
  exact absurd (List.drop_eq_nil_of_le h') iK
 obtain⟨b,off,c,E,fz,rfl,hb,hp⟩:=hx (by rintro rfl;simp at hm);rw[if_neg aj]
 have e1:(Option.map (fun x:Addr=>x.add (m*w)) (some ⟨b,off,none⟩))=some ⟨b,off+m*w,none⟩:=by
  show some ((⟨b,off,none⟩:Addr).add (m*w))=_;rw[kF O]
 refine⟨b,off+m*w,c,E,fz,e1,hb,?_⟩;rw[show flat row l=flat row (l.take m)++(flat row (l.drop m)++[]) by rw[List.append_nil,<-wR,List.take_append_drop]]at hp;have h2:=hp.sub;rw[gU,List.length_take,Nat.min_eq_left aj]at h2;exact h2
theorem ak7{l l':List α}(ho:o.op= .call ⟨.builtin .append, #[y,yx], #[t,t']⟩)[TD x.P t (.slice E)][TD x.P t' (.slice E')][TI x.P E w wO z zc]
  (hy:ev ρ y=some (.slice a l.length l.length)) (hx:ev ρ yx=some xv) (ha:∃b off,a=some ⟨b,off,none⟩) (hs:Sl x.h row (.slice a l.length l.length) l) (aoY:∀h',Ext x.h h'->je F h'->Sl h' row xv l') (hb:(2*(l.length+l'.length)+768)*wO<=2 ^ 48) (hby:0<wO) (hzc:zc.size=w)
  (K:∀v' A',(∀h',Ext x.h h'->je A' h'->Sl h' row v' (l++l'))->eH A'->R v' (A'++F)):Ef x ρ o F R:=by
 rcases Nat.eq_zero_or_pos l'.length with h0 | h0
 ·have e0:l'=[]:=jy.1 h0;subst e0;obtain⟨ab,arh,rfl⟩:=ha;have hK:=K (.slice (some ⟨ab,arh,none⟩) l.length l.length) [] (fun h' hE _=>by rw[List.append_nil];exact hs.ext hE) .nil;refine fun e he=>⟨[],F,.refl _,fun h' e1 e2=>?_⟩
  obtain⟨ax,J9,Sz,_⟩:=id (aoY h' e1 e2);subst Sz;have g1:(#[t,t']:Array TypeId)[0]? =some t:=rfl;have g2:(#[t,t']:Array TypeId)[1]? =some t':=rfl;have g3:(#[Value.slice (some ⟨ab,arh,none⟩) l.length l.length,Value.slice ax ([]:List α).length J9]:Array Value)[0]? =some (.slice (some ⟨ab,arh,none⟩) l.length l.length):=rfl;have g4:(#[Value.slice (some ⟨ab,arh,none⟩) l.length l.length,Value.slice ax ([]:List α).length J9]:Array Value)[1]? =some (.slice ax ([]:List α).length J9):=rfl;simp only[execOp,ho,resolve,invoke,builtin,List.map_toArray,dQ,List.map_nil,he y _ hy,he yx _ hx,Builtin.append_,g1,g2,g3,g4,bind_eq,au,bind_assoc,bind_pure,aF,fF,eU,if_false,Builtin.lenOf,Bool.not_false,if_true];rw[if_pos (show l.length+([]:List α).length<=l.length from Nat.le_refl _)];refine cu (cu (GV (aoY h' e1 e2) ?_));exact⟨[]++F,.refl _,hK⟩
 exact ak6 ho hy hx hs aoY h0 hb hby hzc fun v' A' hO=>K v' A' (fun h' _ hL=>hO.sl hL) hO.shut
theorem ak9{n:Nat}{l l':List α}(ho:o.op= .call ⟨.builtin .append, #[y,yx], #[t,t']⟩)[TD x.P t (.slice E)][TD x.P t' (.slice E')][TI x.P E w wO z zc]
  (hy:ev ρ y=some (.slice a n n)) (hx:ev ρ yx=some xv) (ha:∃b off,a=some ⟨b,off,none⟩) (hn:l.length=n) (hs:Sl x.h row (.slice a n n) l) (aoY:∀h',Ext x.h h'->je F h'->Sl h' row xv l') (hb:(2*(l.length+l'.length)+768)*wO<=2 ^ 48) (hby:0<wO) (hzc:zc.size=w)
  (K:∀v' A',(∀h',Ext x.h h'->je A' h'->Sl h' row v' (l++l'))->eH A'->R v' (A'++F)):Ef x ρ o F R:=by
 subst hn;exact ak7 ho hy hx ha hs aoY hb hby hzc K
theorem Sl.ayi{n:Nat}{l:List α}(H:Sl h row (.slice a n cap) l){m:Nat}(hm:m<=l.length):Sl h row (.slice a m m) (l.take m):=by
 obtain⟨a',f_,e,hx⟩:=H
 cases e
 refine⟨a,m,by rw[List.length_take,Nat.min_eq_left hm],fun iK=>?_⟩;obtain⟨b,off,c,E,fz,rfl,hb,hp⟩:=hx (by rintro rfl;simp at iK);refine⟨b,off,c,E,fz,O,hb,?_⟩;rw[show flat row l=[]++(flat row (l.take m)++flat row (l.drop m)) by rw[List.nil_append,<-wR,List.take_append_drop]]at hp;exact hp.sub
end rules
def acg(P:Program)(main:aN)(f:FuncId)(args:Array Value)(h:Hp)(u:Value):Prop:=
 ∃(fn:Func) (c:Code) (ρ:Env),P.funcs[f]? =some fn/\fn.body=some c/\args.size<=fn.ntmps/\LV ρ args/\W ⟨P,main,f,fn.ntmps,none,h⟩ c (fun e ρ ds F=>ds=[]/\eH F/\leave P main fn h (fun v _=>v=u) e ρ [] F) ρ [] []

section
variable{P:Program}{main:aN}{h:Hp}
theorem acg.gX{f:FuncId}{fn:Func}{c:Code}(hf:P.funcs[f]? =some fn)(hb:fn.body=some c)(ha:args.size<=fn.ntmps)(ρ:Env)(LD:LV ρ args)
  (H:W ⟨P,main,f,fn.ntmps,none,h⟩ c (fun e ρ ds F=>ds=[]/\eH F/\leave P main fn h (fun v _=>v=u) e ρ [] F) ρ [] []):acg P main f args h u:=⟨fn,c,ρ,hf,hb,ha,LD,H⟩
variable{fn:Func}{e:Exit}{ρ:Env}{F:ah}
theorem lvq{vs:List Value}(hu:pack vs=u)(he:e= .ret\/e= .normal:=by first | exact .inl rfl | exact .inr rfl)(hv:ada ρ fn.results.toList=some vs:=by rfl)(hs:eH F:=by repeat(first | exact eH.nil | assumption | refine eH.cons rfl ?_ | refine eH.app ?_ ?_)):([]:List Deferred)=[]/\eH F/\leave P main fn h (fun v _=>v=u) e ρ [] F:=
 ⟨O,hs,iQ hu he hv⟩
end
theorem acg.run{f:FuncId}{W:World}(hi:P.inits.idxOf? f=none)(T:acg P (G_ P (AX P fun v _=>v=u)) f args (kZ W) u):
  ∃M last o w' t',runNT P (M+1) (Conc.solo (Conc.G (Frame.enter P f args .normal) []) W) #[]=(.ended o w',t')/\runN P M (Conc.solo (Conc.G (Frame.enter P f args .normal) []) W)= .next last/\Go.step P last= .ended o w'/\Conc.Good P (fun v w'=>v=u/\Kept W w') last o w' t':=by
 obtain⟨fn,c,ρ,h1,h2,h3,h4,h5⟩:=T;exact Mn.run (Mn.top (R:=fun v=>v=u) h1 h2 hi h3 ρ h4 aaE (fun b o hb=>(lN.1 hb).2) (fun v w hv _=>hv) h5)

theorem Kept.below{w w':World}(h:Kept w w'):Go.RowKit.Below w.heap.size w w':=⟨h.os,h.tape,h.output,h.size,h.block⟩

theorem Py(l:List Int):flat bY l=l.map fun n=>.int .i64 n:=by
 induction l with
 | nil=>rfl
 | cons a l ih=>rw[iW,ih];rfl
theorem Part.aq8{off:Nat}{xs:List Value}(h:∀j,j<xs.length->c[off+j]? =xs[j]?)(iK:xs≠[]):Part c off xs:=by
 have hlen:off+xs.length<=c.size:=by
  have ayB:0<xs.length:=List.length_pos_iff.2 iK;have:=h (xs.length-1) aj;rw[jh aj]at this;rcases bQ (off+(xs.length-1)) c.size with h' | h'
  ·omega
  rw[Array.getElem?_eq_none h']at this;cases this
 refine⟨c.toList.take off,c.toList.drop (off+xs.length),?_,by simp;omega⟩;apply List.ext_getElem?;intro i;have oH:c.toList.length=c.size:=by simp
 rcases bQ i off with h1 | h1
 ·rw[List.getElem?_append_left (by simp;omega),List.getElem?_take,if_pos h1]
 rw[List.getElem?_append_right (by simp;omega)];have e1:(c.toList.take off).length=off:=by simp;omega
 rw[e1];rcases bQ (i-off) xs.length with h2 | h2
 ·rw[List.getElem?_append_left h2,<-h _ h2];simp only[Array.getElem?_toList]
  congr 1;omega
 rw[List.getElem?_append_right h2,List.getElem?_drop]
 congr 1;omega
theorem Sl.kZ{W:World}{a:Addr}{n:Nat}{zs:List Int}(hz:n<=zs.length)(h:∀i,i<zs.length->W.cell? (a.add i)=some (.int .i64 (zs.getD i 0))):Sl (kZ W) bY (.slice (some a) n cap) (zs.take n):=by
 refine⟨some a,cap,by rw[List.length_take,Nat.min_eq_left hz],fun iK=>?_⟩
 have ayB:0<n:=by
  rcases Nat.eq_zero_or_pos n with h' | h'
  ·subst h';simp at iK
  exact h'
 obtain⟨b,off,spot⟩:=a
 have hsp:spot=none:=by
  have:=h 0 aj
  cases hs:spot with
  | none=>rfl
  | some s=>
   subst hs;exfalso;simp only[World.cell?,Addr.add,if_true]at this;split at this
   ·simp at this
   cases this
 subst hsp
 have cell:∀i,i<zs.length->∃c E fz,W.heap[b]? =some (.cells c E fz)/\c[off+i]? =some (.int .i64 (zs.getD i 0)):=fun i hi=>by
  have:=h i hi;rw[show(⟨b,off,none⟩:Addr).add i=⟨b,off+i,none⟩ by unfold Addr.add;split <;>simp[*]]at this;simp only[World.cell?]at this;split at this
  ·rename_i c E fz hb;exact⟨c,E,fz,hb,by simpa using this⟩
  cases this
 obtain⟨c,E,fz,hb,h0⟩:=cell 0 aj;refine⟨b,off,c,E,fz,O,lN.2 ⟨hb,O⟩,Part.aq8 (fun j hj=>?_) ?_⟩
 ·rw[Py,List.length_map,List.length_take]at hj;obtain⟨c',E',fz',wz,hj'⟩:=cell j aj;rw[hb]at wz
  cases wz
  rw[hj',Py,iL,List.getElem?_take,if_pos aj,jh aj];simp[List.getD,jh (show j<zs.length by omega)]
 rw[Py];intro e;exact iK (List.map_eq_nil_iff.1 e)
theorem OsM.erase{l:List (Value×Mt)}(h:OsM l A):∀{i:Nat},i<l.length->∃A',OsM (l.eraseIdx i) A'/\Sb A' A:=by
 induction h with
 | nil=>intro i hi;exact absurd hi (Nat.not_lt_zero _)
 | @cons p l A1 A2 h1 h2 ih=>
  intro i hi
  match i with
  | 0=>exact⟨A2,h2,.left .refl h1.shut⟩
  | i+1=>
   obtain⟨A',h3,h4⟩:=ih (i:=i) (by simpa using hi);exact⟨A1++A',.cons h1 h3,.app .refl h4⟩
theorem Os.aBD{row:α->List Value}{w:Nat}[Rw row w]{E:TypeId}{n:Nat}{l:List α}(H:Os E row (.slice a n cap) l A):l.length<=cap:=by
 rcases H with⟨rfl,e,_⟩ | ⟨β,c,f_,J,e,_,_,h2,_⟩
 ·exact Nat.zero_le _
 cases e;exact h2
def yD.wo(D:yD)(a:Nat)(vm':Value):yD:={D with vm:=vm',jJ:=D.jJ.eraseIdx a}
theorem yD.ayl{a:Nat}{vm':Value}:(D.wo a vm').mo=D.mo.wo a:=by
 show(⟨D.gs,D.ps,D.fs,(D.jJ.eraseIdx a).map (·.2)⟩:Mo)=⟨D.gs,D.ps,D.fs,(D.jJ.map (·.2)).eraseIdx a⟩;rw[List.eraseIdx_eq_take_drop_succ,List.eraseIdx_eq_take_drop_succ,List.map_append,List.map_take,List.map_drop]
theorem avl{Sa Sp Sr Sf SK:ah}{a n XU ND:Nat}{cc:Array Value}(uU:D'.OK)(h1:Os IZ Ag.row D'.va D'.gs Sa)(h2:Os aaO Pn.row D'.nS D'.Vj Sp)(h3:Os aX bY D'.vr D'.rs Sr)(h4:Os A_ Fl.row D'.vf D'.fs Sf)(h6:OsM D'.jJ SK)(ha:a<D'.jJ.length)(hn:n+1=D'.jJ.length)(IW:cc.size=ND*5)(hle:D'.jJ.length<=ND)(hpt:Part cc 0 (flat yM (D'.jJ.eraseIdx a))):
  ∃SK',(D'.wo a (.slice (some ⟨XU,0,none⟩) n ND)).OK/\(D'.wo a (.slice (some ⟨XU,0,none⟩) n ND)).Own (Sa++(Sp++(Sr++(Sf++([(XU,.cells cc kD (0,0))]++SK')))))/\Sb SK' SK:=by
 have hlen:(D'.jJ.eraseIdx a).length=n:=by rw[List.length_eraseIdx,if_pos ha];omega
 obtain⟨SK',hM,bF⟩:=h6.erase ha;refine⟨SK',⟨uU.gk,uU.pk,uU.sk,uU.fk,fun p hp=>uU.me p (List.mem_of_mem_eraseIdx hp),?_⟩,.mk h1 h2 h3 h4 (.inr ⟨XU,cc,ND,[],?_,O,IW,?_,hpt,.nil⟩) hM,bF⟩
 ·show(D'.jJ.eraseIdx a).length<=4;have:=uU.m4;omega
 ·show Value.slice _ _ _=Value.slice _ (D'.jJ.eraseIdx a).length _;rw[hlen]
 show(D'.jJ.eraseIdx a).length<=_;omega
theorem alg{a:Nat}{r:List Nat}(h:N.adv N.mts.length=a::r):a<N.mts.length/\N.way a=none:=by
 have hm:a∈N.adv N.mts.length:=by rw[h];exact bT ..
 simp only[Mo.adv,List.mem_filter,List.mem_range,decide_eq_true_eq]at hm;refine⟨hm.1,?_⟩;have hx:N.mts[a]? =some N.mts[a]:=jh hm.1;unfold Mo.way;rw[hx];have h2:=hm.2;rw[List.getD_eq_getElem?_getD,hx]at h2;exact h2

theorem adt(main:aN)(hS:∀S,main.ok S->∃Fin,S=Mn aV Fin)(qJ:main.b=true)(h:Hp)(cZ:List Int)(lv:Value)(Eg:TypeId)(zg:Nat×Nat)(hl:Sl h bY lv cZ)(hg:h 0=some (.cells #[QI kC] Eg zg))(z0:h.z 0):acg aV main zk #[lv] h (.bool true):=by
 refine acg.gX acn O (by show 1<=177;decide) [(0,lv)] ⟨O,trivial⟩ ?_;refine jk ?_;refine c0 (fun h' hE hL=>ags _ h' cZ lv (hl.ext hE)) (fun v A' hv=>?_);obtain⟨bh,s0,rfl,rfl⟩:=hv;refine cg (A:=[(bh,_)]) .head (fun h' hE hL=>aed _ h' cZ lv bh 0 s0 4 (hl.ext hE) dF dF) (fun v A' hv=>?_);obtain⟨D,k1,s1,SO,rfl,uU,-,-,Ob,-,bF⟩:=hv;refine aA.sb (F':=SO) (.trans (.skip O .refl) (.trans bF (.right .refl .nil))) ?_;refine aA.new (fun nP=>?_);refine aA.alf (n:=6) (vs:= #[D.va,I D.ps,D.nS,D.vr,D.vf,D.vm]) ?_ (hc:=by show 0+6<=6;decide) (h1:=Ob.alD);refine qj ?_;refine W.sb (F':=SO++[(nP,.cells #[D.va,I D.ps,D.nS,D.vr,D.vf,D.vm] fC (0,0))]) (.aT (dK (l₂:=[_]))) ?_;refine xI Ob uU hg z0 (fun h1 zD H1=>?_);obtain⟨am,cm,em⟩:=H1.mm.aU;have hm4:=H1.m4;refine gI ?_;refine c0 (fun h' hE hL=>an7 hS qJ h' D (H1.ext hE)) (fun v A' hv=>?_);obtain⟨u,SS,rfl,hOs,UO⟩:=hv;obtain⟨sp,hsp⟩:∃l,zs (D.mo.adv D.mo.mts.length)=l:=⟨_,rfl⟩
 have aon:D.mo.mts.length=D.jJ.length:=by show(D.jJ.map _).length=_;rw[List.length_map]
 have aCR:sp.length<=D.jJ.length:=by
  rw[<-hsp,rZ,<-aon];exact Nat.le_trans (List.length_filter_le ..) (by simp)
 rw[hsp]at hOs;obtain⟨asp,csp,rfl⟩:=hOs.aU;refine aA.sb (F':=SS++[(nP,.cells #[D.va,I D.ps,D.nS,D.vr,D.vf,D.vm] fC (0,0))]) (UO.app .refl) ?_;refine lg ?_;refine eY hOs (fun h2 NY P7 hz2=>?_);refine lF ?_;refine Gh (u:=.bool false) (Fe O O O) O O wn O O ?_;refine lF ?_;refine Gh (u:=.slice am D.jJ.length cm) (CG O O) em O (aI O O O) O O ?_;refine zT ?_;refine Gh (u:=.bool false) (WH O O O) (congrArg Value.bool (decide_eq_false aj)) O (aI O O O) O O ?_;refine d_ ?_;refine W.iq ?_;refine FT ?_;refine W.aJ O (fun c40=>?_) (fun c40=>?_)
 ·refine d_ ?_;refine c0 (fun h' hE hL=>Ve hS qJ h' Eg zg (((zD.trans NY).trans hE).1 _ _ hg) (((zD.trans NY).trans hE).2 _ z0)) (fun v A' hv=>?_);obtain⟨rfl,aq9⟩:=hv;refine aA.sb (.left .refl aq9) ?_;refine lF ?_;exact lvq (hs:=.cons O .nil) O
 obtain⟨a,ha,nN,hw⟩:∃a:Nat,a<D.jJ.length/\sp[0]? =some (a:Int)/\D.mo.way a=none:=by
  cases avm:D.mo.adv D.mo.mts.length with
  | nil=>rw[avm]at hsp;rw[<-hsp]at c40;exact absurd rfl c40
  | cons a r=>
   obtain⟨h1,h2⟩:=alg avm;exact⟨a,aon▸h1,by rw[<-hsp,avm];rfl,h2⟩
 obtain⟨bs,os',cs,Es,zs',es,hbs,hxs,hys,hzs⟩:=P7.at nN
 cases es
 have auA:cs[os'+0*1]? =some (I a):=hzs 0 dF;clear hxs hzs;have aCS:0<sp.length:=by omega
 refine CW ?_;refine Gh (u:=.bool false) (WG O O O) (congrArg Value.bool (decide_eq_false aj)) O wn O O ?_;refine gI ?_;refine Gh (u:=.slice am D.jJ.length cm) (CG O O) em O (aI O O O) O O ?_;refine zT ?_;refine Gh (u:=.bool false) (aeo O O O) (congrArg Value.bool (decide_eq_false aj)) O (aI O O O) O O ?_;refine d_ ?_;refine W.iq ?_;refine kJ ?_;refine c0 (fun h' hE hL=>aez _ h' D (H1.ext (NY.trans hE))) (fun v A' hv=>?_);obtain⟨D',S',rfl,ahL,aqp,azW⟩:=hv;refine aA.sb (azW.app .refl) ?_;refine aA.new (fun yc=>?_);refine aA.alf (n:=6) (vs:= #[D'.va,I D'.ps,D'.nS,D'.vr,D'.vf,D'.vm]) ?_ (hc:=by show 0+6<=6;decide) (h1:=aqp.alD);refine qj ?_;have azX:=ahL.mo;have azY:=ahL.ok H1;have hml:D'.jJ.length=D.jJ.length:=by have:=congrArg List.length ahL.mts;simpa using this
 cases aqp with
 | @mk Sa Sp Sr Sf Sm SK g1 g2 g3 g4 g5 g6=>
 rcases id g5 with⟨he,-⟩ | ⟨XU,cc,ND,Jc,emv,rfl,Y4,ZJ,hpt,hJc⟩
 ·rw[he]at hml;simp at hml;omega
 rw[emv];obtain⟨mm,hmm⟩:∃m,a+1+m=D'.jJ.length:=⟨D'.jJ.length- (a+1),aj⟩
 have Qb:D'.jJ.length- (a+1)=mm:=by omega
 refine W.sb (F':=(XU,.cells cc kD (0,0))::(yc,.cells #[D'.va,I D'.ps,D'.nS,D'.vr,D'.vf,.slice (some ⟨XU,0,none⟩) D'.jJ.length ND] fC (0,0))::((Sa++(Sp++(Sr++(Sf++SK))))++[(nP,.cells #[D.va,I D.ps,D.nS,D.vr,D.vf,D.vm] fC (0,0))])) ?_ ?_
 ·simp only[eF,List.cons_append,List.nil_append];refine Sb.pl (A:=[_]) (by repeat(first | exact .head | apply L8.tail | apply L8.app)) (Sb.pl (A:=[_]) (by repeat(first | exact .head | apply L8.tail | apply L8.app)) ?_);show Sb _ (Sa++(Sp++(Sr++(Sf++(Jc++(SK++_))))));exact .app .refl (.app .refl (.app .refl (.app .refl (.left .refl hJc))))
 refine W.seq ?_;refine W.kQ [(yc,.cells #[D'.va,I D'.ps,D'.nS,D'.vr,D'.vf,.slice (some ⟨XU,0,none⟩) D'.jJ.length ND] fC (0,0))] (n:=12) O ?_;refine ay 0 ?_;refine ay 1 ?_;refine ay 2 ?_;refine fJ 3 (WU (m:=a) O O O (.inl O) aj) O ?_;refine ay 4 ?_;refine ay 5 ?_;refine ay 6 ?_;refine ay 7 ?_;refine aqe (i:=8) (u:=.slice (if ND=a+1 then some ⟨XU,0,none⟩else some ⟨XU,(a+1)*5,none⟩) mm (ND- (a+1))) (agA (m:=a+1) rfl rfl rfl aj) (by rw[Qb];split <;>simp[kF]) rfl an rfl rfl ?_;refine ae (i:=9) O an O O (avk (row:=yM) (l:=D'.jJ) (i:=a) (m:=mm) O O O (fun h0=>by rw[if_neg aj]) hmm ZJ .head Y4 hpt (fun cc' aBE aBF=>?_));refine⟨.inr (aC.one (.tail _ (.head _)) aC.nil),?_⟩;refine ay 10 ?_;refine ae (i:=11) O an O O (eS O O O ?_);refine⟨.inl aB,?_⟩;refine az ?_;refine fH ?_;obtain⟨SK',awc,aqu,az0⟩:=avl (n:=a+mm) (XU:=XU) azY g1 g2 g3 g4 g6 aj aj aBE ZJ aBF;generalize hD2:D'.wo a (.slice (some ⟨XU,0,none⟩) (a+mm) ND)=D2 at awc aqu;have awd:D2.mo=D.mo.wo a:=by rw[<-hD2,yD.ayl,azX]
 have aBG:D2.fs=D.fs:=by rw[<-hD2];exact ahL.fs
 have aCT:D2.jJ.length+1=D.jJ.length:=by rw[<-hD2];show(D'.jJ.eraseIdx a).length+1=_;rw[List.length_eraseIdx,if_pos aj];omega
 have hV:D2.V= .agg #[D'.va,I D'.ps,D'.nS,D'.vr,D'.vf,.slice (some ⟨XU,0,none⟩) (a+mm) ND]:=by rw[<-hD2];rfl
 have hwo:=Mo.aoc (aon▸ha) hw;have hbb:(jF D2.fs (stM D2.mo.mi)).2.1=(jF D.fs (stM D.mo.mi)).2.1:=by rw[aBG,awd,<-hwo.st]
 have arV:D2.mo.cost=D.mo.cost:=by rw[awd];exact ard (aon▸ha) hw
 have aop:D2.share.2.1=D.share.2.1:=by
  unfold yD.share;rw[awd,arf (aon▸ha) hw,show D2.Vj=D.Vj by rw[<-hD2];exact ahL.Vj,show D2.rs=D.rs by rw[<-hD2];exact ahL.rs]
 refine W.sb (F':=(Sa++(Sp++(Sr++(Sf++([(XU,.cells cc' kD (0,0))]++SK')))))++[(yc,.cells #[D'.va,I D'.ps,D'.nS,D'.vr,D'.vf,.slice (some ⟨XU,0,none⟩) (a+mm) ND] fC (0,0)),(nP,.cells #[D.va,I D.ps,D.nS,D.vr,D.vf,D.vm] fC (0,0))]) ?_ ?_
 ·simp only[eF,List.cons_append,List.nil_append];refine Sb.pl (A:=Sa) (by repeat(first | exact .head | apply L8.tail | apply L8.app)) (Sb.pl (A:=Sp) (by repeat(first | exact .head | apply L8.tail | apply L8.app)) (Sb.pl (A:=Sr) (by repeat(first | exact .head | apply L8.tail | apply L8.app)) (Sb.pl (A:=Sf) (by repeat(first | exact .head | apply L8.tail | apply L8.app)) (Sb.pl (A:=[_]) (by repeat(first | exact .head | apply L8.tail | apply L8.app)) ?_))));refine .trans (.app az0 .refl) ?_;exact Sb.pl (A:=SK) (by repeat(first | exact .head | apply L8.tail | apply L8.app)) .refl
 refine xI aqu awc ((zD.trans NY).1 _ _ hg) ((zD.trans NY).2 _ z0) (fun h3 hE3 H2=>?_);have avn:=NY.trans hE3;have hg3:=((zD.trans NY).trans hE3).1 _ _ hg;have z3:=((zD.trans NY).trans hE3).2 _ z0;refine gI ?_;refine c0 (fun h' hE hL=>aqU hS qJ h' D (H1.ext (avn.trans hE))) (fun v A' hv=>?_);obtain⟨vb,SB,rfl,hOB,axv⟩:=hv;obtain⟨ab,cb,rfl⟩:=hOB.aU;refine aA.sb (F':=(yc,.cells #[D'.va,I D'.ps,D'.nS,D'.vr,D'.vf,.slice (some ⟨XU,0,none⟩) (a+mm) ND] fC (0,0))::((nP,.cells #[D.va,I D.ps,D.nS,D.vr,D.vf,D.vm] fC (0,0))::SB)) (.trans (.aT (dK (l₁:=[_,_]))) (axv.app .refl)) ?_;refine iC ?_;refine c0 (fun h' hE hL=>show bG aV main YM #[.agg #[D'.va,I D'.ps,D'.nS,D'.vr,D'.vf,.slice (some ⟨XU,0,none⟩) (a+mm) ND]] h' [] (fun v F=>∃vb S,v= .tuple #[vb,I (jF D2.fs (stM D2.mo.mi)).2.1,I 0]/\Os ku Be.row vb (uQ D2.mo.mi) S/\Sb S F)from by rw[<-hV];exact aqU hS qJ h' D2 (H2.ext hE)) (fun v A' hv=>?_);obtain⟨vb2,SB2,rfl,avo,axY⟩:=hv;obtain⟨ab2,cb2,rfl⟩:=avo.aU;rw[hbb];obtain⟨nn,hnn⟩:∃n,(jF D.fs (stM D.mo.mi)).2.1=n:=⟨_,rfl⟩
 rw[hnn];refine aA.sb (axY.app .refl) ?_;refine kR ?_;obtain⟨avq,arW⟩:=hwo.ayb;obtain⟨pl,OI⟩:∃l,uQ D.mo.mi=l:=⟨_,rfl⟩
 have ayn:pl.length=D.jJ.length:=by rw[<-OI];exact aix
 rw[<-awd]at avq;rw[OI]at avq arW hOB⊢;rw[avq]at avo⊢;have hel:(pl.eraseIdx a).length=D2.jJ.length:=by rw[List.length_eraseIdx,if_pos aj];omega
 have X6:=Os.aBD hOB;refine eY avo (fun h4 Xd PW aCU=>?_);refine W.sb (F':=SB++[(yc,.cells #[D'.va,I D'.ps,D'.nS,D'.vr,D'.vf,.slice (some ⟨XU,0,none⟩) (a+mm) ND] fC (0,0)),(nP,.cells #[D.va,I D.ps,D.nS,D.vr,D.vf,D.vm] fC (0,0))]) (.aT (dK (l₂:=[_,_]))) ?_;refine eY hOB (fun h5 hE5 hb1 aCV=>?_);replace PW:=PW.ext hE5;rw[hel]at PW⊢;rw[ayn]at hb1 X6⊢;obtain⟨bb,ob,cbb,Eb,zb,eb,aCW,hxb,hyb,hzb⟩:=(show Sl h5 Be.row (.slice ab pl.length cb) pl by rw[ayn];exact hb1).at arW
 cases eb
 have ax7:cbb.extract (ob+a*2) (ob+a*2+2)= #[I (-1),I 0]:=hxb;clear hxb hzb;have alh:=Xd.trans hE5;refine d_ ?_;refine W.kQ [(nP,.cells #[D.va,I D.ps,D.nS,D.vr,D.vf,D.vm] fC (0,0))] (n:=49) O ?_;refine ay 0 ?_;refine aqe (i:=1) (u:=.bool false) (Fe O O O) O O an O O ?_;refine ay 2 ?_;refine aq (i:=3) (xO O O) O (bD O O O O) O O ?_;refine aqe (i:=4) (u:=.bool false) (Fe O O O) O O (bD O O O O) O O ?_;refine ay 5 ?_;refine ay 6 ?_;refine aq (i:=7) (xO O O) O (bD O O O O) O O ?_;refine aq (i:=8) (xO O O) O (bD O O O O) O O ?_;refine aqe (i:=9) (u:=.bool false) (Fe O O O) (congrArg Value.bool (decide_eq_false (fun h=>h O))) O (bD O O O O) O O ?_;refine ay 10 ?_;refine ay 11 ?_;refine aq (i:=12) (xO O O) O (bD O O O O) O O ?_;refine aq (i:=13) (aer O O) O (bD O O O O) O O ?_;refine aq (i:=14) (o8 O O) O (bD O O O O) O O ?_;refine aqe (i:=15) (u:=.slice am D.jJ.length cm) (CG O O) em O (bD O O O O) O O ?_;refine aq (i:=16) (aer O O) O (bD O O O O) O O ?_;refine aqe (i:=17) (u:=.bool false) (Fe O O O) (congrArg Value.bool (decide_eq_false (fun h=>h O))) O (bD O O O O) O O ?_;refine ay 18 ?_;refine ay 19 ?_;refine aq (i:=20) (xO O O) O (bD O O O O) O O ?_;refine aq (i:=21) (aer O O) O (bD O O O O) O O ?_;refine aq (i:=22) (xO O O) O (bD O O O O) O O ?_;refine aq (i:=23) (aer O O) O (bD O O O O) O O ?_
 first | refine aq (i:=24) (Vr rfl rfl rfl) rfl (bD rfl rfl rfl rfl) rfl rfl ?_ | refine aq (i:=24) (Ou rfl rfl rfl) rfl (bD rfl rfl rfl rfl) rfl rfl ?_
 refine aqe (i:=25) (u:=.bool false) (Fe O O O) (congrArg Value.bool (decide_eq_false (fun h=>h aj))) O (bD O O O O) O O ?_;refine ay 26 ?_;refine ay 27 ?_;refine aq (i:=28) (xO O O) O (bD O O O O) O O ?_;refine aq (i:=29) (xO O O) O (bD O O O O) O O ?_
 first | refine aq (i:=30) (yix rfl rfl rfl) rfl (bD rfl rfl rfl rfl) rfl rfl ?_ | refine aq (i:=30) (ZX rfl rfl rfl) rfl (bD rfl rfl rfl rfl) rfl rfl ?_
 first | refine aq (i:=31) (ZW rfl rfl) rfl (bD rfl rfl rfl rfl) rfl rfl ?_ | refine aq (i:=31) (Qm rfl rfl) rfl (bD rfl rfl rfl rfl) rfl rfl ?_
 refine aq (i:=32) (dw (cs:= #[I (-1),I 0]) O O aB) O (bD O O O O) O O ?_;refine aqe (i:=33) (u:=.bool false) (an_ [-1,0] [-1,0] O O O O O O O) O O (bD O O O O) O O ?_;refine ay 34 ?_;refine ay 35 ?_;refine aq (i:=36) (xO O O) O (bD O O O O) O O ?_;refine aq (i:=37) (xO O O) O (bD O O O O) O O ?_;refine aq (i:=38) (xO O O) O (bD O O O O) O O ?_;refine aq (i:=39) (aol (n:=a) O O aj ⟨_,_,O⟩ O O) O (bD O O O O) O O ?_;refine aq (i:=40) (xO O O) O (bD O O O O) O O ?_;refine aq (i:=41) (xO O O) O (bD O O O O) O O ?_
 first | refine aq (i:=42) (acU rfl rfl rfl) rfl (bD rfl rfl rfl rfl) rfl rfl ?_ | refine aq (i:=42) (RU rfl rfl rfl) rfl (bD rfl rfl rfl rfl) rfl rfl ?_
 refine aq (i:=43) (agA (m:=a+1) O O O aj) O (bD O O O O) O O ?_;refine aq (i:=45) (xO O O) O (bD O O O O) O O ?_;refine ae (i:=44) O (bD O O O O) O O (ak9 (w:=2) (row:=Be.row) (l:=pl.take a) (l':=pl.drop (a+1)) (n:=a) O O O ⟨_,_,O⟩ (by rw[List.length_take];omega) (Sl.ayi (hb1) aj) (fun h' hE _=>(Sl.drop (hb1.ext hE) aj (a+1))) (by simp;omega) dF O (fun v' A' hv' hsv=>?_));refine⟨.inr (fun p hp=>bZ _ (.tail _ hp)),?_⟩;rw[<-List.eraseIdx_eq_take_drop_succ]at hv';refine acp (i:=46) (hS:=.inr fun p hp=>bZ _ (.tail _ hp)) (fun h' hE hL=>acd _ h' (pl.eraseIdx a) (pl.eraseIdx a) _ _ (hv' h' hE (fun b o hb=>hL b o (jm _ hb))) (PW.ext hE) aj) ?_ (hw:=(bD O O O O));refine aqe (i:=47) (u:=.bool false) (PI O O) (congrArg Value.bool (by simp)) O (bD O O O O) O O ?_;refine ay 48 ?_;refine az ?_;refine fH ?_;refine W.iq ?_;refine gI ?_;refine W.sb (F':=[(yc,.cells #[D'.va,I D'.ps,D'.nS,D'.vr,D'.vf,.slice (some ⟨XU,0,none⟩) (a+mm) ND] fC (0,0)),(nP,.cells #[D.va,I D.ps,D.nS,D.vr,D.vf,D.vm] fC (0,0))]) (.left .refl hsv) ?_;refine d_ ?_;refine c0 (fun h' hE hL=>aqW hS qJ h' D (H1.ext ((avn.trans alh).trans hE))) (fun v A' hv=>?_);obtain⟨rfl,aBH⟩:=hv;obtain⟨co,Gw⟩:∃c,D.mo.cost=c:=⟨_,rfl⟩
 rw[Gw]at arV⊢;refine aA.sb (.left .refl aBH) ?_;refine FT ?_;refine c0 (fun h' hE hL=>show bG aV main YN #[.agg #[D'.va,I D'.ps,D'.nS,D'.vr,D'.vf,.slice (some ⟨XU,0,none⟩) (a+mm) ND]] h' [] (fun v F=>v= .tuple #[I D2.mo.cost,I 0]/\eH F)from by rw[<-hV];exact aqW hS qJ h' D2 (H2.ext (alh.trans hE))) (fun v A' hv=>?_);obtain⟨rfl,aAt⟩:=hv;rw[arV];refine aA.sb (.left .refl aAt) ?_;refine FT ?_;refine c0 (fun h' hE hL=>anh hS qJ h' D (H1.ext ((avn.trans alh).trans hE))) (fun v A' hv=>?_);obtain⟨u1,S1,rfl,hO1,aBI⟩:=hv;obtain⟨sh,yu⟩:∃c,D.share.2.1=c:=⟨_,rfl⟩
 rw[yu]at aop⊢;refine aA.sb (.trans (.left .refl hO1.shut) (aBI.app .refl)) ?_;refine iC ?_;refine c0 (fun h' hE hL=>show bG aV main VF #[.agg #[D'.va,I D'.ps,D'.nS,D'.vr,D'.vf,.slice (some ⟨XU,0,none⟩) (a+mm) ND]] h' [] (fun v F=>∃u S,v= .tuple #[u,I D2.share.2.1,I 0]/\Os aX bY u D2.out S/\Sb S F)from by rw[<-hV];exact anh hS qJ h' D2 (H2.ext (alh.trans hE))) (fun v A' hv=>?_);obtain⟨u2,S2,rfl,Ci,aBJ⟩:=hv;rw[aop];refine aA.sb (.trans (.left .refl Ci.shut) (aBJ.app .refl)) ?_;refine iC ?_;refine Gh (u:=.bool true) (yt O O O) O O wn O O ?_;refine d_ ?_;refine Gh (u:=.bool true) (yt O O O) O O (aI O O O) O O ?_;refine gI ?_;refine Gh (u:=.bool true) (yt O O O) O O (aI O O O) O O ?_;refine gI ?_;refine Gh (u:=.bool true) (yt O O O) O O (aI O O O) O O ?_;refine lF ?_;refine Gh (u:=.bool true) (yt O O O) (congrArg Value.bool (decide_eq_true O)) O (aI O O O) O O ?_;refine lF ?_;refine Gh (u:=.bool true) (yt O O O) (congrArg Value.bool (decide_eq_true O)) O (aI O O O) O O ?_;refine d_ ?_;refine c0 (g:=some _) (fun h' hE hL=>Ve hS qJ h' Eg zg ((alh.trans hE).1 _ _ hg3) ((alh.trans hE).2 _ z3)) (fun v A' hv=>?_) (hw:=(aI O O O));obtain⟨rfl,aq9⟩:=hv;refine aA.sb (.left .refl aq9) ?_;refine lF ?_;exact lvq (hs:=.cons O (.cons O .nil)) O
end Go.jc
