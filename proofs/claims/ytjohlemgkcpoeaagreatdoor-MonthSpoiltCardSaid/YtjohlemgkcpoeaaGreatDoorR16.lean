/- The first strikes of a plant alone; which strike is late. Conditions: none. (And 12 texts more.) -/
import Derived.Test.YtjohlemgkcpoeaaGreatDoorR15
import Derived.Test.YtjohlemgkcpoeaaGreatDoorR09
import Derived.Test.YtjohlemgkcpoeaaGreatDoorR10
import Derived.Test.YtjohlemgkcpoeaaGreatDoorR13
import Derived.Test.YtjohlemgkcpoeaaGreatDoorR07
import Derived.Test.YtjohlemgkcpoeaaGreatDoorR12
set_option linter.unusedVariables false
set_option linter.unusedSimpArgs false
set_option linter.unusedSectionVars false
set_option maxRecDepth 100000
set_option maxHeartbeats 4000000

open Go.Proofs.Tryz
namespace Go.jc
instance:AG Go.Proofs.Tryz.prog 134 0:=⟨aB,aB⟩
instance:FB Go.Proofs.Tryz.prog 17:=⟨aB⟩
abbrev zk:Nat:=5
noncomputable abbrev acj:Func:=Go.Proofs.Tryz.f5
theorem acn:aV.funcs[zk]? =some acj:=Go.Proofs.Tryz.func5
abbrev adO:Nat:=17
theorem J3{fs:List Fl}{ss:List St}:∀(m n:Nat),(zJ fs ss m n= -1/\∀k,n<=k->k<n+m->lW fs ss (jq k)=true)\/∃r:Nat,n<=r/\r<n+m/\zJ fs ss m n=r/\lW fs ss (jq r)=false/\∀k,n<=k->k<r->lW fs ss (jq k)=true
 | 0,n=>.inl ⟨rfl,fun k h1 h2=>by omega⟩
 | m+1,n=>by
  rw[zJ]
  cases hs:lW fs ss (jq n)with
  | false=>
   rw[if_neg (by simp)];exact .inr ⟨n,Nat.le_refl _,aj,O,hs,fun k h1 h2=>by omega⟩
  | true=>
   rw[if_pos O];rcases J3 (fs:=fs) (ss:=ss) m (n+1)with⟨h1,h2⟩ | ⟨r,h1,h2,h3,h4,h5⟩
   ·refine .inl ⟨h1,fun k k1 k2=>?_⟩;by_cases e:k=n
    ·subst e;exact hs
    exact h2 k aj aj
   refine .inr ⟨r,aj,aj,h3,h4,fun k k1 k2=>?_⟩;by_cases e:k=n
   ·subst e;exact hs
   exact h5 k aj k2
theorem Pj(fs:List Fl)(ss:List St):(xC fs ss= -1/\∀k,k<ss.length->lW fs ss (jq k)=true)\/∃r:Nat,r<ss.length/\xC fs ss=r/\lW fs ss (jq r)=false/\∀k,k<r->lW fs ss (jq k)=true:=by
 rcases J3 (fs:=fs) (ss:=ss) ss.length 0 with⟨h1,h2⟩ | ⟨r,h1,h2,h3,h4,h5⟩
 ·exact .inl ⟨h1,fun k hk=>h2 k (Nat.zero_le _) aj⟩
 exact .inr ⟨r,aj,h3,h4,fun k hk=>h5 k (Nat.zero_le _) hk⟩
variable{E:TypeId}{F:ah}{M:oU}{Q:fO}{U:Obj->ah}{X b i kb kt s t vt β:Nat}{a:List Int}{ds:List Deferred}{fs:List Fl}{h h':Hp}{k y:Operand}{m:List (List Int×Value)}{o:Obj}{p:uV}{ss:List St}{v vp z:Value}{x:Cx}{zc:Array Value}{α:Type}{f:Int->List α}{ρ:Env}
theorem U9(zU:dU fs ss=0):jF fs ss=((jF fs ss).1,(lY fs ss).1,0)/\(jF fs ss).1.length=ss.length:=by
 have aO:=wI zU;have hns:=aO.ns;have e:jF fs ss=(((lY fs ss).2.headD []).take ss.length,(lY fs ss).1,0):=by simp only[jF];rw[if_neg (by simp[zU])]
 refine⟨by rw[e],?_⟩;rw[e]
 obtain⟨p,r,qw⟩:∃p r,(lY fs ss).2=p::r:=by
  cases h:(lY fs ss).2 with
  | nil=>exact absurd h (Ut aO)
  | cons p r=>exact⟨p,r,rfl⟩
 have uN:p.length=4:=aja (Xo (qw▸bT ..));rw[qw];simp[uN];omega
theorem aA.freeze{ops:Array Oper}{l:List Nat}(ho:opn o=false)(H:∀h',Ext x.h h'->h' b=some o->h'.z b->aA {x with h:=h'} ops l Q ρ ds F):aA x ops l Q ρ ds ((b,o)::F):=by
 intro fr k cs Stop tmps hk M h1 h0 h2 h3 h4 h5 hc;obtain⟨S,e,hl⟩:=h5.freeze ho;have hb:=(h5.own b o (bT ..)).2.2;refine J4.aaH Stop.2.2 _ _ _ _ hl (H _ e (IY _ _ _) (.inl O) fr k cs Stop tmps hk _ h1 h0 h2 h3 h4 S fun ex gW iT F' bC fA M' q a1 a2 a3 a4=>hc ex gW iT F' bC fA M' q a1 a2 (a3.thaw hb ho) fun c' hm hF=>?_);have iK:c'≠b:=by rintro rfl;exact hF o (bT ..)
 exact a4 c' ⟨hm,iK⟩ fun o' mM=>hF o' (dH _ mM)
theorem aA.eY{ops:Array Oper}{td:List Nat}{A:ah}{row:α->List Value}{w:Nat}[Rw row w]{l:List α}(hs:Os E row v l A)
  (H:∀h',Ext x.h h'->Sl h' row v l->Zs h' v->aA {x with h:=h'} ops td Q ρ ds F):aA x ops td Q ρ ds (A++F):=by
 rcases hs with⟨rfl,rfl,yu⟩ | ⟨β,cc,cap,J,rfl,rfl,h1,h2,h3,yu⟩
 ·exact aA.sb (Sb.left .refl yu) (H x.h ⟨fun _ _ q=>q,fun _ q=>q⟩ .nil (fun b off n cap e=>by cases e))
 refine aA.freeze (b:=β) O fun h' hE hb hz=>?_;refine aA.sb (F':=F) (Sb.left .refl yu) (H h' hE (.mk hb rfl h3) (fun b off n cap e=>by cases e;exact hz))
theorem ahb(main:aN)(h:Hp)(l:List Int)(n:Int)(v:Value)(hf:Sl h bY v l)(hl:l.length<=1000):Pu aV main KH #[v,I n] h (I (Iu (fun x=>decide (n=x)) l 0)):=by
 obtain⟨a,cap,rfl⟩:=hf.aU;refine bG.bH func77 [(0,.slice a l.length cap),(1,I n)] ?_;refine oz ?_;refine W.loop (σ:=Nat) (fun k=>k<=l.length/\Iu (fun x=>decide (n=x)) l 0=Iu (fun x=>decide (n=x)) (l.drop k) k) (fun k=>[(8,I k),(7,I l.length),(0,.slice a l.length cap),(1,I n)]) (fun _=>[]) (fun k=>l.length-k) 0 ⟨Nat.zero_le _,O⟩ iw .refl ?_;rintro k ⟨hk,hd⟩;refine kJ ?_;refine W.aJ O (fun c9=>?_) (fun c9=>?_)
 ·obtain⟨x,hp,yI⟩:=has (show k<l.length by omega);rw[yI,Iu]at hd;obtain⟨b,off,c,E,fz,rfl,hb,hx,hy,hz⟩:=hf.at hp;have Aq:c[off+k*1]? =some (I x):=hz 0 dF;clear hx hz;refine asX ?_;refine W.aJ O (fun PV=>?_) (fun PV=>?_)
  ·refine iC ?_;rw[if_pos (decide_eq_true PV)]at hd;refine lQ ?_;show I _=I _;rw[hd]
  refine jk ?_;rw[if_neg (by simpa using PV)]at hd;exact⟨O,k+1,⟨aj,hd⟩,aj,iw,qE⟩
 obtain rfl:k=l.length:=by omega
 refine gZ ?_;refine lQ ?_;show I _=I _;first | (rw[hd];done) | (rw[hd];simp[Iu])
theorem aki{l:List Int}{n:Int}:∀{k:Nat},n∈l->∃j:Nat,Iu (fun x=>decide (n=x)) l k=((k+j:Nat):Int)/\l[j]? =some n:=by
 induction l with
 | nil=>intro k h;cases h
 | cons a l ih=>
  intro k h;rw[Iu];by_cases e:n=a
  ·subst e;exact⟨0,by simp,O⟩
  rw[if_neg (by simpa using e)];obtain⟨j,h1,h2⟩:=ih (k:=k+1) (by rcases bU.1 h with h | h;exact absurd h e;exact h);exact⟨j+1,by rw[h1];congr 1;omega,by simpa using h2⟩
def Ls(M:oU)(i:Nat):Be:=if Gj M i then
  (
   let b:=((jF M.fs (stM M)).1).getD (Iu (fun x=>decide ((i:Int)=x)) (nZ M) 0).toNat fZ
   if b.fl<0 then fZ else b)else fZ
def uQ(M:oU):List Be:=(List.range M.l.length).map (Ls M)
theorem akj(hi:i<M.l.length)(h:Gj M i=true):(i:Int)∈nZ M:=by
 refine(pI _ _).symm.subset ?_;simp only[zs,QL,List.mem_map,List.mem_filter,List.mem_range];exact⟨i,⟨hi,h⟩,O⟩
theorem oU.At.ckP(H:M.At h):dU M.fs (stM M)=0:=by
 have hfk:=H.fk;have hol:=Rt (M:=M);have hn4:=H.n4;have P7:(stM M).length=(nZ M).length:=by simp[stM]
 unfold dU at hfk⊢;split at hfk
 ·cases hfk
 split at hfk
 ·cases hfk
 split at hfk
 ·rename_i h1 h2 h3;exact absurd hfk h3
 rename_i h1 h2 h3;rw[if_neg h1,if_neg h2,if_neg h3,if_neg aj];have hs:Srt (Ll M) (nZ M):=XH
 have key:∀(l:List Int) (b:Int),(∀a∈l,a∈nZ M)->Srt (Ll M) l->(∀a∈l,b<=Ll M a)->g_ b (l.map (stI M))=0:=by
  intro l
  induction l with
  | nil=>intros;rfl
  | cons a l ih=>
   intro b hm hs hb;obtain⟨i,p,w,rfl,hi,hp,hw⟩:=Rq (hm a (bT ..));obtain⟨hd,hd1,hd2⟩:=H.day hp hw;have uU:=H.ok p (dL hp);have hc:=uU.co;have hwa:=uU.wa;have hb0:=hb _ (bT ..);rw[hd]at hb0
   have e1:kW b (stI M i)=0:=by
    rw[H.Zx hp hw];unfold kW;rw[if_neg (by simp only[outs];omega),if_neg (by simp only;omega)]
   rw[dQ,g_,if_pos e1];have e2:(stI M i).day=Ll M i:=by rw[H.Zx hp hw,hd]
   rw[e2];exact ih _ (fun x hx=>hm x (dH _ hx)) (List.pairwise_cons.1 hs).2 (fun x hx=>(List.pairwise_cons.1 hs).1 x hx)
 refine key _ 0 (fun a ha=>ha) hs fun a ha=>?_;obtain⟨i,p,w,rfl,hi,hp,hw⟩:=Rq ha;obtain⟨hd,hd1,hd2⟩:=H.day hp hw;rw[hd];exact hd1

theorem Pm{l:List uV}(h:l[i]? =some p):(p.B,Obj.cells (Ap p.kv p.x.d p.x.co p.x.wa p.x.qu 1 0 p.v) dX (0,0))∈bM l:=(N7 h).subset (jm _ (dP.2 O))
theorem ad4{k:Nat}(h:k<M.l.length):(uQ M).take (k+1)=(uQ M).take k++[Ls M k]:=by
 rw[List.take_add_one,uQ,iL,List.getElem?_range h];rfl
theorem afx(h:Gj M i=false):Ls M i=fZ:=by unfold Ls;rw[h];rfl
theorem am9{j:Nat}{b:Be}(h:Gj M i=true)(hj:Iu (fun x=>decide ((i:Int)=x)) (nZ M) 0=(j:Int))(hb:(jF M.fs (stM M)).1[j]? =some b):Ls M i=if b.fl<0 then fZ else b:=by
 unfold Ls;rw[if_pos h,hj,Int.toNat_natCast,List.getD_eq_getElem?_getD,hb];rfl

theorem afy{main:aN}(hS:∀S,main.ok S->∃Fin,S=Mn aV Fin)(qJ:main.b=true)(h:Hp)(M:oU)(H:M.At h):bG aV main M_ #[aG M.X] h (bM M.l) (fun v F=>∃vb S,v= .tuple #[vb,I (jF M.fs (stM M)).2.1]/\Os ku Be.row vb (uQ M) S/\Sb (S++bM M.l) F):=by
 have hP:=r_.of hS qJ;obtain⟨Eg,zg,hg⟩:=H.g0;obtain⟨EX,zX,hX⟩:=H.cx;unfold oU.C at hX;have Oj:=H.vp;have hn4:=H.n4;have hol:=Rt (M:=M);have hbo:=U9 H.ckP;have P7:(stM M).length=(nZ M).length:=by simp[stM]
 obtain⟨av,cv',ev'⟩:=Oj.aU;rw[List.length_map]at ev';rw[ev']at Oj hX;refine bG.bH func49 [(0,aG M.X)] ?_;refine kR ?_;refine cg (A:=bM M.l) .all (fun h' hE hL=>N8 hP h' M (H.ext hE)) (fun v A' hv=>?_);obtain⟨vs,S,vo,S2,rfl,hO,Ci,bF⟩:=hv;obtain⟨av1,cv1,rfl⟩:=hO.aU;obtain⟨a2,c2,rfl⟩:=Ci.aU;obtain⟨af,cf,ef⟩:=H.fl.aU;rw[ef];refine aA.sb bF ?_;refine gI ?_;refine aA.new (fun mW=>?_);refine lg ?_;refine aA.sb (F':=S++((mW,.cells #[.slice af M.fs.length cf,.slice av1 (stM M).length cv1] j_ (0,0))::(S2++bM M.l))) (.aT List.perm_middle) ?_;refine aA.eY hO (fun h1 zD ahc Gq=>?_);refine c0 (fun h' hE hL=>Zf main hS qJ h' M.fs (stM M) _ _ Eg zg (ef▸(H.fl.ext zD).ext hE) (ahc.ext hE) (ef▸(H.zf.ext zD).ext hE) (Gq.ext hE) (hE.1 _ _ (zD.1 _ _ hg)) (hE.2 _ (zD.2 _ H.z0))) (fun v A' hv=>?_);obtain⟨vb,SB,rfl,hOB,pJ⟩:=hv;obtain⟨ab,cb,rfl⟩:=hOB.aU;refine aA.sb (F':=SB++(S2++bM M.l)) (pJ.app (.skip O .refl)) ?_;refine oz ?_;refine eY hOB (fun hx hEx akl hzB=>?_);refine eY Ci (fun hy hEy ax6 hzO=>?_);replace hX:=hEy.1 _ _ (hEx.1 _ _ hX);replace Oj:=(Oj.ext hEx).ext hEy;replace akl:=akl.ext hEy;refine iC ?_;refine W.loop (σ:=Nat×Value×ah) (fun s=>s.1<=M.l.length/\Os ku Be.row s.2.1 ((uQ M).take s.1) s.2.2) (fun s=>[(29,I s.1),(28,I M.l.length),(27,.slice av M.l.length cv'),(5,.slice a2 (nZ M).length c2),(6,.slice ab (jF M.fs (stM M)).1.length cb),(7,I (jF M.fs (stM M)).2.1),(9,s.2.1)]) (fun s=>s.2.2++bM M.l) (fun s=>M.l.length-s.1) (0,.slice none 0 0,[]) ⟨Nat.zero_le _,.nil .nil⟩ iw .refl ?_;rintro⟨k,v,S⟩ ⟨hk,hOk⟩;simp only at hk hOk⊢;have OI:((uQ M).take k).length=k:=by simp[uQ];omega
 refine kJ ?_;refine W.aJ O (fun c30=>?_) (fun c30=>?_)
 ·have zI:k<M.l.length:=by omega
  obtain⟨p,hp,yI⟩:=has zI;obtain⟨b,off,c,E,fz,rfl,hb,hx,hyy,hz⟩:=Oj.at (show(M.l.map (·.B))[k]? =some p.B by rw[iL,hp];rfl);have Aq:c[off+k*1]? =some (aG p.B):=hz 0 dF;clear hx hz;obtain⟨sv,cv,rfl⟩:=hOk.aU;have fP:=H.st p (dL hp);have hic:Gj M k=(M.w p.x).isSome:=by unfold Gj;rw[hp]
  have hmm:=Pm hp;have htk:=ad4 (M:=M) zI;refine Qv ?_;refine cp (fun h' hE hL=>ahb _ h' (nZ M) k _ (ax6.ext hE) aj) ?_;refine Qu ?_;refine b_ (CG O O (.inr fun _ e=>by subst e;exact bZ _ hmm) O) O ?_;refine ccl fP ?_;refine gI ?_;refine W.cond O (fun c37=>?_) (fun c37=>?_)
  ·have xJ:Gj M k=false:=by rw[hic];simpa using c37
   rw[afx xJ]at htk;refine FT ?_;refine b_ (dw (cs:= #[I (-1),I 0]) O O aB) O ?_;refine aA.zZ (cs:= #[I (-1),I 0]) (fun aqS=>?_) O (hf:=by kernel_rfl);refine oe O wn O O (bV (row:=Be.row) (l':=[fZ]) O O O hOk (.tail .head) (fun h2 _ hl=>Sl.mk (hl aqS _ (.head _)) O (Part.all (Be.row fZ))) (by simp;omega) dF O (fun v' S' xM=>?_));refine zW rfl rfl rfl<|qj<|W.exit<|AP<|sG<|CB<|iE<|fH<|W.region rfl ?_;refine gI ?_;exact⟨O,(k+1,v',S'),⟨by simp only;omega,by simp only;rw[htk];exact xM⟩,by simp only;omega,iw,.skip O .refl⟩
  have Lh:Gj M k=true:=by rw[hic];simpa using c37
  obtain⟨j,hj1,hj2⟩:=aki (k:=0) (akj zI Lh);rw[Nat.zero_add]at hj1
  have hjl:j<(nZ M).length:=by
   rcases bQ j (nZ M).length with h' | h'
   ·exact h'
   rw[fM h']at hj2;cases hj2
  have FQ:(jF M.fs (stM M)).1.length=(nZ M).length:=by rw[hbo.2,P7]
  obtain⟨be,hbe,-⟩:=has (show j<(jF M.fs (stM M)).1.length by omega);obtain⟨bb,ob,cbb,Eb,fb,rfl,hbb,hxb,hyb,hzb⟩:=akl.at hbe;have hb0:cbb[ob+j*2]? =some (I be.fl):=hzb 0 dF;have ax7:cbb.extract (ob+j*2) (ob+j*2+2)= #[I be.fl,I be.day]:=hxb;clear hxb hzb;rw[am9 Lh hj1 hbe]at htk;rw[hj1];refine oz ?_;refine W.aJ O (fun c44=>?_) (fun c44=>?_)
  ·rw[if_pos c44]at htk;refine W.exit<|sG<|AP<|CB<|fH<|W.seq<|W.region rfl<|aiH rfl rfl rfl ?_;refine b_ (dw (cs:= #[I (-1),I 0]) O O aB) O ?_;refine aA.zZ (cs:= #[I (-1),I 0]) (fun aqS=>?_) O (hf:=by kernel_rfl);refine oe O wn O O (bV (row:=Be.row) (l':=[fZ]) O O O hOk (.tail .head) (fun h2 _ hl=>Sl.mk (hl aqS _ (.head _)) O (Part.all (Be.row fZ))) (by simp;omega) dF O (fun v' S' xM=>?_));refine zW rfl rfl rfl<|qj<|W.exit<|AP<|sG<|CB<|iE<|fH<|W.region rfl ?_;refine gI ?_;exact⟨O,(k+1,v',S'),⟨by simp only;omega,by simp only;rw[htk];exact xM⟩,by simp only;omega,iw,.skip O .refl⟩
  rw[if_neg c44]at htk;refine W.skip<|fH<|W.exit<|AP<|AP<|sG<|CB<|fH<|W.seq<|W.region rfl ?_;refine kJ ?_;refine aA.zZ (cs:= #[I be.fl,I be.day]) (fun ax9=>?_) O (hf:=by kernel_rfl);refine oe O wn O O (bV (row:=Be.row) (l':=[be]) O O O hOk (.tail .head) (fun h2 _ hl=>Sl.mk (hl ax9 _ (.head _)) O (Part.all (Be.row be))) (by simp;omega) dF O (fun v' S' xM=>?_));refine gZ ?_;exact⟨O,(k+1,v',S'),⟨by simp only;omega,by simp only;rw[htk];exact xM⟩,by simp only;omega,iw,.skip O .refl⟩
 obtain rfl:k=M.l.length:=by omega
 rw[show(uQ M).take M.l.length=uQ M from List.take_of_length_le (by simp[uQ])]at hOk;refine CW ?_;exact iQ (vs:=[_,_]) ⟨_,S,O,hOk,.refl⟩

def O0(M:oU)(k:Nat):List Nat:=(List.range k).filter fun i=>decide (0<=(Ls M i).fl)
def mV(M:oU):List Int:=zs (O0 M M.l.length)
theorem aoA{main:aN}(hS:∀S,main.ok S->∃Fin,S=Mn aV Fin)(qJ:main.b=true)(h:Hp)(M:oU)(H:M.At h):bG aV main OM #[aG M.X] h (bM M.l) (fun v F=>∃S,Os aX bY v (mV M) S/\Sb (S++bM M.l) F):=by
 have hn4:=H.n4;refine bG.bH func50 [(0,aG M.X)] ?_;have OI:(uQ M).length=M.l.length:=by simp[uQ]
 refine iC ?_;refine cg (A:=bM M.l) .all (fun h' hE hL=>afy hS qJ h' M (H.ext hE)) (fun v A' hv=>?_);obtain⟨vb,SB,rfl,hOB,bF⟩:=hv;obtain⟨ab,cb,rfl⟩:=hOB.aU;rw[OI]at hOB⊢;refine aA.sb bF ?_;refine lg ?_;refine eY hOB (fun hx hEx akl hzB=>?_);refine kR ?_;refine W.loop (σ:=Nat×Value×ah) (fun s=>s.1<=M.l.length/\Os aX bY s.2.1 (zs (O0 M s.1)) s.2.2) (fun s=>[(15,I s.1),(14,I M.l.length),(13,.slice ab M.l.length cb),(3,s.2.1)]) (fun s=>s.2.2++bM M.l) (fun s=>M.l.length-s.1) (0,.slice none 0 0,[]) ⟨Nat.zero_le _,.nil .nil⟩ iw .refl ?_;rintro⟨k,v,S⟩ ⟨hk,hO⟩;simp only at hk hO⊢;have hlen:(O0 M k).length<=k:=Nat.le_trans (List.length_filter_le ..) (by simp);refine kJ ?_;refine W.aJ O (fun PV=>?_) (fun PV=>?_)
 ·have zI:k<M.l.length:=by omega
  obtain⟨bb,ob,cbb,Eb,fb,rfl,hbb,hxb,hyb,hzb⟩:=akl.at (show(uQ M)[k]? =some (Ls M k) by rw[uQ,iL,List.getElem?_range zI];rfl);have ax7:cbb.extract (ob+k*2) (ob+k*2+2)= #[I (Ls M k).fl,I (Ls M k).day]:=hxb;clear hxb hzb;obtain⟨sv,cv,rfl⟩:=hO.aU
  have Gt:O0 M (k+1)=if 0<=(Ls M k).fl then O0 M k++[k]else O0 M k:=by
   unfold O0;rw[List.range_succ,List.filter_append];by_cases hc:0<=(Ls M k).fl <;>simp[hc]
  refine FT ?_;refine aA.new (fun yc=>?_);refine FT ?_;refine W.aJ O (fun c22=>?_) (fun c22=>?_)
  ·rw[if_pos c22]at Gt;refine gI ?_;refine aA.zZ (cs:= #[I k]) (fun ax_=>?_) O;refine oe O wn O O (bV (row:=bY) (l':=[(k:Int)]) O O O hO (.tail (.tail .head)) (fun h2 _ hl=>Sl.mk (hl ax_ _ (.head _)) O (Part.all [I k])) (by rw[rZ];simp;omega) dF O (fun v' S' xM=>?_));refine zW rfl rfl rfl<|aA.nil<|iE<|fH<|W.region rfl ?_;refine gI ?_;exact⟨O,(k+1,v',S'),⟨by simp only;omega,by simp only;rw[Gt,Zh];exact xM⟩,by simp only;omega,iw,.skip O (.skip O .refl)⟩
  rw[if_neg c22]at Gt;refine jk ?_;exact⟨O,(k+1,_,S),⟨by simp only;omega,by simp only;rw[Gt];exact hO⟩,by simp only;omega,iw,.skip O .refl⟩
 obtain rfl:k=M.l.length:=by omega
 refine iC ?_;exact iQ (vs:=[_]) ⟨S,hO,.refl⟩
def jG(k:List Int):Value:=.agg (k.map nI).toArray
def Wp(m:List (List Int×Value)):List MapEntry:=m.zipIdx.map fun p=>{key:=jG p.1.1,val:=p.1.2,born:=p.2}
abbrev N_(m:List (List Int×Value)):Obj:=.map (Wp m).toArray m.length
theorem ahd{k:List Int}:Wp (m++[(k,v)])=Wp m++[{key:=jG k,val:=v,born:=m.length}]:=by
 simp[Wp,List.zipIdx_append]
section
variable{P:Program}{h:Hp}{F:ah}{β:Type}{Q:β->ah->Prop}{t w:Nat}
theorem Qe[k:KV P t w]{f:Option (Nat×Value)->Sem β}{a:List Int}(h1:a.length=w):∀{m:List (List Int×Value)} {l:List MapEntry} {i:Nat},(∀b∈m,b.1.length=w)->l.map (·.key)=m.map (fun p=>jG p.1)->a∉m.map (·.1)->
  tr P h ((Instr.findAsking t (jG a) l i).bind f) F Q=tr P h (f none) F Q
 | [],l,i,hw,hm,ha=>by
  have:l=[]:=by simpa using hm
  subst this;simp only[Instr.findAsking,au,bind_pure]
 | b::m,[],i,hw,hm,ha=>by cases hm
 | b::m,e::l,i,hw,hm,ha=>by
  simp only[dQ,List.cons.injEq]at hm;obtain⟨hk,hm⟩:=hm;have:=k.eq;have hab:a≠b.1:=fun h=>ha (by rw[h];simp);have fA:e.key= .agg (b.1.map nI).toArray:=hk;simp only[Instr.findAsking,bind_eq,au,bind_assoc,fA,jG,Ik h1 (hw b (bT ..)),hab,decide_false,eU,if_false];exact Qe h1 (fun c hc=>hw c (dH _ hc)) hm fun h=>ha (by simp[h])
theorem abW[k:KV P t w]{f:Option (Nat×Value)->Sem β}(h1:a.length=w){l:List MapEntry}(hw:∀b∈m,b.1.length=w)(hm:l.map (·.key)=m.map (fun p=>jG p.1))(ha:a∉m.map (·.1)):
  tr P h ((Instr.findKey t (jG a) l).bind f) F Q=tr P h (f none) F Q:=by
 obtain⟨d,hd,hda⟩:=k.ag;have:TD P t d:=⟨hd⟩
 simp only[Instr.findKey,bind_eq,au,bind_assoc,aF]
 cases l with
 | nil=>simp only[Instr.findNow,bind_pure]
 | cons e l=>
  have hn:Instr.findNow d (jG a) (e::l) 0=none:=by
   have:Instr.sameNow d (jG a) e.key=none:=by
    rcases hda with⟨fs,rfl⟩ | ⟨n,el,rfl⟩ <;>rfl
   simp only[Instr.findNow,this]
  simp only[hn];exact Qe h1 hw hm ha
end
section rules
variable{x:Cx}{ρ:Env}{F:ah}{S:ah->Prop}{o:Oper}{R:Value->ah->Prop}
theorem akm{w:Nat}{v:Operand}{u:Value}(ho:o.op= .mapUpdate t y k v)[TD x.P t (.map kt vt)][KV x.P kt w](hy:ev ρ y=some (.map (some β)))(hk:ev ρ k=some (jG a))(hv:ev ρ v=some u)(h1:a.length=w)(hw:∀b∈m,b.1.length=w)(ha:a∉m.map (·.1))(hl:At β (N_ m) F U)
  (H:R undef (U (N_ (m++[(a,u)])))):Ef x ρ o F R:=
 Ef.uY fun e he h' hE=>by
  obtain⟨F1,F2,e1,e2⟩:=hl.split
  have hm:(Wp m).map (·.key)=m.map (fun p=>jG p.1):=by
   rw[Wp,List.map_map]
   have:∀(l:List (List Int×Value)) (n:Nat),(l.zipIdx n).map ((fun e:MapEntry=>e.key)∘fun p:(List Int×Value)×Nat=>{key:=jG p.1.1,val:=p.1.2,born:=p.2:MapEntry})=l.map fun p=>jG p.1:=fun l=>by
    induction l with
    | nil=>intro n;rfl
    | cons a l ih=>intro n;rw[List.zipIdx_cons,dQ,ih];rfl
   exact this m 0
  simp only[execOp,ho,he y _ hy,he k _ hk,he v _ hv,Instr.mapUpdate,bind_eq,au,bind_assoc,bind_pure,aF];refine⟨N_ m,.inr (by rw[e1];simp),(fun _ _ _=>by simp),O,?_⟩;simp only[au,bind_pure,bind_assoc];have e0:jG a= .agg (a.map nI).toArray:=rfl;rw[e0,Bg h1,<-e0,abW h1 hw hm ha];refine⟨N_ m,F1,F2,e1,(fun _ _ _=>by simp),O,?_⟩;rw[e2]at H;refine⟨_,.inr ⟨O,O⟩,?_⟩;have e3:(Wp m).toArray.push {key:=jG a,val:=u,born:=m.length}=(Wp (m++[(a,u)])).toArray:=by rw[ahd];simp
  rw[e3,show m.length+1=(m++[(a,u)]).length by simp];exact H
end rules
def yj(k:List Int):List (List Int×Value)->Nat->Option (Nat×Value)
 | [],_=>none
 | a::ks,i=>if k=a.1 then some (i,a.2)else yj k ks (i+1)
theorem Qg{k:List Int}:∀{m:List (List Int×Value)} {i:Nat} {r:Nat×Value},yj k m i=some r->(k,r.2)∈m
 | [],_,_,h=>by cases h
 | a::m,i,r,h=>by
  simp only[yj]at h;split at h
  ·rename_i e
   cases h
   subst e;exact bT ..
  exact dH _ (Qg h)
theorem Qh{k:List Int}:∀{m:List (List Int×Value)} {i:Nat},yj k m i=none->k∉m.map (·.1)
 | [],_,_=>by simp
 | a::m,i,h=>by
  simp only[yj]at h;split at h
  ·cases h
  rename_i e;have:=Qh h;simp only[dQ,bU,not_or];exact⟨e,this⟩
section
variable{P:Program}{h:Hp}{F:ah}{β:Type}{Q:β->ah->Prop}{t w:Nat}
theorem Qi[k:KV P t w]{f:Option (Nat×Value)->Sem β}{a:List Int}(h1:a.length=w):∀{m:List (List Int×Value)} {l:List MapEntry} {i:Nat},(∀b∈m,b.1.length=w)->l.map (fun e=>(e.key,e.val))=m.map (fun p=>(jG p.1,p.2))->
  tr P h ((Instr.findAsking t (jG a) l i).bind f) F Q=tr P h (f (yj a m i)) F Q
 | [],l,i,hw,hm=>by
  have:l=[]:=by simpa using hm
  subst this;simp only[Instr.findAsking,au,bind_pure,yj]
 | b::m,[],i,hw,hm=>by cases hm
 | b::m,e::l,i,hw,hm=>by
  simp only[dQ,List.cons.injEq,Prod.mk.injEq]at hm;obtain⟨⟨hk,hv⟩,hm⟩:=hm;have:=k.eq;have fA:e.key= .agg (b.1.map nI).toArray:=hk;simp only[Instr.findAsking,bind_eq,au,bind_assoc,fA,jG,Ik h1 (hw b (bT ..))];by_cases hab:a=b.1
  ·simp only[hab,decide_true,if_true,bind_pure,yj,hv]
  simp only[hab,decide_false,eU,if_false,yj];exact Qi h1 (fun c hc=>hw c (dH _ hc)) hm
theorem abX[k:KV P t w]{f:Option (Nat×Value)->Sem β}(h1:a.length=w){l:List MapEntry}(hw:∀b∈m,b.1.length=w)(hm:l.map (fun e=>(e.key,e.val))=m.map (fun p=>(jG p.1,p.2))):
  tr P h ((Instr.findKey t (jG a) l).bind f) F Q=tr P h (f (yj a m 0)) F Q:=by
 obtain⟨d,hd,hda⟩:=k.ag;have:TD P t d:=⟨hd⟩
 simp only[Instr.findKey,bind_eq,au,bind_assoc,aF]
 cases l with
 | nil=>
  have:m=[]:=by simpa using hm.symm
  subst this;simp only[Instr.findNow,bind_pure,yj]
 | cons e l=>
  have hn:Instr.findNow d (jG a) (e::l) 0=none:=by
   have:Instr.sameNow d (jG a) e.key=none:=by
    rcases hda with⟨fs,rfl⟩ | ⟨n,el,rfl⟩ <;>rfl
   simp only[Instr.findNow,this]
  simp only[hn];exact Qi h1 hw hm
end
theorem ana:(Wp m).map (fun e=>(e.key,e.val))=m.map (fun p=>(jG p.1,p.2)):=by
 rw[Wp,List.map_map]
 have:∀(l:List (List Int×Value)) (n:Nat),(l.zipIdx n).map ((fun e:MapEntry=>(e.key,e.val))∘fun p:(List Int×Value)×Nat=>{key:=jG p.1.1,val:=p.1.2,born:=p.2:MapEntry})=l.map fun p=>(jG p.1,p.2):=fun l=>by
  induction l with
  | nil=>intro n;rfl
  | cons a l ih=>intro n;rw[List.zipIdx_cons,dQ,ih];rfl
 exact this m 0
section rules
variable{x:Cx}{ρ:Env}{F:ah}{S:ah->Prop}{o:Oper}{R:Value->ah->Prop}
theorem anb{w:Nat}(ho:o.op= .lookup t y k true)[TD x.P t (.map kt vt)][KV x.P kt w][TI x.P vt s b z zc](hy:ev ρ y=some (.map (some β)))(hk:ev ρ k=some (jG a))(h1:a.length=w)(hw:∀b∈m,b.1.length=w)(hl:At β (N_ m) F U)
  (Hy:∀v,(a,v)∈m->R (.tuple #[v,.bool true]) F) (Hn:a∉m.map (·.1)->R (.tuple #[z,.bool false]) F):Ef x ρ o F R:=
 Ef.uY fun e he h' hE=>by
  obtain⟨F1,F2,e1,e2⟩:=hl.split;simp only[execOp,ho,he y _ hy,he k _ hk,Instr.lookup,bind_eq,au,bind_assoc,bind_pure,aF,if_true];refine⟨N_ m,.inr (by rw[e1];simp),(fun _ _ _=>by simp),O,?_⟩;simp only[au,bind_pure,bind_assoc];have e0:jG a= .agg (a.map nI).toArray:=rfl;rw[e0,Bg h1,<-e0,abX h1 hw ana]
  cases hf:yj a m 0 with
  | none=>
   simp only[bind_assoc];rw[jQ (P:=x.P) (t:=vt)];simp only[bind_pure];exact⟨_,.inl O,Hn (Qh hf)⟩
  | some r=>
   obtain⟨i,v⟩:=r;simp only[bind_pure];exact⟨_,.inl O,Hy v (Qg hf)⟩
end rules
def QM(ss:List St):List St:=ss++List.replicate (4-ss.length) ⟨0,0,0⟩
def Gl(ss:List St):List Int:=(QM ss).flatMap fun s=>[s.day,s.co,s.wa]
def akn:List Int:=List.replicate 12 0
theorem U_{l:List α}(h:l.length<=4):l=[]\/(∃a,l=[a])\/(∃a b,l=[a,b])\/(∃a b c,l=[a,b,c])\/∃a b c d,l=[a,b,c,d]:=by
 match l,h with
 | [],_=>exact .inl rfl
 | [a],_=>exact .inr (.inl ⟨a,rfl⟩)
 | [a,b],_=>exact .inr (.inr (.inl ⟨a,b,rfl⟩))
 | [a,b,c],_=>exact .inr (.inr (.inr (.inl ⟨a,b,c,rfl⟩)))
 | [a,b,c,d],_=>exact .inr (.inr (.inr (.inr ⟨a,b,c,d,rfl⟩)))
 | a::b::c::d::e::r,h=>simp at h
theorem DW(h:ss.length<=4):(Gl ss).length=12:=by
 rcases U_ h with rfl | ⟨a,rfl⟩ | ⟨a,b,rfl⟩ | ⟨a,b,c,rfl⟩ | ⟨a,b,c,d,rfl⟩ <;>rfl
theorem ako(h:ss.length<=4):gQ #[I 0,I 0,I 0,I 0,I 0,I 0,I 0,I 0,I 0,I 0,I 0,I 0] 0 (flat St.row ss)=((Gl ss).map nI).toArray:=by
 rcases U_ h with rfl | ⟨a,rfl⟩ | ⟨a,b,rfl⟩ | ⟨a,b,c,rfl⟩ | ⟨a,b,c,d,rfl⟩ <;>simp[Gl,QM,flat,gQ,St.row,List.replicate]
theorem Va{tt:List St}(h:ss.length<=4)(h':tt.length<=4)(hs:∀s∈ss,1<=s.co)(ht:∀s∈tt,1<=s.co)(e:Gl ss=Gl tt):ss=tt:=by
 have key:∀{ss:List St},ss.length<=4->(∀s∈ss,1<=s.co)->(QM ss).filter (fun s=>decide (1<=s.co))=ss:=by
  intro ss h hs;unfold QM;rw[List.filter_append,List.filter_eq_self.2 (fun s h=>decide_eq_true (hs s h)),List.filter_eq_nil_iff.2,List.append_nil];intro s h;rw[(List.mem_replicate.1 h).2];decide
 have e2:QM ss=QM tt:=by
  have l1:(QM ss).length=4:=by simp[QM];omega
  have l2:(QM tt).length=4:=by simp[QM];omega
  revert e;unfold Gl;generalize QM ss=p at l1;generalize QM tt=q at l2;intro e
  match p,q,l1,l2 with
  | [⟨a1,a2,a3⟩,⟨b1,b2,b3⟩,⟨c1,c2,c3⟩,⟨d1,d2,d3⟩],[⟨x1,x2,x3⟩,⟨y1,y2,y3⟩,⟨z1,z2,z3⟩,⟨w1,w2,w3⟩],_,_=>
   simp only[List.flatMap_cons,List.flatMap_nil,List.cons_append,List.nil_append,List.cons.injEq,and_true]at e;obtain⟨rfl,rfl,rfl,rfl,rfl,rfl,rfl,rfl,rfl,rfl,rfl,rfl⟩:=e
   rfl
 rw[<-key h hs,<-key h' ht,e2]
theorem ahe(h:ss.length<=4)(hs:∀s∈ss,1<=s.co)(e:Gl ss=akn):ss=[]:=
 Va h (Nat.zero_le _) hs (fun s h=>by cases h) e
instance:NS aV jE:=⟨aB,aB⟩
theorem abY:Rj aV jE 12 3:=Rj.array (n:=4) (w:=3) (K:=2) Ur.at
instance:EV aV jE 12:=⟨abY.le dF⟩
theorem ad5:Xk aV pG 3 2:=by
 refine Xk.struct (ws:=[1,1,1]) (K:=1) ?_;exact(KZ.cons dF O ckI (KZ.cons dF O ckI (KZ.cons dF O ckI KZ.nil)))
theorem abZ:Xk aV jE 12 3:=Xk.array (n:=4) (w:=3) (K:=2) ad5.at
instance:KV aV jE 12:=⟨inferInstance,abZ.le dF,_,TD.out,.inr ⟨_,_,O⟩⟩

def IC(fs:List Fl)(m:List (List Int×Value)):Prop:=∀p∈m,∃ss,ss.length<=4/\(∀s∈ss,1<=s.co)/\p=(Gl ss,I (jF fs ss).2.1)
theorem IC.len(H:IC fs m):∀b∈m,b.1.length=12:=fun b hb=>by
 obtain⟨ss,h,-,rfl⟩:=H b hb;exact DW h
def pX(kb mb:Nat)(m:List (List Int×Value)):ah:=[(kb,.cells #[.int .i32 0,.int .u32 0,.map (some mb)] iH (0,0)),(mb,N_ m)]
theorem anc{o:Oper}{R:Value->ah->Prop}{w:Nat}(ho:o.op= .lookup t y k true)[TD x.P t (.map kt vt)][KV x.P kt w][TI x.P vt s b z zc](hy:ev ρ y=some (.map (some β)))(hk:ev ρ k=some (jG a))(h1:a.length=w)(hw:∀b∈m,b.1.length=w)(hl:At β (N_ m) F U)
  (H:∀v c,(c=true->(a,v)∈m)->(c=false->v=z/\a∉m.map (·.1))->R (.tuple #[v,.bool c]) F):Ef x ρ o F R:=
 anb ho hy hk h1 hw hl (fun v hv=>H v true (fun _=>hv) (fun h=>by cases h)) (fun hn=>H z false (fun h=>by cases h) (fun _=>⟨rfl,hn⟩))
def FI(M:oU):Int:=if stM M=[]then 0 else(jF M.fs (stM M)).2.1
theorem oU.At.co(H:M.At h):∀s∈stM M,1<=s.co:=by
 intro s hs;obtain⟨a,ha,rfl⟩:=List.mem_map.1 hs;obtain⟨i,p,w,rfl,hi,hp,hw⟩:=Rq ha;rw[H.Zx hp hw];exact(H.ok p (dL hp)).co.1

theorem ab1{main:aN}(hS:∀S,main.ok S->∃Fin,S=Mn aV Fin)(qJ:main.b=true)(h:Hp)(M:oU)(H:M.At h)(mb:Nat)(m:List (List Int×Value))(hm:IC M.fs m):
  bG aV main qF #[aG M.X] h (pX M.kb mb m++bM M.l) (fun v F=>v=I (FI M)/\∃m',IC M.fs m'/\Sb (pX M.kb mb m'++bM M.l) F):=by
 have hP:=r_.of hS qJ;obtain⟨Eg,zg,hg⟩:=H.g0;obtain⟨EX,zX,hX⟩:=H.cx;unfold oU.C at hX;have hn4:=H.n4;have hol:=Rt (M:=M);have P7:(stM M).length=(nZ M).length:=by simp[stM]
 have hs4:(stM M).length<=4:=by omega
 obtain⟨af,cf,ef⟩:=H.fl.aU;refine bG.bH func36 [(0,aG M.X)] ?_;unfold pX;refine jk ?_;refine cg (A:=bM M.l) (.tail (.tail .all)) (fun h' hE hL=>N8 hP h' M (H.ext hE)) (fun v A' hv=>?_);obtain⟨vs,S,vo,S2,rfl,hO,Ci,bF⟩:=hv;obtain⟨av1,cv1,rfl⟩:=hO.aU;obtain⟨a2,c2,rfl⟩:=Ci.aU;rw[ef];refine aA.sb (.cons (.cons (.trans (.app .refl (.left .refl Ci.shut)) bF))) ?_;refine gI ?_;refine aA.new (fun nP=>?_);refine gI ?_;refine W.sb (F':=S++((nP,.cells #[.slice af M.fs.length cf,.slice av1 (stM M).length cv1] j_ (0,0))::(M.kb,.cells #[.int .i32 0,.int .u32 0,.map (some mb)] iH (0,0))::(mb,N_ m)::bM M.l)) (.aT (show List.Perm (S++([_,_,_]++bM M.l)) ([_,_,_]++(S++bM M.l))from by rw[<-eF,<-eF];exact dK.append_right _)) ?_;refine eY hO (fun h1 zD ahc Gq=>?_);replace hX:=zD.1 _ _ hX;refine d_ ?_;refine aA.new (fun iI=>?_);refine d_ ?_;refine W.jS (n:=4) O ?_;refine fJ 0 (TN O O) O ?_;refine ay 1 ?_;refine ay 2 ?_;refine ae (i:=3) O an O O (adb (row:=St.row) (n:=4) O O O ahc hs4 .head (by simp;omega) ?_);refine⟨.inl aB,?_⟩;refine az ?_;refine d_ ?_;have hkp:=ako hs4;rw[show(gQ _ 0 (flat St.row (stM M)))=((Gl (stM M)).map nI).toArray from hkp];clear hkp;have ane:0+12<=((Gl (stM M)).map nI).toArray.size:=by simp[DW hs4]
 have hex:((Gl (stM M)).map nI).toArray.extract 0 (0+12)=((Gl (stM M)).map nI).toArray:=by
  apply Array.ext';simp;exact List.take_of_length_le (by simp[DW hs4])
 generalize Jf:((Gl (stM M)).map nI).toArray=KC at ane hex⊢;refine jk ?_;refine cg (A:=[(M.kb,.cells #[.int .i32 0,.int .u32 0,.map (some mb)] iH (0,0))]) (.tail (.tail (.head (G:=_::_)))) (fun h' hE hL=>abE (off:=0) hP O) (fun v A' hv=>?_);obtain⟨o',rfl,rfl,rfl⟩:=hv;refine FT ?_;refine owd (vs:=[.pointer (some ⟨M.kb,0,none⟩)]) O O O ?_;refine lF ?_;refine b_ (II (vs:=KC) O O (.inr (fun _ e=>by subst e;exact .head _)) ane hex) O ?_;refine b_ (aiM O) O ?_;refine b_ (ai5 (Gl (stM M)) akn O O O (by rw[<-Jf]) O (DW hs4) O) O ?_;refine qj ?_;refine W.cond O (fun EL=>?_) (fun EL=>?_)
 ·have ahX:stM M=[]:=ahe hs4 H.co (by simpa using EL);refine lg ?_;refine qp (A:=[(M.kb,.cells (#[.int .i32 0,.int .u32 0,.map (some mb)].setIfInBounds 0 (.int .i32 1)) iH (0,0))]) (.tail (.tail (.head (G:=_::_)))) (fun h' hE hL=>sW (off:=0) hP O) (fun A2 hA2=>?_);obtain⟨o',rfl,rfl⟩:=hA2;refine iQ (vs:=[I 0]) ⟨?_,m,hm,.cons (.skip O (.skip O .refl))⟩;show I 0=_;rw[FI,if_pos ahX]
 have hnn:stM M≠[]:=fun e=>by rw[e]at EL;revert EL;decide
 have hlm:FI M=(jF M.fs (stM M)).2.1:=by rw[FI,if_neg hnn]
 refine gI ?_;refine W.kQ [(iI,.cells KC jE (0,0)),(M.kb,.cells #[.int .i32 1,.int .u32 0,.map (some mb)] iH (0,0))] (n:=14) O ?_;refine ay 0 ?_;refine ay 1 ?_;refine ay 2 ?_;refine ay 3 ?_;refine ay 4 ?_;refine ay 5 ?_;refine ay 6 ?_;refine fJ 7 (II (vs:=KC) O O (.inr fun F hF=>hF _ (.head _)) ane hex) O ?_;refine ae (i:=8) O an O O (anc (a:=Gl (stM M)) (m:=m) O O (by rw[<-Jf];rfl) (DW hs4) hm.len (.tail (.tail (.tail .head))) (fun u fd hfy hfn=>?_));refine⟨.inr (by repeat(first | exact aC.nil | refine aC.one zS ?_)),?_⟩;refine ay 9 ?_;refine ay 10 ?_;refine ay 11 ?_;refine ay 12 ?_;refine ay 13 ?_;refine az ?_;refine jk ?_;refine W.cond O (fun c46=>?_) (fun c46=>?_)
 ·obtain⟨rfl,hnk⟩:=hfn (by simpa using c46);refine gI ?_;refine c0 (fun h' hE hL=>Zf main hS qJ h' M.fs (stM M) _ _ Eg zg (ef▸(H.fl.ext zD).ext hE) (ahc.ext hE) (ef▸(H.zf.ext zD).ext hE) (Gq.ext hE) (hE.1 _ _ (zD.1 _ _ hg)) (hE.2 _ (zD.2 _ H.z0))) (fun v A' hv=>?_);obtain⟨vb,SB,rfl,hOB,pJ⟩:=hv;refine aA.sb (F':=(iI,.cells KC jE (0,0))::(nP,.cells #[.slice af M.fs.length cf,.slice av1 (stM M).length cv1] j_ (0,0))::(M.kb,.cells #[.int .i32 1,.int .u32 0,.map (some mb)] iH (0,0))::(mb,N_ m)::bM M.l) ((Sb.trans (.nil hOB.shut) pJ).app .refl) ?_;refine lg ?_;refine W.kQ [(iI,.cells KC jE (0,0)),(M.kb,.cells #[.int .i32 1,.int .u32 0,.map (some mb)] iH (0,0))] (n:=10) O ?_;refine ay 0 ?_;refine ay 1 ?_;refine ay 2 ?_;refine ay 3 ?_;refine ay 4 ?_;refine ay 5 ?_;refine ay 6 ?_;refine fJ 7 (II (vs:=KC) O O (.inr fun F hF=>hF _ (.head _)) ane hex) O ?_;refine ay 8 ?_;refine ae (i:=9) O an O O (akm (a:=Gl (stM M)) (m:=m) O O (by rw[<-Jf];rfl) O (DW hs4) hm.len hnk (.tail (.tail (.tail .head))) ?_);refine⟨.inl aB,?_⟩;refine az ?_;refine jk ?_
  first
  | (
    refine qp (A:=[(M.kb,.cells #[.int .i32 1,.int .u32 0,.map (some mb)] iH (0,0))]) (.tail (.tail (.head (G:=(mb,N_ (m++[(Gl (stM M),I (jF M.fs (stM M)).2.1)]))::bM M.l)))) (fun h' hE hL=>sW (off:=0) hP O) (fun A2 hA2=>?_);obtain⟨o',rfl,rfl⟩:=hA2;refine iQ (vs:=[_]) ⟨by rw[hlm];rfl,_,?_,.cons (.skip O (.skip O .refl))⟩;intro p hp;rcases dh.1 hp with hp | hp
    ·exact hm p hp
    exact⟨stM M,hs4,H.co,dP.1 hp⟩)
  | (
    obtain⟨ss,h1',h2',h3'⟩:=hm _ (hfy (by simpa using c46));simp only[Prod.mk.injEq]at h3';obtain⟨e1,rfl⟩:=h3';obtain rfl:=Va hs4 h1' H.co h2' e1;refine qp (A:=[(M.kb,.cells #[.int .i32 1,.int .u32 0,.map (some mb)] iH (0,0))]) (.tail (.tail (.head (G:=(mb,N_ m)::bM M.l)))) (fun h' hE hL=>sW (off:=0) hP O) (fun A2 hA2=>?_);obtain⟨o',rfl,rfl⟩:=hA2;exact iQ (vs:=[_]) ⟨by rw[hlm];rfl,m,hm,.cons (.skip O (.skip O .refl))⟩)
 refine kR ?_
 first
 | (
   refine qp (A:=[(M.kb,.cells #[.int .i32 1,.int .u32 0,.map (some mb)] iH (0,0))]) (.tail (.tail (.head (G:=(mb,N_ (m++[(Gl (stM M),I (jF M.fs (stM M)).2.1)]))::bM M.l)))) (fun h' hE hL=>sW (off:=0) hP O) (fun A2 hA2=>?_);obtain⟨o',rfl,rfl⟩:=hA2;refine iQ (vs:=[_]) ⟨by rw[hlm];rfl,_,?_,.cons (.skip O (.skip O .refl))⟩;intro p hp;rcases dh.1 hp with hp | hp
   ·exact hm p hp
   exact⟨stM M,hs4,H.co,dP.1 hp⟩)
 | (
   obtain⟨ss,h1',h2',h3'⟩:=hm _ (hfy (by simpa using c46));simp only[Prod.mk.injEq]at h3';obtain⟨e1,rfl⟩:=h3';obtain rfl:=Va hs4 h1' H.co h2' e1;refine qp (A:=[(M.kb,.cells #[.int .i32 1,.int .u32 0,.map (some mb)] iH (0,0))]) (.tail (.tail (.head (G:=(mb,N_ m)::bM M.l)))) (fun h' hE hL=>sW (off:=0) hP O) (fun A2 hA2=>?_);obtain⟨o',rfl,rfl⟩:=hA2;exact iQ (vs:=[_]) ⟨by rw[hlm];rfl,m,hm,.cons (.skip O (.skip O .refl))⟩)
theorem EZ(main:aN)(h:Hp)(n lo hi:Int)(hn:¬outs n lo hi):Pu aV main Qx #[I n,I lo,I hi] h (.bool false):=by
 refine bG.bH func59 [(0,I n),(1,I lo),(2,I hi)] ?_;simp only[outs]at hn;refine gZ ?_;refine aA.ask (fun YW=>?_) (fun YW=>?_)
 ·refine jk ?_;refine lQ ?_
  first | exact absurd (Or.inl ‹_›) hn | exact congrArg Value.bool (decide_eq_false fun h=>hn (.inr h))
 refine jk ?_;refine lQ ?_
 first | exact absurd (Or.inl ‹_›) hn | exact congrArg Value.bool (decide_eq_false fun h=>hn (.inr h))
structure yD where
 (va nS vr vf vm:Value) (ps:Int) (gs:List Ag) (Vj:List Pn) (rs:List Int) (fs:List Fl) (jJ:List (Value×Mt))
abbrev yD.V(D:yD):Value:=.agg #[D.va,I D.ps,D.nS,D.vr,D.vf,D.vm]
structure yD.At(D:yD)(h:Hp):Prop where
 ga:Sl h Ag.row D.va D.gs
 za:Zs h D.va
 gk:JC D.gs=0
 pk:0<=D.ps/\D.ps<=63
 pn:Sl h Pn.row D.nS D.Vj
 rr:Sl h bY D.vr D.rs
 sk:jP D.Vj [] D.rs=0
 ff:Sl h Fl.row D.vf D.fs
 zf:Zs h D.vf
 fk:dU D.fs []=0
 mm:Sl h yM D.vm D.jJ
 me:∀p∈D.jJ,Sl h bY p.1 p.2.ks/\Zs h p.1/\EU p.2
 m4:D.jJ.length<=4
 g0:∃E z,h 0=some (.cells #[QI kC] E z)
 z0:h.z 0
variable{D:yD}
theorem yD.At.ext(H:D.At h)(hE:Ext h h'):D.At h':=
 ⟨H.ga.ext hE,H.za.ext hE,H.gk,H.pk,H.pn.ext hE,H.rr.ext hE,H.sk,H.ff.ext hE,H.zf.ext hE,H.fk,H.mm.ext hE,fun p hp=>⟨(H.me p hp).1.ext hE,(H.me p hp).2.1.ext hE,(H.me p hp).2.2⟩,H.m4,H.g0.imp fun _ ⟨z,e⟩=>⟨z,hE.1 _ _ e⟩,hE.2 _ H.z0⟩

theorem Zz(main:aN)(h:Hp)(kv:Value)(x:Mt)(hf:Sl h bY kv x.ks)(H:EU x):Pu aV main Nb #[.agg #[kv,I x.d,I x.co,I x.wa,I x.qu]] h (I 0):=by
 obtain⟨a,cap,rfl⟩:=hf.aU;have h1:=H.k1;have h3:=H.k3;refine bG.bH func84 [(0,.agg #[.slice a x.ks.length cap,I x.d,I x.co,I x.wa,I x.qu])] ?_;refine d_ ?_;refine aA.box (fun vg=>?_);refine asW ?_;refine W.aJ O (fun c9=>?_) (fun c9=>?_)
 ·exact absurd c9 aj
 refine lg ?_;refine W.aJ O (fun OZ=>?_) (fun OZ=>?_)
 ·exact absurd OZ aj
 refine oz ?_;refine W.loop (σ:=Nat) (fun k=>k<=x.ks.length) (fun k=>[(18,I k),(17,I x.ks.length),(16,.slice a x.ks.length cap),(1,aG vg)]) (fun _=>[(vg,.cells #[.slice a x.ks.length cap,I x.d,I x.co,I x.wa,I x.qu] kD (0,0))]) (fun k=>x.ks.length-k) 0 (Nat.zero_le _) iw .refl ?_;rintro k hk;refine kJ ?_;refine W.aJ O (fun BO=>?_) (fun BO=>?_)
 ·have zI:k<x.ks.length:=by omega
  obtain⟨p,hp,yI⟩:=has zI;obtain⟨b,off,c,E,fz,rfl,hb,hx,hy,hz⟩:=hf.at hp;have Aq:c[off+k*1]? =some (I p):=hz 0 dF;have aut:=H.ks p (dL hp);clear hx hz;refine Qv ?_;refine cp (fun h' hE hL=>EZ _ h' p 0 63 (by simp only[outs];omega)) ?_;refine qj ?_;refine W.iq ?_;refine jk ?_;refine aA.ask (fun auu=>?_) (fun auu=>?_)
  ·skip
   refine lF ?_;have hk0:0<k:=by omega
   obtain⟨q,hq,-⟩:=has (show k-1<x.ks.length by omega);obtain⟨b9,auv,c9',E9,fz9,e9,hb9,hx9,hy9,hz9⟩:=hf.at hq
   cases e9
   rw[hb]at hb9
   cases hb9
   have aAA:c[off+(k-1)*1]? =some (I q):=hz9 0 dF
   have hqp:q<p:=by
    have:=List.pairwise_iff_getElem.1 H.up (k-1) k aj zI aj;rw[jh aj,dY]at hq hp;rwa[hq,hp]at this
   refine oq (Yv.eq (Vr O O O) (show I _=I ((k-1:Nat):Int) by congr 1;omega)) O (aI O O O) O O ?_
   first | refine kw_ (yix rfl rfl rfl) rfl ?_ | refine kw_ (ZX rfl rfl rfl) rfl ?_
   refine lF ?_;refine W.aJ O (fun c36=>?_) (fun c36=>?_)
   ·exact absurd c36 aj
   refine jk ?_;exact⟨O,k+1,zI,aj,iw,.refl⟩
  refine gZ ?_;refine W.iq ?_;refine jk ?_;exact⟨O,k+1,zI,aj,iw,.refl⟩
 refine gZ ?_;refine cp (fun h' hE hL=>EZ _ h' x.d 0 7 (by have:=H.d;simp only[outs];omega)) ?_;refine gI ?_;refine cp (fun h' hE hL=>EZ _ h' x.co 1 6 (by have:=H.co;simp only[outs];omega)) ?_;refine lF ?_;refine cp (fun h' hE hL=>EZ _ h' x.wa 0 3 (by have:=H.wa;simp only[outs];omega)) ?_;refine lF ?_;refine cp (fun h' hE hL=>EZ _ h' x.qu 0 12 (by have:=H.qu;simp only[outs];omega)) ?_;refine d_ ?_;refine W.iq ?_;refine jk ?_;exact lQ O
theorem Wq(main:aN)(h:Hp)(D:yD)(H:D.At h):Pu aV main KI #[D.V] h .nilIface:=by
 obtain⟨a1,c1,e1⟩:=H.ga.aU;obtain⟨a2,c2,e2⟩:=H.pn.aU;obtain⟨a3,c3,e3⟩:=H.rr.aU;obtain⟨a4,c4,e4⟩:=H.ff.aU;refine bG.bH func83 [(0,D.V)] ?_;refine d_ ?_;refine aA.box (fun vg=>?_);refine jk ?_;refine cp (fun h' hE hL=>show Pu aV main H7 #[D.va] h' (I 0)from H.gk▸Xx _ h' D.gs D.va (H.ga.ext hE)) ?_;refine jk ?_;refine W.aJ O (fun OZ=>?_) (fun OZ=>?_)
 ·exact absurd O OZ
 refine jk ?_;refine cp (fun h' hE hL=>EZ _ h' D.ps 0 63 (by have:=H.pk;simp only[outs];omega)) ?_;refine qj ?_;refine W.iq ?_;refine FT ?_;refine c0 (fun h' hE hL=>abv _ h' D.Vj [] D.rs D.nS _ D.vr (H.pn.ext hE) .nil (H.rr.ext hE)) (fun v A' hv=>?_);obtain⟨sl,SS,rfl,hOS,aqT⟩:=hv;have hse:(sD D.Vj [] D.rs).2.2=0:=by unfold sD;rw[if_neg (by rw[H.sk];decide)]
 rw[hse];refine aA.sb (F':=[(vg,.cells #[D.va,I D.ps,D.nS,D.vr,D.vf,D.vm] fC (0,0))]) ((Sb.trans (.nil hOS.shut) aqT).app .refl) ?_;refine CW ?_;refine W.aJ O (fun c31=>?_) (fun c31=>?_)
 ·exact absurd O c31
 refine lF ?_;rw[e4];refine gI ?_;refine b_ (dw (cs:= #[.slice a4 D.fs.length c4,.slice none 0 0]) O O aB) O ?_;refine cp (fun h' hE hL=>show Pu aV main JO #[.agg #[.slice a4 D.fs.length c4,.slice none 0 0]] h' (I 0)from H.fk▸Ue _ h' D.fs [] _ _ (e4▸H.ff.ext hE) .nil) ?_;refine jk ?_;refine W.aJ O (fun c40=>?_) (fun c40=>?_)
 ·exact absurd O c40
 refine jk ?_;exact lQ O
theorem ahf(main:aN)(h:Hp)(D:yD)(H:D.At h):Pu aV main VN #[D.V] h (I 0):=by
 obtain⟨am,cm,em⟩:=H.mm.aU;have h4:=H.m4;have hmm:=H.mm;rw[em]at hmm;refine bG.bH func58 [(0,D.V)] ?_;unfold yD.V;refine d_ ?_;refine aA.box (fun vg=>?_);refine lF ?_;refine aA.new (fun nP=>?_);refine kJ ?_;refine cp (fun h' hE hL=>Wq _ h' D (H.ext hE)) ?_;refine zT ?_;refine cp (fun h' hE hL=>aaX _ h' _) ?_;refine qj ?_;refine W.iq ?_;refine lF ?_;rw[em];refine lg ?_;refine W.aJ O (fun PV=>?_) (fun PV=>?_)
 ·exact absurd PV aj
 refine iC ?_;refine W.loop (σ:=Nat) (fun k=>k<=D.jJ.length) (fun k=>[(20,I k),(19,I D.jJ.length),(18,.slice am D.jJ.length cm)]) (fun _=>[]) (fun k=>D.jJ.length-k) 0 (Nat.zero_le _) iw (by repeat(first | exact .refl | refine .skip rfl ?_)) ?_;rintro k hk;refine kJ ?_;refine W.aJ O (fun Oh=>?_) (fun Oh=>?_)
 ·have zI:k<D.jJ.length:=by omega
  obtain⟨⟨kv,x⟩,hp,yI⟩:=has zI;obtain⟨Tf,zks,uU⟩:=H.me _ (dL hp);obtain⟨b,off,c,E,fz,rfl,hb,hx,hy,hz⟩:=hmm.at hp;have okv:=Tf.one;rw[Iw okv]at hx;have Aq:c.extract (off+k*5) (off+k*5+5)= #[kv,I x.d,I x.co,I x.wa,I x.qu]:=hx;clear hx hz;refine kR ?_;refine aA.new (fun iI=>?_);refine aA.Yi (vs:= #[kv,I x.d,I x.co,I x.wa,I x.qu]) ?_ (h1:=by show(one kv&&true)=true;rw[okv];rfl);refine lF ?_;refine cp (fun h' hE hL=>Zz _ h' kv x (Tf.ext hE) uU) ?_;refine jk ?_;refine W.aJ O (fun ZH=>?_) (fun ZH=>?_)
  ·exact absurd O ZH
  refine jk ?_;exact⟨rfl,k+1,zI,aj,iw,by repeat(first | exact .refl | refine .skip rfl ?_)⟩
 refine gZ ?_;exact lQ O

def oU.of(D:yD)(X kb:Nat)(vp:Value)(l:List uV):oU:=⟨X,D.va,D.nS,D.vr,D.vf,D.vm,vp,D.ps,kb,D.gs,l,D.fs⟩
theorem yD.At.Ws(H:D.At h)(hE:Ext h h'){l:List uV}{z:Nat×Nat}(hX:h' X=some (.cells (mG D.va D.nS D.vr D.vf D.vm vp D.ps kb) E z))(Oj:Sl h' abJ vp (l.map (·.B)))(hl:l.map (fun p=>(p.kv,p.x))=D.jJ)(fP:∀p∈l,XG (nH D.gs p.x.ks D.ps) p.x.d p.v p.E):(oU.of D X kb vp l).At h':=by
 have Xz:l.length=D.jJ.length:=by rw[<-hl];simp
 exact⟨⟨E,z,hX⟩,Oj,fP,by show l.length<=4;rw[Xz];exact H.m4,fun p hp=>(H.me (p.kv,p.x) (by rw[<-hl];exact List.mem_map.2 ⟨p,hp,O⟩)).2.2,H.gk,by show Sl h' yM D.vm (l.map fun p=>(p.kv,p.x));rw[hl];exact H.mm.ext hE,H.ff.ext hE,H.zf.ext hE,H.fk,H.g0.imp fun _ ⟨z,e⟩=>⟨z,hE.1 _ _ e⟩,hE.2 _ H.z0⟩
def akp(D:yD)(v:Value)(L:ah)(kb:Nat)(F:ah):Prop:=∃(X:Nat) (l:List uV) (vp:Value) (S:ah),v=aG X/\l.map (fun p=>(p.kv,p.x))=D.jJ/\(∀p∈l,XG (nH D.gs p.x.ks D.ps) p.x.d p.v p.E)/\Os dA abJ vp (l.map (·.B)) S/\
 Sb ((X,.cells (mG D.va D.nS D.vr D.vf D.vm vp D.ps kb) gB (0,0))::(S++(L++bM l))) F
theorem af0{main:aN}(hS:∀S,main.ok S->∃Fin,S=Mn aV Fin)(qJ:main.b=true)(h:Hp)(D:yD)(H:D.At h)(kb:Nat):bG aV main Ez #[D.V,aG kb] h [] (fun v F=>akp D v [] kb F):=
 bG.mono (aj_ main hS qJ h D.va D.nS D.vr D.vf D.vm D.ps kb D.gs D.jJ H.pn.one H.rr.one H.ff.one H.ga H.za H.gk H.pk H.mm H.me H.m4) fun v F ⟨X,l,vp,S,h1,h2,h3,h4,h5⟩=>⟨X,l,vp,S,h1,h2,h3,h4,h5⟩
theorem acu{main:aN}(hS:∀S,main.ok S->∃Fin,S=Mn aV Fin)(qJ:main.b=true)(h:Hp)(D:yD)(H:D.At h)(ns:List Int)(vn:Value)(hn:Sl h bY vn ns)(hns:∀n∈ns,0<=n/\n<D.jJ.length)(hl:ns.length<=1000):
  bG aV main VI #[D.V,vn] h [] (fun v F=>∃u kb mb,v= .tuple #[u,I 0]/\akp D u (pX kb mb []) kb F):=by
 obtain⟨a,cap,rfl⟩:=hn.aU;obtain⟨am,cm,em⟩:=H.mm.aU;have h4:=H.m4;refine bG.bH func35 [(0,D.V),(1,.slice a ns.length cap)] ?_;refine d_ ?_;refine aA.box (fun oJ=>?_);refine jk ?_;refine cp (fun h' hE hL=>ahf _ h' D (H.ext hE)) ?_;refine jk ?_;refine W.aJ O (fun OZ=>?_) (fun OZ=>?_)
 ·exact absurd O OZ
 refine gZ ?_;refine W.loop (σ:=Nat) (fun k=>k<=ns.length) (fun k=>[(16,I k),(15,I ns.length),(14,.slice a ns.length cap),(2,aG oJ)]) (fun _=>[(oJ,.cells #[D.va,I D.ps,D.nS,D.vr,D.vf,D.vm] fC (0,0))]) (fun k=>ns.length-k) 0 (Nat.zero_le _) iw .refl ?_;rintro k hk;refine kJ ?_;refine W.aJ O (fun c17=>?_) (fun c17=>?_)
 ·have zI:k<ns.length:=by omega
  obtain⟨p,hp,yI⟩:=has zI;obtain⟨b,off,c,E,fz,rfl,hb,hx,hy,hz⟩:=hn.at hp;have Aq:c[off+k*1]? =some (I p):=hz 0 dF;have hpn:=hns p (dL hp);clear hx hz;refine Qu ?_;rw[em];refine d_ ?_;refine cp (fun h' hE hL=>EZ _ h' p 0 (D.jJ.length-1) (by simp only[outs];omega)) ?_;refine qj ?_;refine W.iq ?_;refine jk ?_;exact⟨O,k+1,zI,aj,iw,.refl⟩
 refine kR ?_;refine oe O wn O O (O7 O (fun amE hn0 hm0=>?_));refine b_ (dw (cs:= #[.int .i32 0,.int .u32 0,.map (some amE)]) O O aB) O ?_;refine aA.box (fun UW=>?_);refine c0 (fun h' hE hL=>af0 hS qJ h' D (H.ext hE) UW) (fun v A' hv=>?_);obtain⟨X,l,vp,S,rfl,h2,h3,hO,bF⟩:=hv;refine lF ?_;refine iQ (vs:=[_,_]) ⟨_,UW,amE,O,X,l,vp,S,O,h2,h3,hO,?_⟩;refine .trans ?_ (bF.app (.cons (.cons (.skip O .refl))));refine .aT ?_;show List.Perm (_::(S++([_,_]++bM l))) ((_::(S++bM l))++[_,_]);refine List.Perm.cons _ ?_;show List.Perm (S++([_,_]++bM l)) (S++bM l++[_,_]);rw[eF];exact List.Perm.append_left _ dK
structure Mo where
 (gs:List Ag) (ps:Int) (fs:List Fl) (mts:List Mt)
def Mo.mi(N:Mo):oU:=⟨0,.nilIface,.nilIface,.nilIface,.nilIface,.nilIface,.nilIface,N.ps,0,N.gs,N.mts.map fun x=>⟨0,.nilIface,x,.nilIface,[]⟩,N.fs⟩
def yD.mo(D:yD):Mo:=⟨D.gs,D.ps,D.fs,D.jJ.map (·.2)⟩
structure oU.Sim(M M':oU):Prop where
 gs:M.gs=M'.gs
 ps:M.ps=M'.ps
 fs:M.fs=M'.fs
 l:M.l.map (·.x)=M'.l.map (·.x)
section
variable{M M':oU}(H:M.Sim M')
include H
theorem oU.Sim.w:M.w=M'.w:=by funext x;unfold oU.w;rw[H.gs,H.ps]
theorem oU.Sim.n:M.l.length=M'.l.length:=by have:=congrArg List.length H.l;simpa using this
theorem oU.Sim.at(i:Nat):(M.l[i]?).map (·.x)=(M'.l[i]?).map (·.x):=by
 have:=congrArg (fun l=>l[i]?) H.l;simpa using this
theorem oU.Sim.Wl:Wl M=Wl M':=by funext x;unfold jc.Wl;rw[H.w]
theorem oU.Sim.Ll:Ll M=Ll M':=by
 funext i;have h:=H.at i.toNat;unfold jc.Ll
 cases e:M.l[i.toNat]? <;>cases e':M'.l[i.toNat]? <;>rw[e,e']at h <;>simp at h⊢
 rw[H.Wl,h]
theorem oU.Sim.lI:Gj M=Gj M':=by
 funext i;have h:=H.at i;unfold Gj
 cases e:M.l[i]? <;>cases e':M'.l[i]? <;>rw[e,e']at h <;>simp at h⊢
 rw[H.w,h]
theorem oU.Sim.ord:nZ M=nZ M':=by unfold nZ QL;rw[H.Ll,H.lI,H.n]
theorem oU.Sim.stI:stI M=stI M':=by
 funext i;have h:=H.at i.toNat;unfold jc.stI
 cases e:M.l[i.toNat]? <;>cases e':M'.l[i.toNat]? <;>rw[e,e']at h <;>simp at h⊢
 rw[H.Wl,h];simp
theorem oU.Sim.st:stM M=stM M':=by unfold stM;rw[H.ord,H.stI]
theorem oU.Sim.ber:Ls M=Ls M':=by funext i;unfold Ls;rw[H.lI,H.fs,H.st,H.ord]
theorem oU.Sim.ayb:uQ M=uQ M':=by unfold uQ;rw[H.ber,H.n]
theorem oU.Sim.set:mV M=mV M':=by unfold mV O0;rw[H.ber,H.n]
theorem oU.Sim.JD:FI M=FI M':=by unfold FI;rw[H.st,H.fs]
end
theorem Lu{l:List uV}(hl:l.map (fun p=>(p.kv,p.x))=D.jJ):(oU.of D X kb vp l).Sim D.mo.mi:=by
 refine⟨O,O,O,?_⟩;show l.map (·.x)=(D.mo.mts.map _).map _;rw[List.map_map];show l.map (·.x)=(D.jJ.map (·.2)).map _;rw[<-hl,List.map_map,List.map_map];rfl
theorem W.Ws{c:Code}{S:ah}(D:yD)(H:D.At x.h){l:List uV}(hl:l.map (fun p=>(p.kv,p.x))=D.jJ)(fP:∀p∈l,XG (nH D.gs p.x.ks D.ps) p.x.d p.v p.E)(hO:Os dA abJ vp (l.map (·.B)) S)
  (K:∀h',Ext x.h h'->(oU.of D X kb vp l).At h'->W {x with h:=h'} c Q ρ ds F):W x c Q ρ ds ((X,.cells (mG D.va D.nS D.vr D.vf D.vm vp D.ps kb) gB (0,0))::(S++F)):=
 W.freeze O fun h1 zD hb _=>eY hO fun h2 NY P7 _=>K h2 (zD.trans NY) (H.Ws (zD.trans NY) (NY.1 _ _ hb) P7 hl fP)
theorem pY{l:List uV}(fP:∀p∈l,XG (nH D.gs p.x.ks D.ps) p.x.d p.v p.E):eH (bM l):=by
 refine eH.NW fun b o hb=>?_;obtain⟨F,hF,hbF⟩:=List.mem_flatten.1 hb;obtain⟨p,hp,rfl⟩:=List.mem_map.1 hF;rcases bU.1 hbF with e | hbF
 ·cases e;rfl
 obtain⟨E',h1,h2,-⟩:=(fP p hp).clean;have hs:=fP p hp;revert hs
 cases hw:nH D.gs p.x.ks D.ps with
 | none=>rintro⟨-,e⟩;rw[e]at hbF;cases hbF
 | some w=>rintro⟨s,-,hR⟩;exact hR.cl b o hbF
theorem wu{mb:Nat}:eH (pX kb mb m):=.cons O (.cons O .nil)

theorem aqU{main:aN}(hS:∀S,main.ok S->∃Fin,S=Mn aV Fin)(qJ:main.b=true)(h:Hp)(D:yD)(H:D.At h):bG aV main YM #[D.V] h [] (fun v F=>∃vb S,v= .tuple #[vb,I (jF D.fs (stM D.mo.mi)).2.1,I 0]/\Os ku Be.row vb (uQ D.mo.mi) S/\Sb S F):=by
 refine bG.bH func18 [(0,D.V)] ?_;refine d_ ?_;refine aA.box (fun vg=>?_);refine jk ?_;refine c0 (fun h' hE hL=>acu hS qJ h' D (H.ext hE) [] _ .nil (fun n hn=>by cases hn) (Nat.zero_le _)) (fun v A' hv=>?_);obtain⟨u,kb,mb,rfl,X,l,vp,S,rfl,hl,fP,hO,bF⟩:=hv;refine aA.sb (bF.app .refl) ?_;refine oz ?_;refine W.aJ O (fun Xn=>?_) (fun Xn=>?_)
 ·exact absurd O Xn
 refine d_ ?_;refine W.sb (F':=(X,.cells (mG D.va D.nS D.vr D.vf D.vm vp D.ps kb) gB (0,0))::(S++bM l)) (.cons (.trans (.app .refl (.left .refl wu)) (.right .refl (.cons O .nil)))) ?_;refine W.Ws D H hl fP hO (fun h1 zD HM=>?_);have E8:=Lu (X:=X) (kb:=kb) (vp:=vp) hl;refine gI ?_;refine cg (A:=bM l) .all (fun h' hE hL=>afy hS qJ h' _ (HM.ext hE)) (fun v A' hv=>?_);obtain⟨vb,SB,rfl,hOB,pJ⟩:=hv;rw[E8.ayb]at hOB;rw[E8.st];refine Qu ?_;exact iQ (vs:=[_,_,_]) ⟨_,SB,O,hOB,.trans (.right .refl (pY fP)) pJ⟩
def Vb(N:Mo):Int:=if xC N.fs (stM N.mi)<0 then xC N.fs (stM N.mi)else(nZ N.mi).getD (xC N.fs (stM N.mi)).toNat 0
theorem akr{main:aN}(hS:∀S,main.ok S->∃Fin,S=Mn aV Fin)(qJ:main.b=true)(h:Hp)(D:yD)(H:D.At h):bG aV main YK #[D.V] h [] (fun v F=>v= .tuple #[I (Vb D.mo),I 0]/\eH F):=by
 refine bG.bH func14 [(0,D.V)] ?_;refine d_ ?_;refine aA.box (fun vg=>?_);refine lg ?_;refine c0 (fun h' hE hL=>acu hS qJ h' D (H.ext hE) [] _ .nil (fun n hn=>by cases hn) (Nat.zero_le _)) (fun v A' hv=>?_);obtain⟨u,kb,mb,rfl,X,l,vp,S,rfl,hl,fP,hO,bF⟩:=hv;refine aA.sb (bF.app .refl) ?_;refine oz ?_;refine W.aJ O (fun Xn=>?_) (fun Xn=>?_)
 ·exact absurd O Xn
 refine d_ ?_;refine W.sb (F':=(X,.cells (mG D.va D.nS D.vr D.vf D.vm vp D.ps kb) gB (0,0))::(S++bM l)) (.cons (.trans (.app .refl (.left .refl wu)) (.right .refl (.cons O .nil)))) ?_;refine W.Ws D H hl fP hO (fun h1 zD HM=>?_);have E8:=Lu (X:=X) (kb:=kb) (vp:=vp) hl;obtain⟨Eg,zg,hg⟩:=HM.g0;obtain⟨af,cf,ef⟩:=HM.fl.aU;refine gI ?_;refine cg (A:=bM l) .all (fun h' hE hL=>N8 (r_.of hS qJ) h' _ (HM.ext hE)) (fun v A' hv=>?_);obtain⟨vs,S3,vo,S2,rfl,hO3,Ci,pJ⟩:=hv;rw[ef];obtain⟨a3,c3,rfl⟩:=hO3.aU;obtain⟨a2,c2,rfl⟩:=Ci.aU;have zU:=HM.ckP;refine aA.sb (F':=S2++S3) (.trans (.trans (.aT dK) (.app .refl (.right .refl (pY fP)))) pJ) ?_;refine gI ?_;refine aA.new (fun mX=>?_);refine gI ?_;refine W.sb (F':=S2++((mX,.cells #[.slice af (oU.of D X kb vp l).fs.length cf,.slice a3 (stM (oU.of D X kb vp l)).length c3] j_ (0,0))::S3)) (.aT List.perm_middle) ?_;refine eY Ci (fun h2 NY Oa hz2=>?_);refine gI ?_
 refine cp (fun h' hE hL=>show Pu aV main MW #[.agg #[.slice af (oU.of D X kb vp l).fs.length cf,.slice a3 (stM (oU.of D X kb vp l)).length c3]] h' (.tuple #[I (xC D.fs (stM D.mo.mi)),I 0])from by
  have:=al8 main h' _ _ _ _ Eg zg (ef▸((HM.fl.ext NY).ext hE)) (hO3.sl fun b o hb=>hL b o (.tail _ hb)) (hE.1 _ _ (NY.1 _ _ hg));rw[zU,if_neg dF,E8.st]at this;rw[E8.st];exact this) ?_
 refine gZ ?_;refine Gh (u:=.bool false) (Fe O O O) O O wn O O ?_;refine kJ ?_;refine W.aJ O (fun EL=>?_) (fun EL=>?_)
 ·have Xz:Vb D.mo=xC D.fs (stM D.mo.mi):=by unfold Vb;rw[show D.mo.fs=D.fs from rfl,if_pos EL]
  refine FT ?_;rw[<-Xz];exact iQ (vs:=[_,_]) ⟨O,.cons O hO3.shut⟩
 obtain⟨r,hr,hl1⟩:∃r:Nat,r<(stM D.mo.mi).length/\xC D.fs (stM D.mo.mi)=r:=by
  rcases Pj D.fs (stM D.mo.mi)with⟨hl1,-⟩ | ⟨r,hr,hl1,-⟩
  ·omega
  exact⟨r,hr,hl1⟩
 have FK:r<(nZ D.mo.mi).length:=by simpa[stM]using hr
 rw[E8.ord]at Oa⊢;obtain⟨a,ha,-⟩:=has FK
 have Xz:Vb D.mo=a:=by
  unfold Vb;rw[show D.mo.fs=D.fs from rfl,if_neg EL,hl1,Int.toNat_natCast,List.getD_eq_getElem?_getD,ha];rfl
 obtain⟨b,off,c,E,fz,rfl,hb,hx,hy,hz⟩:=Oa.at ha;have Aq:c[off+r*1]? =some (I a):=hz 0 dF;clear hx hz;rw[hl1];refine oz ?_;rw[Xz];exact iQ (vs:=[_,_]) ⟨O,.cons O hO3.shut⟩
def Mo.way(N:Mo)(i:Nat):Option (List Int):=match N.mts[i]? with
 | some x=>nH N.gs x.ks N.ps
 | none=>none
theorem aks{w:Option (List Int)}{d:Int}{E:ah}(H:XG w d v E):∃(sa:Option Addr) (n sc:Nat) (z:Int),V3 aV (Instr.typeAssert v VU oG true)=some (.tuple #[.agg #[.slice sa n sc,I z],.bool w.isSome])/\∀l,w=some l->Rn E (.slice sa n sc) l/\n=l.length/\z=d+l.length:=by
 cases w with
 | none=>
  obtain⟨rfl,-⟩:=H;exact⟨none,0,0,0,aB,fun l h=>by cases h⟩
 | some l=>
  obtain⟨sa,sc,rfl,hR⟩:=H.some rfl;exact⟨sa,l.length,sc,d+l.length,aB,fun l' h=>by cases h;exact⟨hR,rfl,rfl⟩⟩
theorem XM{l:List uV}(h:l[i]? =some p)(hb:(b,o)∈p.E):(b,o)∈bM l:=(N7 h).subset (bZ _ (jm _ hb))
theorem ab4{l:List uV}(hl:l.map (fun p=>(p.kv,p.x))=D.jJ)(hi:i<D.jJ.length):∃p,l[i]? =some p/\D.jJ[i]? =some (p.kv,p.x)/\D.mo.way i=nH D.gs p.x.ks D.ps:=by
 have hn:i<l.length:=by rw[<-hl,List.length_map]at hi;exact hi
 refine⟨l[i],jh hn,?_,?_⟩
 ·rw[<-hl,iL,jh hn];rfl
 unfold Mo.way;show(match(D.jJ.map (·.2))[i]? with | some x=>nH D.gs x.ks D.ps | none=>none)=_;rw[<-hl,iL,iL,jh hn];rfl

theorem auy{main:aN}(hS:∀S,main.ok S->∃Fin,S=Mn aV Fin)(qJ:main.b=true)(h:Hp)(D:yD)(H:D.At h)(i:Nat)(hi:i<D.jJ.length):bG aV main aaI #[D.V,I i] h [] (fun v F=>∃u S,v= .tuple #[u,I (if(D.mo.way i).isSome then 0 else 11)]/\Os aX bY u ((D.mo.way i).getD []) S/\Sb S F):=by
 refine bG.bH func12 [(0,D.V),(1,I i)] ?_;refine d_ ?_;refine aA.box (fun oJ=>?_);refine jk ?_;refine aA.zZ (cs:= #[I i]) (fun yg=>?_) O;refine c0 (fun h' hE hL=>acu hS qJ h' D (H.ext hE) [(i:Int)] _ (Sl.mk (hL yg _ (.head _)) O (Part.all [I i])) (fun n hn=>by rw[dP.1 hn];omega) (Nat.le_of_ble_eq_true O)) (fun v A' hv=>?_);obtain⟨u,kb,mb,rfl,X,l,vp,S,rfl,hl,fP,hO,bF⟩:=hv;refine aA.sb (bF.app .refl) ?_;refine oz ?_;refine W.aJ O (fun c18=>?_) (fun c18=>?_)
 ·exact absurd O c18
 refine d_ ?_;refine W.sb (F':=(X,.cells (mG D.va D.nS D.vr D.vf D.vm vp D.ps kb) gB (0,0))::(S++bM l)) (.cons (.trans (.app .refl (.left .refl wu)) (.right .refl (.cons O (.cons O .nil))))) ?_;refine W.Ws D H hl fP hO (fun h1 zD HM=>?_);obtain⟨p,hp,hpm,hw⟩:=ab4 hl hi;have aax:=fP p (dL hp);obtain⟨sa,n,sc,z,hta,htl⟩:=aks aax;rw[hw];obtain⟨EX,zX,hX⟩:=HM.cx;have Oj:=HM.vp;obtain⟨av,cv',ev'⟩:=Oj.aU;rw[List.length_map]at ev';unfold oU.C at hX;rw[ev']at hX Oj;have hX:h1 X=some (.cells (mG D.va D.nS D.vr D.vf D.vm (.slice av l.length cv') D.ps kb) EX zX):=hX;have Gp:i<l.length:=by rw[<-hl,List.length_map]at hi;exact hi
 obtain⟨b,off,c,E,fz,rfl,hb,hx,hy,hz⟩:=Oj.at (show(l.map (·.B))[i]? =some p.B by rw[iL,hp];rfl);have Aq:c[off+i*1]? =some (aG p.B):=hz 0 dF;clear hx hz;have hmm:=Pm hp;refine iC ?_;refine b_ (CG O O (.inr fun _ e=>by subst e;exact hmm) O) O ?_;refine b_ (yta hta O O) O ?_;refine gI ?_;refine aA.new (fun zC=>?_);refine FT ?_;refine W.cond O (fun c35=>?_) (fun c35=>?_)
 ·have xJ:nH D.gs p.x.ks D.ps=none:=by simpa using c35
  refine jk ?_;rw[xJ];exact iQ (vs:=[.slice none 0 0,I 11]) ⟨_,[],O,.nil .nil,.skip O (.nil (pY fP))⟩
 obtain⟨w,Lh⟩:∃w,nH D.gs p.x.ks D.ps=some w:=iJ.1 (by simpa using c35);obtain⟨hR,rfl,-⟩:=htl w Lh;have hw5:=DK (Iq.xE H.gk).len Lh;refine lg ?_;refine c0 (fun h' hE hL=>DC _ h' w _ (hR.rd _ fun b o hb=>hL b o (.tail _ (XM hp hb))) aj) (fun v A' hv=>?_);obtain⟨S2,hS2,pJ⟩:=hv;refine lF ?_;rw[Lh];exact iQ (vs:=[v,I 0]) ⟨_,S2,O,hS2,.right pJ (.cons O (pY fP))⟩
theorem W.XO{x:Cx}{c:Code}{Q:fO}{ρ:Env}{ds:List Deferred}:∀{A F:ah} (_:∀b o,(b,o)∈A->o.isChan=false) (_:∀h',Ext x.h h'->je A h'->W {x with h:=h'} c Q ρ ds F),W x c Q ρ ds (A++F)
 | [],F,_,K=>K x.h ⟨fun _ _ q=>q,fun _ q=>q⟩ (fun _ _ h=>by cases h)
 | (b,o)::A,F,hc,K=>W.freeze (Gu (hc b o (bT ..))) fun h1 zD hb _=>W.XO (x:={x with h:=h1}) (fun b o h=>hc b o (dH _ h)) fun h2 NY hL=>K h2 (zD.trans NY) fun b' o' h=>by
   rcases bU.1 h with e | h
   ·cases e;exact NY.1 _ _ hb
   exact hL b' o' h
theorem ab5{l:List uV}(fP:∀p∈l,XG (nH D.gs p.x.ks D.ps) p.x.d p.v p.E):∀b o,(b,o)∈bM l->o.isChan=false:=fun b o hb=>by
 obtain⟨F,hF,hbF⟩:=List.mem_flatten.1 hb;obtain⟨p,hp,rfl⟩:=List.mem_map.1 hF;rcases bU.1 hbF with e | hbF
 ·cases e;rfl
 have hs:=fP p hp;revert hs
 cases hw:nH D.gs p.x.ks D.ps with
 | none=>rintro⟨-,e⟩;rw[e]at hbF;cases hbF
 | some w=>rintro⟨s,-,hR⟩;exact hR.cl b o hbF
theorem akt{T:Type}{st:Nat->T->Option T}{N:Nat}:∀{l:List Nat} {t e:T},goG st N t l e->∀i∈l,i<N
 | [],_,_,_,i,h=>by cases h
 | k::l,t,e,⟨hk,u,hu,h⟩,i,hi=>by
  rcases bU.1 hi with rfl | hi
  ·exact hk
  exact akt h i hi
theorem ab6{gs:List Ag}{ks:List Int}{ps:Int}{l:List Int}(hN:gs.length<=4)(h:nH gs ks ps=some l):∀a∈l,∃i:Nat,a=(i:Int)/\i<gs.length:=by
 unfold nH at h;rw[jR]at h;obtain⟨w,h1,rfl⟩:=h;obtain⟨-,e,hg,-⟩:=(UJ hN dF).1 w h1;intro a ha;obtain⟨i,hi,rfl⟩:=List.mem_map.1 ha;exact⟨i,O,akt hg i hi⟩

def Po(l:List Int):Int:=l.foldl (· + ·) 0
theorem XP{l:List Int}{a:Int}:Po (l++[a])=Po l+a:=by simp[Po]
theorem afA{l:List Int}(h:∀a∈l,0<=a/\a<=9):∀k,0<=Po (l.take k)/\Po (l.take k)<=9*(k:Int)
 | 0=>by simp[Po]
 | k+1=>by
  have ih:=afA h k;rcases bQ k l.length with hk | hk
  ·rw[List.take_add_one,jh hk];have:=h l[k] (List.getElem_mem ..);have e:Po (l.take k++(some l[k]).toList)=Po (l.take k)+l[k]:=XP;rw[e];omega
  rw[List.take_of_length_le aj]at ih⊢;omega
theorem aqV(main:aN)(h:Hp)(l:List Int)(v:Value)(hf:Sl h bY v l)(hl:l.length<=1000)(hb:∀a∈l,0<=a/\a<=9):Pu aV main aaJ #[v] h (I (Po l)):=by
 obtain⟨a,cap,rfl⟩:=hf.aU;refine bG.bH func51 [(0,.slice a l.length cap)] ?_;refine Qv ?_;refine W.loop (σ:=Nat) (fun k=>k<=l.length) (fun k=>[(8,I k),(7,I l.length),(6,.slice a l.length cap),(3,I (Po (l.take k)))]) (fun _=>[]) (fun k=>l.length-k) 0 (Nat.zero_le _) iw .refl ?_;rintro k hk;refine kJ ?_;refine W.aJ O (fun c9=>?_) (fun c9=>?_)
 ·obtain⟨x,hp,yI⟩:=has (show k<l.length by omega);obtain⟨b,off,c,E,fz,rfl,hbb,hx,hy,hz⟩:=hf.at hp;have Aq:c[off+k*1]? =some (I x):=hz 0 dF;have hxb:=hb x (dL hp);have hs:=afA hb k;have Gt:Po (l.take (k+1))=Po (l.take k)+x:=by rw[List.take_add_one,hp];exact XP
  clear hx hz;refine Qs ?_;refine zW rfl rfl rfl<|aA.nil<|iE<|fH<|W.region rfl ?_;refine gI ?_;exact⟨O,k+1,aj,aj,⟨O,O,O,lk O (by rw[Gt]),trivial⟩,qE⟩
 obtain rfl:k=l.length:=by omega
 refine iC ?_;refine lQ ?_;show I _=I _;rw[List.take_length]

def Mo.agC(N:Mo)(a:Int):Int:=match N.gs[a.toNat]? with
 | some g=>g.co
 | none=>0
def Mo.DY(N:Mo)(i:Int):List Int:=((N.way i.toNat).getD []).map N.agC
def Mo.cost(N:Mo):Int:=Po ((mV N.mi).flatMap N.DY)
theorem mem_set{a:Int}(h:a∈mV M):∃i:Nat,a=(i:Int)/\i<M.l.length/\Gj M i=true:=by
 simp only[mV,zs,O0,List.mem_map,List.mem_filter,List.mem_range,decide_eq_true_eq]at h;obtain⟨i,⟨h1,h2⟩,rfl⟩:=h;refine⟨i,O,h1,?_⟩
 cases hc:Gj M i with
 | true=>rfl
 | false=>rw[afx hc]at h2;exact absurd h2 dF
theorem ZA:(mV M).length<=M.l.length:=by
 unfold mV;rw[rZ];exact Nat.le_trans (List.length_filter_le ..) (by simp)
theorem ahg{l:List Int}{k:Nat}{a:Int}(h:l[k]? =some a):(l.take (k+1)).flatMap f=(l.take k).flatMap f++f a:=by
 rw[List.take_add_one,h];simp
theorem XQ{l:List Int}(h:∀a,(f a).length<=5):(l.flatMap f).length<=5*l.length:=by
 induction l with
 | nil=>simp
 | cons a l ih=>have:=h a;simp only[List.flatMap_cons,jA,gK]at ih⊢;omega
theorem yD.At.DY(H:D.At h)(i:Int):(D.mo.DY i).length<=5/\∀c∈D.mo.DY i,0<=c/\c<=9:=by
 unfold Mo.DY
 cases hw:D.mo.way i.toNat with
 | none=>exact⟨by simp,fun c hc=>by simp at hc⟩
 | some w=>
  have hb:∃x:Mt,nH D.gs x.ks D.ps=some w:=by
   unfold Mo.way at hw;split at hw
   ·rename_i x _;exact⟨x,hw⟩
   cases hw
  obtain⟨x,hb⟩:=hb;have uU:=Iq.xE H.gk;refine⟨by simpa using DK uU.len hb,fun c hc=>?_⟩;obtain⟨a,ha,rfl⟩:=List.mem_map.1 hc;obtain⟨j,rfl,hj⟩:=ab6 uU.len hb a ha;unfold Mo.agC;rw[Int.toNat_natCast,show D.mo.gs=D.gs from rfl,jh hj];have:=(uU.ag _ (List.getElem_mem hj)).2.2.2.2;simp only;omega

theorem aqW{main:aN}(hS:∀S,main.ok S->∃Fin,S=Mn aV Fin)(qJ:main.b=true)(h:Hp)(D:yD)(H:D.At h):bG aV main YN #[D.V] h [] (fun v F=>v= .tuple #[I D.mo.cost,I 0]/\eH F):=by
 have h4:=H.m4;refine bG.bH func20 [(0,D.V)] ?_;refine d_ ?_;refine aA.box (fun vg=>?_);refine lg ?_;refine c0 (fun h' hE hL=>acu hS qJ h' D (H.ext hE) [] _ .nil (fun n hn=>by cases hn) (Nat.zero_le _)) (fun v A' hv=>?_);obtain⟨u,kb,mb,rfl,X,l,vp,S,rfl,hl,fP,hO,bF⟩:=hv;refine aA.sb (bF.app .refl) ?_;refine oz ?_;refine W.aJ O (fun BO=>?_) (fun BO=>?_)
 ·exact absurd O BO
 refine d_ ?_
 refine W.sb (F':=(X,.cells (mG D.va D.nS D.vr D.vf D.vm vp D.ps kb) gB (0,0))::(S++(bM l++[(vg,.cells #[D.va,I D.ps,D.nS,D.vr,D.vf,D.vm] fC (0,0))]))) (.cons (by
  show Sb (S++(bM l++[_])) ((S++(pX kb mb []++bM l))++[_]);rw[eF,eF];exact .app .refl (.left .refl wu))) ?_
 refine W.Ws D H hl fP hO (fun h1 zD HM=>?_);have E8:=Lu (X:=X) (kb:=kb) (vp:=vp) hl;have Xz:l.length=D.jJ.length:=by rw[<-hl];simp
 have P7:=ZA (M:=D.mo.mi);have hmn:D.mo.mi.l.length=D.jJ.length:=by show(List.map _ (List.map _ _)).length=_;simp
 obtain⟨ag,cg',eg⟩:=H.ga.aU;refine kR ?_;refine cg (A:=bM l) (.head (A:=bM l)) (fun h' hE hL=>aoA hS qJ h' _ (HM.ext hE)) (fun v A' hv=>?_);obtain⟨S2,Ci,pJ⟩:=hv;rw[E8.set]at Ci;obtain⟨a2,c2,rfl⟩:=Ci.aU;refine aA.sb (F':=S2++(bM l++[(vg,.cells #[D.va,I D.ps,D.nS,D.vr,D.vf,D.vm] fC (0,0))])) (by rw[<-eF];exact pJ.app .refl) ?_;refine lF ?_;refine eY Ci (fun h2 NY Oa hz2=>?_);refine W.XO (ab5 fP) (fun h3 hE3 hLp=>?_);replace Oa:=Oa.ext hE3;have HM3:=(HM.ext NY).ext hE3;have H3:=((H.ext zD).ext NY).ext hE3;obtain⟨EX,zX,hX⟩:=HM3.cx;have Oj:=HM3.vp;obtain⟨av,cv',ev'⟩:=Oj.aU;rw[List.length_map]at ev';unfold oU.C at hX;rw[ev']at hX Oj;have hX:h3 X=some (.cells (mG D.va D.nS D.vr D.vf D.vm (.slice av l.length cv') D.ps kb) EX zX):=hX;have hga:=H3.ga;rw[eg]at hga
 refine W.loop (σ:=Nat×Value×ah) (fun s=>s.1<=(mV D.mo.mi).length/\Os aX bY s.2.1 (((mV D.mo.mi).take s.1).flatMap D.mo.DY) s.2.2) (fun s=>[(24,I s.1),(23,I (mV D.mo.mi).length),(22,.slice a2 (mV D.mo.mi).length c2),(4,aG X),(1,aG vg),(6,s.2.1)])
  (fun s=>(vg,.cells #[D.va,I D.ps,D.nS,D.vr,D.vf,D.vm] fC (0,0))::s.2.2) (fun s=>(mV D.mo.mi).length-s.1) (0,.slice none 0 0,[]) ⟨Nat.zero_le _,.nil .nil⟩ iw .refl ?_
 rintro⟨k,v,S⟩ ⟨hk,hO⟩;simp only at hk hO⊢;refine kJ ?_;refine W.aJ O (fun JW=>?_) (fun JW=>?_)
 ·obtain⟨a,ha,-⟩:=has (show k<(mV D.mo.mi).length by omega);obtain⟨i,rfl,hi,hic⟩:=mem_set (dL ha);have CV:=ahg (f:=D.mo.DY) ha;have ayc:=XQ (l:=(mV D.mo.mi).take k) (fun i=>(H.DY i).1);have htk:((mV D.mo.mi).take k).length<=4:=by simp;omega
  obtain⟨p,hp,hpm,hw⟩:=ab4 hl (show i<D.jJ.length by omega)
  obtain⟨w,Lh⟩:∃w,nH D.gs p.x.ks D.ps=some w:=by
   rw[<-E8.lI]at hic;unfold Gj at hic;rw[show(oU.of D X kb vp l).l[i]? =some p from hp]at hic;exact iJ.1 hic
  have IW:D.mo.DY i=w.map D.mo.agC:=by unfold Mo.DY;rw[Int.toNat_natCast,hw,Lh];rfl
  have hw5:=DK (Iq.xE H.gk).len Lh;have ayd:=ab6 (Iq.xE H.gk).len Lh;obtain⟨sa,n,sc,z,hta,htl⟩:=aks (fP p (dL hp));obtain⟨hR,rfl,-⟩:=htl w Lh;have hRs:=hR.rd h3 fun b o hb=>hLp b o (XM hp hb);have hpB:=hLp _ _ (Pm hp);obtain⟨bs,os,cs,Es,fs,rfl,hbs,hxs,hys,hzs⟩:=Oa.at ha;have auA:cs[os+k*1]? =some (I i):=hzs 0 dF;clear hxs hzs;obtain⟨b,off,c,E,fz,rfl,hb,hx,hy,hz⟩:=Oj.at (show(l.map (·.B))[i]? =some p.B by rw[iL,hp];rfl);have Aq:c[off+i*1]? =some (aG p.B):=hz 0 dF;clear hx hz;have Gp:i<l.length:=by omega
  obtain⟨ao,co,rfl⟩:=hO.aU;refine asY ?_;refine b_ (yta hta O O) O ?_;refine gI ?_;refine aA.new (fun Oi=>?_);refine iC ?_
  refine W.loop (σ:=Nat×Value×ah) (fun s=>s.1<=w.length/\Os aX bY s.2.1 (((mV D.mo.mi).take k).flatMap D.mo.DY++(w.take s.1).map D.mo.agC) s.2.2) (fun s=>[(45,I s.1),(44,I w.length),(43,.slice sa w.length sc),(24,I k),(23,I (mV D.mo.mi).length),(22,.slice (some ⟨bs,os,none⟩) (mV D.mo.mi).length c2),(4,aG X),(1,aG vg),(6,s.2.1)])
   (fun s=>(vg,.cells #[D.va,I D.ps,D.nS,D.vr,D.vf,D.vm] fC (0,0))::s.2.2) (fun s=>w.length-s.1) (0,_,S) ⟨Nat.zero_le _,by simpa using hO⟩ ⟨O,O,O,O,O,O,O,O,O,trivial⟩ (.skip O .refl) ?_
  rintro⟨j,v2,S3⟩ ⟨hj,hO3⟩;simp only at hj hO3⊢;obtain⟨ao3,co3,rfl⟩:=hO3.aU;refine kJ ?_;refine W.aJ O (fun c46=>?_) (fun c46=>?_)
  ·obtain⟨a',YD,-⟩:=has (show j<w.length by omega);obtain⟨g,rfl,hg⟩:=ayd a' (dL YD);obtain⟨G,hG,-⟩:=has hg;obtain⟨bw,ow,cw,Ew,fw,rfl,hbw,hxw,hyw,hzw⟩:=hRs.at YD;have aAB:cw[ow+j*1]? =some (I g):=hzw 0 dF;clear hxw hzw;obtain⟨bg,og,cg2,Eg,fg,rfl,hbg,hxg,hyg,hzg⟩:=hga.at hG;have asN:cg2[og+g*5+4]? =some (I G.co):=hzg 4 dF;clear hxg hzg;have hag:D.mo.agC g=G.co:=by unfold Mo.agC;rw[Int.toNat_natCast,show D.mo.gs=D.gs from rfl,hG]
   have Gt:(w.take (j+1)).map D.mo.agC=(w.take j).map D.mo.agC++[G.co]:=by rw[List.take_add_one,YD,<-hag];simp
   refine CW ?_;refine Gh (u:=.slice (some ⟨bg,og,none⟩) D.gs.length cg') (CG O O) eg O wn O O ?_;refine lF ?_;refine aA.zZ (cs:= #[I G.co]) (fun aye=>?_) O;refine oe O wn O O (bV (row:=bY) (l':=[G.co]) O O O hO3 (.tail (.tail .all)) (fun h2 _ hl=>Sl.mk (hl aye _ (.head _)) O (Part.all [I G.co])) (by simp only[jA,List.length_map,List.length_take,gK,List.length_nil];omega) dF O (fun v' S' xM=>?_));refine zW rfl rfl rfl<|aA.nil<|iE<|fH<|W.region rfl ?_;refine gI ?_;exact⟨O,(j+1,v',S'),⟨by simp only;omega,by simp only;rw[Gt,<-eF];exact xM⟩,by simp only;omega,iw,.skip O .refl⟩
  refine gZ ?_;obtain rfl:j=w.length:=by omega
  rw[List.take_length,<-IW,<-CV]at hO3;exact⟨O,(k+1,_,S3),⟨by simp only;omega,hO3⟩,by simp only;omega,⟨O,O,O,O,O,lk O (by rw[CV,IW,List.take_length]),trivial⟩,.refl⟩
 obtain rfl:k=(mV D.mo.mi).length:=by omega
 rw[List.take_length]at hO;have ayc:=XQ (l:=mV D.mo.mi) (fun i=>(H.DY i).1);refine kR ?_;refine cp (fun h' hE hL=>aqV _ h' _ _ (hO.sl fun b o hb=>hL b o (.tail _ hb)) aj (fun c hc=>?_)) ?_
 ·obtain⟨i,-,hc⟩:=List.mem_flatMap.1 hc;exact(H.DY i).2 c hc
 refine lF ?_;exact iQ (vs:=[_,_]) ⟨O,.cons O hO.shut⟩
variable{x:Cx}{Q:fO}{ρ:Env}{F:ah}{o:Oper}{R:Value->ah->Prop}
theorem At.mem{o:Obj}{F:ah}(h:At b o F U):(b,o)∈F:=by
 obtain⟨F1,F2,rfl,-⟩:=h.split;exact bZ _ (.head _)
theorem anf{t' E wO:Nat}{yx:Operand}{off n cap J8 n' f_:Nat}{c:Array Value}{C:TypeId}{vs:List Value}(ho:o.op= .call ⟨.builtin .copy, #[y,yx], #[t,t']⟩)[TD x.P t (.slice E)][TI x.P E 1 wO z zc]
  (hy:ev ρ y=some (.slice (some ⟨b,off,none⟩) n cap)) (hx:ev ρ yx=some (.slice (some ⟨b,J8,none⟩) n' f_)) (hl:At b (.cells c C (0,0)) F U) (hm:Nat.min n' n=vs.length) (hv:c.extract J8 (J8+vs.length)=vs.toArray) (h1:lC vs=true) (Og:J8+vs.length<=c.size) (hc:off+vs.length<=c.size)
  (H:R (.int .i64 vs.length) (U (.cells (gQ c off vs) C (0,0)))):Ef x ρ o F R:=
 Ef.uY fun e he h' hE=>by
  simp only[execOp,ho,resolve,invoke,builtin,Builtin.copy_,List.map_toArray,dQ,List.map_nil,he y _ hy,he yx _ hx,List.getElem?_toArray,List.getElem?_cons_zero,List.getElem?_cons_succ,bind_eq,au,bind_assoc,bind_pure,aF,Builtin.lenOf,fF,hm,Builtin.firstCells,loadCells,Nat.mul_one];refine cu (jL (.inr hl.mem) _ 0 #[] aj ?_);simp only[Nat.add_zero,Array.empty_append,hv];refine cu (l9 vs 0 c h1 hl aj ?_);exact⟨_,.inl O,by simpa[goInt]using H⟩
end Go.jc

namespace Go.jc
section
variable{x:Cx}{ρ:Env}{F:ah}{o:Oper}{R:Value->ah->Prop}
theorem ang{t t' E wO c:Nat}{z:Value}{zc:Array Value}{y yx:Operand}{xv:Value}{b cap:Nat}{C:Array Value}{T:TypeId}{a:Int}{U:Obj->ah}(ho:o.op= .call ⟨.builtin .copy, #[y,yx], #[t,t']⟩)[TD x.P t (.slice E)][TI x.P E 1 wO z zc]
  (hy:ev ρ y=some (.slice (some ⟨b,0,none⟩) c cap)) (hx:ev ρ yx=some xv) (hs:Sl x.h bY xv [a]) (hl:At b (.cells C T (0,0)) F U) (hc:c<=C.size)
  (H:R (I (min 1 c:Nat)) (U (.cells (gQ C 0 (List.replicate (min 1 c) (I a))) T (0,0)))):Ef x ρ o F R:=by
 rcases c with _ | c
 ·refine Ef.uY fun e he h' hE=>?_;have xK:=Sl.ext hE hs;obtain⟨a,cp,rfl⟩:=hs.aU;have asZ:Nat.min [a].length 0=0:=rfl;simp only[execOp,ho,resolve,invoke,builtin,Builtin.copy_,List.map_toArray,dQ,List.map_nil,he y _ hy,he yx _ hx,List.getElem?_toArray,List.getElem?_cons_zero,List.getElem?_cons_succ,bind_eq,au,bind_assoc,bind_pure,aF,Builtin.lenOf,fF,Nat.min_zero,gK,List.length_nil]
  have e0:Builtin.firstCells 1 0 (.slice a 1 cp)=pure #[]:=by
   cases a <;>rfl
  simp only[Nat.zero_add,show Nat.min 1 0=0 from rfl,e0,bind_eq,au];obtain⟨F1,F2,e1,e2⟩:=hl.split;have H':=H;rw[show min 1 0=0 from rfl,List.replicate_zero,gQ,e2,<-e1]at H';exact⟨_,.inl O,H'⟩
 have e1:min 1 (c+1)=1:=by omega
 rw[e1]at H;exact adb (row:=bY) (l:=[a]) ho hy hx hs (by simp) hl (by simp;omega) H
end
theorem aku(main:aN)(h:Hp)(c:Nat)(hc:c<=4):Pu aV main Nh #[.int .u64 1,.int .u64 c] h (.tuple #[.int .u64 0,.int .u64 c]):=by
 refine bG.bH func114 [(0,.int .u64 1),(1,.int .u64 c)] ?_;have Og:c=0\/c=1\/c=2\/c=3\/c=4:=by omega
 rcases Og with rfl | rfl | rfl | rfl | rfl
 all_goals
  refine Qs ?_;refine b_ (AB O O O aj) O ?_;refine iC ?_;refine b_ (AB O O O aj) O ?_;refine lg ?_
  first | refine b_ (TL rfl rfl rfl) rfl ?_ | refine b_ (yU rfl rfl rfl) rfl ?_
  refine lg ?_
  first | refine b_ (TL rfl rfl rfl) rfl ?_ | refine b_ (yU rfl rfl rfl) rfl ?_
  refine zT ?_;refine b_ (AB O O O aj) O ?_;refine oz ?_;refine b_ (AB O O O aj) O ?_;refine jk ?_
  first | refine b_ (TL rfl rfl rfl) rfl ?_ | refine b_ (yU rfl rfl rfl) rfl ?_
  refine jk ?_
  first | refine b_ (TL rfl rfl rfl) rfl ?_ | refine b_ (yU rfl rfl rfl) rfl ?_
  refine gI ?_;refine b_ (AB O O O aj) O ?_;refine jk ?_
  first | refine b_ (TL rfl rfl rfl) rfl ?_ | refine b_ (yU rfl rfl rfl) rfl ?_
  refine gI ?_;refine lQ ?_;kernel_rfl
theorem aqX(main:aN)(h:Hp)(c:Nat)(hc:c<=4):Pu aV main Qz #[.int .u64 1,.int .u64 c] h (.tuple #[.int .u64 0,.int .u64 c]):=by
 refine bG.bH func80 [(0,.int .u64 1),(1,.int .u64 c)] ?_;refine lg ?_;refine W.iq ?_;refine lg ?_;refine cp (fun h' hE hL=>aku _ h' c hc) ?_;refine Qs ?_;exact lQ O
theorem ahh(main:aN)(h:Hp)(n:Int)(v:Value)(c:Nat)(hv:Sl h bY v [n])(hc:c<=4):bG aV main Jk #[v,I c] h [] (fun v A=>Os aX bY v (List.replicate c n) A):=by
 obtain⟨a,cap,rfl⟩:=hv.aU;refine bG.bH func53 [(0,.slice a 1 cap),(1,I c)] ?_;refine gZ ?_;refine W.aJ O (fun Xe=>?_) (fun Xe=>?_)
 ·exact absurd Xe aj
 refine lg ?_;refine Gh (GL O O) (show _=Value.int .u64 1 from rfl) O wn O O ?_;refine zT ?_;refine Gh (GL O O) (congrArg (Value.int .u64) (show(c:Int) % (18446744073709551616:Int)=c by omega)) O wn O O ?_;refine cp (fun h' hE hL=>aqX _ h' c hc) ?_;refine gZ ?_;refine Gh (WH O O O) (show _=Value.bool false from rfl) O wn O O ?_;refine d_ ?_;refine Gh (WH O O O) (congrArg Value.bool (decide_eq_false aj)) O (aI O O O) O O ?_;refine d_ ?_;refine W.iq ?_;refine kJ ?_;refine Gh (GL O O) (congrArg (Value.int .i64) (AA aj aj)) O wn O O ?_;refine oe O wn O O (abm (n:=c) O O O aj (fun UW=>?_));refine lg ?_;refine oe O wn O O (ang (c:=c) O O O hv .head (by simp) ?_);refine lF ?_;refine W.loop (σ:=Nat×Array Value) (fun t=>t.1<=c/\Part t.2 0 (List.replicate t.1 (I n))/\t.2.size=c/\(0<c->0<t.1)) (fun t=>[(8,I t.1),(7,.slice (some ⟨UW,0,none⟩) c c)]) (fun t=>[(UW,.cells t.2 aX (0,0))]) (fun t=>c-t.1) (min 1 c,gQ (List.replicate c (I 0)).toArray 0 (List.replicate (min 1 c) (I n))) ⟨by dsimp only;omega,?_,by dsimp only;rw[wQ];simp,by dsimp only;omega⟩ iw .refl ?_
 ·have:=AQ (List.replicate (min 1 c) (I n)) (List.replicate c (I 0)).toArray (xs:=[]) ⟨[],_,O,O⟩ (by simp;omega);simpa using this
 rintro⟨m,X⟩ ⟨hm,hX,oH,hm0⟩;dsimp only at*;refine kR ?_;refine W.aJ O (fun c37=>?_) (fun c37=>?_)
 ·have hmc:m<c:=by omega
  have Q9:=hm0 aj;have hkm:min m (c-m)<=m:=by omega
  have hXk:Part X 0 (List.replicate (min m (c-m)) (I n)):=Part.sub (c:=X) (off:=0) (a:=[]) (b:=List.replicate (min m (c-m)) (I n)) (d:=List.replicate (m-min m (c-m)) (I n)) (by
   rw[List.nil_append,List.replicate_append_replicate,Nat.add_sub_cancel' hkm];exact hX)
  have hXe:=hXk.extract
  have hXn:Part (gQ X m (List.replicate (min m (c-m)) (I n))) 0 (List.replicate (m+min m (c-m)) (I n)):=by
   have:=AQ (List.replicate (min m (c-m)) (I n)) X hX (by simp;omega);rw[List.length_replicate,List.replicate_append_replicate]at this;exact this
  have apK:∀k,lC (List.replicate k (I n))=true:=fun k=>by
   induction k with
   | zero=>rfl
   | succ k ih=>rw[List.replicate_succ];exact ih
  refine gI ?_;refine W.kQ [] (n:=10) O ?_;refine ay 0 ?_;refine ay 1 ?_;refine ay 2 ?_
  refine aqe (i:=3) (agA O O O) (show _=Value.slice (some ⟨UW,m,none⟩) (c-m) (c-m) by
   rw[if_neg (show¬c=m by omega)];simp[kF]) O an O O ?_
  refine ay 4 ?_;refine ay 5 ?_;refine fJ 6 (WU rfl rfl rfl (by first | exact .inl rfl | exact .inr rfl | assumption)) rfl ?_;refine ae (i:=7) O an O O (anf (vs:=List.replicate (min m (c-m)) (I n)) O O O .head (by rw[List.length_replicate]) hXe (apK _) (by rw[List.length_replicate];omega) (by rw[List.length_replicate];omega) ?_);refine⟨.inr aC.nil,?_⟩;rw[List.length_replicate];refine ay 8 ?_;refine ay 9 ?_;refine az ?_;refine d_ ?_;exact⟨O,(m+min m (c-m),_),⟨by dsimp only;omega,hXn,by dsimp only;rw[wQ];exact oH,fun _=>by dsimp only;omega⟩,by dsimp only;omega,⟨lk O (show I _=I _ by congr 1),O,trivial⟩,.refl⟩
 refine iC ?_;obtain rfl:m=c:=by omega
 refine iQ (vs:=[.slice (some ⟨UW,0,none⟩) m m]) (.inr ⟨UW,X,m,[],by rw[List.length_replicate];rfl,O,by rw[oH,Nat.mul_one],by rw[List.length_replicate];exact Nat.le_refl _,?_,.nil⟩);rw[adL,List.map_replicate];exact hX
end Go.jc
