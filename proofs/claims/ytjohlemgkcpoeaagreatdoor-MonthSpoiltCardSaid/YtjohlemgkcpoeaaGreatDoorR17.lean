/- Where the syrup of what is set goes. Conditions: none; over the given program. (And 9 texts more.) -/
import Derived.Test.YtjohlemgkcpoeaaGreatDoorR16
import Derived.Test.YtjohlemgkcpoeaaGreatDoorR13
import Derived.Test.YtjohlemgkcpoeaaGreatDoorR10
set_option linter.unusedVariables false
set_option linter.unusedSimpArgs false
set_option linter.unusedSectionVars false
set_option maxRecDepth 100000
set_option maxHeartbeats 4000000

open Go.Proofs.Tryz
namespace Go.jc
def ltI(N:Mo)(i:Int):Lt:=match N.mts[i.toNat]? with
 | some x=>⟨x.qu,x.co⟩
 | none=>⟨0,0⟩
def Mo.JE(N:Mo):List Lt:=(mV N.mi).map (ltI N)
def ab7(n:Nat)(st sh:List Int)(k:Nat):List Int:=((st.zip sh).take k).foldl (fun o x=>o.set x.1.toNat x.2) (List.replicate n (-1))
theorem akv{n:Nat}{st sh:List Int}:∀k,(ab7 n st sh k).length=n:=fun k=>by
 unfold ab7
 have:∀(l:List (Int×Int)) (o:List Int),(l.foldl (fun o x=>o.set x.1.toNat x.2) o).length=o.length:=fun l=>by
  induction l with
  | nil=>intro o;rfl
  | cons a l ih=>intro o;rw[List.foldl_cons,ih];simp
 rw[this];simp
variable{A F:ah}{D:yD}{h:Hp}{i k:Nat}{kv v v' vm':Value}{o:Oper}{α:Type}{P S a b c x:List α}{ρ:Env}
theorem ahi{n:Nat}{st sh:List Int}{s:Int}(h:st[k]? =some (i:Int))(h':sh[k]? =some s):ab7 n st sh (k+1)=(ab7 n st sh k).set i s:=by
 unfold ab7;have e:(st.zip sh)[k]? =some ((i:Int),s):=by simp[List.zip,List.getElem?_zipWith,h,h']
 rw[List.take_add_one,e];simp
def yD.share(D:yD):List Int×Int×Int:=sD D.Vj D.mo.JE D.rs
def yD.out(D:yD):List Int:=ab7 D.jJ.length (mV D.mo.mi) D.share.1 (mV D.mo.mi).length
theorem ad7{ps:List Pn}{ls:List Lt}{rs:List Int}(h:jP ps ls rs=0):(sD ps ls rs).1.length=ls.length:=by
 unfold sD;rw[if_neg (by rw[h];decide)];obtain⟨s0,rest,hs0⟩:=List.exists_cons_of_ne_nil (XC (ps:=ps) (ls:=ls) (rs:=rs));rw[hs0];exact DL (UL (by rw[hs0];exact bT ..))
theorem yD.At.shE(H:D.At h):jP D.Vj D.mo.JE D.rs=0:=by
 have hsk:=H.sk;have h4:=H.m4;have P7:=ZA (M:=D.mo.mi);have hmn:D.mo.mi.l.length=D.jJ.length:=by show(List.map _ (List.map _ _)).length=_;simp
 unfold jP at hsk⊢;split at hsk
 ·rename_i h1;exact absurd hsk h1
 rename_i h1;rw[if_neg h1];split at hsk
 ·rename_i h2;exact absurd hsk h2
 have zU:NM D.mo.JE=0:=by
  unfold NM;rw[if_neg (by simp[Mo.JE];omega),if_neg];rw[Bool.not_eq_true,List.any_eq_false];intro x hx;obtain⟨a,ha,rfl⟩:=List.mem_map.1 hx;obtain⟨i,rfl,hi,-⟩:=mem_set ha;have him:i<D.mo.mts.length:=by show i<(D.jJ.map (·.2)).length;rw[List.length_map];omega
  unfold ltI;rw[Int.toNat_natCast,jh him];obtain⟨m,hm,e⟩:=List.mem_map.1 (List.getElem_mem him);have uU:=(H.me m hm).2.2;rw[<-e];have h1:=uU.qu;have h2:=uU.co;show¬Dy ⟨m.2.qu,m.2.co⟩=true;have e1:¬outs m.2.qu 0 12:=by simp only[outs];omega
  have e2:¬outs m.2.co 1 9:=by simp only[outs];omega
  simp[Dy,e1,e2]
 rw[if_neg (by rw[zU];decide)];exact hsk

theorem anh{main:aN}(hS:∀S,main.ok S->∃Fin,S=Mn aV Fin)(qJ:main.b=true)(h:Hp)(D:yD)(H:D.At h):bG aV main VF #[D.V] h [] (fun v F=>∃u S,v= .tuple #[u,I D.share.2.1,I 0]/\Os aX bY u D.out S/\Sb S F):=by
 have h4:=H.m4;have hse:=H.shE;have ayf:=ad7 hse;have ayg:D.share.2.2=0:=by unfold yD.share sD;rw[if_neg (by rw[hse];decide)]
 refine bG.bH func21 [(0,D.V)] ?_;obtain⟨am,cm,em⟩:=H.mm.aU;obtain⟨ap,cp',ep⟩:=H.pn.aU;obtain⟨ar,cr,er⟩:=H.rr.aU;refine d_ ?_;refine aA.box (fun vg=>?_);refine jk ?_;refine c0 (fun h' hE hL=>acu hS qJ h' D (H.ext hE) [] _ .nil (fun n hn=>by cases hn) (Nat.zero_le _)) (fun v A' hv=>?_);obtain⟨u,kb,mb,rfl,X,l,vp,S,rfl,hl,fP,hO,bF⟩:=hv;refine aA.sb (bF.app .refl) ?_;refine oz ?_;refine W.aJ O (fun c22=>?_) (fun c22=>?_)
 ·exact absurd O c22
 refine d_ ?_
 refine W.sb (F':=(X,.cells (mG D.va D.nS D.vr D.vf D.vm vp D.ps kb) gB (0,0))::(S++(bM l++[(vg,.cells #[D.va,I D.ps,D.nS,D.vr,D.vf,D.vm] fC (0,0))]))) (.cons (by
  show Sb (S++(bM l++[_])) ((S++(pX kb mb []++bM l))++[_]);rw[eF,eF];exact .app .refl (.left .refl wu))) ?_
 refine W.Ws D H hl fP hO (fun h1 zD HM=>?_);have E8:=Lu (X:=X) (kb:=kb) (vp:=vp) hl;have Xz:l.length=D.jJ.length:=by rw[<-hl];simp
 have P7:=ZA (M:=D.mo.mi);have hmn:D.mo.mi.l.length=D.jJ.length:=by show(List.map _ (List.map _ _)).length=_;simp
 refine jk ?_;refine cg (A:=bM l) (.head (A:=bM l)) (fun h' hE hL=>aoA hS qJ h' _ (HM.ext hE)) (fun v A' hv=>?_);obtain⟨S2,Ci,pJ⟩:=hv;rw[E8.set]at Ci;obtain⟨a2,c2,rfl⟩:=Ci.aU;refine aA.sb (F':=S2++[(vg,.cells #[D.va,I D.ps,D.nS,D.vr,D.vf,D.vm] fC (0,0))]) ((Sb.trans (.right .refl (pY fP)) pJ).app .refl) ?_;refine d_ ?_;refine eY Ci (fun h2 NY Oa hz2=>?_);have H2:=(H.ext zD).ext NY;have hmm:=H2.mm;rw[em]at hmm;refine kR ?_
 refine W.loop (σ:=Nat×Value×ah) (fun s=>s.1<=(mV D.mo.mi).length/\Os anW Lt.row s.2.1 (D.mo.JE.take s.1) s.2.2) (fun s=>[(28,I s.1),(27,I (mV D.mo.mi).length),(26,.slice a2 (mV D.mo.mi).length c2),(8,.slice a2 (mV D.mo.mi).length c2),(1,aG vg),(7,s.2.1)])
  (fun s=>(vg,.cells #[D.va,I D.ps,D.nS,D.vr,D.vf,D.vm] fC (0,0))::s.2.2) (fun s=>(mV D.mo.mi).length-s.1) (0,.slice none 0 0,[]) ⟨Nat.zero_le _,.nil .nil⟩ iw .refl ?_
 rintro⟨k,v,S⟩ ⟨hk,hO⟩;simp only at hk hO⊢;have hll:D.mo.JE.length=(mV D.mo.mi).length:=by simp[Mo.JE]
 refine kJ ?_;refine W.aJ O (fun c29=>?_) (fun c29=>?_)
 ·obtain⟨a,ha,-⟩:=has (show k<(mV D.mo.mi).length by omega);obtain⟨i,rfl,hi,hic⟩:=mem_set (dL ha);obtain⟨bs,os,cs,Es,fs,rfl,hbs,hxs,hys,hzs⟩:=Oa.at ha;have auA:cs[os+k*1]? =some (I i):=hzs 0 dF;clear hxs hzs;obtain⟨⟨kv,x⟩,hx0,-⟩:=has (show i<D.jJ.length by omega);obtain⟨bm,om,cmm,Em,fm,rfl,hbm,hxm,hym,hzm⟩:=hmm.at hx0;have hm4:cmm[om+i*5+4]? =some (I x.qu):=hzm 4 dF;have hm2:cmm[om+i*5+2]? =some (I x.co):=hzm 2 dF;clear hxm hzm
  have fK:ltI D.mo i=⟨x.qu,x.co⟩:=by
   unfold ltI;rw[Int.toNat_natCast,show D.mo.mts=D.jJ.map (·.2)from rfl,iL,hx0];rfl
  have Gt:D.mo.JE.take (k+1)=D.mo.JE.take k++[⟨x.qu,x.co⟩]:=by
   rw[List.take_add_one,Mo.JE,iL,ha,<-fK];rfl
  obtain⟨ao,co,rfl⟩:=hO.aU;refine gZ ?_;refine W.kQ [(vg,.cells #[D.va,I D.ps,D.nS,D.vr,D.vf,D.vm] fC (0,0))] (n:=17) O ?_;refine ay 0 ?_;refine ay 1 ?_;refine aqe (i:=2) (u:=.slice (some ⟨bm,om,none⟩) D.jJ.length cm) (CG O O) em O an O O ?_;refine ay 3 ?_;refine ay 4 ?_;refine ay 5 ?_;refine ay 6 ?_;refine ay 7 ?_;refine aqe (i:=8) (u:=.slice (some ⟨bm,om,none⟩) D.jJ.length cm) (CG O O) em O an O O ?_;refine ay 9 ?_;refine ay 10 ?_;refine ay 11 ?_;refine ay 12 ?_;refine ay 13 ?_;refine abl (i:=14) (cs:= #[I x.qu,I x.co]) (fun Le=>?_) O (hf:=by kernel_rfl);refine ae (i:=15) O an O O (bV (row:=Lt.row) (l':=[(⟨x.qu,x.co⟩:Lt)]) O O O hO (.tail (.tail .all)) (fun h2 _ hl=>Sl.mk (hl Le _ (.head _)) O (Part.all (Lt.row ⟨x.qu,x.co⟩))) (by simp;omega) dF O (fun v' S' xM=>?_));refine⟨.inr (by repeat(first | exact aC.nil | refine aC.one zS ?_)),?_⟩;refine ay 16 ?_;refine az ?_;refine lg ?_;exact⟨O,(k+1,v',S'),⟨by simp only;omega,by simp only;rw[Gt];exact xM⟩,by simp only;omega,iw,.skip O .refl⟩
 obtain rfl:k=(mV D.mo.mi).length:=by omega
 rw[<-hll,List.take_length]at hO;obtain⟨ao,co,rfl⟩:=hO.aU;refine kR ?_;refine Gh (u:=.slice ap D.Vj.length cp') (CG O O) ep O wn O O ?_;refine d_ ?_;refine Gh (u:=.slice ar D.rs.length cr) (CG O O) er O wn O O ?_;refine c0 (fun h' hE hL=>abv _ h' D.Vj D.mo.JE D.rs _ _ _ (ep▸H2.pn.ext hE) (hO.sl fun b o hb=>hL b o (.tail _ hb)) (er▸H2.rr.ext hE)) (fun v A' hv=>?_);obtain⟨us,SS,rfl,hOS,aqT⟩:=hv;change Os aX bY us D.share.1 SS at hOS;rw[show(sD D.Vj D.mo.JE D.rs).2.2=0 from ayg];obtain⟨aS,cS,rfl⟩:=hOS.aU;refine aA.sb (F':=SS++[(vg,.cells #[D.va,I D.ps,D.nS,D.vr,D.vf,D.vm] fC (0,0))]) (aqT.app (.cons (.nil hO.shut))) ?_;refine Qs ?_;refine W.aJ O (fun c60=>?_) (fun c60=>?_)
 ·exact absurd O c60
 refine d_ ?_;refine eY hOS (fun h3 hE3 ayh hzS=>?_);replace Oa:=Oa.ext hE3;refine d_ ?_;refine aA.zZ (cs:= #[I (-1)]) (fun ayj=>?_) O;refine awJ O ?_;refine Gh (u:=.slice am D.jJ.length cm) (CG O O) em O wn O O ?_;refine zT ?_;refine c0 (fun h' hE hL=>ahh _ h' (-1) _ D.jJ.length (Sl.mk (hL ayj _ (.head _)) O (Part.all [I (-1)])) h4) (fun v A' hv=>?_);obtain⟨aR,cR,rfl⟩:=hv.aU;rw[List.length_replicate];refine gZ ?_
 refine W.loop (σ:=Nat×ah) (fun s=>s.1<=(mV D.mo.mi).length/\Os aX bY (.slice aR D.jJ.length cR) (ab7 D.jJ.length (mV D.mo.mi) D.share.1 s.1) s.2) (fun s=>[(69,I s.1),(68,I (mV D.mo.mi).length),(67,.slice a2 (mV D.mo.mi).length c2),(11,.slice aS D.share.1.length cS),(12,I D.share.2.1),(13,.slice aR D.jJ.length cR)])
  (fun s=>s.2) (fun s=>(mV D.mo.mi).length-s.1) (0,A') ⟨Nat.zero_le _,by simpa[ab7]using hv⟩ iw (.right .refl (.cons O (.cons O .nil))) ?_
 rintro⟨k,S⟩ ⟨hk,hOk⟩;simp only at hk hOk⊢;refine kJ ?_;refine W.aJ O (fun c70=>?_) (fun c70=>?_)
 ·obtain⟨a,ha,-⟩:=has (show k<(mV D.mo.mi).length by omega);obtain⟨i,rfl,hi,hic⟩:=mem_set (dL ha);have azV:D.share.1.length=D.mo.JE.length:=ayf;have hll:D.mo.JE.length=(mV D.mo.mi).length:=by simp[Mo.JE]
  obtain⟨s,hs,-⟩:=has (show k<D.share.1.length by omega);obtain⟨bs,os,cs,Es,fs,rfl,hbs,hxs,hys,hzs⟩:=Oa.at ha;have auA:cs[os+k*1]? =some (I i):=hzs 0 dF;clear hxs hzs;obtain⟨bS,oS,cSS,ES,fS,rfl,hbS,hxS,hyS,hzS⟩:=ayh.at hs;have aAC:cSS[oS+k*1]? =some (I s):=hzS 0 dF;clear hxS hzS;have him:i<D.jJ.length:=by omega
  have hlk:=akv (n:=D.jJ.length) (st:=mV D.mo.mi) (sh:=D.share.1) k;rcases id hOk with⟨he,-⟩ | ⟨βo,cc,f_,Jo,he,rfl,IW,DN,hpt,hJo⟩
  ·rw[he]at hlk;exact absurd hlk (by simp;omega)
  rw[hlk]at he
  cases he
  have oH:0+i*1<cc.size:=by rw[hlk]at DN;omega
  refine apy ?_;refine oe O wn O O (eS O O O ?_ (hc:=oH));refine aA.nil<|iE<|fH<|W.region rfl ?_;refine gI ?_;refine⟨O,(k+1,(βo,.cells (cc.setIfInBounds (0+i*1) (I s)) aX (0,0))::Jo),⟨by simp only;omega,?_⟩,by simp only;omega,iw,.refl⟩;simp only;rw[ahi ha hs];refine .inr ⟨βo,_,_,Jo,by rw[List.length_set,hlk],O,by simpa using IW,by rw[List.length_set];exact DN,?_,hJo⟩;rw[show 0+i*1=i by omega];exact hpt.O0 (by rw[hlk];exact him)
 obtain rfl:k=(mV D.mo.mi).length:=by omega
 refine Qs ?_;exact iQ (vs:=[_,_,_]) ⟨_,S,O,hOk,.refl⟩
theorem ahj(main:aN)(h:Hp)(ss:List (Value×Mt))(vs:Value)(hs:Sl h yM vs ss)(hn:ss.length<=1000):bG aV main Jm #[vs] h [] (fun v A=>∃S,Os kD yM v ss S/\Sb S A):=by
 obtain⟨a,cap,rfl⟩:=hs.aU;refine bG.bH func91 [(0,.slice a ss.length cap)] ?_;refine kR ?_;refine b_ (Rh O O) O ?_;refine qj ?_;refine W.cond O (fun c4=>?_) (fun c4=>?_)
 ·refine lg ?_
  have:ss=[]:=by
   cases a with
   | some a=>cases c4
   | none=>
    rcases hss:ss with _ | ⟨x,r⟩
    ·rfl
    obtain⟨b,off,c,E,fz,e,_⟩:=hs.at (i:=0) (p:=x) (by rw[hss];rfl)
    cases e
  subst this;exact iQ (vs:=[.slice none 0 0]) ⟨[],.nil .nil,.refl⟩
 refine lF ?_;refine aA.alJ (fun iI=>?_) O;refine zT ?_;have hO:Os kD yM (.slice (some ⟨iI,0,none⟩) 0 0) ([]:List (Value×Mt)) [(iI,.cells #[] kD (0,0))]:=.inr ⟨iI, #[],0,[],O,O,O,Nat.le_refl _,Part.all [],.nil⟩;refine oe O wn O O (bV (row:=yM) (l:=[]) (l':=ss) O O O hO .all (fun h2 hE hl=>hs.ext hE) (by simp;omega) dF O (fun v' S' xM=>?_));rw[List.nil_append]at xM;refine gI ?_;exact iQ (vs:=[v']) ⟨S',xM,.refl⟩


theorem XT{kv v':Value}{x:Mt}{ks':List Int}(hv:one v'=true):∀{l:List (Value×Mt)} {i:Nat},l[i]? =some (kv,x)->(flat yM l).set (i*5) v'=flat yM (l.set i (v',{x with ks:=ks'}))
 | [],i,h=>by cases h
 | a::l,0,h=>by
  cases h
  rw[Nat.zero_mul,List.set_cons_zero,iW,iW];rw[Iw hv];rfl
 | a::l,i+1,h=>by
  rw[List.set_cons_succ,iW,iW,<-XT hv (l:=l) (i:=i) (by simpa using h)];have e:(yM a).length=5:=rfl;rw[List.set_append,if_neg (by rw[e];omega),e]
  congr 2;omega
theorem ahk{c:Array Value}{l:List (Value×Mt)}{x:Mt}{ks':List Int}(hP:Part c 0 (flat yM l))(hv:one v'=true)(hi:l[i]? =some (kv,x)):Part (c.setIfInBounds (0+i*5) v') 0 (flat yM (l.set i (v',{x with ks:=ks'}))):=by
 obtain⟨pre,post,h1,h2⟩:=hP;have hp:pre=[]:=jy.1 h2;subst hp;refine⟨[],post,?_,O⟩
 have Gp:i<l.length:=by
  rcases bQ i l.length with h' | h'
  ·exact h'
  rw[fM h']at hi;cases hi
 have CV:i*5<(flat yM l).length:=by rw[gU];omega
 rw[Array.toList_setIfInBounds,h1,List.nil_append,List.nil_append,Nat.zero_add,List.set_append,if_pos CV,XT hv hi]

theorem ab8(main:aN)(h:Hp)(b7 β off:Nat)(k:Int)(E7:TypeId)(z7:Nat×Nat)(c:Array Value)(hb:h b7=some (.cells #[I k] E7 z7))(xR:off<c.size):
  gG aV main (.func (.func iG) #[] #[aG b7]) [.pointer (some ⟨β,off,none⟩)] h [(β,.cells c kD (0,0))] (fun _ F=>∃βk,Sb [(βk,.cells #[I k] aX (0,0)),(β,.cells (c.setIfInBounds off (.slice (some ⟨βk,0,none⟩) 1 1)) kD (0,0))] F):=by
 refine gG.o9 (f:=iG) (fi:=[]) (ca:=[aG b7]) ?_;refine bG.bH func65 [(0,.pointer (some ⟨β,off,none⟩)),(1,aG b7)] ?_;refine gI ?_;refine aA.zZ (cs:= #[I k]) (fun iI=>?_) O;refine d_ ?_;refine oe O wn O O (eS O O O ?_ (hc:=by show off+0<c.size;omega));refine aA.nil ?_;exact iQ (vs:=[]) ⟨iI,.refl⟩
theorem akw(main:aN)(h:Hp)(b11 b6 b8 β n cap i:Nat)(x0 x1 x2 x3 x4 kv:Value)(d co wa qu:Int)(E1 E2 E3:TypeId)(z1 z2 z3:Nat×Nat)(c:Array Value)(h1:h b11=some (.cells #[kv,I d,I co,I wa,I qu] E1 z1))(okv:one kv=true)(h2:h b6=some (.cells #[x0,x1,x2,x3,x4,.slice (some ⟨β,0,none⟩) n cap] E2 z2))(h3:h b8=some (.cells #[I i] E3 z3))(hi:i<n)(hn:n*5<=c.size):
  QN aV main ni #[aG b11,aG b6,aG b8] h [(β,.cells c kD (0,0))] (fun A=>eH A):=by
 refine QN.gX func92 O (by show 3<=8;decide) [(0,aG b11),(1,aG b6),(2,aG b8)] ⟨O,O,O,trivial⟩ ?_;refine lg ?_;refine aA.alf (n:=5) (vs:= #[kv,I d,I co,I wa,I qu]) ?_ (hc:=by show 0+i*5+5<=c.size;omega) (h1:=by show(one kv&&true)=true;rw[okv];rfl);refine aA.nil ?_;exact iQ (vs:=[]) (.cons O .nil)

theorem auC{L:List α}:((L++P)++(a++(x++S))).Perm ((x++(S++P))++(a++L)):=by
 classical
 rw[List.perm_iff_count];intro y;simp only[List.count_append];omega
theorem auD{L p q r:List α}:((a++(q++(p++(r++L))))++(P++(x++S))).Perm ((L++P)++(a++(p++(q++(r++(x++S)))))):=by
 classical
 rw[List.perm_iff_count];intro y;simp only[List.count_append];omega
def Mo.kind(N:Mo)(i:Nat)(k:Int):Mo:=match N.mts[i]? with
 | some x=>{N with mts:=N.mts.set i {x with ks:=[k]}}
 | none=>N
def yD.kind(D:yD)(i:Nat)(x:Mt)(k:Int)(v' vm':Value):yD:={D with vm:=vm',jJ:=D.jJ.set i (v',{x with ks:=[k]})}
theorem ani{x:Mt}{k:Int}(hi:D.jJ[i]? =some (kv,x)):(D.kind i x k v' vm').mo=D.mo.kind i k:=by
 unfold Mo.kind;rw[show D.mo.mts=D.jJ.map (·.2)from rfl,iL,hi];show(⟨D.gs,D.ps,D.fs,(D.jJ.set i (v',{x with ks:=[k]})).map (·.2)⟩:Mo)=⟨D.gs,D.ps,D.fs,_⟩;rw[List.map_set]
theorem yD.At.kind{h':Hp}(H:D.At h)(hE:Ext h h'){x:Mt}{k:Int}(hi:D.jJ[i]? =some (kv,x))(hk:0<=k/\k<=63)(hv:Sl h' bY v' [k])(zv:Zs h' v')(hm:Sl h' yM vm' (D.jJ.set i (v',{x with ks:=[k]}))):(D.kind i x k v' vm').At h':=by
 have H':=H.ext hE;refine⟨H'.ga,H'.za,H'.gk,H'.pk,H'.pn,H'.rr,H'.sk,H'.ff,H'.zf,H'.fk,hm,fun p hp=>?_,by show(D.jJ.set _ _).length<=4;rw[List.length_set];exact H'.m4,H'.g0,H'.z0⟩;rcases List.mem_or_eq_of_mem_set hp with hp | rfl
 ·exact H'.me p hp
 have hx:=(H'.me _ (dL hi)).2.2;exact⟨hv,zv,⟨Nat.le_refl _,by show 1<=3;decide,fun n hn=>by rw[dP.1 hn];exact hk,List.pairwise_singleton ..,hx.d,hx.co,hx.wa,hx.qu⟩⟩
abbrev uS:Value:=.func (.func qF) #[] #[]
def Mo.JD(N:Mo):Int:=FI N.mi

theorem aqY{main:aN}(hS:∀S,main.ok S->∃Fin,S=Mn aV Fin)(qJ:main.b=true)(h:Hp)(D:yD)(H:D.At h)(i:Nat)(kv:Value)(x:Mt)(hi:D.jJ[i]? =some (kv,x))(k:Int)(hk:0<=k/\k<=63)(b7:Nat)(E7:TypeId)(z7:Nat×Nat)(hb7:h b7=some (.cells #[I k] E7 z7))(kb mb:Nat)(m:List (List Int×Value))(hm:IC D.fs m):
  bG aV main FU #[.agg #[uS],D.V,aG kb,I i,.func (.func iG) #[] #[aG b7]] h (pX kb mb m) (fun v F=>v=I (D.mo.kind i k).JD/\∃m',IC D.fs m'/\Sb (pX kb mb m') F):=by
 have h4:=H.m4
 have Gp:i<D.jJ.length:=by
  rcases bQ i D.jJ.length with h' | h'
  ·exact h'
  rw[fM h']at hi;cases hi
 obtain⟨am,cm,em⟩:=H.mm.aU;have okv:=(H.me _ (dL hi)).1.one;refine bG.bH func64 [(0,.agg #[uS]),(1,D.V),(2,aG kb),(3,I i),(4,.func (.func iG) #[] #[aG b7])] ?_;refine d_ ?_;refine aA.box (fun iI=>?_);refine aA.box (fun mX=>?_);refine aA.box (fun zC=>?_);refine lg ?_;refine c0 (fun h' hE hL=>ahj _ h' D.jJ _ (H.mm.ext hE) aj) (fun v A' hv=>?_);obtain⟨S,hO,bF⟩:=hv;rcases id hO with⟨he,-⟩ | ⟨XU,cc,ND,Jc,rfl,rfl,Y4,ZJ,hpt,hJc⟩
 ·rw[he]at Gp;cases Gp
 refine aA.sb (F':=(XU,.cells cc kD (0,0))::(zC,.cells #[I i] aX (0,0))::(mX,.cells #[D.va,I D.ps,D.nS,D.vr,D.vf,D.vm] fC (0,0))::(iI,.cells #[uS] dZ (0,0))::pX kb mb m) (.trans (.cons (.left .refl hJc)) (bF.app .refl)) ?_
 have hcc:i*5+5<=cc.size:=by
                    have:ND*5<=cc.size:=by omega
                    omega
 have hex:cc.extract (0+i*5) (0+i*5+5)= #[kv,I x.d,I x.co,I x.wa,I x.qu]:=by
  have:=(Part.afN hpt hi).1;rw[Iw okv]at this;exact this
 have hn5:0+i*5+5<=cc.size:=by omega
 refine gZ ?_;refine aA.new (fun zH=>?_);refine aA.Yi (vs:= #[kv,I x.d,I x.co,I x.wa,I x.qu]) ?_ (h1:=by show(one kv&&true)=true;rw[okv];rfl);refine lF ?_;refine aA.defer (d:={target:=.fn (.func ni) #[aG zH,aG mX,aG zC],args:= #[]}) O (aK O) O wn O (fun e he=>?_) ?_
 ·have e3:e (.tmp 21)= .func (.func ni) #[] #[aG zH,aG mX,aG zC]:=he _ _ O;simp[resolve,Deferred.ofValue,e3,au]
 refine kR ?_;refine cgv (A:=[(XU,.cells cc kD (0,0))]) (.tail .head) (fun h' hE hL=>ab8 main h' b7 XU (0+i*5) k E7 z7 cc (hE.1 _ _ hb7) aj) (fun v A' hv=>?_);obtain⟨βk,aqZ⟩:=hv;refine aA.sb (.cons (aqZ.app .refl)) ?_;refine d_ ?_;refine W.sb (F':=(βk,.cells #[I k] aX (0,0))::([(iI,.cells #[uS] dZ (0,0)),(mX,.cells #[D.va,I D.ps,D.nS,D.vr,D.vf,.slice (some ⟨XU,0,none⟩) D.jJ.length ND] fC (0,0)),(zC,.cells #[I i] aX (0,0)),(XU,.cells (cc.setIfInBounds (0+i*5) (.slice (some ⟨βk,0,none⟩) 1 1)) kD (0,0))]++((zH,.cells #[kv,I x.d,I x.co,I x.wa,I x.qu] kD (0,0))::pX kb mb m))) (.aT ?_) ?_
 ·refine List.perm_middle.symm.trans ?_;exact(List.reverse_perm [(zH,.cells #[kv,I x.d,I x.co,I x.wa,I x.qu] kD (0,0)),(βk,.cells #[I k] aX (0,0)),(XU,.cells (cc.setIfInBounds (0+i*5) (.slice (some ⟨βk,0,none⟩) 1 1)) kD (0,0)),(zC,.cells #[I i] aX (0,0)),(mX,.cells #[D.va,I D.ps,D.nS,D.vr,D.vf,.slice (some ⟨XU,0,none⟩) D.jJ.length ND] fC (0,0)),(iI,.cells #[uS] dZ (0,0))]).append_right (pX kb mb m)
 refine W.freeze O (fun h1 zD hbk hzk=>?_);have hP2:=ahk (ks':=[k]) (v':=.slice (some ⟨βk,0,none⟩) 1 1) hpt O hi;generalize hD':D.kind i x k (.slice (some ⟨βk,0,none⟩) 1 1) (.slice (some ⟨XU,0,none⟩) D.jJ.length ND)=D';have aoE:D'.fs=D.fs:=by rw[<-hD'];rfl
 have hHD:∀h',Ext h1 h'->h' XU=some (.cells (cc.setIfInBounds (0+i*5) (.slice (some ⟨βk,0,none⟩) 1 1)) kD (0,0))->D'.At h':=fun h' hE hc=>by
  rw[<-hD'];exact H.kind (zD.trans hE) hi hk (Sl.mk (hE.1 _ _ hbk) rfl (Part.all [I k])) (fun b off n cap e=>by cases e;exact hE.2 _ hzk) (Sl.mk hc (by rw[List.length_set]) hP2)
 refine W.kQ [(iI,.cells #[uS] dZ (0,0)),(mX,.cells #[D.va,I D.ps,D.nS,D.vr,D.vf,.slice (some ⟨XU,0,none⟩) D.jJ.length ND] fC (0,0))] (n:=7) O ?_;refine ay 0 ?_;refine ay 1 ?_;refine ay 2 ?_;refine ay 3 ?_
 refine ae (i:=4) O an O O (oL (args:=[_,_]) O O (fun h' hE hL=>show bG aV main Ez #[.agg #[D.va,I D.ps,D.nS,D.vr,D.vf,.slice (some ⟨XU,0,none⟩) D.jJ.length ND],aG kb] h' [] (fun v F=>akp D' v [] kb F)from by
  have:=af0 hS qJ h' D' (hHD h' hE (hL XU _ (.tail _ (.tail _ (.tail _ (.head _)))))) kb;rw[<-hD']at this⊢;exact this) (fun v A' hv=>?_))
 refine⟨.inr (aC.app (fun _ h=>jm _ (jm _ h))),?_⟩;obtain⟨X,l,vp,SO,rfl,hl,fP,hOO,ayk⟩:=hv;have E8:=Lu (X:=X) (kb:=kb) (vp:=vp) hl;refine Any.sb (F':=(pX kb mb m++bM l)++([(iI,.cells #[uS] dZ (0,0)),(mX,.cells #[D.va,I D.ps,D.nS,D.vr,D.vf,.slice (some ⟨XU,0,none⟩) D.jJ.length ND] fC (0,0))]++((zC,.cells #[I i] aX (0,0))::(XU,.cells (cc.setIfInBounds (0+i*5) (.slice (some ⟨βk,0,none⟩) 1 1)) kD (0,0))::(zH,.cells #[kv,I x.d,I x.co,I x.wa,I x.qu] kD (0,0))::(X,.cells (mG D'.va D'.nS D'.vr D'.vf D'.vm vp D'.ps kb) gB (0,0))::SO))) ?_ ?_
 ·exact .trans (.aT (auC (L:=pX kb mb m) (P:=bM l) (a:=[_,_,_,_,_]) (x:=[_]) (S:=SO))) (ayk.app .refl)
 refine ae (i:=5) O an O O (AL (A:=pX kb mb m++bM l) (args:=[_]) O O O (.head (A:=pX kb mb m++bM l)) (fun h' hE hL=>gG.o9 (f:=qF) (fi:=[]) (ca:=[]) (ab1 hS qJ h' (oU.of D' X kb vp l) ((hHD h' hE (hL XU _ (.tail _ (.tail _ (.tail _ (.head _)))))).Ws ⟨fun _ _ q=>q,fun _ q=>q⟩ (hL X _ (.tail _ (.tail _ (.tail _ (.tail _ (.tail _ (.head _))))))) (hOO.sl fun b o hb=>hL b o (.tail _ (.tail _ (.tail _ (.tail _ (.tail _ (.tail _ hb))))))) hl fP) mb m (show IC D'.fs m from aoE.symm▸hm))) (fun v A2 hv=>?_));refine⟨.inr (fun _ h=>bZ _ (jm _ h)),?_⟩;obtain⟨rfl,m',Vf,pJ⟩:=hv;refine Any.sb (F':=(iI,.cells #[uS] dZ (0,0))::(mX,.cells #[D.va,I D.ps,D.nS,D.vr,D.vf,.slice (some ⟨XU,0,none⟩) D.jJ.length ND] fC (0,0))::(XU,.cells (cc.setIfInBounds (0+i*5) (.slice (some ⟨βk,0,none⟩) 1 1)) kD (0,0))::(zC,.cells #[I i] aX (0,0))::(zH,.cells #[kv,I x.d,I x.co,I x.wa,I x.qu] kD (0,0))::pX kb mb m') (.trans ⟨bM l++((X,.cells (mG D'.va D'.nS D'.vr D'.vf D'.vm vp D'.ps kb) gB (0,0))::SO),auD (L:=pX kb mb m') (P:=bM l) (a:=[_,_]) (p:=[_]) (q:=[_]) (r:=[_]) (x:=[_]) (S:=SO),(pY fP).app (.cons O hOO.shut)⟩ (pJ.app .refl)) ?_;refine ay 6 ?_;refine az ?_;refine d_ ?_;refine Ie (cap:= #[aG zH,aG mX,aG zC]) (A:=[(XU,.cells (cc.setIfInBounds (0+i*5) (.slice (some ⟨βk,0,none⟩) 1 1)) kD (0,0))]) (.tail (.tail .head)) (fun h' hE hL=>akw main h' zH mX zC XU D.jJ.length ND i _ _ _ _ _ kv x.d x.co x.wa x.qu _ _ _ _ _ _ _ (hL zH _ (.tail _ (.tail _ (.tail _ (.head _))))) okv (hL mX _ (.tail _ (.head _))) (hL zC _ (.tail _ (.tail _ (.head _)))) Gp (by rw[Array.size_setIfInBounds];omega)) (fun A2 hA2=>?_);refine iQ (vs:=[_]) ⟨?_,m',aoE▸Vf,.left (.skip O (.skip O (.skip O (.skip O .refl)))) hA2⟩;show I _=I _;rw[E8.JD,<-hD',ani hi];rfl
def auE(x:Int)(v:Value)(S:ah):Prop:=v=I x/\S=[]
theorem ad8{main:aN}(hS:∀S,main.ok S->∃Fin,S=Mn aV Fin)(qJ:main.b=true)(h:Hp)(D:yD)(H:D.At h)(i:Nat)(kv:Value)(x:Mt)(hi:D.jJ[i]? =some (kv,x))(kb b1 b2 b3 b4:Nat)(E1 E2 E3 E4:TypeId)(z1 z2 z3 z4:Nat×Nat)
  (h1:h b1=some (.cells #[D.va,I D.ps,D.nS,D.vr,D.vf,D.vm] E1 z1)) (h2:h b2=some (.cells #[I i] E2 z2)) (h3:h b3=some (.cells #[uS] E3 z3)) (h4:h b4=some (.cells #[aG kb] E4 z4)) (mb:Nat) (m:List (List Int×Value)) (hm:IC D.fs m):
  aof aV main (.func (.func mD) #[] #[aG b1,aG b2,aG b3,aG b4]) auE (x.ks.map fun k=>(D.mo.kind i k).JD) (pX kb mb m) (fun R=>∃m',IC D.fs m'/\R=pX kb mb m') h:=by
 intro h' Bc yv YZ J K hy A hJ;obtain⟨am,cm,em⟩:=H.mm.aU;have hm4:=H.m4
 have Gp:i<D.jJ.length:=by
  rcases bQ i D.jJ.length with h' | h'
  ·exact h'
  rw[fM h']at hi;cases hi
 obtain⟨ks0,zk0,hx⟩:Sl h bY kv x.ks/\Zs h kv/\EU x:=H.me _ (dL hi);obtain⟨ak,ck,ek⟩:=ks0.aU;have hxk:=hx.ks;have aAD:=hx.k3;have hH':=H.ext Bc;have auF:=hH'.mm;rw[em]at auF h1;obtain⟨b,off,c,E,fz,e,hb,hxx,hyy,hzz⟩:=auF.at hi
 cases e
 have hDV:D.V= .agg #[D.va,I D.ps,D.nS,D.vr,D.vf,.slice (some ⟨b,off,none⟩) D.jJ.length cm]:=by rw[<-em]
 have okv:one kv=true:=ks0.one;have hz0:c[off+i*5+0]? =some kv:=by have:=hzz 0 dF;rw[Iw okv]at this;exact this
 clear hzz hxx;subst ek;replace h1:=Bc.1 _ _ h1;replace h2:=Bc.1 _ _ h2;replace h3:=Bc.1 _ _ h3;replace h4:=Bc.1 _ _ h4;refine gG.o9 (f:=mD) (fi:=[]) (args:=[_]) (ca:=[aG b1,aG b2,aG b3,aG b4]) ?_;refine bG.bH func63 [(0,yv),(1,aG b1),(2,aG b2),(3,aG b3),(4,aG b4)] ?_;refine oz ?_;refine W.loop (σ:=Nat×List (List Int×Value)×ah) (fun s=>s.1<=x.ks.length/\IC D.fs s.2.1/\J s.1 s.2.2) (fun s=>[(15,I s.1),(14,I x.ks.length),(13,.slice ak x.ks.length ck),(0,yv),(1,aG b1),(2,aG b2),(3,aG b3),(4,aG b4)]) (fun s=>pX kb mb s.2.1++s.2.2) (fun s=>x.ks.length-s.1) (0,m,A) ⟨Nat.zero_le _,hm,hJ⟩ iw (.aT dK) ?_;rintro⟨k,m1,A1⟩ ⟨hk,Q9,hJ1⟩;refine kJ ?_;refine W.aJ O (fun PV=>?_) (fun PV=>?_)
 ·simp only at hk Q9 hJ1;have zI:k<x.ks.length:=by omega
  obtain⟨p,hp,yI⟩:=has zI;obtain⟨b9,auv,c9,E9,fz9,e9,hb9,hx9,hy9,hz9⟩:=(ks0.ext Bc).at hp
  cases e9
  have aAE:c9[auv+k*1]? =some (I p):=hz9 0 dF;have aut:=hxk p (dL hp);clear hx9 hz9;have hpx:(x.ks.map fun k=>(D.mo.kind i k).JD)[k]? =some (D.mo.kind i p).JD:=by rw[iL,hp];rfl
  refine kR ?_;refine aA.new (fun yc=>?_);refine gZ ?_
  refine cg (A:=pX kb mb m1) (.tail .head) (vs:=[.agg #[uS],.agg #[D.va,I D.ps,D.nS,D.vr,D.vf,.slice (some ⟨b,off,none⟩) D.jJ.length cm],aG kb,I i,.func (.func iG) #[] #[aG yc]]) (fun h2 hE hL=>by
   have:=aqY hS qJ h2 D (hH'.ext hE) i _ x hi p aut yc _ _ (hL yc _ (.head _)) kb mb m1 Q9;rw[hDV]at this;exact this) (fun v A' hv=>?_)
  obtain⟨rfl,m2,hm2,bF⟩:=hv;refine aA.sb (F':=A1++((yc,.cells #[I p] aX (0,0))::pX kb mb m2)) ((Sb.aT (dK.trans (.refl _))).trans (.cons (bF.app .refl))) ?_;refine cgv (A:=A1) .head (fun h2 hE hL=>hy h2 hE k _ _ [] A1 hpx ⟨rfl,rfl⟩ (fun b o h=>by cases h) hJ1) (fun r B1 TP=>?_);obtain⟨rb,rfl⟩:∃rb,r= .bool rb:=by rcases TP with⟨h,-⟩ | ⟨h,-⟩ <;>exact⟨_,h⟩
  refine d_ ?_;refine W.cond O (fun ZH=>?_) (fun ZH=>?_)
  ·skip
   refine kJ ?_;refine iQ (vs:=[]) ?_;rcases TP with⟨h,-⟩ | ⟨-,B,hK,pJ⟩
   ·cases h;cases ZH
   refine⟨pX kb mb m2,⟨m2,hm2,O⟩,.inr ⟨k,_,_,[],B,hpx,⟨O,O⟩,hK,?_⟩⟩;rw[List.append_nil];exact pJ.app (.skip O .refl)
  obtain⟨B,hJ2,pJ⟩:∃B,J (k+1) B/\Sb B B1:=by
   rcases TP with⟨-,B,h1,h2⟩ | ⟨h,-⟩
   ·exact⟨B,h1,h2⟩
   cases h;cases ZH
  refine jk ?_;exact⟨O,(k+1,m2,B),⟨zI,hm2,hJ2⟩,by show _-_<_-_;omega,iw,((Sb.aT dK).trans (pJ.app (.skip O .refl)))⟩
 refine lF ?_;refine iQ (vs:=[]) ?_;simp only at hk Q9 hJ1;have hke:k=x.ks.length:=by omega
 refine⟨pX kb mb m1,⟨m1,Q9,O⟩,.inl ⟨A1,by rw[List.length_map,<-hke];exact hJ1,.aT dK⟩⟩

theorem akx(main:aN)(h:Hp)(va nS vr vf vm:Value)(ps:Int)(kb:Nat)(i:Int)(o1:one va=true)(o2:one nS=true)(o3:one vr=true)(o4:one vf=true)(o5:one vm=true):bG aV main Eu #[.agg #[uS],.agg #[va,I ps,nS,vr,vf,vm],aG kb,I i] h []
  (fun v A=>∃b1 b2 b3 b4,v= .func (.func mD) #[] #[aG b1,aG b2,aG b3,aG b4]/\Sb [(b1,.cells #[va,I ps,nS,vr,vf,vm] fC (0,0)),(b2,.cells #[I i] aX (0,0)),(b3,.cells #[uS] dZ (0,0)),(b4,.cells #[aG kb] nD (0,0))] A):=by
 refine bG.bH func37 [(0,.agg #[uS]),(1,.agg #[va,I ps,nS,vr,vf,vm]),(2,aG kb),(3,I i)] ?_;refine d_ ?_;refine aA.box (fun mW=>?_);refine aA.box (fun iI=>?_);refine aA.box (fun mX=>?_);refine aA.box (fun yc=>?_);refine kR ?_;refine iQ ⟨iI,yc,mW,mX,O,.aT ?_⟩
 classical
 rw[List.perm_iff_count];intro y;show List.count y ([(iI,Obj.cells #[va,I ps,nS,vr,vf,vm] fC (0,0))]++([(yc,Obj.cells #[I i] aX (0,0))]++([(mW,Obj.cells #[uS] dZ (0,0))]++[(mX,Obj.cells #[aG kb] nD (0,0))])))=List.count y ([(yc,Obj.cells #[I i] aX (0,0))]++([(mX,Obj.cells #[aG kb] nD (0,0))]++([(iI,Obj.cells #[va,I ps,nS,vr,vf,vm] fC (0,0))]++[(mW,Obj.cells #[uS] dZ (0,0))])));simp only[List.count_append];omega

theorem xH{x:Cx}{R:Value->ah->Prop}(hy:Yv x (· =F) ρ o v)(K:R v F):Ef x ρ o F R:=Ef.uY fun e he h' hE=>qg (hy e he F O h' hE) fun nx F' h=>⟨v,.inl h.1,h.2▸K⟩
def auG:Option (Int×Int)->Array Value
 | none=> #[I 0,I 0,.bool false]
 | some (a,b)=> #[I a,I b,.bool true]
abbrev ZB(o:Option (Int×Int)):Obj:=.cells (auG o) rW (0,0)
def tkF:Option (Int×Int)->Int->Option (Int×Int)
 | none,n=>some (n,n)
 | some (a,b),n=>some (min a n,max b n)
theorem auI(main:aN)(h:Hp)(β:Nat)(o:Option (Int×Int))(n:Int):bG aV main nV #[aG β,I n] h [(β,ZB o)] (fun _ A=>Sb [(β,ZB (tkF o n))] A):=by
 rcases o with _ | ⟨a,b⟩
 ·show bG aV main nV #[aG β,I n] h [(β,.cells #[I 0,I 0,.bool false] rW (0,0))] _;refine bG.bH func38 [(0,aG β),(1,I n)] ?_;refine FT ?_;refine W.cond O (fun c8=>?_) (fun c8=>?_)
  ·refine Qv ?_;refine W.mono (Q:=(fun e gW iT F'=>e= .normal/\iT=[]/\Sb [(β,ZB (tkF none n))] F')) ?_ ?_
   ·refine W.kQ [] (n:=20) O ?_;refine ay 0 ?_;refine ay 1 ?_;refine ay 2 ?_;refine ay 3 ?_;refine ay 4 ?_;refine ay 6 ?_;refine ay 8 ?_;refine ay 9 ?_;refine ay 10 ?_;refine ay 12 ?_;refine Any.Vp (i:=5) (j:=11) aB (aK O) (aK O) an an O O O O ?_ ?_
    ·refine xH (CG O O (v:=I n)) ⟨.inr aC.nil,?_⟩;refine ay 7 ?_;refine ae (i:=11) O an O O (xH (CG O O (v:=I n)) ⟨.inr aC.nil,?_⟩);refine ay 13 ?_;refine ay 14 ?_;refine ay 15 ?_;refine ae (i:=16) O an O O (eS O O O ?_);refine⟨.inr aC.nil,?_⟩;refine ay 17 ?_;refine ay 18 ?_;refine ae (i:=19) O an O O (eS O O O ?_);refine⟨.inr aC.nil,?_⟩;refine az ?_;exact⟨O,O,(by rw[Int.min_self,Int.max_self];exact .refl)⟩
    refine xH (CG O O (v:=I n)) ⟨.inr aC.nil,?_⟩;refine ay 13 ?_;refine ae (i:=5) O an O O (xH (CG O O (v:=I n)) ⟨.inr aC.nil,?_⟩);refine ay 7 ?_;refine ay 14 ?_;refine ay 15 ?_;refine ae (i:=16) O an O O (eS O O O ?_);refine⟨.inr aC.nil,?_⟩;refine ay 17 ?_;refine ay 18 ?_;refine ae (i:=19) O an O O (eS O O O ?_);refine⟨.inr aC.nil,?_⟩;refine az ?_;exact⟨O,O,(by rw[Int.min_self,Int.max_self];exact .refl)⟩
   rintro e gW iT F' ⟨rfl,rfl,bF⟩;exact iQ (vs:=[]) bF
  exact absurd c8 (by simp)
 show bG aV main nV #[aG β,I n] h [(β,.cells #[I a,I b,.bool true] rW (0,0))] _;refine bG.bH func38 [(0,aG β),(1,I n)] ?_;refine FT ?_;refine W.cond O (fun c8=>?_) (fun c8=>?_)
 ·exact absurd c8 (by simp)
 refine d_ ?_;refine W.mono (Q:=(fun e gW iT F'=>e= .normal/\iT=[]/\Sb [(β,ZB (tkF (some (a,b)) n))] F')) ?_ ?_
 ·refine W.kQ [] (n:=20) O ?_;refine ay 0 ?_;refine ay 1 ?_;refine ay 2 ?_;refine ay 3 ?_;refine ay 4 ?_;refine ay 6 ?_;refine ay 8 ?_;refine ay 9 ?_;refine ay 10 ?_;refine ay 12 ?_;refine Any.Vp (i:=5) (j:=11) aB (aK O) (aK O) an an O O O O ?_ ?_
  ·refine xH (CG O O (v:=I a)) ⟨.inr aC.nil,?_⟩;refine ay 7 ?_;refine ae (i:=11) O an O O (xH (CG O O (v:=I b)) ⟨.inr aC.nil,?_⟩);refine ay 13 ?_;refine ay 14 ?_;refine ay 15 ?_;refine ae (i:=16) O an O O (eS O O O ?_);refine⟨.inr aC.nil,?_⟩;refine ay 17 ?_;refine ay 18 ?_;refine ae (i:=19) O an O O (eS O O O ?_);refine⟨.inr aC.nil,?_⟩;refine az ?_;exact⟨O,O,.refl⟩
  refine xH (CG O O (v:=I b)) ⟨.inr aC.nil,?_⟩;refine ay 13 ?_;refine ae (i:=5) O an O O (xH (CG O O (v:=I a)) ⟨.inr aC.nil,?_⟩);refine ay 7 ?_;refine ay 14 ?_;refine ay 15 ?_;refine ae (i:=16) O an O O (eS O O O ?_);refine⟨.inr aC.nil,?_⟩;refine ay 17 ?_;refine ay 18 ?_;refine ae (i:=19) O an O O (eS O O O ?_);refine⟨.inr aC.nil,?_⟩;refine az ?_;exact⟨O,O,.refl⟩
 rintro e gW iT F' ⟨rfl,rfl,bF⟩;exact iQ (vs:=[]) bF
theorem aky{fs:List Fl}{ss:List St}:0<=(jF fs ss).2.1/\(jF fs ss).2.1<=24:=by
 by_cases zU:dU fs ss=0
 ·have hh:=wI zU;obtain⟨q,-,hq⟩:=(XK hh).1;have hn:=hh.ns;have hl:=Lp (p:=q) hh ss.length aj;rw[(U9 zU).1];show 0<=(lY fs ss).1/\(lY fs ss).1<=24;rw[<-hq,Lr hh];omega
 rw[show jF fs ss=([],0,dU fs ss)from if_pos zU];exact⟨Int.le_refl _,by show(0:Int)<=24;decide⟩
theorem ab9{M:oU}:0<=FI M/\FI M<=24:=by
 unfold FI;split
 ·exact⟨Int.le_refl _,dF⟩
 exact aky
def Mo.known(N:Mo)(i:Nat)(ks:List Int):List Int:=ks.map fun k=>(N.kind i k).JD
def Mo.worth(N:Mo)(i:Nat)(ks:List Int)(n:Nat):Option (Int×Int):=(((N.known i ks).take n).map fun a=>a-N.JD).foldl tkF none
theorem ad9{N:Mo}{ks:List Int}{n:Nat}{a:Int}(h:(N.known i ks)[n]? =some a):N.worth i ks (n+1)=tkF (N.worth i ks n) (a-N.JD):=by
 unfold Mo.worth;rw[List.take_add_one,h];simp
def akz(o:Option (Int×Int)):Array Value:=match o with
 | none=> #[I 0,I 0]
 | some (a,b)=> #[I a,I b]

theorem aq0(o:Option (Int×Int)):∃a b s,auG o= #[I a,I b,.bool s]/\akz o= #[I a,I b]:=by
 rcases o with _ | ⟨a,b⟩
 ·exact⟨0,0,false,O,O⟩
 exact⟨a,b,true,O,O⟩
theorem auJ{L R:List α}:(a++(b++(c++(x++(L++R))))).Perm ((c++L)++(a++(b++(x++R)))):=by
 classical
 rw[List.perm_iff_count];intro y;simp only[List.count_append];omega
theorem auK{y L:List α}:(x++(L++((a++(b++c))++y))).Perm (L++(a++(b++(c++(x++y))))):=by
 classical
 rw[List.perm_iff_count];intro y;simp only[List.count_append];omega
theorem anj{main:aN}(hS:∀S,main.ok S->∃Fin,S=Mn aV Fin)(qJ:main.b=true)(h:Hp)(D:yD)(H:D.At h)(i:Nat)(kv:Value)(x:Mt)(hi:D.jJ[i]? =some (kv,x)):bG aV main VD #[D.V,I i] h [] (fun v F=>v= .tuple #[.agg (akz (D.mo.worth i x.ks x.ks.length)),I 0]/\eH F):=by
 have Gp:i<D.jJ.length:=by
  rcases bQ i D.jJ.length with h' | h'
  ·exact h'
  rw[fM h']at hi;cases hi
 refine bG.bH func10 [(0,D.V),(1,I i)] ?_;refine d_ ?_;refine aA.box (fun oJ=>?_);refine aA.new (fun mW=>?_);refine lg ?_;refine aA.zZ (cs:= #[I i]) (fun akA=>?_) O;refine c0 (fun h' hE hL=>acu hS qJ h' D (H.ext hE) [(i:Int)] _ (Sl.mk (hL akA _ (.head _)) O (Part.all [I i])) (fun n hn=>by rw[dP.1 hn];omega) (Nat.le_of_ble_eq_true O)) (fun v A' hv=>?_);obtain⟨u,kb,mb,rfl,X,l,vp,S,rfl,hl,fP,hO,bF⟩:=hv;refine aA.sb (bF.app .refl) ?_;refine oz ?_;refine W.aJ O (fun c20=>?_) (fun c20=>?_)
 ·exact absurd O c20
 refine d_ ?_;refine W.sb (F':=(X,.cells (mG D.va D.nS D.vr D.vf D.vm vp D.ps kb) gB (0,0))::(S++((pX kb mb []++bM l)++[(mW,.cells #[I 0,I 0] 35 (0,0)),(oJ,.cells #[D.va,I D.ps,D.nS,D.vr,D.vf,D.vm] fC (0,0))]))) (.cons (.trans (.app .refl (.app .refl (.skip O .refl))) (.aT (.of_eq (eF S (pX kb mb []++bM l) _).symm)))) ?_;refine W.Ws D H hl fP hO (fun h1 zD HM=>?_);have E8:=Lu (X:=X) (kb:=kb) (vp:=vp) hl;obtain⟨EX,zX,hX⟩:=HM.cx;unfold oU.C at hX;refine gI ?_;refine cg (A:=pX kb mb []++bM l) .head (fun h' hE hL=>ab1 hS qJ h' (oU.of D X kb vp l) (HM.ext hE) mb [] (fun p hp=>by cases hp)) (fun v A' hv=>?_);obtain⟨rfl,m1,Q9,UO⟩:=hv;rw[E8.JD];have Xz:FI D.mo.mi=D.mo.JD:=rfl;rw[Xz];have hb0:0<=D.mo.JD/\D.mo.JD<=24:=ab9;refine aA.sb (F':=pX kb mb m1++[(mW,.cells #[I 0,I 0] 35 (0,0)),(oJ,.cells #[D.va,I D.ps,D.nS,D.vr,D.vf,D.vm] fC (0,0))]) (.app (.trans (.right .refl (pY fP)) UO) .refl) ?_;refine aA.new (fun zC=>?_);refine lF ?_;refine aA.new (fun Oi=>?_);refine lF ?_;refine aA.new (fun VY=>?_);refine lF ?_;refine W.jS (n:=8) O ?_;refine ay 0 ?_;refine ay 1 ?_;refine ay 2 ?_;refine ay 3 ?_;refine ay 4 ?_;refine ay 5 ?_;refine ay 6 ?_;refine ae (i:=7) O an O O (oL (args:=[_,_,_,_]) O O (fun h' hE hL=>akx main h' D.va D.nS D.vr D.vf D.vm D.ps kb i H.ga.one H.pn.one H.rr.one H.ff.one H.mm.one) (fun v A' hv=>?_));refine⟨.inl aB,?_⟩;obtain⟨b1,b2,b3,b4,rfl,aqZ⟩:=hv;refine Any.sb (aqZ.app .refl) ?_;refine az ?_;refine d_ ?_;refine W.perm (F':=([(Oi,ZB none)]++pX kb mb m1)++([(b1,.cells #[D.va,I D.ps,D.nS,D.vr,D.vf,D.vm] fC (0,0)),(b2,.cells #[I i] aX (0,0)),(b3,.cells #[uS] dZ (0,0)),(b4,.cells #[aG kb] nD (0,0))]++([(VY,.cells #[uS] dZ (0,0))]++([(zC,.cells #[I D.mo.JD] aX (0,0))]++[(mW,.cells #[I 0,I 0] 35 (0,0)),(oJ,.cells #[D.va,I D.ps,D.nS,D.vr,D.vf,D.vm] fC (0,0))])))) (auJ (a:=[_,_,_,_]) (b:=[_]) (c:=[_]) (x:=[_]) (R:=[_,_])).symm ?_
 refine W.ajA (Val:=auE) (xs:=D.mo.known i x.ks) (pX kb mb m1) (fun R=>∃m',IC D.fs m'/\R=pX kb mb m') O O O (fun k A=>A=[(Oi,ZB (D.mo.worth i x.ks k))]) (fun _ _ _ _=>False) .head O
  (fun h' hE hL=>ad8 hS qJ h' D (H.ext (zD.trans hE)) i kv x hi kb b1 b2 b3 b4 _ _ _ _ _ _ _ _ (hL b1 _ (.head _)) (hL b2 _ (.tail _ (.head _))) (hL b3 _ (.tail _ (.tail _ (.head _)))) (hL b4 _ (.tail _ (.tail _ (.tail _ (.head _))))) mb m1 Q9) ?_ ?_
 ·rintro k p v S3 A3 hp ⟨rfl,rfl⟩ rfl lr hr hEr hLr hSr
  have LK:0<=p/\p<=24:=by
   obtain⟨q,-,rfl⟩:=List.mem_map.1 (dL hp);exact ab9
  have Gt:=ad9 hp;refine W.region rfl<|zW rfl rfl rfl<|aA.nil ?_;refine⟨O,O,fun h0 Bc hL0=>?_⟩;intro hS0;have hb8:=hL0 zC _ (.tail _ (.tail _ (.tail _ (.tail _ (.tail _ (.head _))))));refine kJ ?_;refine cg (A:=[(Oi,ZB (D.mo.worth i x.ks k))]) .all (fun h' hE hL=>auI main h' Oi (D.mo.worth i x.ks k) (p-D.mo.JD)) (fun v A' hv=>?_);refine aA.nil<|iE ?_;exact⟨O,.inl ⟨O,_,O,by rw[Gt];exact hv⟩⟩
 rintro e2 A2 R2 ⟨m2,hm2,rfl⟩ h2 d
 have h3:e2= .normal/\A2=[(Oi,ZB (D.mo.worth i x.ks x.ks.length))]:=by
  rcases h2 with⟨rfl,h⟩ | ⟨_,_,_,_,_,_,_,hX,_⟩
  ·rw[show(D.mo.known i x.ks).length=x.ks.length from List.length_map _]at h;exact⟨O,h⟩
  exact hX.elim
 obtain⟨rfl,rfl⟩:=h3;obtain⟨wa,wb,ws,hw1,hw2⟩:=aq0 (D.mo.worth i x.ks x.ks.length);unfold ZB;rw[hw1,hw2];refine gI ?_;refine W.sb (F':=(d,.deferred (some []))::(Oi,Obj.cells #[I wa,I wb,.bool ws] 85 (0,0))::(mW,Obj.cells #[I 0,I 0] 35 (0,0))::(pX kb mb m2++(([(b1,Obj.cells #[D.va,I D.ps,D.nS,D.vr,D.vf,D.vm] fC (0,0)),(b2,Obj.cells #[I i] aX (0,0)),(b3,Obj.cells #[uS] dZ (0,0)),(b4,Obj.cells #[aG kb] nD (0,0))]++([(VY,Obj.cells #[uS] dZ (0,0))]++[(zC,Obj.cells #[I D.mo.JD] aX (0,0))]))++[(oJ,Obj.cells #[D.va,I D.ps,D.nS,D.vr,D.vf,D.vm] fC (0,0))]))) (.cons (.cons (.aT (auK (L:=pX kb mb m2) (a:=[_,_,_,_]) (b:=[_]) (c:=[_]) (x:=[_]) (y:=[_]))))) ?_;refine gZ ?_;exact lvm (hl:=At.head) (AY (hv:=qU (adf nM)) ⟨O,.cons O (.cons O (.cons O (eH.app wu (.cons O (.cons O (.cons O (.cons O (.cons O (.cons O (.cons O .nil))))))))))⟩)
theorem avg{w:Option (List Int)}{d:Int}{E:ah}(H:XG w d v E):V3 aV (Instr.typeAssert v VU zx true)=some (.tuple #[.agg #[],.bool (!w.isSome)]):=by
 cases w with
 | none=>
  obtain⟨rfl,-⟩:=H;kernel_rfl
 | some l=>
  obtain⟨sa,sc,rfl,hR⟩:=H.some rfl;kernel_rfl
def Mo.adv(N:Mo)(k:Nat):List Nat:=(List.range k).filter fun i=>decide (nH N.gs (N.mts.getD i ⟨[],0,0,0,0⟩).ks N.ps=none)

theorem an7{main:aN}(hS:∀S,main.ok S->∃Fin,S=Mn aV Fin)(qJ:main.b=true)(h:Hp)(D:yD)(H:D.At h):bG aV main adO #[D.V] h [] (fun v F=>∃u S,v= .tuple #[u,I 0]/\Os aX bY u (zs (D.mo.adv D.mo.mts.length)) S/\Sb S F):=by
 have h4:=H.m4;refine bG.bH func17 [(0,D.V)] ?_;refine d_ ?_;refine aA.box (fun vg=>?_);refine lg ?_;refine c0 (fun h' hE hL=>acu hS qJ h' D (H.ext hE) [] _ .nil (fun n hn=>by cases hn) (Nat.zero_le _)) (fun v A' hv=>?_);obtain⟨u,kb,mb,rfl,X,l,vp,S,rfl,hl,fP,hO,bF⟩:=hv;refine aA.sb (bF.app .refl) ?_;refine oz ?_;refine W.aJ O (fun c17=>?_) (fun c17=>?_)
 ·exact absurd O c17
 refine d_ ?_;refine W.sb (F':=(X,.cells (mG D.va D.nS D.vr D.vf D.vm vp D.ps kb) gB (0,0))::(S++bM l)) (.cons (.trans (.app .refl (.left .refl wu)) (.right .refl (.cons O .nil)))) ?_;refine W.Ws D H hl fP hO (fun h1 zD HM=>?_);have Xz:l.length=D.jJ.length:=by rw[<-hl];simp
 have hmn:D.mo.mts.length=D.jJ.length:=by show(List.map _ _).length=_;simp
 obtain⟨EX,zX,hX⟩:=HM.cx;have Oj:=HM.vp;obtain⟨av,cv',ev'⟩:=Oj.aU;rw[List.length_map]at ev';unfold oU.C at hX;rw[ev']at hX Oj;have hX:h1 X=some (.cells (mG D.va D.nS D.vr D.vf D.vm (.slice av l.length cv') D.ps kb) EX zX):=hX;refine Qu ?_;refine W.loop (σ:=Nat×Value×ah) (fun s=>s.1<=l.length/\Os aX bY s.2.1 (zs (D.mo.adv s.1)) s.2.2) (fun s=>[(24,I s.1),(23,I l.length),(22,.slice av l.length cv'),(6,s.2.1)]) (fun s=>s.2.2++bM l) (fun s=>l.length-s.1) (0,.slice none 0 0,[]) ⟨Nat.zero_le _,.nil .nil⟩ iw .refl ?_;rintro⟨k,v,S⟩ ⟨hk,hO⟩;simp only at hk hO⊢;have hlen:(D.mo.adv k).length<=k:=Nat.le_trans (List.length_filter_le ..) (by simp);refine kJ ?_;refine W.aJ O (fun JW=>?_) (fun JW=>?_)
 ·have zI:k<l.length:=by omega
  obtain⟨p,hp,hpm,hw⟩:=ab4 hl (show k<D.jJ.length by omega);have aax:=fP p (dL hp);have hta:=avg aax;obtain⟨b,off,c,E,fz,rfl,hb,hx,hy,hz⟩:=Oj.at (show(l.map (·.B))[k]? =some p.B by rw[iL,hp];rfl);have Aq:c[off+k*1]? =some (aG p.B):=hz 0 dF;clear hx hz;have hmm:=Pm hp;obtain⟨sv,cv,rfl⟩:=hO.aU
  have Gt:D.mo.adv (k+1)=if nH D.gs p.x.ks D.ps=none then D.mo.adv k++[k]else D.mo.adv k:=by
   have e:(D.mo.mts[k]?.getD ⟨[],0,0,0,0⟩)=p.x:=by
    rw[show D.mo.mts=D.jJ.map (·.2)from rfl,iL,hpm];rfl
   unfold Mo.adv;rw[List.range_succ,List.filter_append];by_cases hc:nH D.gs p.x.ks D.ps=none
   ·rw[if_pos hc];simp[e,hc,show D.mo.gs=D.gs from rfl,show D.mo.ps=D.ps from rfl]
   rw[if_neg hc];simp[e,hc,show D.mo.gs=D.gs from rfl,show D.mo.ps=D.ps from rfl]
  refine asW ?_;refine b_ (CG O O (.inr fun _ e=>by subst e;exact bZ _ hmm) O) O ?_;refine b_ (yta hta O O) O ?_;refine gI ?_;refine aA.new (fun Oi=>?_);refine jk ?_;refine W.cond O (fun c37=>?_) (fun c37=>?_)
  ·have xJ:nH D.gs p.x.ks D.ps=none:=by simpa using c37
   rw[if_pos xJ]at Gt;refine gI ?_;refine aA.zZ (cs:= #[I k]) (fun aBx=>?_) O;refine oe O wn O O (bV (row:=bY) (l':=[(k:Int)]) O O O hO (.tail (.tail .head)) (fun h2 _ hl=>Sl.mk (hl aBx _ (.head _)) O (Part.all [I k])) (by rw[rZ];simp;omega) dF O (fun v' S' xM=>?_));refine zW rfl rfl rfl<|aA.nil<|iE<|fH<|W.region rfl ?_;refine gI ?_;exact⟨O,(k+1,v',S'),⟨by simp only;omega,by simp only;rw[Gt,Zh];exact xM⟩,by simp only;omega,iw,.skip O (.skip O .refl)⟩
  have xJ:nH D.gs p.x.ks D.ps≠none:=by rw[<-Option.isSome_iff_ne_none];simpa using c37
  rw[if_neg xJ]at Gt;refine jk ?_;exact⟨O,(k+1,_,S),⟨by simp only;omega,by simp only;rw[Gt];exact hO⟩,by simp only;omega,iw,.skip O .refl⟩
 obtain rfl:k=l.length:=by omega
 refine oz ?_;exact iQ (vs:=[_,_]) ⟨_,S,O,by rw[hmn,<-Xz];exact hO,.right .refl (pY fP)⟩

section
variable{x:Cx}{Q:fO}{ρ:Env}{ds:List Deferred}{F:ah}{ops:Array Oper}{L:ah}
theorem Any.arX{fuel listed j:Nat}{o' o2:Oper}(hr:rH ops listed=[i,j,k])(hi:ops[i]? =some o)(hj:ops[j]? =some o')(hk:ops[k]? =some o2)(hw:iM ops (look ρ) o true)(hw':iM ops (look ρ) o' true)(hw2:iM ops (look ρ) o2 true)(hd:iy o.dst x.n=true)(IK:iy o'.dst x.n=true)(hd2:iy o2.dst x.n=true)(hn:fB o.op=true)(GN:fB o'.op=true)(PX:fB o2.op=true)
  (H:Ef x ρ o F fun v F'=>(lastT ops i=true\/aC L F')/\Any x ops L fuel (listed||| 2 ^ i) Q (put ρ o.dst v) ds F')
  (H':Ef x ρ o' F fun v F'=>(lastT ops j=true\/aC L F')/\Any x ops L fuel (listed||| 2 ^ j) Q (put ρ o'.dst v) ds F')
  (H2:Ef x ρ o2 F fun v F'=>(lastT ops k=true\/aC L F')/\Any x ops L fuel (listed||| 2 ^ k) Q (put ρ o2.dst v) ds F'):Any x ops L (fuel+1) listed Q ρ ds F:=by
 refine⟨(fun h=>by rw[h]at hr;cases hr),fun l hl=>?_⟩;have:=uf.2 hl;rw[hr]at this;rcases(by simpa using this:l=i\/l=j\/l=k)with rfl | rfl | rfl
 ·exact opT.op hi hw hd (kN hn) fun e he=>(H e he).mono fun v F' ⟨WE,p,h1,h2⟩=>⟨h1.imp id (aC.perm p),Any.perm p h2⟩
 ·exact opT.op hj hw' IK (kN GN) fun e he=>(H' e he).mono fun v F' ⟨WE,p,h1,h2⟩=>⟨h1.imp id (aC.perm p),Any.perm p h2⟩
 exact opT.op hk hw2 hd2 (kN PX) fun e he=>(H2 e he).mono fun v F' ⟨WE,p,h1,h2⟩=>⟨h1.imp id (aC.perm p),Any.perm p h2⟩
end
def p2(i:Nat):Int:=[1,2,4,8].getD i 0
theorem Vd:∀i:Nat,i<3->IntKind.i64.wrap (1*2 ^ (min (i:Int).toNat IntKind.i64.bits))=p2 i/\p2 (i+1)=p2 i+p2 i/\1<=p2 i/\p2 i<=4:=by decide
def b8(n:Int):Prop:=0<=n/\n<=7
theorem IE{n:Int}(h:b8 n):∃m:Nat,m<8/\n=m:=⟨n.toNat,by unfold b8 at h;omega,by unfold b8 at h;omega⟩
theorem b8T:∀a:Fin 8,∀b:Fin 8,((0<=bits .and .i64 (a.1:Int) (b.1:Int)/\bits .and .i64 (a.1:Int) (b.1:Int)<=7)/\(0<=bits .or .i64 (a.1:Int) (b.1:Int)/\bits .or .i64 (a.1:Int) (b.1:Int)<=7))/\((0<=bits .andNot .i64 (a.1:Int) (b.1:Int)/\bits .andNot .i64 (a.1:Int) (b.1:Int)<=7)/\bits .and .i64 (b.1:Int) (bits .andNot .i64 (a.1:Int) (b.1:Int))=0):=by decide+kernel
theorem LC{a b:Int}(ha:b8 a)(hb:b8 b):b8 (bits .and .i64 a b):=by
 obtain⟨n,h1,rfl⟩:=IE ha;obtain⟨m,h2,rfl⟩:=IE hb;exact(b8T ⟨n,h1⟩ ⟨m,h2⟩).1.1
theorem auM{a b:Int}(ha:b8 a)(hb:b8 b):b8 (bits .or .i64 a b):=by
 obtain⟨n,h1,rfl⟩:=IE ha;obtain⟨m,h2,rfl⟩:=IE hb;exact(b8T ⟨n,h1⟩ ⟨m,h2⟩).1.2
theorem IG{a b:Int}(ha:b8 a)(hb:b8 b):b8 (bits .andNot .i64 a b)/\bits .and .i64 b (bits .andNot .i64 a b)=0:=by
 obtain⟨n,h1,rfl⟩:=IE ha;obtain⟨m,h2,rfl⟩:=IE hb;exact(b8T ⟨n,h1⟩ ⟨m,h2⟩).2
theorem ayo:∀a:Fin 8,0<=bits .or .i64 56 (a.1:Int)/\bits .or .i64 56 (a.1:Int)<=63:=by decide+kernel
theorem b56{a:Int}(ha:b8 a):0<=bits .or .i64 56 a/\bits .or .i64 56 a<=63:=by
 obtain⟨n,h1,rfl⟩:=IE ha;exact ayo ⟨n,h1⟩
theorem lZ(h:i<3):b8 (p2 i):=by have:=Vd i h;unfold b8;omega

theorem jW(main:aN)(h:Hp)(cZ:List Int)(lv:Value)(b k:Nat)(s:Int)(hl:Sl h bY lv cZ)(hk:k<=1000000):bG aV main TV #[aG b,I 3] h [(b,jl lv k s)] (fun v A=>∃r s',v=I r/\b8 r/\Sb [(b,jl lv (k+3) s')] A):=by
 refine bG.bH func56 [(0,aG b),(1,I 3)] ?_;refine Qs ?_;refine W.uq (σ:=Nat) (τ:=Int) (υ:=Int) (fun i f _=>i<=3/\0<=f/\f+1<=p2 i) (fun i f _=>[(6,I i),(5,I f),(0,aG b),(1,I 3)]) (fun i _ u=>[(b,jl lv (k+i) u)]) (fun i _ _=>3-i) 0 0 s ⟨Nat.zero_le _,Int.le_refl _,dF⟩ iw .refl ?_;rintro i f u ⟨hi,hf0,WZ⟩;refine jk ?_;refine W.aJ O (fun c9=>?_) (fun c9=>?_)
 ·have hp:=Vd i aj;refine jk ?_;refine cg (A:=[(b,_)]) .all (fun h' hE hL=>I8 _ h' cZ lv b (k+i) u 3 (hl.ext hE) aj aj) (fun v A' hv=>?_);obtain⟨r,s1,rfl,bF⟩:=hv;refine aA.sb bF ?_;refine qj ?_;refine W.cond O (fun c13=>?_) (fun c13=>?_)
  ·refine gI ?_;refine Gh (u:=I (p2 i)) (JK O O O aj) (by show I (IntKind.i64.wrap _)=_;rw[hp.1]) O wn O O ?_;refine asT O ?_;refine zW rfl rfl rfl<|aA.nil<|iE<|fH<|W.region rfl<|aiH rfl rfl rfl ?_;refine gI ?_;exact⟨O,i+1,f+p2 i,s1,⟨aj,aj,aj⟩,aj,iw,.refl⟩
  refine kR ?_;exact⟨O,i+1,f,s1,⟨aj,aj,aj⟩,aj,iw,.refl⟩
 obtain rfl:i=3:=by omega
 refine iC ?_;exact iQ (vs:=[_]) ⟨f,u,O,⟨hf0,by have:p2 3=8:=rfl;omega⟩,.refl⟩

theorem XV(main:aN)(h:Hp)(cZ:List Int)(lv:Value)(b k:Nat)(s:Int)(hl:Sl h bY lv cZ)(hk:k<=100000):bG aV main YP #[aG b,I 3] h [(b,jl lv k s)] (fun v A=>∃r s',v=I r/\(0<=r/\r<=63)/\Sb [(b,jl lv (k+6) s')] A):=by
 refine bG.bH func24 [(0,aG b),(1,I 3)] ?_;refine kJ ?_;refine W.kQ [] (n:=13) O ?_;refine ay 0 ?_;refine fJ 1 (Yv.eq (u:=I 8) (JK O O O dF) aB) O ?_;refine ay 2 ?_;refine fJ 3 (Yv.eq (u:=I 56) (yV O O O) aB) O ?_;refine ay 4 ?_;refine ay 5 ?_;refine ay 7 ?_;refine ay 8 ?_;refine ae (i:=6) O an O O (gq (A:=[(b,_)]) (args:=[_,_]) O O .all (fun h' hE hL=>jW _ h' cZ lv b k s (hl.ext hE) aj) (fun v A' hv=>?_));refine⟨.inr aC.nil,?_⟩;obtain⟨r1,s1,rfl,TP,bF⟩:=hv;refine Any.sb bF ?_;refine ae (i:=9) O an O O (gq (A:=[(b,_)]) (args:=[_,_]) O O .all (fun h' hE hL=>jW _ h' cZ lv b (k+3) s1 (hl.ext hE) aj) (fun v A' hv=>?_));refine⟨.inr aC.nil,?_⟩;obtain⟨r2,s2,rfl,hr2,bF⟩:=hv;refine Any.sb bF ?_;refine ay 10 ?_;refine ay 11 ?_;refine ay 12 ?_;refine az ?_;refine d_ ?_;exact iQ (vs:=[_]) ⟨_,s2,O,b56 (LC TP hr2),.refl⟩
theorem yO:b8 0:=⟨dF,dF⟩
theorem Bj{a:Int}(ha:b8 a):bits .and .i64 a 0=0:=by
 obtain⟨n,h1,rfl⟩:=IE ha;exact(show∀a:Fin 8,bits .and .i64 (a.1:Int) 0=0 by decide+kernel) ⟨n,h1⟩
theorem m_{a:Ag}(h1:b8 a.ne)(h2:b8 a.no)(h3:b8 a.ta)(h4:b8 a.le)(h5:bits .and .i64 a.ne a.no=0)(h6:1<=a.co/\a.co<=9):DJ a=0:=by
 unfold b8 at*;unfold DJ;rw[if_neg (by unfold outs;omega),if_neg (by rw[h5];decide),if_neg (by unfold outs;omega)]

theorem ad_(main:aN)(h:Hp)(cZ:List Int)(lv:Value)(b k:Nat)(s:Int)(hl:Sl h bY lv cZ)(hk:k<=100000):bG aV main VK #[aG b,I 3] h [(b,jl lv k s)] (fun v A=>∃g k' s',v=Ag.val g/\DJ g=0/\k'<=k+18/\Sb [(b,jl lv k' s')] A):=by
 refine bG.bH func54 [(0,aG b),(1,I 3)] ?_;refine d_ ?_;refine aA.new (fun mW=>?_);refine d_ ?_;refine W.mono (Q:=(fun e gW iT F'=>e= .normal/\iT=[]/\(∃iI ta le co s1,Sub [(5,aG iI),(0,aG b),(1,I 3),(4,aG mW)] gW/\(b8 ta/\b8 le/\1<=co/\co<=9)/\Sb [(iI,.cells #[I 0,I 0,I ta,I le,I co] IZ (0,0)),(mW,.cells #[I 0,I 0,I 0,I 0,I 0] IZ (0,0)),(b,jl lv (k+8) s1)] F'))) ?_ ?_
 ·refine W.kQ [] (n:=17) O ?_;refine ay 0 ?_;refine ay 1 ?_;refine ay 2 ?_;refine ay 5 ?_;refine ay 6 ?_;refine ay 8 ?_;refine ay 9 ?_;refine ay 12 ?_;refine Any.Vp (i:=3) (j:=15) aB (aK O) (aK O) an an O O O O ?_ ?_
  ·refine(gq (A:=[(b,jl lv k s)]) (args:=[_,_]) rfl rfl (by first | exact .tail .all | exact .tail (.tail .all)) (fun h' hE hL=>zK _ h' cZ lv b k s 2 (hl.ext hE) aj aj) (fun v A' hv=>?_));refine⟨.inr aC.nil,?_⟩;obtain⟨r0,s1,rfl,hr0,bF⟩:=hv;refine Any.sb (by first | exact .cons (.cons bF) | exact .cons bF) ?_;obtain⟨i0,rfl⟩:∃i:Nat,r0=i:=⟨r0.toNat,aj⟩
   have hi0:i0<3:=by omega
   refine fJ 4 (Yv.eq (u:=I (p2 i0)) (JK O O O (Int.natCast_nonneg _)) (by show I (IntKind.i64.wrap _)=_;rw[(Vd i0 hi0).1])) O ?_;refine Any.Vp (i:=7) (j:=15) aB (aK O) (aK O) an an O O O O ?_ ?_
   ·refine(gq (A:=[(b,jl lv (k+1) s1)]) (args:=[_,_]) rfl rfl (by first | exact .tail .all | exact .tail (.tail .all)) (fun h' hE hL=>jW _ h' cZ lv b (k+1) s1 (hl.ext hE) aj) (fun v A' hv=>?_));refine⟨.inr aC.nil,?_⟩;obtain⟨f1,s2,rfl,WZ,bF⟩:=hv;refine Any.sb (by first | exact .cons (.cons bF) | exact .cons bF) ?_;refine Any.Vp (i:=10) (j:=15) aB (aK O) (aK O) an an O O O O ?_ ?_
    ·refine(gq (A:=[(b,jl lv (k+1+3) s2)]) (args:=[_,_]) rfl rfl (by first | exact .tail .all | exact .tail (.tail .all)) (fun h' hE hL=>jW _ h' cZ lv b (k+1+3) s2 (hl.ext hE) aj) (fun v A' hv=>?_));refine⟨.inr aC.nil,?_⟩;obtain⟨f2,s3,rfl,hf2,bF⟩:=hv;refine Any.sb (by first | exact .cons (.cons bF) | exact .cons bF) ?_;refine ay 11 ?_;refine Any.Vp (i:=13) (j:=15) aB (aK O) (aK O) an an O O O O ?_ ?_
     ·refine(gq (A:=[(b,jl lv (k+1+3+3) s3)]) (args:=[_,_,_]) rfl rfl (by first | exact .tail .all | exact .tail (.tail .all)) (fun h' hE hL=>oM _ h' cZ lv b (k+1+3+3) s3 1 9 (hl.ext hE) aj aj) (fun v A' hv=>?_));refine⟨.inr aC.nil,?_⟩;obtain⟨co,s4,rfl,Gw,bF⟩:=hv;refine Any.sb (by first | exact .cons (.cons bF) | exact .cons bF) ?_;refine ay 14 ?_;refine ae (i:=15) O an O O (eN O (fun iI=>?_));refine⟨.inr MR,?_⟩
      first | refine ae (i:=16) rfl an rfl rfl (eSW rfl rfl rfl ?_) | refine ae (i:=16) rfl an rfl rfl (eSA rfl rfl rfl ?_)
      refine⟨.inr MR,?_⟩;refine az ?_;exact⟨O,O,iI,_,_,co,s4,iw,⟨lZ hi0,LC WZ hf2,aj⟩,.refl⟩
     refine(eN O (fun iI=>?_));refine⟨.inr MR,?_⟩;refine ae (i:=13) rfl an rfl rfl (gq (A:=[(b,jl lv (k+1+3+3) s3)]) (args:=[_,_,_]) rfl rfl (by first | exact .tail .all | exact .tail (.tail .all)) (fun h' hE hL=>oM _ h' cZ lv b (k+1+3+3) s3 1 9 (hl.ext hE) aj aj) (fun v A' hv=>?_));refine⟨.inr aC.nil,?_⟩;obtain⟨co,s4,rfl,Gw,bF⟩:=hv;refine Any.sb (by first | exact .cons (.cons bF) | exact .cons bF) ?_;refine ay 14 ?_
     first | refine ae (i:=16) rfl an rfl rfl (eSW rfl rfl rfl ?_) | refine ae (i:=16) rfl an rfl rfl (eSA rfl rfl rfl ?_)
     refine⟨.inr MR,?_⟩;refine az ?_;exact⟨O,O,iI,_,_,co,s4,iw,⟨lZ hi0,LC WZ hf2,aj⟩,.refl⟩
    refine(eN O (fun iI=>?_));refine⟨.inr MR,?_⟩;refine ae (i:=10) rfl an rfl rfl (gq (A:=[(b,jl lv (k+1+3) s2)]) (args:=[_,_]) rfl rfl (by first | exact .tail .all | exact .tail (.tail .all)) (fun h' hE hL=>jW _ h' cZ lv b (k+1+3) s2 (hl.ext hE) aj) (fun v A' hv=>?_));refine⟨.inr aC.nil,?_⟩;obtain⟨f2,s3,rfl,hf2,bF⟩:=hv;refine Any.sb (by first | exact .cons (.cons bF) | exact .cons bF) ?_;refine ay 11 ?_;refine ae (i:=13) rfl an rfl rfl (gq (A:=[(b,jl lv (k+1+3+3) s3)]) (args:=[_,_,_]) rfl rfl (by first | exact .tail .all | exact .tail (.tail .all)) (fun h' hE hL=>oM _ h' cZ lv b (k+1+3+3) s3 1 9 (hl.ext hE) aj aj) (fun v A' hv=>?_));refine⟨.inr aC.nil,?_⟩;obtain⟨co,s4,rfl,Gw,bF⟩:=hv;refine Any.sb (by first | exact .cons (.cons bF) | exact .cons bF) ?_;refine ay 14 ?_
    first | refine ae (i:=16) rfl an rfl rfl (eSW rfl rfl rfl ?_) | refine ae (i:=16) rfl an rfl rfl (eSA rfl rfl rfl ?_)
    refine⟨.inr MR,?_⟩;refine az ?_;exact⟨O,O,iI,_,_,co,s4,iw,⟨lZ hi0,LC WZ hf2,aj⟩,.refl⟩
   refine(eN O (fun iI=>?_));refine⟨.inr MR,?_⟩;refine ae (i:=7) rfl an rfl rfl (gq (A:=[(b,jl lv (k+1) s1)]) (args:=[_,_]) rfl rfl (by first | exact .tail .all | exact .tail (.tail .all)) (fun h' hE hL=>jW _ h' cZ lv b (k+1) s1 (hl.ext hE) aj) (fun v A' hv=>?_));refine⟨.inr aC.nil,?_⟩;obtain⟨f1,s2,rfl,WZ,bF⟩:=hv;refine Any.sb (by first | exact .cons (.cons bF) | exact .cons bF) ?_;refine ae (i:=10) rfl an rfl rfl (gq (A:=[(b,jl lv (k+1+3) s2)]) (args:=[_,_]) rfl rfl (by first | exact .tail .all | exact .tail (.tail .all)) (fun h' hE hL=>jW _ h' cZ lv b (k+1+3) s2 (hl.ext hE) aj) (fun v A' hv=>?_));refine⟨.inr aC.nil,?_⟩;obtain⟨f2,s3,rfl,hf2,bF⟩:=hv;refine Any.sb (by first | exact .cons (.cons bF) | exact .cons bF) ?_;refine ay 11 ?_;refine ae (i:=13) rfl an rfl rfl (gq (A:=[(b,jl lv (k+1+3+3) s3)]) (args:=[_,_,_]) rfl rfl (by first | exact .tail .all | exact .tail (.tail .all)) (fun h' hE hL=>oM _ h' cZ lv b (k+1+3+3) s3 1 9 (hl.ext hE) aj aj) (fun v A' hv=>?_));refine⟨.inr aC.nil,?_⟩;obtain⟨co,s4,rfl,Gw,bF⟩:=hv;refine Any.sb (by first | exact .cons (.cons bF) | exact .cons bF) ?_;refine ay 14 ?_
   first | refine ae (i:=16) rfl an rfl rfl (eSW rfl rfl rfl ?_) | refine ae (i:=16) rfl an rfl rfl (eSA rfl rfl rfl ?_)
   refine⟨.inr MR,?_⟩;refine az ?_;exact⟨O,O,iI,_,_,co,s4,iw,⟨lZ hi0,LC WZ hf2,aj⟩,.refl⟩
  refine(eN O (fun iI=>?_));refine⟨.inr MR,?_⟩;refine ae (i:=3) rfl an rfl rfl (gq (A:=[(b,jl lv k s)]) (args:=[_,_]) rfl rfl (by first | exact .tail .all | exact .tail (.tail .all)) (fun h' hE hL=>zK _ h' cZ lv b k s 2 (hl.ext hE) aj aj) (fun v A' hv=>?_));refine⟨.inr aC.nil,?_⟩;obtain⟨r0,s1,rfl,hr0,bF⟩:=hv;refine Any.sb (by first | exact .cons (.cons bF) | exact .cons bF) ?_;obtain⟨i0,rfl⟩:∃i:Nat,r0=i:=⟨r0.toNat,aj⟩
  have hi0:i0<3:=by omega
  refine fJ 4 (Yv.eq (u:=I (p2 i0)) (JK O O O (Int.natCast_nonneg _)) (by show I (IntKind.i64.wrap _)=_;rw[(Vd i0 hi0).1])) O ?_;refine ae (i:=7) rfl an rfl rfl (gq (A:=[(b,jl lv (k+1) s1)]) (args:=[_,_]) rfl rfl (by first | exact .tail .all | exact .tail (.tail .all)) (fun h' hE hL=>jW _ h' cZ lv b (k+1) s1 (hl.ext hE) aj) (fun v A' hv=>?_));refine⟨.inr aC.nil,?_⟩;obtain⟨f1,s2,rfl,WZ,bF⟩:=hv;refine Any.sb (by first | exact .cons (.cons bF) | exact .cons bF) ?_;refine ae (i:=10) rfl an rfl rfl (gq (A:=[(b,jl lv (k+1+3) s2)]) (args:=[_,_]) rfl rfl (by first | exact .tail .all | exact .tail (.tail .all)) (fun h' hE hL=>jW _ h' cZ lv b (k+1+3) s2 (hl.ext hE) aj) (fun v A' hv=>?_));refine⟨.inr aC.nil,?_⟩;obtain⟨f2,s3,rfl,hf2,bF⟩:=hv;refine Any.sb (by first | exact .cons (.cons bF) | exact .cons bF) ?_;refine ay 11 ?_;refine ae (i:=13) rfl an rfl rfl (gq (A:=[(b,jl lv (k+1+3+3) s3)]) (args:=[_,_,_]) rfl rfl (by first | exact .tail .all | exact .tail (.tail .all)) (fun h' hE hL=>oM _ h' cZ lv b (k+1+3+3) s3 1 9 (hl.ext hE) aj aj) (fun v A' hv=>?_));refine⟨.inr aC.nil,?_⟩;obtain⟨co,s4,rfl,Gw,bF⟩:=hv;refine Any.sb (by first | exact .cons (.cons bF) | exact .cons bF) ?_;refine ay 14 ?_
  first | refine ae (i:=16) rfl an rfl rfl (eSW rfl rfl rfl ?_) | refine ae (i:=16) rfl an rfl rfl (eSA rfl rfl rfl ?_)
  refine⟨.inr MR,?_⟩;refine az ?_;exact⟨O,O,iI,_,_,co,s4,iw,⟨lZ hi0,LC WZ hf2,aj⟩,.refl⟩
 rintro e gW iT F' ⟨rfl,rfl,iI,ta,le,co,s1,zD,⟨hta,hle,Gw⟩,UO⟩;refine d_ ?_;refine W.env zD (W.sb UO ?_);refine W.O6 (n:=12) O ?_;refine ay 0 ?_;refine ay 1 ?_;refine ay 2 ?_;refine ay 3 ?_;refine ay 5 ?_;refine ay 6 ?_;refine ae (i:=4) O an O O (gq (A:=[(b,jl lv (k+8) s1)]) (args:=[_,_]) O O (.tail (.tail .all)) (fun h' hE hL=>jW _ h' cZ lv b (k+8) s1 (hl.ext hE) aj) (fun v A' hv=>?_));refine⟨.inr (aC.one (.head _) aC.nil),?_⟩;obtain⟨f3,s2,rfl,hf3,bF⟩:=hv;refine Any.sb (.cons (.cons bF)) ?_;refine ae (i:=7) O an O O (gq (A:=[(b,jl lv (k+8+3) s2)]) (args:=[_,_]) O O (.tail (.tail .all)) (fun h' hE hL=>jW _ h' cZ lv b (k+8+3) s2 (hl.ext hE) aj) (fun v A' hv=>?_));refine⟨.inr (aC.one (.head _) aC.nil),?_⟩;obtain⟨f4,s3,rfl,hf4,bF⟩:=hv;refine Any.sb (.cons (.cons bF)) ?_;have DN:=auM hta (LC hf3 hf4);refine ay 8 ?_;refine ay 9 ?_;refine ay 10 ?_;refine ae (i:=11) O an O O (eS O O O ?_);refine⟨.inl aB,?_⟩;refine az ?_;refine kJ ?_;refine cg (A:=[(b,_)]) (.tail (.tail .all)) (fun h' hE hL=>I8 _ h' cZ lv b (k+8+3+3) s3 3 (hl.ext hE) aj aj) (fun v A' hv=>?_);obtain⟨r1,s4,rfl,bF⟩:=hv;refine aA.sb (.cons (.cons bF)) ?_;refine d_ ?_;refine W.cond O (fun c34=>?_) (fun c34=>?_)
 ·refine lF ?_;refine cg (A:=[(b,_)]) (.tail (.tail .all)) (fun h' hE hL=>zK _ h' cZ lv b (k+8+3+3+1) s4 2 (hl.ext hE) aj aj) (fun v A' hv=>?_);obtain⟨q1,s5,rfl,hq1,bF⟩:=hv;refine aA.sb (.cons (.cons bF)) ?_;obtain⟨i1,rfl⟩:∃i:Nat,q1=i:=⟨q1.toNat,aj⟩
  have Vy:i1<3:=by omega
  refine Gh (u:=I (p2 i1)) (JK O O O (Int.natCast_nonneg _)) (by show I (IntKind.i64.wrap _)=_;rw[(Vd i1 Vy).1]) O wn O O ?_;refine jk ?_;refine cg (A:=[(b,_)]) (.tail (.tail .all)) (fun h' hE hL=>I8 _ h' cZ lv b _ _ 3 (hl.ext hE) aj aj) (fun v A' hv=>?_);obtain⟨r2,s6,rfl,bF⟩:=hv;refine aA.sb (.cons (.cons bF)) ?_;refine qj ?_;refine W.cond O (fun c42=>?_) (fun c42=>?_)
  ·refine W.O6 (n:=10) O ?_;refine ay 0 ?_;refine ay 1 ?_;refine ay 2 ?_;refine ay 5 ?_;refine ay 6 ?_;refine ae (i:=3) O an O O (gq (A:=[(b,_)]) (args:=[_,_]) O O (.tail (.tail .all)) (fun h' hE hL=>zK _ h' cZ lv b _ s6 2 (hl.ext hE) aj aj) (fun v A' hv=>?_));refine⟨.inr (aC.one (.head _) aC.nil),?_⟩;obtain⟨q2,s7,rfl,hq2,bF⟩:=hv;refine Any.sb (.cons (.cons bF)) ?_;obtain⟨i2,rfl⟩:∃i:Nat,q2=i:=⟨q2.toNat,aj⟩
   have hi2:i2<3:=by omega
   refine fJ 4 (Yv.eq (u:=I (p2 i2)) (JK O O O (Int.natCast_nonneg _)) (by show I (IntKind.i64.wrap _)=_;rw[(Vd i2 hi2).1])) O ?_;refine fJ 7 (yV O O O) O ?_;refine ay 8 ?_;refine ae (i:=9) O an O O (eS O O O ?_);refine⟨.inl aB,?_⟩;refine az ?_;refine jk ?_
   first
   | (
     have PX:=IG (lZ hi2) (lZ Vy);exact AY (hv:=qU nM) ⟨⟨p2 i1,_,_,le,co⟩,_,_,O,m_ (lZ Vy) PX.1 DN hle PX.2 Gw,aj,.skip O (.skip O .refl)⟩)
   | (
     have PX:=IG (lZ hi2) yO;exact AY (hv:=qU nM) ⟨⟨0,_,_,le,co⟩,_,_,O,m_ yO PX.1 DN hle PX.2 Gw,aj,.skip O (.skip O .refl)⟩)
   | exact AY (hv:=qU nM) ⟨⟨p2 i1,0,_,le,co⟩,_,_,rfl,m_ (lZ Vy) yO DN hle (Bj (lZ Vy)) Gw,aj,.skip rfl (.skip rfl .refl)⟩
   | exact AY (hv:=qU nM) ⟨⟨0,0,_,le,co⟩,_,_,rfl,m_ yO yO DN hle (Bj yO) Gw,aj,.skip rfl (.skip rfl .refl)⟩
  refine kR ?_
  first
  | (
    have PX:=IG (lZ hi2) (lZ Vy);exact AY (hv:=qU nM) ⟨⟨p2 i1,_,_,le,co⟩,_,_,O,m_ (lZ Vy) PX.1 DN hle PX.2 Gw,aj,.skip O (.skip O .refl)⟩)
  | (
    have PX:=IG (lZ hi2) yO;exact AY (hv:=qU nM) ⟨⟨0,_,_,le,co⟩,_,_,O,m_ yO PX.1 DN hle PX.2 Gw,aj,.skip O (.skip O .refl)⟩)
  | exact AY (hv:=qU nM) ⟨⟨p2 i1,0,_,le,co⟩,_,_,rfl,m_ (lZ Vy) yO DN hle (Bj (lZ Vy)) Gw,aj,.skip rfl (.skip rfl .refl)⟩
  | exact AY (hv:=qU nM) ⟨⟨0,0,_,le,co⟩,_,_,rfl,m_ yO yO DN hle (Bj yO) Gw,aj,.skip rfl (.skip rfl .refl)⟩
 refine lg ?_;refine cg (A:=[(b,_)]) (.tail (.tail .all)) (fun h' hE hL=>I8 _ h' cZ lv b _ _ 3 (hl.ext hE) aj aj) (fun v A' hv=>?_);obtain⟨r2,s6,rfl,bF⟩:=hv;refine aA.sb (.cons (.cons bF)) ?_;refine qj ?_;refine W.cond O (fun c42=>?_) (fun c42=>?_)
 ·refine W.O6 (n:=10) O ?_;refine ay 0 ?_;refine ay 1 ?_;refine ay 2 ?_;refine ay 5 ?_;refine ay 6 ?_;refine ae (i:=3) O an O O (gq (A:=[(b,_)]) (args:=[_,_]) O O (.tail (.tail .all)) (fun h' hE hL=>zK _ h' cZ lv b _ s6 2 (hl.ext hE) aj aj) (fun v A' hv=>?_));refine⟨.inr (aC.one (.head _) aC.nil),?_⟩;obtain⟨q2,s7,rfl,hq2,bF⟩:=hv;refine Any.sb (.cons (.cons bF)) ?_;obtain⟨i2,rfl⟩:∃i:Nat,q2=i:=⟨q2.toNat,aj⟩
  have hi2:i2<3:=by omega
  refine fJ 4 (Yv.eq (u:=I (p2 i2)) (JK O O O (Int.natCast_nonneg _)) (by show I (IntKind.i64.wrap _)=_;rw[(Vd i2 hi2).1])) O ?_;refine fJ 7 (yV O O O) O ?_;refine ay 8 ?_;refine ae (i:=9) O an O O (eS O O O ?_);refine⟨.inl aB,?_⟩;refine az ?_;refine jk ?_
  first
  | (
    have PX:=IG (lZ hi2) (lZ Vy);exact AY (hv:=qU nM) ⟨⟨p2 i1,_,_,le,co⟩,_,_,O,m_ (lZ Vy) PX.1 DN hle PX.2 Gw,aj,.skip O (.skip O .refl)⟩)
  | (
    have PX:=IG (lZ hi2) yO;exact AY (hv:=qU nM) ⟨⟨0,_,_,le,co⟩,_,_,O,m_ yO PX.1 DN hle PX.2 Gw,aj,.skip O (.skip O .refl)⟩)
  | exact AY (hv:=qU nM) ⟨⟨p2 i1,0,_,le,co⟩,_,_,rfl,m_ (lZ Vy) yO DN hle (Bj (lZ Vy)) Gw,aj,.skip rfl (.skip rfl .refl)⟩
  | exact AY (hv:=qU nM) ⟨⟨0,0,_,le,co⟩,_,_,rfl,m_ yO yO DN hle (Bj yO) Gw,aj,.skip rfl (.skip rfl .refl)⟩
 refine kR ?_
 first
 | (
   have PX:=IG (lZ hi2) (lZ Vy);exact AY (hv:=qU nM) ⟨⟨p2 i1,_,_,le,co⟩,_,_,O,m_ (lZ Vy) PX.1 DN hle PX.2 Gw,aj,.skip O (.skip O .refl)⟩)
 | (
   have PX:=IG (lZ hi2) yO;exact AY (hv:=qU nM) ⟨⟨0,_,_,le,co⟩,_,_,O,m_ yO PX.1 DN hle PX.2 Gw,aj,.skip O (.skip O .refl)⟩)
 | exact AY (hv:=qU nM) ⟨⟨p2 i1,0,_,le,co⟩,_,_,rfl,m_ (lZ Vy) yO DN hle (Bj (lZ Vy)) Gw,aj,.skip rfl (.skip rfl .refl)⟩
 | exact AY (hv:=qU nM) ⟨⟨0,0,_,le,co⟩,_,_,rfl,m_ yO yO DN hle (Bj yO) Gw,aj,.skip rfl (.skip rfl .refl)⟩
theorem ab_(main:aN)(h:Hp)(cZ:List Int)(lv:Value)(b k:Nat)(s:Int)(hl:Sl h bY lv cZ)(hk:k<=1000):bG aV main TS #[aG b,I 4,I 3] h [(b,jl lv k s)]
  (fun v A=>∃gs Sp k' s',Os IZ Ag.row v gs Sp/\(gs.length<=4/\∀g∈gs,DJ g=0)/\k'<=k+100/\Sb ((b,jl lv k' s')::Sp) A):=by
 refine bG.bH func22 [(0,aG b),(1,I 4),(2,I 3)] ?_;refine CW ?_;refine cg (A:=[(b,_)]) .all (fun h' hE hL=>oM _ h' cZ lv b k s 0 4 (hl.ext hE) aj aj) (fun v A' hv=>?_);obtain⟨r,s1,rfl,hr,bF⟩:=hv;refine aA.sb bF ?_;obtain⟨m,rfl⟩:∃m:Nat,r=m:=⟨r.toNat,aj⟩
 refine gI ?_
 refine W.uq (σ:=Nat) (τ:=List Ag×Value×ah) (υ:=Nat×Int) (fun i t u=>i<=m/\Os IZ Ag.row t.2.1 t.1 t.2.2/\(∀p∈t.1,DJ p=0)/\t.1.length+i=m/\u.1+18*i<=k+1+18*m) (fun i t _=>[(8,I i),(7,t.2.1),(0,aG b),(2,I 3)])
  (fun _ t u=>(b,jl lv u.1 u.2)::t.2.2) (fun i _ _=>i) m ([],.slice none 0 0,[]) (k+1,s1) ⟨Nat.le_refl _,.nil .nil,(fun p hp=>by cases hp),by simp,by simp⟩ iw .refl ?_
 rintro i ⟨ps,vp,Sp⟩ ⟨k1,s2⟩ ⟨hi,hO,zU,hlen,hk1⟩;simp only at hO zU hlen hk1⊢;obtain⟨va,vc,rfl⟩:=hO.aU;refine lg ?_;refine W.aJ O (fun c13=>?_) (fun c13=>?_)
 ·skip
  refine kR ?_;refine cg (A:=[(b,_)]) .head (fun h' hE hL=>ad_ _ h' cZ lv b k1 s2 (hl.ext hE) aj) (fun v A' hv=>?_);obtain⟨p,k2,s3,rfl,hcp,hk2,bF⟩:=hv;refine aA.sb (bF.app (D:=Sp) .refl) ?_;refine aA.zZ (cs:= #[I p.ne,I p.no,I p.ta,I p.le,I p.co]) (fun mP=>?_) O;refine oe O wn O O (bV (row:=Ag.row) (l':=[p]) O O O hO (.tail (.tail .all)) (fun h2 _ hl=>Sl.mk (hl mP _ (.head _)) O (Part.all (flat Ag.row [p]))) (by simp;omega) dF O (fun v' S' qm=>?_));refine zW rfl rfl rfl<|aA.nil<|iE<|fH<|W.region rfl<|aiH rfl rfl rfl ?_;refine gI ?_;refine⟨O,i-1,(ps++[p],v',S'),(k2,s3),⟨aj,qm,fun q hq=>?_,by simp;omega,by simp only;omega⟩,aj,⟨lk O (show I _=I _ by congr 1;omega),O,O,O,trivial⟩,.skip O .refl⟩;rcases dh.1 hq with hq | hq
  ·exact zU q hq
  rw[dP.1 hq];exact hcp
 skip
 refine iC ?_;exact iQ (vs:=[_]) ⟨ps,Sp,k1,s2,hO,⟨aj,zU⟩,aj,.refl⟩

theorem ade(main:aN)(h:Hp)(l:List Ag)(v:Value)(hl:Sl h Ag.row v l)(hn:l.length<=1000):bG aV main acs #[v] h [] (fun v A=>∃S,Os IZ Ag.row v l S/\Sb S A):=by
 obtain⟨a,cap,rfl⟩:=hl.aU;refine bG.bH func40 [(0,.slice a l.length cap)] ?_;refine lg ?_;refine aA.alJ (fun nP=>?_);refine zT ?_;have hO:Os IZ Ag.row (.slice (some ⟨nP,0,none⟩) 0 0) ([]:List Ag) [(nP,.cells #[] IZ (0,0))]:=.inr ⟨nP, #[],0,[],O,O,O,Nat.le_refl _,Part.all [],.nil⟩;refine oe O wn O O (bV (row:=Ag.row) (l:=[]) (l':=l) O O O hO .all (fun h2 hE _=>hl.ext hE) (by simp;omega) dF O (fun v' S' xM=>?_));rw[List.nil_append]at xM;refine gI ?_;exact iQ (vs:=[v']) ⟨S',xM,.refl⟩

theorem EU.mk'{l:List Int}{d co wa qu:Int}(h1:1<=l.length/\l.length<=3)(h2:∀n∈l,0<=n/\n<=7)(h3:l.Pairwise (· < ·))(h4:0<=d/\d<=5)(h5:1<=co/\co<=6)(h6:0<=wa/\wa<=2)(h7:0<=qu/\qu<=12):EU ⟨l,d,co,wa,qu⟩:=by
 refine⟨h1.1,h1.2,fun n hn=>by have:=h2 n hn;omega,h3,?_,?_,?_,?_⟩ <;>simp only <;>omega
theorem auN(p q:Be):(!decide ([p.fl,p.day]=[q.fl,q.day]))=decide (p≠q):=by
 obtain⟨x,y⟩:=p;obtain⟨x',y'⟩:=q;by_cases h:x=x'/\y=y'
 ·simp[h]
 simp[h]
theorem acd(main:aN)(h:Hp)(l l':List Be)(v v':Value)(hl:Sl h Be.row v l)(hl':Sl h Be.row v' l')(hn:l.length<=100000):Pu aV main TR #[v,v'] h (.bool (decide (l=l'))):=by
 obtain⟨a,cap,rfl⟩:=hl.aU;obtain⟨a',f_,rfl⟩:=hl'.aU;refine bG.bH func19 [(0,.slice a l.length cap),(1,.slice a' l'.length f_)] ?_;refine gZ ?_;refine W.loop (σ:=Nat) (fun k=>k<=l.length/\k<=l'.length/\l.take k=l'.take k) (fun k=>[(5,I k),(0,.slice a l.length cap),(1,.slice a' l'.length f_)]) (fun _=>[]) (fun k=>l.length-k) 0 ⟨Nat.zero_le _,Nat.zero_le _,O⟩ iw qE ?_;rintro k ⟨hk,fA,he⟩;refine kR ?_;refine aA.ask (fun aqA=>?_) (fun aqA=>?_)
 ·refine lg ?_;refine W.aJ O (fun Xn=>?_) (fun Xn=>?_)
  ·obtain⟨p,hp,-⟩:=has (show k<l.length by omega);obtain⟨q,hq,-⟩:=has (show k<l'.length by omega);obtain⟨b,off,c,E,fz,rfl,hb,Vh,YZ,Gq⟩:=hl.at hp;have hx2:c.extract (off+k*2) (off+k*2+2)= #[I p.fl,I p.day]:=Vh;clear Vh Gq;obtain⟨b',J8,c',E',fz',rfl,wz,Vh,hy2,Gq⟩:=hl'.at hq;have hx3:c'.extract (J8+k*2) (J8+k*2+2)= #[I q.fl,I q.day]:=Vh;clear Vh Gq;refine kJ ?_;refine W.jS (n:=9) O ?_;refine ay 0 ?_;refine ay 1 ?_;refine ay 2 ?_;refine ay 3 ?_;refine ay 4 ?_;refine ay 5 ?_;refine ay 6 ?_;refine ay 7 ?_;refine fJ 8 (Yv.eq (u:=.bool (decide (p≠q))) (an_ [p.fl,p.day] [q.fl,q.day] O O O O O O O) (congrArg Value.bool (auN p q))) O ?_;refine az ?_;refine fH ?_;refine W.aJ O (fun Rf=>?_) (fun Rf=>?_)
   ·refine gZ ?_;refine lQ ?_;refine congrArg Value.bool (decide_eq_false fun e=>?_).symm;subst e;rw[hp]at hq
    cases hq
    exact Rf O
   refine kR ?_;have hpq:p=q:=Decidable.byContradiction Rf;subst hpq;exact⟨O,k+1,⟨aj,aj,by rw[I_ hp,I_ hq,he]⟩,aj,iw,qE⟩
  refine Qu ?_;refine lQ ?_;refine congrArg Value.bool (decide_eq_decide.2 ⟨fun e=>?_,fun e=>?_⟩)
  ·have e':l.length=l'.length:=by omega
   have zI:k=l.length:=by omega
   rw[<-List.take_length (l:=l),<-List.take_length (l:=l'),<-e',<-zI,he]
  rw[e]
 refine lg ?_;refine W.iq ?_;refine Qu ?_;refine lQ ?_;refine congrArg Value.bool (decide_eq_decide.2 ⟨fun e=>?_,fun e=>?_⟩)
 ·have e':l.length=l'.length:=by omega
  have zI:k=l.length:=by omega
  rw[<-List.take_length (l:=l),<-List.take_length (l:=l'),<-e',<-zI,he]
 rw[e]

inductive OsM:List (Value×Mt)->ah->Prop
 | nil:OsM [] []
 | cons {p:Value×Mt} {l:List (Value×Mt)} {A B:ah}:Os aX bY p.1 p.2.ks A->OsM l B->OsM (p::l) (A++B)
theorem OsM.shut{l:List (Value×Mt)}(h:OsM l A):eH A:=by
 induction h with
 | nil=>exact .nil
 | cons h _ ih=>exact h.shut.app ih
theorem OsM.snoc{l:List (Value×Mt)}{p:Value×Mt}{B:ah}(h:OsM l A)(hs:Os aX bY p.1 p.2.ks B):OsM (l++[p]) (A++B):=by
 induction h with
 | nil=>have:=OsM.cons hs .nil;simpa using this
 | cons h1 _ ih=>have:=OsM.cons h1 ih;rw[<-eF]at this;exact this
theorem ZC{x:Cx}{c:Code}{Q:fO}{ds:List Deferred}{l:List (Value×Mt)}(hs:OsM l A)
  (H:∀h',Ext x.h h'->(∀p∈l,Sl h' bY p.1 p.2.ks/\Zs h' p.1)->W {x with h:=h'} c Q ρ ds F):W x c Q ρ ds (A++F):=by
 induction hs generalizing x with
 | nil=>exact H x.h ⟨fun _ _ q=>q,fun _ q=>q⟩ fun p hp=>by cases hp
 | cons h1 h2 ih=>
  rw[eF];refine eY h1 fun h' hE P7 hz=>ih (x:={x with h:=h'}) fun Gm TA aO=>H Gm (hE.trans TA) fun p hp=>?_;rcases bU.1 hp with rfl | hp
  ·exact⟨P7.ext TA,hz.ext TA⟩
  exact aO p hp

theorem anl{l:List Int}{q r:Int}(h:l.Pairwise (· < ·))(hq:l[l.length-1]? =some q)(hr:q<r):(l++[r]).Pairwise (· < ·):=by
 rw[List.pairwise_append];refine⟨h,List.pairwise_singleton ..,fun a ha b hb=>?_⟩;rw[dP.1 hb];obtain⟨i,hi⟩:=List.getElem?_of_mem ha
 have Gp:i<l.length:=by
  rcases bQ i l.length with h' | h'
  ·exact h'
  rw[fM h']at hi;cases hi
 rcases bQ i (l.length-1)with h' | h'
 ·rw[jh Gp,dY]at hi;rw[jh aj,dY]at hq;have:=List.pairwise_iff_getElem.1 h i (l.length-1) Gp aj h';omega
 have:i=l.length-1:=by omega
 subst this;rw[hi]at hq
 cases hq
 omega

theorem ZE(main:aN)(h:Hp)(cZ:List Int)(lv:Value)(b k:Nat)(s:Int)(hl:Sl h bY lv cZ)(hk:k<=10000):bG aV main Qw #[aG b] h [(b,jl lv k s)]
  (fun v A=>∃kv x S k' s',v= .agg #[kv,I x.d,I x.co,I x.wa,I x.qu]/\Os aX bY kv x.ks S/\EU x/\(∀n∈x.ks,n<=7)/\k'<=k+20/\Sb ((b,jl lv k' s')::S) A):=by
 refine bG.bH func28 [(0,aG b)] ?_;refine d_ ?_;refine aA.new (fun oJ=>?_);refine lF ?_;refine cg (A:=[(b,_)]) (.tail .all) (fun h' hE hL=>zK _ h' cZ lv b k s 7 (hl.ext hE) aj aj) (fun v A' hv=>?_);obtain⟨r0,s1,rfl,hr0,bF⟩:=hv;refine aA.sb (.cons bF) ?_;refine aA.zZ (cs:= #[I r0]) (fun zC=>?_) O;refine zT ?_;refine cg (A:=[(b,_)]) (.tail (.tail .all)) (fun h' hE hL=>zK _ h' cZ lv b (k+1) s1 5 (hl.ext hE) aj aj) (fun v A' hv=>?_);obtain⟨d,s2,rfl,hd,bF⟩:=hv;refine aA.sb (.cons (.cons bF)) ?_;refine d_ ?_;refine cg (A:=[(b,_)]) (.tail (.tail .all)) (fun h' hE hL=>oM _ h' cZ lv b (k+1+1) s2 1 6 (hl.ext hE) aj aj) (fun v A' hv=>?_);obtain⟨r3,s3,rfl,hr3,bF⟩:=hv;refine aA.sb (.cons (.cons bF)) ?_;refine aA.zZ (cs:= #[I 1,I 2,I 2,I 3,I r3]) (fun Zu=>?_) O;refine cg (A:=[(b,_)]) (.tail (.tail (.tail .all))) (fun h' hE hL=>EN _ h' cZ lv b (k+1+1+1) s3 [1,2,2,3,r3] _ (hl.ext hE) (Sl.mk (hL Zu _ (.head _)) O (Part.all [I 1,I 2,I 2,I 3,I r3])) aj (by simp) (by simp)) (fun v A' hv=>?_);obtain⟨co,s4,rfl,Gw,bF⟩:=hv;refine aA.sb (.skip O (.cons (.cons bF))) ?_
 have ayq:1<=co/\co<=6:=by
  simp only[bU,List.not_mem_nil,or_false]at Gw;omega
 refine zT ?_;refine cg (A:=[(b,_)]) (.tail (.tail .all)) (fun h' hE hL=>zK _ h' cZ lv b (k+1+1+1+1) s4 2 (hl.ext hE) aj aj) (fun v A' hv=>?_);obtain⟨wa,s5,rfl,hwa,bF⟩:=hv;refine aA.sb (.cons (.cons bF)) ?_;refine zT ?_;refine cg (A:=[(b,_)]) (.tail (.tail .all)) (fun h' hE hL=>zK _ h' cZ lv b (k+1+1+1+1+1) s5 12 (hl.ext hE) aj aj) (fun v A' hv=>?_);obtain⟨qu,s6,rfl,hqu,bF⟩:=hv;refine aA.sb (.cons (.cons bF)) ?_;refine zT ?_;refine aA.new (fun nP=>?_);refine lg ?_;refine aA.zZ (cs:= #[I 0,I 0,I 1,I 1,I 2]) (fun pW=>?_) O;refine cg (A:=[(b,_)]) (.tail (.tail (.tail (.tail .all)))) (fun h' hE hL=>EN _ h' cZ lv b (k+1+1+1+1+1+1) s6 [0,0,1,1,2] _ (hl.ext hE) (Sl.mk (hL pW _ (.head _)) O (Part.all [I 0,I 0,I 1,I 1,I 2])) aj (by simp) (by simp)) (fun v A' hv=>?_);obtain⟨r4,s7,rfl,hr4,bF⟩:=hv;refine aA.sb (.skip O (.cons (.cons (.cons bF)))) ?_
 have aAF:0<=r4/\r4<=2:=by
  simp only[bU,List.not_mem_nil,or_false]at hr4;omega
 obtain⟨m,rfl⟩:∃m:Nat,r4=m:=⟨r4.toNat,aj⟩
 refine gI ?_
 refine W.uq (σ:=Nat) (τ:=List Int×Value×ah) (υ:=Nat×Int) (fun i t u=>i<=2/\Os aX bY t.2.1 t.1 t.2.2/\(1<=t.1.length/\t.1.length+i<=3)/\(∀n∈t.1,0<=n/\n<=7)/\t.1.Pairwise (· < ·)/\u.1+i<=k+9) (fun i _ _=>[(4,I i),(3,aG nP),(2,aG oJ),(0,aG b)])
  (fun _ t u=>(nP,.cells #[t.2.1,I d,I co,I wa,I qu] kD (0,0))::(oJ,.cells #[.slice none 0 0,I 0,I 0,I 0,I 0] kD (0,0))::(b,jl lv u.1 u.2)::t.2.2) (fun i _ _=>i) m ([r0],.slice (some ⟨zC,0,none⟩) 1 1,[(zC,.cells #[I r0] aX (0,0))]) (k+1+1+1+1+1+1+1,s7)
  ⟨aj,.inr ⟨zC, #[I r0],1,[],O,O,O,Nat.le_refl _,Part.all [I r0],.nil⟩,⟨Nat.le_refl _,by simp;omega⟩,(fun n hn=>by rw[dP.1 hn];omega),List.pairwise_singleton ..,by simp only;omega⟩ iw (.cons (.aT (dK (l₁:=[_,_]) (l₂:=[_])))) ?_
 rintro i ⟨ks,kv,S⟩ ⟨k1,u1⟩ ⟨hi,hO,⟨hl1,hl3⟩,Tf,hup,hk1⟩;simp only at hO hl1 hl3 Tf hup hk1⊢;rcases id hO with⟨he,-⟩ | ⟨XU,cc,ND,Jc,rfl,rfl,Y4,ZJ,hpt,hJc⟩
 ·rw[he]at hl1;exact absurd hl1 dF
 refine lg ?_;refine W.aJ O (fun JW=>?_) (fun JW=>?_)
 ·obtain⟨q,hq,-⟩:=has (show ks.length-1<ks.length by omega);have hq7:=Tf q (dL hq);have hqc:=Part.TM hpt hq 0 dF;have aAG:cc[0+(ks.length-1)*1]? =some (I q):=hqc;refine iC ?_;refine b_ (Yv.eq (u:=I ((ks.length-1:Nat):Int)) (Vr O O O) (by congr 1;omega)) O ?_;refine FT ?_;refine W.aJ O (fun c37=>?_) (fun c37=>?_)
  ·refine W.O6 (n:=10) O ?_;refine ay 0 ?_;refine ay 1 ?_;refine ay 2 ?_;refine ay 3 ?_;refine ay 4 ?_;refine ae (i:=5) O an O O (gq (A:=[(b,_)]) (args:=[_,_,_]) O O (.tail (.tail .head)) (fun h' hE hL=>oM _ h' cZ lv b k1 u1 (q+1) 7 (hl.ext hE) aj aj) (fun v A' hv=>?_));refine⟨.inr (aC.one (.head _) aC.nil),?_⟩;obtain⟨r,u2,rfl,hr,bF⟩:=hv;refine Any.sb (.cons (.cons (bF.app .refl))) ?_;refine abl (i:=6) (cs:= #[I r]) (fun ap3=>?_) O;refine ae (i:=7) O an O O (bV (row:=bY) (l':=[r]) O O O hO (.tail (.tail (.tail (.tail .all)))) (fun h2 _ hl=>Sl.mk (hl ap3 _ (.head _)) O (Part.all [I r])) (by simp;omega) dF O (fun v' S' xM=>?_));refine⟨.inr (aC.one (.tail _ (.head _)) aC.nil),?_⟩;have mM:one v'=true:=by obtain⟨_,_,rfl⟩:=xM.aU;rfl
   refine ay 8 ?_;refine ae (i:=9) O an O O (eS O O O ?_);refine⟨.inl aB,?_⟩;refine az ?_;refine jk ?_;refine⟨O,i-1,(ks++[r],v',S'),(k1+1,u2),⟨aj,xM,⟨by simp,by simp only[jA,gK,List.length_nil];omega⟩,fun n hn=>?_,anl hup hq aj,by simp only;omega⟩,aj,⟨lk O (show I _=I _ by congr 1;omega),O,O,O,trivial⟩,.skip O .refl⟩;rcases dh.1 hn with hn | hn
   ·exact Tf n hn
   rw[dP.1 hn];omega
  refine kR ?_;exact⟨O,i-1,(ks,_,_),(k1,u1),⟨aj,hO,⟨hl1,by simp only;omega⟩,Tf,hup,by simp only;omega⟩,aj,⟨lk O (show I _=I _ by congr 1;omega),O,O,O,trivial⟩,.refl⟩
 refine iC ?_;refine AY (hv:=qU nM) ⟨_,⟨ks,d,co,wa,qu⟩,_,k1,u1,O,hO,EU.mk' ⟨hl1,aj⟩ Tf hup aj ayq aj aj,(fun n hn=>(Tf n hn).2),aj,.skip O (.skip O .refl)⟩
theorem pa(c:Array Value)(l:List Int)(h:c=(flat bY l).toArray:=by rfl):Part c 0 (flat bY l):=by
 subst h;exact Part.all _
theorem aea{f:Fl}(h1:1<=f.pl/\f.pl<=9)(h2:1<=f.lo/\f.lo<=6)(h3:f.lo<=f.hi/\f.hi<=6)(h4:0<=f.co/\f.co<=9):lu f=0:=by
 unfold lu;rw[if_neg (by unfold outs;omega),if_neg aj,if_neg (by unfold outs;omega)]
theorem aeb(main:aN)(h:Hp)(cZ:List Int)(lv:Value)(b k:Nat)(s:Int)(hl:Sl h bY lv cZ)(hk:k<3000000000):bG aV main VH #[.pointer (some ⟨b,0,none⟩)] h [(b,jl lv k s)] (fun v A=>∃f s',v=Fl.val f/\lu f=0/\Sb [(b,jl lv (k+6) s')] A):=by
 refine bG.bH func27 [(0,.pointer (some ⟨b,0,none⟩))] ?_;refine d_ ?_;refine aA.new (fun oJ=>?_);refine kJ ?_;refine cg (A:=[(b,_)]) (.tail .head) (fun h' hE hL=>oM _ h' cZ lv b k s 1 6 (hl.ext hE) aj aj) (fun v A' hv=>?_);obtain⟨r,s1,rfl,hr,bF⟩:=hv;refine aA.sb (.cons (bF.app .refl)) ?_;refine aA.zZ (cs:= #[I 1,I 2,I 2,I 3,I r]) (fun yc=>?_) O;refine cg (A:=[(b,_)]) (.tail (.tail .head)) (fun h' hE hL=>EN _ h' cZ lv b (k+1) s1 [1,2,2,3,r] _ (hl.ext hE) (Sl.mk (hL yc _ (.head _)) O (pa _ _)) aj (by simp) (by simp)) (fun v A' hv=>?_);obtain⟨lo,s2,rfl,Qb,bF⟩:=hv;refine aA.sb (F':=[(oJ,_),(b,_)]) (.skip O (.cons (bF.app .refl))) ?_;refine lg ?_;refine cg (A:=[(b,_)]) (.tail .head) (fun h' hE hL=>oM _ h' cZ lv b (k+2) s2 1 9 (hl.ext hE) aj aj) (fun v A' hv=>?_);obtain⟨r2,s3,rfl,hr2,bF⟩:=hv;refine aA.sb (.cons (bF.app .refl)) ?_;refine aA.zZ (cs:= #[I 2,I 3,I 4,I 5,I r2]) (fun amX=>?_) O;refine cg (A:=[(b,_)]) (.tail (.tail .head)) (fun h' hE hL=>EN _ h' cZ lv b (k+3) s3 [2,3,4,5,r2] _ (hl.ext hE) (Sl.mk (hL amX _ (.head _)) O (pa _ _)) aj (by simp) (by simp)) (fun v A' hv=>?_);obtain⟨pl,s4,rfl,OI,bF⟩:=hv;refine aA.sb (F':=[(oJ,_),(b,_)]) (.skip O (.cons (bF.app .refl))) ?_;refine gI ?_;refine aA.zZ (cs:= #[I 0,I 1,I 1,I 2]) (fun agT=>?_) O;refine cg (A:=[(b,_)]) (.tail (.tail .head)) (fun h' hE hL=>EN _ h' cZ lv b (k+4) s4 [0,1,1,2] _ (hl.ext hE) (Sl.mk (hL agT _ (.head _)) O (pa _ _)) aj (by simp) (by simp)) (fun v A' hv=>?_);obtain⟨d,s5,rfl,hd,bF⟩:=hv;refine aA.sb (F':=[(oJ,_),(b,_)]) (.skip O (.cons (bF.app .refl))) ?_;have aAH:1<=lo/\lo<=6:=by simp at Qb;omega
 have hd2:0<=d/\d<=2:=by simp at hd;omega
 obtain⟨hi,hhi⟩:∃hi,min 6 (lo+d)=hi:=⟨_,rfl⟩
 refine asT O ?_;refine b_ ((ZP O O O).eq (u:=I hi) (congrArg I hhi)) O ?_;refine b_ (dw (cs:= #[I lo,I hi]) O O O) O ?_;refine zT ?_;refine aA.zZ (cs:= #[I 0,I 1,I 2,I 3,I 9]) (fun lX=>?_) O;refine cg (A:=[(b,_)]) (.tail (.tail .head)) (fun h' hE hL=>EN _ h' cZ lv b (k+5) s5 [0,1,2,3,9] _ (hl.ext hE) (Sl.mk (hL lX _ (.head _)) O (pa _ _)) aj (by simp) (by simp)) (fun v A' hv=>?_);obtain⟨co,s6,rfl,Gw,bF⟩:=hv;refine aA.sb (F':=[(oJ,_),(b,_)]) (.skip O (.cons (bF.app .refl))) ?_;refine b_ (dw (cs:= #[I pl,I lo,I hi,I co]) O O O) O ?_;refine gI ?_;refine AY (hv:=qU nM) ⟨⟨pl,lo,hi,co⟩,s6,O,?_,.skip O .refl⟩;simp at OI Gw;exact aea (by simp only;omega) (by simp only;omega) (by simp only;omega) (by simp only;omega)
end Go.jc
