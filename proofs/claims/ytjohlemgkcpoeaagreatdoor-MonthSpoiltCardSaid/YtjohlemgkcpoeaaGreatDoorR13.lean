/- A share as it lies in memory while it is made; room as it lies there. Conditions: none; no program in sight. (And 10 texts more.) -/
import Derived.Test.YtjohlemgkcpoeaaGreatDoorR12
import Derived.Test.YtjohlemgkcpoeaaGreatDoorR10
set_option linter.unusedVariables false
set_option linter.unusedSimpArgs false
set_option linter.unusedSectionVars false
set_option maxRecDepth 100000
set_option maxHeartbeats 4000000

open Go.Proofs.Tryz
namespace Go.jc
set_option linter.unusedVariables false
def qo(s:List Int):List Int:=s++List.replicate (4-s.length) 0
def BZ(q:List Int):Array Value:=(q.map fun n=>I n).toArray
abbrev shV(s:List Int):Value:=.agg (BZ (qo s))
theorem xG{q:List Int}:(BZ q).size=q.length:=by simp[BZ]
theorem abp{q:List Int}:lC (BZ q).toList=true:=by
 have:∀l:List Int,lC (l.map fun n=>I n)=true:=fun l=>by
  induction l with
  | nil=>rfl
  | cons a l ih=>simpa[lC,one]using ih
 simpa[BZ]using this q
variable{A B' R S S':ah}{J:Nat->ah->Prop}{K:Nat->Value->ah->Prop}{a:Int}{bs i j k k2:Nat}{ls:List Lt}{p pre rs s:List Int}{ps:List Pn}{t:Tm}{tl:List Value}{v vm:Value}{x y:Nat×Obj}{xs:List (List Int)}{α β:Type}{b:List α}{g:α->List β}
theorem aqr{q:List Int}(h:q[i]? =some a):(BZ q)[0+i*1]? =some (I a):=by
 simp[BZ,h]
theorem afg{q:List Int}:(BZ q).setIfInBounds (0+i*1) (I a)=BZ (q.set i a):=by
 simp[BZ,List.map_set]
theorem abq(h:s.length<=4):(qo s).length=4:=by simp[qo];omega
structure Pg(n:Nat)(pre q:List Int):Prop where
 len:q.length=4
 pre:q.take pre.length=pre
 tl:q.drop n=List.replicate (4-n) 0
theorem Pg.start{n:Nat}(hn:n<=4):Pg n [] [0,0,0,0]:=by
 refine⟨O,O,?_⟩;rcases(by omega:n=0\/n=1\/n=2\/n=3\/n=4)with rfl | rfl | rfl | rfl | rfl <;>rfl
theorem Pg.full{n:Nat}{q:List Int}(h:Pg n pre q)(he:pre.length=n):q=qo pre:=by
 have:q=q.take pre.length++q.drop n:=by rw[he,List.take_append_drop]
 rw[this,h.pre,h.tl,qo,he]
theorem Pg.set{n:Nat}{q:List Int}(h:Pg n pre q)(hl:pre.length<n)(hn:n<=4):Pg n (pre++[a]) (q.set pre.length a):=by
 refine⟨by rw[List.length_set,h.len],?_,?_⟩
 ·rw[jA,List.length_singleton,List.take_add_one,List.take_set_of_le (Nat.le_refl _),h.pre,List.getElem?_set_self (by rw[h.len];omega)]
  rfl
 rw[List.drop_set_of_lt hl];exact h.tl
theorem Pg.less{n:Nat}{q:List Int}(h:Pg n (pre++[a]) q):Pg n pre q:=by
 refine⟨h.len,?_,h.tl⟩;have:=congrArg (List.take pre.length) h.pre;rw[List.take_take,jA,List.length_singleton,Nat.min_eq_left aj]at this;rw[this];simp

abbrev rmO(tl:List Value)(rs:List Int):Obj:=.cells (((rs.map fun n=>I n)++tl).toArray) 3 (0,0)
theorem ajJ{p:Nat}(h:p<rs.length):(((rs.map fun n=>I n)++tl).toArray)[0+p*1]? =some (I (rs.getD p 0)):=by
 rw[List.getElem?_toArray,List.getElem?_append_left (by rw[List.length_map];omega)];simp[List.getD_eq_getElem?_getD,jh h]
theorem ajK{p:Nat}(h:p<rs.length):(((rs.map fun n=>I n)++tl).toArray).setIfInBounds (0+p*1) (I a)=(((rs.set p a).map fun n=>I n)++tl).toArray:=by
 apply Array.ext';rw[Array.toList_setIfInBounds];simp only[Nat.zero_add,Nat.mul_one];rw[List.set_append_left _ _ (by rw[List.length_map];exact h),List.map_set]
theorem afh{p:Nat}(h:p<rs.length):0+p*1<(((rs.map fun n=>I n)++tl).toArray).size:=by simp;omega
theorem amF{l:Lt}{p:Nat}(h:p<rs.length):(less l rs p).set p ((less l rs p).getD p 0+l.po)=rs:=by
 have e:(less l rs p).getD p 0=rs.getD p 0-l.po:=by simp[less,List.getD_eq_getElem?_getD,h]
 rw[e,less,List.set_set];apply List.ext_getElem?;intro i;rw[List.getElem?_set];split
 ·rename_i hi;subst hi;simp[List.getD_eq_getElem?_getD,jh h,h]
 rfl
def Rl(o:Option (Nat×List Value))(rs:List Int):ah:=match o with
 | none=>[]
 | some y=>[(y.1,rmO y.2 rs)]
def RmV(o:Option (Nat×List Value))(n:Nat)(vm:Value):Prop:=match o with
 | none=>n=0/\vm= .slice none 0 0
 | some y=>∃cap,vm= .slice (some ⟨y.1,0,none⟩) n cap
theorem RmV.aU{o:Option (Nat×List Value)}{n:Nat}(h:RmV o n vm):∃a cap,vm= .slice a n cap:=by
 cases o with
 | none=>obtain⟨rfl,rfl⟩:=h;exact⟨_,_,rfl⟩
 | some y=>obtain⟨cap,rfl⟩:=h;exact⟨_,_,rfl⟩
theorem adL{l:List Int}:flat bY l=l.map fun n=>I n:=by
 induction l with
 | nil=>rfl
 | cons a l ih=>rw[iW,ih];rfl
theorem agJ{c:Array Value}{l:List Value}(h:Part c 0 l):∃tl,c=(l++tl).toArray:=by
 obtain⟨pre,post,h1,h2⟩:=h;obtain rfl:=jy.1 h2;exact⟨post,Array.ext' h1⟩
theorem amG(h:Os 3 bY vm rs R):∃o,RmV o rs.length vm/\Sb (Rl o rs) R:=by
 rcases h with⟨rfl,rfl,h⟩ | ⟨β,c,cap,J,rfl,rfl,h1,h2,h3,h⟩
 ·exact⟨none,⟨O,O⟩,.nil h⟩
 rw[adL]at h3;obtain⟨tl,rfl⟩:=agJ h3;exact⟨some (β,tl),⟨cap,O⟩,.cons (.nil h)⟩
theorem abr(main:aN)(h:Hp)(ls:List Lt)(l:Lt)(rs:List Int)(i p:Nat)(vp vl:Value)(cap β bl b4 b5 b6:Nat)(tl:List Value)(El E4 E5 E6:TypeId)(zl z4 z5 z6:Nat×Nat)(hl:Sl h Lt.row vl ls)(hli:ls[i]? =some l)(hp:p<rs.length)(h0: -9<=rs.getD p 0/\rs.getD p 0<=40)(hb:1<=l.po/\l.po<=9)
  (FQ:h bl=some (.cells #[vp,U8 0,vl,.slice (some ⟨β,0,none⟩) rs.length cap] El zl)) (h4:h b4=some (.cells #[aG bl] E4 z4)) (h5:h b5=some (.cells #[I i] E5 z5)) (h6:h b6=some (.cells #[I p] E6 z6)):
  QN aV main qH #[aG b4,aG b6,aG b5] h [(β,rmO tl rs)] (fun A=>A=[(β,rmO tl (rs.set p (rs.getD p 0+l.po)))]):=by
 have Gp:i<ls.length:=by
  rcases bQ i ls.length with h' | h'
  ·exact h'
  rw[fM h']at hli;cases hli
 obtain⟨a9,axn,rfl⟩:=hl.aU;obtain⟨b,off,c,E,fz,rfl,hbb,hx,hy,hz⟩:=hl.at hli;have Gq:c[off+i*2+1]? =some (I l.po):=hz 1 dF;clear hx hz;have hr0:=ajJ (tl:=tl) hp;have oH:=afh (tl:=tl) hp;refine QN.gX func196 O (by show 3<=20;decide) [(0,aG b4),(1,aG b6),(2,aG b5)] ⟨O,O,O,trivial⟩ ?_;refine W.jS (n:=18) O ?_;refine ay 0 ?_;refine ay 1 ?_;refine ay 2 ?_;refine ay 3 ?_;refine ay 4 ?_;refine ay 5 ?_;refine ay 6 ?_;refine ay 7 ?_;refine ay 8 ?_;refine ay 9 ?_;refine ay 10 ?_;refine ay 11 ?_;refine ay 12 ?_;refine ay 13 ?_;refine ay 14 ?_;refine ay 15 ?_;refine ay 16 ?_;refine ae (i:=17) O an O O (eS O O O ?_);refine⟨.inl aB,?_⟩;refine az ?_;rw[ajK hp];exact iQ O

theorem amH(main:aN)(h:Hp)(ls:List Lt)(l:Lt)(rs:List Int)(i p:Nat)(vp vl dov:Value)(cap β bl:Nat)(tl:List Value)(El:TypeId)(zl:Nat×Nat)(A:ah)(hl:Sl h Lt.row vl ls)(hli:ls[i]? =some l)(hp:p<rs.length)(h0:0<=rs.getD p 0/\rs.getD p 0<=40)(hb:1<=l.po/\l.po<=9)
  (FQ:h bl=some (.cells #[vp,U8 0,vl,.slice (some ⟨β,0,none⟩) rs.length cap] El zl)) (P:Value->ah->Prop)
  (hdo:∀h',Ext h h'->gG aV main dov [] h' (A++[(β,rmO tl (less l rs p))]) (fun v A1=>∃r,v= .bool r/\∃B,P (.bool r) B/\Sb (B++[(β,rmO tl (less l rs p))]) A1)):
  bG aV main Nk #[aG bl,I i,I p,dov] h (A++[(β,rmO tl rs)]) (fun v A'=>∃B,P v B/\Sb (B++[(β,rmO tl rs)]) A'):=by
 have Gp:i<ls.length:=by
  rcases bQ i ls.length with h' | h'
  ·exact h'
  rw[fM h']at hli;cases hli
 have hl2:=hl;obtain⟨a9,axn,rfl⟩:=hl.aU;obtain⟨b,off,c,E,fz,rfl,hbb,hx,hy,hz⟩:=hl.at hli;have Gq:c[off+i*2+1]? =some (I l.po):=hz 1 dF;clear hx hz;have hr0:=ajJ (tl:=tl) hp;have oH:=afh (tl:=tl) hp;refine bG.perm (A:=(β,rmO tl rs)::A) (dK (l₁:=[_])) ?_;refine bG.bH func163 [(0,aG bl),(1,I i),(2,I p),(3,dov)] ?_;refine d_ ?_;refine aA.box (fun mW=>?_);refine aA.box (fun iI=>?_);refine aA.box (fun mX=>?_);refine gI ?_;refine W.kQ [(mX,.cells #[I p] aX (0,0)),(iI,.cells #[I i] aX (0,0)),(mW,.cells #[aG bl] jU (0,0)),(β,rmO tl rs)] (n:=18) O ?_;refine ay 0 ?_;refine ay 1 ?_;refine ay 2 ?_;refine ay 3 ?_;refine ay 4 ?_;refine ay 5 ?_;refine ay 6 ?_;refine ay 7 ?_;refine ay 8 ?_;refine ay 9 ?_;refine ay 10 ?_;refine ay 11 ?_;refine ay 12 ?_;refine ay 13 ?_;refine ay 14 ?_;refine ay 15 ?_;refine ay 16 ?_;refine ae (i:=17) O an O O (eS O O O ?_);refine⟨.inl aB,?_⟩;refine az ?_;refine d_ ?_;rw[ajK hp,show rs.set p (rs.getD p 0-l.po)=less l rs p from rfl];refine d_ ?_;refine aA.defer (d:={target:=.fn (.func qH) #[aG mW,aG mX,aG iI],args:= #[]}) O (aK O) O wn O (fun e he=>?_) ?_
 ·have e3:e (.tmp 26)= .func (.func qH) #[] #[aG mW,aG mX,aG iI]:=he _ _ O;simp[resolve,Deferred.ofValue,e3,au]
 refine lF ?_;refine aA.perm (F':=(A++[(β,rmO tl (less l rs p))])++[(mX,.cells #[I p] aX (0,0)),(iI,.cells #[I i] aX (0,0)),(mW,.cells #[aG bl] jU (0,0))]) (dK.trans ((dK (l₁:=A) (l₂:=[_])).append_left [_,_,_])) ?_;refine cgv .head (fun h' hE hL=>hdo h' hE) (fun v A1 hv=>?_);obtain⟨r,rfl,B,hPB,bF⟩:=hv;refine aA.sb (F':=[(β,rmO tl (less l rs p))]++(B++[(mX,.cells #[I p] aX (0,0)),(iI,.cells #[I i] aX (0,0)),(mW,.cells #[aG bl] jU (0,0))])) (((Sb.aT dK).trans bF).app .refl |> Sb.trans (.aT (by rw[eF]))) ?_;refine gI ?_;have Xz:(less l rs p).length=rs.length:=abj;have hg:(less l rs p).getD p 0=rs.getD p 0-l.po:=by simp[less,List.getD_eq_getElem?_getD,hp]
 refine Ie (A:=[(β,rmO tl (less l rs p))]) .head (fun h' hE hL=>abr _ h' ls l (less l rs p) i p _ _ cap β bl mW iI mX tl _ _ _ _ _ _ _ _ (hl2.ext hE) hli (by rw[Xz];exact hp) (by rw[hg];omega) hb (by rw[Xz];exact hE.1 _ _ FQ) (hL _ _ (bZ [] (bZ _ zS))) (hL _ _ (bZ [] (bZ _ zS))) (hL _ _ (bZ [] (bZ _ zS)))) (fun A' hA'=>?_);subst hA';rw[amF hp];refine iQ (vs:=[.bool r]) ⟨B,hPB,?_⟩;refine(Sb.aT dK).trans (.app .refl ?_);exact(show Sb B (B++[_,_,_])from .right .refl (.cons O (.cons O (.cons O .nil))))

theorem aqs(main:aN)(h:Hp)(fv:Value)(bf b5 k:Nat)(Ef E5:TypeId)(zf z5:Nat×Nat)(F:ah)(R:Value->ah->Prop)(WZ:one fv=true)(hk:k<=4)(Za:h bf=some (.cells #[fv] Ef zf))(hb5:h b5=some (.cells #[I k] E5 z5))
  (H:∀h',Ext h h'->gG aV main fv [I ((k+1:Nat):Int)] h' F R):gG aV main (.func (.func nX) #[] #[aG bf,aG b5]) [] h F R:=by
 refine gG.o9 (f:=nX) (fi:=[]) (ca:=[aG bf,aG b5]) ?_;refine bG.bH func164 [(0,aG bf),(1,aG b5)] ?_;refine kR ?_;refine Gh (acU O O O) (show I _=I ((k+1:Nat):Int) by congr 1) O wn O O ?_;refine cgv .all (fun h2 hE hL=>H h2 hE) (fun v B hv=>?_);refine gI ?_;exact iQ (vs:=[v]) hv
def aqt(x:List Int)(v:Value)(S:ah):Prop:=v=shV x/\S=[]
theorem abt{xs a:List α}(h:xs.drop k=a++b):xs.drop (k+a.length)=b:=by
 rw[<-List.drop_drop,h,List.drop_left]
theorem afi{xs:List α}{x:α}(h:xs.drop k=x::b):xs[k]? =some x:=by
 have:=congrArg (fun l=>l[0]?) h;simpa[List.getElem?_drop]using this
theorem agK{os:List α}{p:α}(h:os[j]? =some p):(os.take (j+1)).flatMap g=(os.take j).flatMap g++g p:=by
 rw[List.take_add_one,h,List.flatMap_append];simp
theorem agL{os:List α}{xs rest:List β}{p:α}(hx:xs.drop k=os.flatMap g++rest)(h:os[j]? =some p):xs.drop (k+((os.take j).flatMap g).length)=g p++((os.drop (j+1)).flatMap g++rest):=by
 have hj:j<os.length:=by
  rcases bQ j os.length with h' | h'
  ·exact h'
  rw[fM h']at h;cases h
 obtain⟨p',hp',hd⟩:=has hj;rw[h]at hp'
 cases hp'
 refine abt (b:=g p++((os.drop (j+1)).flatMap g++rest)) ?_;rw[hx]
 have e:os.flatMap g=(os.take j).flatMap g++(g p++(os.drop (j+1)).flatMap g):=
  calc os.flatMap g=(os.take j++os.drop j).flatMap g:=by rw[List.take_append_drop]
   _=_:=by rw[hd,List.flatMap_append,List.flatMap_cons]
 rw[e];simp only[eF]

theorem aoj{b:Bool}(h:(!b)=true):b=false:=by simpa using h
theorem aok{b:Bool}(h:(!b)=false):b=true:=by simpa using h
theorem p5{z:Nat×Obj}:(((A++[y])++[z])++(x::S)).Perm (x::y::z::(S++A)):=by
 have e:((A++[y])++[z])++(x::S)=A++(y::z::x::S):=by simp
 rw[e];refine(dK (l₁:=A)).trans ?_;exact((List.Perm.swap x z _).cons y).trans (List.Perm.swap x y _)
theorem p6:(((A++[y])++R)++[x]).Perm (x::y::(A++R)):=by
 have e:((A++[y])++R)++[x]=(A++(y::R))++[x]:=by simp
 rw[e];exact(dK (l₂:=[x])).trans (.cons x List.perm_middle)
theorem p7:((A++[y])++R).Perm (y::(R++A)):=by
 rw[eF];exact(dK (l₁:=A)).trans (.refl _)
abbrev agM(b1 b2 bs b4:Nat):Value:=.func (.func xg) #[] #[aG b1,aG b2,aG bs,aG b4]
abbrev Zr(q:List Int):Obj:=.cells (BZ q) h_ (0,0)
def Wi(xs:List (List Int))(J:Nat->ah->Prop)(K:Nat->Value->ah->Prop)(n:Nat)(pre:List Int)(bs:Nat)(k2:Nat)(v:Value)(B':ah):Prop:=
 ∃q B,Pg n pre q/\B'=B++[(bs,Zr q)]/\((v= .bool true/\J k2 B)\/(v= .bool false/\∃k x,xs[k]? =some x/\K k (shV x) B))
theorem Wi.less{n:Nat}(h:Wi xs J K n (pre++[a]) bs k2 v B'):Wi xs J K n pre bs k2 v B':=by
 obtain⟨q,B,h1,h2,h3⟩:=h;exact⟨q,B,h1.less,h2,h3⟩
theorem Wi.stop{n:Nat}{k3:Nat}(h:Wi xs J K n pre bs k2 (.bool false) B'):Wi xs J K n pre bs k3 (.bool false) B':=by
 obtain⟨q,B,h1,h2,h3⟩:=h;refine⟨q,B,h1,h2,.inr ?_⟩;rcases h3 with⟨h3,_⟩ | h3
 ·cases h3
 exact h3
theorem Wi.bool{n:Nat}(h:Wi xs J K n pre bs k2 v B'):∃r,v= .bool r:=by
 obtain⟨q,B,h1,h2,⟨h3,_⟩ | ⟨h3,_⟩⟩:=h
 ·exact⟨_,h3⟩
 exact⟨_,h3⟩

theorem amI(main:aN)(ps:List Pn)(ls:List Lt)(vp vl vm yv:Value)(o:Option (Nat×List Value))(bl b1 b2 bs b4:Nat)(El E1 E2 E4:TypeId)(zl z1 z2 z4:Nat×Nat)(uU:EO ps)(Qb:Io ls)(hrm:RmV o ps.length vm)(YZ:one yv=true)(xs:List (List Int))(J:Nat->ah->Prop)(K:Nat->Value->ah->Prop):
  ∀(ls2:List Lt) (pre rs q:List Int) (h:Hp) (k:Nat) (rest:List (List Int)) (A:ah),ls.drop pre.length=ls2->pre.length<=ls.length->Ip ps.length rs->Pg ls.length pre q->Sl h Pn.row vp ps->Sl h Lt.row vl ls->
   h bl=some (.cells #[vp,U8 0,vl,vm] El zl)->h b1=some (.cells #[aG bl] E1 z1)->h b2=some (.cells #[yv] E2 z2)->h b4=some (.cells #[agM b1 b2 bs b4] E4 z4)->
   adG aV main yv h aqt xs J K->xs.drop k=tN ps ls2 rs pre++rest->J k A->
   bG aV main xg #[I pre.length,aG b1,aG b2,aG bs,aG b4] h ((A++[(bs,Zr q)])++Rl o rs) (fun v A'=>∃B',Wi xs J K ls.length pre bs (k+(tN ps ls2 rs pre).length) v B'/\Sb (B'++Rl o rs) A'):=by
 have Zo:=Qb.len;have uN:=uU.len;obtain⟨am,cm,hvm⟩:=hrm.aU;intro ls2
 induction ls2 with
 | nil=>
  intro pre rs q h k rest A hd OI FK hI hp hl FQ hb1 PW hb4 hy hx hJ
  have hpn:pre.length=ls.length:=by
   have:=congrArg List.length hd;simp at this;omega
  have hq:=hI.full hpn;have hqv:(Value.agg (BZ q))=shV pre:=by rw[hq]
  have hq4:q.length=4:=hI.len;have oH:(BZ q).size=4:=by rw[xG,hq4]
  obtain⟨a,cap,rfl⟩:=hp.aU;obtain⟨a2,JA,rfl⟩:=hl.aU;subst hvm;refine bG.perm (A:=(bs,Zr q)::(A++Rl o rs)) (by rw[eF];exact List.perm_middle.symm) ?_;refine bG.bH func161 [(0,I pre.length),(1,aG b1),(2,aG b2),(3,aG bs),(4,aG b4)] ?_;refine d_ ?_;refine aA.box (fun iI=>?_);refine lF ?_;refine W.kQ [(iI,.cells #[I pre.length] aX (0,0))] (n:=7) O ?_;refine ay 0 ?_;refine ay 1 ?_;refine ay 2 ?_;refine ay 3 ?_;refine ay 4 ?_;refine ay 5 ?_;refine ay 6 ?_;refine az ?_;refine fH ?_;refine W.aJ O (fun Xn=>?_) (fun Xn=>?_)
  ·skip
   refine lF ?_;refine aA.perm (F':=A++((iI,.cells #[I pre.length] aX (0,0))::(bs,Zr q)::Rl o rs)) (List.perm_middle.trans (.cons _ List.perm_middle)) ?_;refine cgv .head (fun h2 hE hL=>hy h2 hE k pre (.agg (BZ q)) [] A (afi hx) ⟨hqv,rfl⟩ (fun b o h=>by cases h) hJ) (fun r B1 TP=>?_);refine lF ?_;have e1:(tN ps [] rs pre).length=1:=rfl;rw[e1];rcases TP with⟨rfl,B,hJB,bF⟩ | ⟨rfl,B,hKB,bF⟩
   ·refine iQ (vs:=[.bool true]) ⟨B++[(bs,Zr q)],⟨q,B,hI,O,.inl ⟨O,hJB⟩⟩,?_⟩;rw[eF];exact bF.app (.skip O .refl)
   refine iQ (vs:=[.bool false]) ⟨B++[(bs,Zr q)],⟨q,B,hI,O,.inr ⟨O,k,pre,afi hx,hqv▸hKB⟩⟩,?_⟩;rw[eF];exact bF.app (.skip O .refl)
  exact absurd Xn (by rw[hpn];simp)
 | cons l ls2 ih=>
  intro pre rs q h k rest A hd OI FK hI hp hl FQ hb1 PW hb4 hy hx hJ
  have Gp:pre.length<ls.length:=by
   have:=congrArg List.length hd;simp at this;omega
  obtain⟨l',hli,yI⟩:=has Gp;rw[hd]at yI;injection yI with e1 e2
  subst e1;have hlb:=Qb.lot l (dL hli);obtain⟨qu,po⟩:=l;obtain⟨qn,rfl⟩:∃n:Nat,qu=n:=⟨qu.toNat,by simp only at hlb;omega⟩
  simp only at hlb;have hq4:q.length=4:=hI.len;have oH:(BZ q).size=4:=by rw[xG,hq4]
  obtain⟨g,hg⟩:∃g:Nat->List (List Int),g=fun p=>if fits ⟨qn,po⟩ rs p then tN ps ls2 (less ⟨qn,po⟩ rs p) (pre++[(p:Int)])else[]:=⟨_,rfl⟩
  have yu:tN ps (⟨qn,po⟩::ls2) rs pre=tN ps ls2 rs (pre++[-1])++(rC ps 0 qn).flatMap g:=by rw[hg];rfl
  rw[yu]at hx⊢;rw[eF]at hx;have hx2:=abt hx;have XA:∀a:Int,(pre++[a]).length=pre.length+1:=fun a=>by simp
  obtain⟨a,cap,rfl⟩:=hp.aU;obtain⟨a2,JA,rfl⟩:=hl.aU;obtain⟨b,off,c,E,fz,e3,hbb,hxx,hyy,hzz⟩:=hl.at hli
  cases e3
  have hz0:c[off+pre.length*2+0]? =some (I qn):=hzz 0 dF;have Gq:c[off+pre.length*2+1]? =some (I po):=hzz 1 dF;clear hxx hzz;refine bG.perm (A:=(bs,Zr q)::(A++Rl o rs)) (by rw[eF];exact List.perm_middle.symm) ?_;refine bG.bH func161 [(0,I pre.length),(1,aG b1),(2,aG b2),(3,aG bs),(4,aG b4)] ?_;refine d_ ?_;refine aA.box (fun iI=>?_);refine lF ?_;refine W.kQ [(iI,.cells #[I pre.length] aX (0,0))] (n:=7) O ?_;refine ay 0 ?_;refine ay 1 ?_;refine ay 2 ?_;refine ay 3 ?_;refine fJ 4 (CG O O (.inl FQ) O) O ?_;refine ay 5 ?_;refine ay 6 ?_;refine az ?_;refine fH ?_;refine W.aJ O (fun Xn=>?_) (fun Xn=>?_)
  ·exact absurd Xn aj
  refine kJ ?_
  first | refine b_ (rM rfl rfl rfl) rfl ?_ | refine b_ (kU rfl rfl rfl) rfl ?_
  refine jk ?_;refine Gh (acU O O O) (show I _=I ((pre++[(-1:Int)]).length:Int) by rw[XA];congr 1) O wn O O ?_;rw[afg];refine aA.perm (F':=((A++[(bs,Zr (q.set pre.length (-1)))])++Rl o rs)++[(iI,.cells #[I pre.length] aX (0,0))]) p6 ?_;refine cgv .head (fun h4 e4 hL=>gG.o9 (fi:=[]) (args:=[_]) (ca:=[_,_,_,_]) (ih (pre++[-1]) rs (q.set pre.length (-1)) h4 k _ A (by rw[XA,<-List.drop_drop,hd];rfl) (by rw[XA];omega) FK (hI.set Gp Zo) (hp.ext e4) (hl.ext e4) (e4.1 _ _ FQ) (e4.1 _ _ hb1) (e4.1 _ _ PW) (e4.1 _ _ hb4) (hy.ext e4) hx hJ)) (fun r B1 TP=>?_);obtain⟨B',hB',bF⟩:=TP;have hB2:=hB'.less;obtain⟨r,rfl⟩:=hB2.bool;refine aA.sb (F':=(B'++Rl o rs)++[(iI,.cells #[I pre.length] aX (0,0))]) (bF.app .refl) ?_;refine d_ ?_;refine W.cond O (fun JW=>?_) (fun JW=>?_)
  ·refine lg ?_;obtain rfl:=aoj JW;exact iQ (vs:=[.bool false]) ⟨B',hB2.stop,.right .refl (.cons O .nil)⟩
  obtain rfl:=aok JW;obtain⟨q1,B,hI1,rfl,hJK⟩:=hB2
  have hJ1:J (k+(tN ps ls2 rs (pre++[-1])).length) B:=by
   rcases hJK with⟨_,h⟩ | ⟨h,_⟩
   ·exact h
   cases h
  clear hJK hB';refine W.sb (F':=(iI,.cells #[I pre.length] aX (0,0))::(bs,Zr q1)::(Rl o rs++B)) (.aT (p6.trans ((dK.cons _).cons _)).symm) ?_;refine lF ?_;refine W.kQ [(iI,.cells #[I pre.length] aX (0,0))] (n:=15) O ?_;refine ay 0 ?_;refine ay 1 ?_;refine ay 2 ?_;refine fJ 3 (Qm (vs:= #[.slice a ps.length cap,U8 0]) O O (.inl FQ) (by show 0+0+2<=4;decide) O) O ?_;refine ay 4 ?_;refine ay 5 ?_;refine ay 6 ?_;refine fJ 7 (CG O O (.inl FQ) O) O ?_;refine ay 8 ?_;refine ay 9 ?_;refine ay 10 ?_;refine ay 11 ?_;refine ay 14 ?_;refine ae (i:=12) O an O O (oL (args:=[_,_]) O O (fun h' hE hL=>amv _ h' ps _ 0 qn (hp.ext hE) uN dF) (fun v A' hv=>?_));refine⟨.inr (aC.app (aC.one (bT ..) aC.nil)),?_⟩;obtain⟨S,hS,pJ⟩:=hv;obtain⟨a3,c3,rfl⟩:=hS.aU;rw[rZ]at hS⊢;refine Any.sb (F':=(iI,.cells #[I pre.length] aX (0,0))::(bs,Zr q1)::(Rl o rs++(S++B))) ((Sb.aT (List.perm_append_comm_assoc S ((iI,.cells #[I pre.length] aX (0,0))::(bs,Zr q1)::Rl o rs) B).symm).trans (pJ.app .refl)) ?_;refine ay 13 ?_;refine az ?_;refine d_ ?_;have hol:(rC ps 0 qn).length<=4:=aa_
  refine W.uq (fun(j:Nat) (q:List Int) (A:ah)=>j<=(rC ps 0 qn).length/\Pg ls.length pre q/\J (k+(tN ps ls2 rs (pre++[-1])).length+(((rC ps 0 qn).take j).flatMap g).length) A) (fun j _ _=>[(40,I j),(39,I (rC ps 0 qn).length),(38,.slice a3 (rC ps 0 qn).length c3),(5,aG iI),(1,aG b1),(2,aG b2),(3,aG bs),(4,aG b4)])
   (fun _ q A=>(iI,.cells #[I pre.length] aX (0,0))::(bs,Zr q)::(Rl o rs++(S++A))) (fun j _ _=>(rC ps 0 qn).length-j) 0 q1 B ⟨Nat.zero_le _,hI1,hJ1⟩ iw .refl ?_
  rintro j q A ⟨hj,hIq,hJq⟩;refine kJ ?_;refine W.aJ O (fun c41=>?_) (fun c41=>?_)
  ·have hjl:j<(rC ps 0 qn).length:=by omega
   obtain⟨p,hpj,-⟩:=has hjl;have hx3:=agL hx2 hpj;have aqw:p<ps.length:=amm (dL hpj);have Ze:p<4:=(Uy.1 (dL hpj)).1;have Gt:=agK (g:=g) hpj;rcases id hS with⟨he,-⟩ | ⟨β,cc,f_,J',he,rfl,IW,hle,hpt,hJ'⟩
   ·rw[zs,List.map_eq_nil_iff]at he;rw[he]at hjl;cases hjl
   rw[rZ]at he
   cases he
   have hcv:cc[0+j*1]? =some (I p):=Part.TM hpt (i:=j) (p:=(p:Int)) (by rw[zs,iL,hpj];rfl) 0 dF;rcases o with _ | ⟨β0,tl⟩
   ·exact absurd hrm.1 aj
   obtain⟨cm',hcm⟩:=hrm;subst hcm;have qw:p<rs.length:=by rw[FK.len];exact aqw
   have hr0:=ajJ (tl:=tl) qw
   have hrb:0<=rs.getD p 0/\rs.getD p 0<=40:=by
    refine FK.room _ ?_;rw[List.getD_eq_getElem?_getD,jh qw];exact List.getElem_mem qw
   have aAq:(BZ q).size=4:=by rw[xG,hIq.len]
   refine oz ?_;refine W.kQ [(iI,.cells #[I pre.length] aX (0,0)),(β0,rmO tl rs)] (n:=16) O ?_;refine ay 0 ?_;refine ay 1 ?_;refine ay 2 ?_;refine ay 3 ?_;refine ay 4 ?_;refine ay 5 ?_;refine ay 6 ?_;refine ay 7 ?_;refine ay 8 ?_;refine ay 9 ?_;refine ay 10 ?_;refine ay 11 ?_;refine ay 12 ?_;refine ay 13 ?_;refine ay 14 ?_;refine ay 15 ?_;refine az ?_;refine fH ?_;refine W.aJ O (fun c59=>?_) (fun c59=>?_)
   ·refine kR ?_
    have hgp:g p=[]:=by
     have Q_:fits ⟨qn,po⟩ rs p=false:=by simpa[fits]using c59
     rw[hg];simp only;rw[if_neg (by rw[Q_];simp)]
    rw[hgp,List.append_nil]at Gt;exact⟨O,j+1,q,A,⟨hjl,hIq,by rw[Gt];exact hJq⟩,aj,iw,.refl⟩
   refine lg ?_
   first | refine b_ (rM rfl rfl rfl) rfl ?_ | refine b_ (kU rfl rfl rfl) rfl ?_
   refine kR ?_;have at7:fits ⟨qn,po⟩ rs p=true:=by simpa[fits]using c59
   have hgp:g p=tN ps ls2 (less ⟨qn,po⟩ rs p) (pre++[(p:Int)]):=by
    rw[hg];simp only;rw[if_pos at7]
   rw[afg];refine aA.perm (F':=((A++[(bs,Zr (q.set pre.length p))])++[(β0,rmO tl rs)])++((iI,.cells #[I pre.length] aX (0,0))::(β,.cells cc aX (0,0))::J')) p5 ?_;refine cg .head (fun h3 e3 hL=>amH _ h3 ls ⟨qn,po⟩ rs pre.length p _ _ (.func (.func nX) #[] #[aG b4,aG iI]) cm' β0 bl tl _ _ (A++[(bs,Zr (q.set pre.length p))]) (hl.ext e3) hli qw hrb ⟨hlb.2.2.1,hlb.2.2.2⟩ (by rw[FK.len];exact e3.1 _ _ FQ) (Wi xs J K ls.length pre bs (k+(tN ps ls2 rs (pre++[-1])).length+(((rC ps 0 qn).take j).flatMap g).length+(g p).length)) (fun h5 e5=>?_)) (fun v A1 hv=>?_)
   ·refine aqs _ h5 (agM b1 b2 bs b4) b4 iI pre.length _ _ _ _ _ _ O aj ((e3.trans e5).1 _ _ hb4) (e5.1 _ _ (hL iI _ (bT ..))) fun h6 e6=>?_;have hE:=(e3.trans e5).trans e6;have aua:=ih (pre++[(p:Int)]) (less ⟨qn,po⟩ rs p) (q.set pre.length p) h6 _ _ A (by rw[XA,<-List.drop_drop,hd];rfl) (by rw[XA];omega) ⟨by rw[abj];exact FK.len,amw FK.room ⟨hlb.2.2.1,hlb.2.2.2⟩ qw at7⟩ (hIq.set Gp Zo) (hp.ext hE) (hl.ext hE) (hE.1 _ _ FQ) (hE.1 _ _ hb1) (hE.1 _ _ PW) (hE.1 _ _ hb4) (hy.ext hE) (hgp▸hx3) hJq;rw[XA]at aua;refine(gG.o9 (fi:=[]) (args:=[_]) (ca:=[_,_,_,_]) aua).mono ?_;rintro v A' ⟨B',hB',bF⟩;rw[<-hgp]at hB';obtain⟨r,rfl⟩:=hB'.bool;exact⟨r,O,B',hB'.less,bF⟩
   obtain⟨B',hB',bF⟩:=hv;obtain⟨r,rfl⟩:=hB'.bool;refine aA.sb (F':=(B'++[(β0,rmO tl rs)])++((iI,.cells #[I pre.length] aX (0,0))::(β,.cells cc aX (0,0))::J')) (bF.app .refl) ?_;refine d_ ?_;refine W.cond O (fun c68=>?_) (fun c68=>?_)
   ·refine gZ ?_;obtain rfl:=aoj c68;exact iQ (vs:=[.bool false]) ⟨B',hB'.stop,.right .refl (.cons O (.cons O hJ'))⟩
   refine jk ?_;obtain rfl:=aok c68;obtain⟨q3,B3,hI3,rfl,hJK⟩:=hB'
   have hJ3:J (k+(tN ps ls2 rs (pre++[-1])).length+(((rC ps 0 qn).take j).flatMap g).length+(g p).length) B3:=by
    rcases hJK with⟨_,h⟩ | ⟨h,_⟩
    ·exact h
    cases h
   exact⟨O,j+1,q3,B3,⟨hjl,hI3,by rw[Gt,jA,<-Nat.add_assoc];exact hJ3⟩,aj,iw,.aT (p5 (x:=(iI,.cells #[I pre.length] aX (0,0))) (y:=(bs,Zr q3)) (z:=(β0,rmO tl rs)) (S:=(β,.cells cc aX (0,0))::J') (A:=B3)).symm⟩
  obtain rfl:j=(rC ps 0 qn).length:=by omega
  rw[List.take_length]at hJq;refine gZ ?_;refine iQ (vs:=[.bool true]) ⟨A++[(bs,Zr q)],⟨q,A,hIq,O,.inl ⟨O,by rw[jA,<-Nat.add_assoc];exact hJq⟩⟩,?_⟩;refine(Sb.aT p7).trans ?_;exact .skip O (.cons (.app .refl (.left .refl hS.shut)))
set_option linter.unusedVariables false
def pU(p:List Int):List Value:=[I (p.getD 0 0),I (p.getD 1 0),I (p.getD 2 0),I (p.getD 3 0)]
instance:Rw pU 4:=⟨fun _=>rfl,fun _=>rfl⟩
theorem ajL(h:p.length=4):∃a b c d,p=[a,b,c,d]:=by
 match p,h with
 | [a,b,c,d],_=>exact⟨a,b,c,d,rfl⟩
theorem abu(h:p.length=4):(pU p).toArray=BZ p:=by
 obtain⟨a,b,c,d,rfl⟩:=ajL h
 rfl
theorem afk:∀{s t:List Int},s.length=ls.length->I9 ls (s++t)=I9 ls s:=by
 induction ls with
 | nil=>intro s t h;cases s <;>rfl
 | cons l ls ih=>
  intro s t h
  cases s with
  | nil=>simp at h
  | cons a s=>simp only[List.cons_append,I9];rw[ih (by simpa using h)]
theorem ajM{t:List Int}(hl:s.length=t.length)(h:qo s=qo t):s=t:=by
 have:=congrArg (List.take s.length) h;rw[qo,qo,List.take_left,hl,List.take_left]at this;exact this
theorem DL(h:s∈Gi ps ls rs):s.length=ls.length:=by
 have:=(UG h).1;simpa using this
def JX(ps:List Pn)(ls:List Lt)(rs:List Int):Int×List (List Int):=Dz (I9 ls) ((Gi ps ls rs).map qo)
theorem agN{f:α->β}{xs:List α}(h:xs.Nodup)(hf:∀a∈xs,∀b∈xs,f a=f b->a=b):(xs.map f).Nodup:=by
 induction xs with
 | nil=>simp
 | cons a xs ih=>
  rw[List.nodup_cons]at h;rw[dQ,List.nodup_cons];refine⟨fun hm=>?_,ih h.2 fun x hx y hy=>hf x (dH _ hx) y (dH _ hy)⟩;obtain⟨b,hb,e⟩:=List.mem_map.1 hm;have:=hf b (dH _ hb) a (bT ..) e;exact h.1 (this▸hb)
theorem ajN:JX ps ls rs=((vZ ps ls rs).1,(vZ ps ls rs).2.map qo):=by
 have h1:su (I9 ls) (Gi ps ls rs) (vZ ps ls rs):=NP vY;have hn:((Gi ps ls rs).map qo).Nodup:=agN vY fun a ha b hb=>ajM ((DL ha).trans (DL hb).symm);have h2:su (I9 ls) ((Gi ps ls rs).map qo) (JX ps ls rs):=NP hn;have hl:∀s∈Gi ps ls rs,I9 ls (qo s)=I9 ls s:=fun s hs=>afk (DL hs);refine h2.one ⟨fun x hx=>?_,?_,fun _ h=>?_⟩ (fun h=>Rk (List.map_eq_nil_iff.1 h))
 ·obtain⟨s,hs,rfl⟩:=List.mem_map.1 hx;rw[hl s hs];exact h1.le s hs
 ·show(vZ ps ls rs).2.map qo=_;rw[List.filter_map,h1.eq]
  congr 1
  refine List.filter_congr fun s hs=>?_;show decide (I9 ls s=_)=decide (I9 ls (qo s)=_);rw[hl s hs]
 exact h1.ne Rk (List.map_eq_nil_iff.1 h)
theorem Qc{α β:Type}{g:α->List β}{n:Nat}:∀{l:List α},(∀a∈l,(g a).length<=n)->(l.flatMap g).length<=l.length*n
 | [],_=>by simp
 | a::l,h=>by
  have h1:=h a (bT ..);have h2:=Qc (l:=l) fun b hb=>h b (dH _ hb);rw[List.flatMap_cons,jA,gK,Nat.succ_mul];omega
theorem UK{ps:List Pn}:∀{ls:List Lt} {rs pre:List Int},(tN ps ls rs pre).length<=5 ^ ls.length
 | [],_,_=>by simp[tN]
 | l::ls,rs,pre=>by
  have h1:=UK (ps:=ps) (ls:=ls) (rs:=rs) (pre:=pre++[-1])
  have h2:=Qc (g:=fun p=>if fits l rs p then tN ps ls (less l rs p) (pre++[(p:Int)])else[]) (n:=5 ^ ls.length) (l:=rC ps 0 l.qu.toNat) fun p _=>by
   show(if fits l rs p then _ else _:List (List Int)).length<=_;split
   ·exact UK
   simp
  have h3:(rC ps 0 l.qu.toNat).length*5 ^ ls.length<=4*5 ^ ls.length:=Nat.mul_le_mul_right _ aa_;rw[tN,jA,gK,Nat.pow_succ];omega
theorem amJ(h:ls.length<=4):(Gi ps ls rs).length<=625:=
 Nat.le_trans UK (Nat.le_trans (Nat.pow_le_pow_right aj h) dF)
theorem ajO{X:Type}[DecidableEq X]{s:Int×List X}{x:X}{n:Int}:(oQ s x n).2.length<=s.2.length+1/\∀y∈(oQ s x n).2,y=x\/y∈s.2:=by
 have key:∀l:List X,(if x∈l then l else l++[x]).length<=l.length+1/\∀y∈(if x∈l then l else l++[x]),y=x\/y∈l:=fun l=>by
  split
  ·exact⟨aj,fun y hy=>.inr hy⟩
  refine⟨by simp,fun y hy=>?_⟩;rcases dh.1 hy with h | h
  ·exact .inr h
  exact .inl (dP.1 h)
 unfold oQ;by_cases h1:s.2≠[]/\n<s.1
 ·rw[if_pos h1];exact⟨aj,fun y hy=>.inr hy⟩
 rw[if_neg h1];by_cases h2:s.1<n
 ·simp only[if_pos h2];obtain⟨q1,q2⟩:=key [];refine⟨Nat.le_trans q1 (by simp),fun y hy=>?_⟩;rcases q2 y hy with h | h
  ·exact .inl h
  cases h
 simp only[if_neg h2];exact key s.2
theorem XB{X:Type}[DecidableEq X]{f:X->Int}{xs:List X}:∀{k:Nat},k<=xs.length->(Dz f (xs.take k)).2.length<=k/\∀y∈(Dz f (xs.take k)).2,y∈xs
 | 0,_=>by simp[Dz]
 | k+1,h=>by
  obtain⟨x,hx⟩:∃x,xs[k]? =some x:=⟨xs[k],jh aj⟩
  obtain⟨h1,h2⟩:=XB (f:=f) (xs:=xs) (k:=k) aj;rw[UH hx];obtain⟨h3,h4⟩:=ajO (s:=Dz f (xs.take k)) (x:=x) (n:=f x);refine⟨aj,fun y hy=>?_⟩;rcases h4 y hy with rfl | h
  ·exact dL hx
  exact h2 y h
instance:NS aV h_:=⟨aB,aB⟩
theorem agO:Rj aV h_ 4 2:=Rj.array (n:=4) (w:=1) (K:=1) EqAt.int
instance:EV aV h_ 4:=⟨agO.le dF⟩

theorem agP(main:aN)(h:Hp)(ps:List Pn)(ls:List Lt)(rs:List Int)(vp vl vm:Value)(o:Option (Nat×List Value))(bl b1:Nat)(El E1:TypeId)(zl z1:Nat×Nat)(uU:EO ps)(Qb:Io ls)(FK:Ip ps.length rs)(hrm:RmV o ps.length vm)(hp:Sl h Pn.row vp ps)(hl:Sl h Lt.row vl ls)
  (FQ:h bl=some (.cells #[vp,U8 0,vl,vm] El zl)) (hb1:h b1=some (.cells #[aG bl] E1 z1)):abk aV main (.func (.func rQ) #[] #[aG b1]) aqt (Gi ps ls rs) (Rl o rs) h:=by
 intro h' Bc yv YZ J K hy A hJ;refine gG.o9 (f:=rQ) (fi:=[]) (args:=[_]) (ca:=[aG b1]) ?_;refine bG.bH func160 [(0,yv),(1,aG b1)] ?_;refine d_ ?_;refine aA.box (fun oJ=>?_) O O (GR YZ);refine gI ?_;refine aA.new (fun nP=>?_);refine gI ?_;refine aA.new (fun mW=>?_);refine kR ?_
 refine aA.perm (F':=((A++[(nP,Zr [0,0,0,0])])++Rl o rs)++[(mW,.cells #[agM b1 oJ nP mW] wH (0,0)),(oJ,.cells #[yv] rF (0,0))]) (by
  have e:((A++[(nP,Zr [0,0,0,0])])++Rl o rs)++[(mW,.cells #[agM b1 oJ nP mW] wH (0,0)),(oJ,.cells #[yv] rF (0,0))]=(A++((nP,Zr [0,0,0,0])::Rl o rs))++[(mW,.cells #[agM b1 oJ nP mW] wH (0,0)),(oJ,.cells #[yv] rF (0,0))]:=by simp
  rw[e];refine(dK (l₂:=[_,_])).trans (.cons _ ?_);exact(List.Perm.cons _ List.perm_middle).trans (.swap _ _ _)) ?_
 refine cgv .head (fun h2 hE hL=>gG.o9 (fi:=[]) (args:=[_]) (ca:=[_,_,_,_]) (amI _ ps ls vp vl vm yv o bl b1 oJ nP mW _ _ _ _ _ _ _ _ uU Qb hrm YZ (Gi ps ls rs) J K ls [] rs [0,0,0,0] h2 0 [] A O (Nat.zero_le _) FK (.start Qb.len) (hp.ext (Bc.trans hE)) (hl.ext (Bc.trans hE)) ((Bc.trans hE).1 _ _ FQ) ((Bc.trans hE).1 _ _ hb1) (hL _ _ (.tail _ (.head _))) (hL _ _ (.head _)) (hy.ext hE) (by simp[Gi]) hJ)) (fun v B1 hv=>?_);obtain⟨B',⟨q,B,-,rfl,hJK⟩,bF⟩:=hv;refine aA.nil ?_
 have hs2:Sb (B++Rl o rs) (B1++[(mW,.cells #[agM b1 oJ nP mW] wH (0,0)),(oJ,.cells #[yv] rF (0,0))]):=by
  refine Sb.trans ?_ (bF.right (.cons O (.cons O .nil)));rw[eF];exact Sb.app .refl (.skip O .refl)
 refine iQ (vs:=[]) ?_;rcases hJK with⟨_,h⟩ | ⟨_,k,x,hx,hK⟩
 ·refine .inl ⟨B,?_,hs2⟩;rw[Nat.zero_add]at h;exact h
 exact .inr ⟨k,x,_,[],B,hx,⟨O,O⟩,hK,by rw[List.append_nil];exact hs2⟩

theorem amK(main:aN)(h:Hp)(bl:Nat):bG aV main OQ #[aG bl] h [] (fun v A=>∃b1,v= .func (.func rQ) #[] #[aG b1]/\A=[(b1,.cells #[aG bl] jU (0,0))]):=by
 refine bG.bH func110 [(0,aG bl)] ?_;refine d_ ?_;refine aA.box (fun vg=>?_);refine kR ?_;exact iQ ⟨_,O,O⟩

theorem ajP:∀{s:List Int} {k:Nat} {l:Lt} {a:Int},ls[k]? =some l->s[k]? =some a->I9 (ls.take (k+1)) (s.take (k+1))=I9 (ls.take k) (s.take k)+(if 0<=a then l.po else 0):=by
 induction ls with
 | nil=>intro s k l a h;cases h
 | cons m ls ih=>
  intro s k l a h1 h2
  cases s with
  | nil=>cases h2
  | cons b s=>
   cases k with
   | zero=>
    cases h1;cases h2
    simp[I9]
   | succ k=>
    have:=ih (k:=k) h1 h2;simp only[List.take_succ_cons,I9]at this⊢;rw[this];omega
theorem agQ(main:aN)(h:Hp)(ls:List Lt)(p:List Int)(vp vl vm:Value)(bl:Nat)(El:TypeId)(zl:Nat×Nat)(Qb:Io ls)(uN:p.length=4)(hl:Sl h Lt.row vl ls)(FQ:h bl=some (.cells #[vp,U8 0,vl,vm] El zl)):Pu aV main Jr #[aG bl,.agg (BZ p)] h (I (I9 ls p)):=by
 obtain⟨a,cap,rfl⟩:=hl.aU;have Zo:=Qb.len;have oH:(BZ p).size=4:=by rw[xG,uN]
 refine bG.bH func112 [(0,aG bl),(1,.agg (BZ p))] ?_;refine d_ ?_;refine aA.box (fun nP=>?_);refine asW ?_;refine W.loop (σ:=Nat) (fun k=>k<=ls.length) (fun k=>[(13,I k),(12,I ls.length),(11,.slice a ls.length cap),(3,aG nP),(5,I (I9 (ls.take k) (p.take k)))]) (fun _=>[(nP,.cells (BZ p) h_ (0,0))]) (fun k=>ls.length-k) 0 (Nat.zero_le _) iw .refl ?_;rintro k hk;refine kJ ?_;refine W.aJ O (fun WW=>?_) (fun WW=>?_)
 ·obtain⟨l,hli,yI⟩:=has (show k<ls.length by omega);obtain⟨x,hpx,-⟩:=has (show k<p.length by omega);have hlb:=Qb.lot l (dL hli);obtain⟨b,off,c,E,fz,rfl,hb,hx,hy,hz⟩:=hl.at hli;have Aq:c.extract (off+k*2) (off+k*2+2)= #[I l.qu,I l.po]:=hx;clear hx hz;have hpa:=aqr hpx;have Gt:=ajP hli hpx;have hbd:=aqi (ls:=ls.take k) (fun l hl=>Qb.lot l (List.mem_of_mem_take hl)) (s:=p.take k);have aAr:(ls.take k).length<=4:=by simp;omega
  refine FT ?_;refine aA.new (fun yc=>?_);refine lg ?_
  first | refine b_ (rM rfl rfl rfl) rfl ?_ | refine b_ (kU rfl rfl rfl) rfl ?_
  refine gI ?_;refine W.aJ O (fun Oh=>?_) (fun Oh=>?_)
  ·refine kJ ?_;refine zW rfl rfl rfl<|aA.nil<|iE<|fH<|W.region rfl ?_;refine gI ?_;exact⟨O,k+1,aj,aj,⟨O,O,O,O,lk O (by rw[Gt,if_pos aj]),trivial⟩,.skip O .refl⟩
  refine jk ?_;exact⟨O,k+1,aj,aj,⟨O,O,O,O,lk O (by rw[Gt,if_neg aj,Int.add_zero]),trivial⟩,.skip O .refl⟩
 obtain rfl:k=ls.length:=by omega
 refine iC ?_;refine lQ ?_
 have e:I9 ls p=I9 (ls.take ls.length) (p.take ls.length):=by
  rw[List.take_length]
  conv=>lhs;rw[<-List.take_append_drop ls.length p]
  exact afk (by simp;omega)
 rw[e];rfl

theorem ajQ(main:aN)(h:Hp)(l:List (List Int))(p:List Int)(vl:Value)(hl:Sl h pU vl l)(hp:p.length=4)(Zo:∀q∈l,q.length=4)(hn:l.length<=1000000):bG aV main Ia #[vl,.agg (BZ p)] h [] (fun v A=>∃n:Int,v=I n/\(0<=n↔p∈l)/\eH A):=by
 obtain⟨a,cap,rfl⟩:=hl.aU;have oH:(BZ p).size=4:=by rw[xG,hp]
 refine bG.bH func197 [(0,.slice a l.length cap),(1,.agg (BZ p))] ?_;refine d_ ?_;refine aA.box (fun nP=>?_);refine gZ ?_;refine W.loop (σ:=Nat) (fun k=>k<=l.length/\p∉l.take k) (fun k=>[(8,I k),(7,I l.length),(0,.slice a l.length cap),(3,aG nP)]) (fun _=>[(nP,.cells (BZ p) h_ (0,0))]) (fun k=>l.length-k) 0 ⟨Nat.zero_le _,by simp⟩ iw .refl ?_;rintro k ⟨hk,xJ⟩;refine kJ ?_;refine W.aJ O (fun c9=>?_) (fun c9=>?_)
 ·obtain⟨q,hq,-⟩:=has (show k<l.length by omega);have hqm:=dL hq;have hq4:=Zo q hqm;obtain⟨b,off,c,E,fz,rfl,hb,hx,hy,hz⟩:=hl.at hq;have Aq:c.extract (off+k*4) (off+k*4+4)=BZ q:=by rw[<-abu hq4];exact hx
  clear hx hz;refine gZ ?_;refine W.jS (n:=6) O ?_;refine ay 0 ?_;refine ay 1 ?_;refine ay 2 ?_;refine ay 3 ?_;refine ay 4 ?_;refine fJ 5 (ai5 p q O O O O O hp hq4) O ?_;refine az ?_;refine fH ?_;refine W.aJ O (fun PV=>?_) (fun PV=>?_)
  ·refine iC ?_;refine iQ (vs:=[I k]) ⟨k,rfl,⟨fun _=>by rw[PV];exact hqm,fun _=>by omega⟩,by repeat(first | exact eH.nil | refine eH.cons rfl ?_)⟩
  refine jk ?_;refine⟨O,k+1,⟨aj,?_⟩,aj,iw,.refl⟩;rw[List.take_add_one,hq];intro hm;rcases dh.1 hm with hm | hm
  ·exact xJ hm
  exact PV (by simpa using hm)
 obtain rfl:k=l.length:=by omega
 rw[List.take_length]at xJ;refine gZ ?_;refine iQ (vs:=[I (-1)]) ⟨-1,rfl,⟨fun h=>by omega,fun h=>absurd h xJ⟩,by repeat(first | exact eH.nil | refine eH.cons rfl ?_)⟩
theorem nR(main:aN)(h:Hp)(l:List (List Int))(p:List Int)(vl:Value)(hl:Sl h pU vl l)(hp:p.length=4)(Zo:∀q∈l,q.length=4)(hn:l.length<=1000000):Pu aV main CZ #[vl,.agg (BZ p)] h (.bool (decide (p∈l))):=by
 obtain⟨a,cap,rfl⟩:=hl.aU;have oH:(BZ p).size=4:=by rw[xG,hp]
 refine bG.bH func165 [(0,.slice a l.length cap),(1,.agg (BZ p))] ?_;refine d_ ?_;refine aA.box (fun nP=>?_);refine lg ?_;refine c0 (fun h' hE hL=>ajQ _ h' l p _ (hl.ext hE) hp Zo hn) (fun v A' hv=>?_);obtain⟨n,rfl,Gn,hA⟩:=hv;refine lF ?_;refine lQ ?_;exact congrArg Value.bool (decide_eq_decide.2 Gn)
theorem ET(h:p.length=4):Instr.fill (fun i=>some (i*4,4)) ((List.range (1*4)).map (fun i=>(#[I 0,I 0,I 0,I 0]:Array Value)[i % 4]!)).toArray ([0].zip [Value.agg (BZ p)])=some (BZ p):=by
 obtain⟨a,b,c,d,rfl⟩:=ajL h;kernel_rfl
theorem pV(h:p.length=4):Part (BZ p) 0 (flat pU [p]):=by
 rw[<-abu h];have e:flat pU [p]=pU p:=by simp[flat]
 rw[e];exact Part.all _
theorem amL(main:aN)(h:Hp)(bm:Nat)(c n:Int)(v:Value)(l:List (List Int))(p:List Int)(S:ah)(hO:Os h_ pU v l S)(hl:l.length<=100000)(uN:p.length=4)(Zo:∀q∈l,q.length=4):
  bG aV main OT #[aG bm,.agg (BZ p),I n] h ((bm,.cells #[I c,v] lU (0,0))::S) (fun _ A'=>∃v' S',Os h_ pU v' (oQ (c,l) p n).2 S'/\Sb ((bm,.cells #[I (oQ (c,l) p n).1,v'] lU (0,0))::S') A'):=by
 obtain⟨a,cap,rfl⟩:=hO.aU;have oH:(BZ p).size=4:=by rw[xG,uN]
 have hon:lC (BZ p).toList=true:=abp;refine bG.bH func111 [(0,aG bm),(1,.agg (BZ p)),(2,I n)] ?_;refine d_ ?_;refine aA.box (fun mW=>?_);refine iC ?_;refine aA.ask (fun Am=>?_) (fun Am=>?_)
 ·refine d_ ?_
  first | refine kw_ (rJ rfl rfl) rfl ?_ | refine kw_ (oZ rfl rfl) rfl ?_
  refine kJ ?_;refine W.aJ O (fun BO=>?_) (fun BO=>?_)
  ·refine d_ ?_;have BU:l≠[]:=by rintro rfl;simp at Am
   have e:oQ (c,l) p n=(c,l):=by simp only[oQ];rw[if_pos ⟨BU,BO⟩]
   rw[e];exact iQ (vs:=[]) ⟨_,S,hO,.skip O .refl⟩
  refine oz ?_;refine W.aJ O (fun JW=>?_) (fun JW=>?_)
  ·refine Qu ?_;refine W.yh (n:=7) O ?_;refine ay 0 ?_;refine ay 1 ?_;refine ay 2 ?_;refine ay 3 ?_;refine ay 4 ?_
   first
   | refine acp (i:=5) (fun h' hE hL=>nR _ h' [] p _ .nil uN (fun q hq=>by cases hq) (by simp)) ?_ (hS:=.inr (aC.one (.head _) (aC.one (.tail _ (.head _)) aC.nil)))
   | refine acp (i:=5) (fun h' hE hL=>nR _ h' l p _ (hO.sl fun b o hb=>hL b o (.tail _ (.tail _ hb))) uN Zo aj) ?_ (hS:=.inr (aC.one (.head _) (aC.one (.tail _ (.head _)) aC.nil)))
   refine ay 6 ?_;refine az ?_;refine fH ?_;refine W.cond O (fun Wj=>?_) (fun Wj=>?_)
   ·refine W.yh (n:=11) O ?_;refine ay 0 ?_;refine ay 1 ?_;refine ay 2 ?_;refine ay 3 ?_;refine ay 4 ?_;refine ay 5 ?_;refine abl (i:=6) (cs:=BZ p) (fun Le=>?_) O (hf:=by exact ET uN)
    first
    | refine ae (i:=7) rfl an rfl rfl (bV (row:=pU) (l:=[]) (l':=[p]) rfl rfl rfl (Os.nil hO.shut) (.tail (.tail (.tail .all))) (fun h2 _ hl=>Sl.mk (hl Le _ (.head _)) rfl (pV uN)) (by simp) dF rfl (fun v' S' qm=>?_))
    | refine ae (i:=7) rfl an rfl rfl (bV (row:=pU) (l':=[p]) rfl rfl rfl hO (.tail (.tail (.tail .all))) (fun h2 _ hl=>Sl.mk (hl Le _ (.head _)) rfl (pV uN)) (by simp;omega) dF rfl (fun v' S' qm=>?_))
    refine⟨.inr (fun q hq=>?_),?_⟩
    ·rcases bU.1 hq with rfl | hq
     ·exact .tail _ (.head _)
     rcases bU.1 hq with rfl | hq
     ·exact .tail _ (.tail _ (.head _))
     cases hq
    obtain⟨asl,csl,rfl⟩:=qm.aU;refine ay 8 ?_;refine ay 9 ?_;refine ae (i:=10) O an O O (eS O O O ?_);refine⟨.inl aB,?_⟩;refine az ?_
    have xJ:¬(l≠[]/\n<c):=by
     rintro⟨h1,h2⟩
     first | exact BO h2 | exact h1 (jy.1 aj)
    refine iQ (vs:=[]) ?_
    first
    | (
      have e:oQ (c,l) p n=(n,[p]):=by simp only[oQ];rw[if_neg xJ,if_pos JW];simp
      rw[e];exact⟨_,S',qm,.skip O (.skip O .refl)⟩)
    | (
      have e:oQ (c,l) p n=(n,l++[p]):=by simp only[oQ];rw[if_neg xJ,if_neg JW,if_neg (by simpa using Wj)]
      rw[e];exact⟨_,S',qm,.skip O (.skip O .refl)⟩)
   refine W.skip ?_
   first
   | (simp at Wj;done)
   | (
     have xJ:¬(l≠[]/\n<c):=by
      rintro⟨h1,h2⟩
      first | exact BO h2 | exact h1 (jy.1 aj)
     refine iQ (vs:=[]) ?_;have e:oQ (c,l) p n=(n,l):=by simp only[oQ];rw[if_neg xJ,if_neg JW,if_pos (by simpa using Wj)]
     rw[e];exact⟨_,S,hO,.skip O .refl⟩)
  refine iC ?_;refine W.yh (n:=7) O ?_;refine ay 0 ?_;refine ay 1 ?_;refine ay 2 ?_;refine ay 3 ?_;refine ay 4 ?_
  first
  | refine acp (i:=5) (fun h' hE hL=>nR _ h' [] p _ .nil uN (fun q hq=>by cases hq) (by simp)) ?_ (hS:=.inr (aC.one (.head _) (aC.one (.tail _ (.head _)) aC.nil)))
  | refine acp (i:=5) (fun h' hE hL=>nR _ h' l p _ (hO.sl fun b o hb=>hL b o (.tail _ (.tail _ hb))) uN Zo aj) ?_ (hS:=.inr (aC.one (.head _) (aC.one (.tail _ (.head _)) aC.nil)))
  refine ay 6 ?_;refine az ?_;refine fH ?_;refine W.cond O (fun Wj=>?_) (fun Wj=>?_)
  ·refine W.yh (n:=11) O ?_;refine ay 0 ?_;refine ay 1 ?_;refine ay 2 ?_;refine ay 3 ?_;refine ay 4 ?_;refine ay 5 ?_;refine abl (i:=6) (cs:=BZ p) (fun Le=>?_) O (hf:=by exact ET uN)
   first
   | refine ae (i:=7) rfl an rfl rfl (bV (row:=pU) (l:=[]) (l':=[p]) rfl rfl rfl (Os.nil hO.shut) (.tail (.tail (.tail .all))) (fun h2 _ hl=>Sl.mk (hl Le _ (.head _)) rfl (pV uN)) (by simp) dF rfl (fun v' S' qm=>?_))
   | refine ae (i:=7) rfl an rfl rfl (bV (row:=pU) (l':=[p]) rfl rfl rfl hO (.tail (.tail (.tail .all))) (fun h2 _ hl=>Sl.mk (hl Le _ (.head _)) rfl (pV uN)) (by simp;omega) dF rfl (fun v' S' qm=>?_))
   refine⟨.inr (fun q hq=>?_),?_⟩
   ·rcases bU.1 hq with rfl | hq
    ·exact .tail _ (.head _)
    rcases bU.1 hq with rfl | hq
    ·exact .tail _ (.tail _ (.head _))
    cases hq
   obtain⟨asl,csl,rfl⟩:=qm.aU;refine ay 8 ?_;refine ay 9 ?_;refine ae (i:=10) O an O O (eS O O O ?_);refine⟨.inl aB,?_⟩;refine az ?_
   have xJ:¬(l≠[]/\n<c):=by
    rintro⟨h1,h2⟩
    first | exact BO h2 | exact h1 (jy.1 aj)
   refine iQ (vs:=[]) ?_
   first
   | (
     have e:oQ (c,l) p n=(n,[p]):=by simp only[oQ];rw[if_neg xJ,if_pos JW];simp
     rw[e];exact⟨_,S',qm,.skip O (.skip O .refl)⟩)
   | (
     have e:oQ (c,l) p n=(n,l++[p]):=by simp only[oQ];rw[if_neg xJ,if_neg JW,if_neg (by simpa using Wj)]
     rw[e];exact⟨_,S',qm,.skip O (.skip O .refl)⟩)
  refine W.skip ?_
  first
  | (simp at Wj;done)
  | (
    have xJ:¬(l≠[]/\n<c):=by
     rintro⟨h1,h2⟩
     first | exact BO h2 | exact h1 (jy.1 aj)
    refine iQ (vs:=[]) ?_;have e:oQ (c,l) p n=(n,l):=by simp only[oQ];rw[if_neg xJ,if_neg JW,if_pos (by simpa using Wj)]
    rw[e];exact⟨_,S,hO,.skip O .refl⟩)
 refine kR ?_;refine W.iq ?_;refine oz ?_;refine W.aJ O (fun JW=>?_) (fun JW=>?_)
 ·refine Qu ?_;refine W.yh (n:=7) O ?_;refine ay 0 ?_;refine ay 1 ?_;refine ay 2 ?_;refine ay 3 ?_;refine ay 4 ?_
  first
  | refine acp (i:=5) (fun h' hE hL=>nR _ h' [] p _ .nil uN (fun q hq=>by cases hq) (by simp)) ?_ (hS:=.inr (aC.one (.head _) (aC.one (.tail _ (.head _)) aC.nil)))
  | refine acp (i:=5) (fun h' hE hL=>nR _ h' l p _ (hO.sl fun b o hb=>hL b o (.tail _ (.tail _ hb))) uN Zo aj) ?_ (hS:=.inr (aC.one (.head _) (aC.one (.tail _ (.head _)) aC.nil)))
  refine ay 6 ?_;refine az ?_;refine fH ?_;refine W.cond O (fun Wj=>?_) (fun Wj=>?_)
  ·refine W.yh (n:=11) O ?_;refine ay 0 ?_;refine ay 1 ?_;refine ay 2 ?_;refine ay 3 ?_;refine ay 4 ?_;refine ay 5 ?_;refine abl (i:=6) (cs:=BZ p) (fun Le=>?_) O (hf:=by exact ET uN)
   first
   | refine ae (i:=7) rfl an rfl rfl (bV (row:=pU) (l:=[]) (l':=[p]) rfl rfl rfl (Os.nil hO.shut) (.tail (.tail (.tail .all))) (fun h2 _ hl=>Sl.mk (hl Le _ (.head _)) rfl (pV uN)) (by simp) dF rfl (fun v' S' qm=>?_))
   | refine ae (i:=7) rfl an rfl rfl (bV (row:=pU) (l':=[p]) rfl rfl rfl hO (.tail (.tail (.tail .all))) (fun h2 _ hl=>Sl.mk (hl Le _ (.head _)) rfl (pV uN)) (by simp;omega) dF rfl (fun v' S' qm=>?_))
   refine⟨.inr (fun q hq=>?_),?_⟩
   ·rcases bU.1 hq with rfl | hq
    ·exact .tail _ (.head _)
    rcases bU.1 hq with rfl | hq
    ·exact .tail _ (.tail _ (.head _))
    cases hq
   obtain⟨asl,csl,rfl⟩:=qm.aU;refine ay 8 ?_;refine ay 9 ?_;refine ae (i:=10) O an O O (eS O O O ?_);refine⟨.inl aB,?_⟩;refine az ?_
   have xJ:¬(l≠[]/\n<c):=by
    rintro⟨h1,h2⟩
    first | exact BO h2 | exact h1 (jy.1 aj)
   refine iQ (vs:=[]) ?_
   first
   | (
     have e:oQ (c,l) p n=(n,[p]):=by simp only[oQ];rw[if_neg xJ,if_pos JW];simp
     rw[e];exact⟨_,S',qm,.skip O (.skip O .refl)⟩)
   | (
     have e:oQ (c,l) p n=(n,l++[p]):=by simp only[oQ];rw[if_neg xJ,if_neg JW,if_neg (by simpa using Wj)]
     rw[e];exact⟨_,S',qm,.skip O (.skip O .refl)⟩)
  refine W.skip ?_
  first
  | (simp at Wj;done)
  | (
    have xJ:¬(l≠[]/\n<c):=by
     rintro⟨h1,h2⟩
     first | exact BO h2 | exact h1 (jy.1 aj)
    refine iQ (vs:=[]) ?_;have e:oQ (c,l) p n=(n,l):=by simp only[oQ];rw[if_neg xJ,if_neg JW,if_pos (by simpa using Wj)]
    rw[e];exact⟨_,S,hO,.skip O .refl⟩)
 refine iC ?_;refine W.yh (n:=7) O ?_;refine ay 0 ?_;refine ay 1 ?_;refine ay 2 ?_;refine ay 3 ?_;refine ay 4 ?_
 first
 | refine acp (i:=5) (fun h' hE hL=>nR _ h' [] p _ .nil uN (fun q hq=>by cases hq) (by simp)) ?_ (hS:=.inr (aC.one (.head _) (aC.one (.tail _ (.head _)) aC.nil)))
 | refine acp (i:=5) (fun h' hE hL=>nR _ h' l p _ (hO.sl fun b o hb=>hL b o (.tail _ (.tail _ hb))) uN Zo aj) ?_ (hS:=.inr (aC.one (.head _) (aC.one (.tail _ (.head _)) aC.nil)))
 refine ay 6 ?_;refine az ?_;refine fH ?_;refine W.cond O (fun Wj=>?_) (fun Wj=>?_)
 ·refine W.yh (n:=11) O ?_;refine ay 0 ?_;refine ay 1 ?_;refine ay 2 ?_;refine ay 3 ?_;refine ay 4 ?_;refine ay 5 ?_;refine abl (i:=6) (cs:=BZ p) (fun Le=>?_) O (hf:=by exact ET uN)
  first
  | refine ae (i:=7) rfl an rfl rfl (bV (row:=pU) (l:=[]) (l':=[p]) rfl rfl rfl (Os.nil hO.shut) (.tail (.tail (.tail .all))) (fun h2 _ hl=>Sl.mk (hl Le _ (.head _)) rfl (pV uN)) (by simp) dF rfl (fun v' S' qm=>?_))
  | refine ae (i:=7) rfl an rfl rfl (bV (row:=pU) (l':=[p]) rfl rfl rfl hO (.tail (.tail (.tail .all))) (fun h2 _ hl=>Sl.mk (hl Le _ (.head _)) rfl (pV uN)) (by simp;omega) dF rfl (fun v' S' qm=>?_))
  refine⟨.inr (fun q hq=>?_),?_⟩
  ·rcases bU.1 hq with rfl | hq
   ·exact .tail _ (.head _)
   rcases bU.1 hq with rfl | hq
   ·exact .tail _ (.tail _ (.head _))
   cases hq
  obtain⟨asl,csl,rfl⟩:=qm.aU;refine ay 8 ?_;refine ay 9 ?_;refine ae (i:=10) O an O O (eS O O O ?_);refine⟨.inl aB,?_⟩;refine az ?_
  have xJ:¬(l≠[]/\n<c):=by
   rintro⟨h1,h2⟩
   first | exact BO h2 | exact h1 (jy.1 aj)
  refine iQ (vs:=[]) ?_
  first
  | (
    have e:oQ (c,l) p n=(n,[p]):=by simp only[oQ];rw[if_neg xJ,if_pos JW];simp
    rw[e];exact⟨_,S',qm,.skip O (.skip O .refl)⟩)
  | (
    have e:oQ (c,l) p n=(n,l++[p]):=by simp only[oQ];rw[if_neg xJ,if_neg JW,if_neg (by simpa using Wj)]
    rw[e];exact⟨_,S',qm,.skip O (.skip O .refl)⟩)
 refine W.skip ?_
 first
 | (simp at Wj;done)
 | (
   have xJ:¬(l≠[]/\n<c):=by
    rintro⟨h1,h2⟩
    first | exact BO h2 | exact h1 (jy.1 aj)
   refine iQ (vs:=[]) ?_;have e:oQ (c,l) p n=(n,l):=by simp only[oQ];rw[if_neg xJ,if_neg JW,if_pos (by simpa using Wj)]
   rw[e];exact⟨_,S,hO,.skip O .refl⟩)

theorem ajR(main:aN)(h:Hp)(ps:List Pn)(ls:List Lt)(rs:List Int)(vp vl vm:Value)(o:Option (Nat×List Value))(bl:Nat)(El:TypeId)(zl:Nat×Nat)(uU:EO ps)(Qb:Io ls)(FK:Ip ps.length rs)(hrm:RmV o ps.length vm)(hp:Sl h Pn.row vp ps)(hl:Sl h Lt.row vl ls)
  (FQ:h bl=some (.cells #[vp,U8 0,vl,vm] El zl)):bG aV main Na #[aG bl] h (Rl o rs) (fun v A=>∃u S,v= .agg #[I (JX ps ls rs).1,u]/\Os h_ pU u (JX ps ls rs).2 S/\Sb (S++Rl o rs) A):=by
 obtain⟨xs,hxs⟩:∃xs,Gi ps ls rs=xs:=⟨_,rfl⟩
 have hxl:xs.length<=625:=hxs▸amJ Qb.len;have hx4:∀s∈xs,(qo s).length=4:=fun s hs=>abq (by have:=DL (hxs▸hs);have:=Qb.len;omega);refine bG.bH func79 [(0,aG bl)] ?_;refine d_ ?_;refine aA.box (fun vg=>?_);refine aA.new (fun oJ=>?_);refine gI ?_;refine aA.new (fun nP=>?_);refine kJ ?_;refine c0 (fun h' hE hL=>amK _ h' bl) (fun v A' hv=>?_);obtain⟨b1,rfl,rfl⟩:=hv;refine d_ ?_;refine W.perm (F':=([(nP,.cells #[I 0,.slice none 0 0] lU (0,0))]++Rl o rs)++[(b1,.cells #[aG bl] jU (0,0)),(oJ,.cells #[I 0,.slice none 0 0] lU (0,0)),(vg,.cells #[aG bl] jU (0,0))]) ((dK (l₂:=[_,_,_])).trans (.cons _ (List.perm_middle (l₁:=[_,_])))) ?_
 refine W.aqj (Val:=aqt) (xs:=Gi ps ls rs) (Rl o rs) O O O (fun k A=>∃u Sm,A=(nP,.cells #[I (Dz (I9 ls) ((xs.map qo).take k)).1,u] lU (0,0))::Sm/\Os h_ pU u (Dz (I9 ls) ((xs.map qo).take k)).2 Sm) (fun _ _ _ _=>False) .head ⟨_,[],O,.nil .nil⟩
  (fun h' hE hL=>agP _ h' ps ls rs vp vl vm o bl b1 _ _ _ _ uU Qb FK hrm (hp.ext hE) (hl.ext hE) (hE.1 _ _ FQ) (hL b1 _ (.head _))) ?_ ?_
 ·rintro k p v S A1 hp ⟨rfl,rfl⟩ ⟨u,Sm,rfl,hO⟩ l h1 zD hL1 hS1;rw[hxs]at hp;have hpm:=dL hp;have uN:=hx4 p hpm
  have hpk:k<xs.length:=by
   rcases bQ k xs.length with h' | h'
   ·exact h'
   rw[fM h']at hp;cases hp
  have hpx:(xs.map qo)[k]? =some (qo p):=by rw[iL,hp];rfl
  have Gt:=UH (f:=I9 ls) hpx;obtain⟨hs1,hs2⟩:=XB (f:=I9 ls) (xs:=xs.map qo) (k:=k) (by rw[List.length_map];omega);have oH:(BZ (qo p)).size=4:=by rw[xG,uN]
  have hon:lC (BZ (qo p)).toList=true:=abp;refine W.region O ?_;refine aA.new (fun mW=>?_);refine zT ?_;refine aA.nil ?_;refine⟨O,O,fun h0 Bc hL0=>?_⟩;intro hS0;have hb1:=hL0 vg _ (.tail _ (.tail _ (.head _)));refine W.block ?_;refine W.kQ [(mW,.cells (BZ (qo p)) h_ (0,0))] (n:=5) O ?_;refine ay 0 ?_;refine ay 1 ?_;refine ay 2 ?_;refine acp (i:=3) (fun h' hE hL=>agQ _ h' ls (qo p) vp vl vm bl _ _ Qb uN (hl.ext (Bc.trans hE)) ((Bc.trans hE).1 _ _ FQ)) ?_ (hS:=.inr (aC.one (.head _) aC.nil));refine ae (i:=4) rfl an rfl rfl (gq (args:=[_,_,_]) rfl rfl (.tail .all) (fun h' hE hL=>amL _ h' nP _ (I9 ls (qo p)) u _ (qo p) Sm hO aj uN (fun q hq=>by obtain⟨s,hs,rfl⟩:=List.mem_map.1 (hs2 q hq);exact hx4 s hs)) (fun v A2 hv=>?_));refine⟨.inl aB,?_⟩;obtain⟨v',S',qm,bF⟩:=hv;refine Any.sb (.cons bF) ?_;refine az ?_;refine iE ?_;exact⟨O,.inl ⟨O,_,⟨v',S',O,by rw[Gt];exact qm⟩,by rw[Gt];exact .skip O .refl⟩⟩
 rintro e2 A2 h2 d
 have h3:e2= .normal/\∃u Sm,A2=(nP,.cells #[I (JX ps ls rs).1,u] lU (0,0))::Sm/\Os h_ pU u (JX ps ls rs).2 Sm:=by
  rcases h2 with⟨rfl,u,Sm,rfl,hO⟩ | ⟨_,_,_,_,_,_,_,hX,_⟩
  ·have e:(Dz (I9 ls) ((xs.map qo).take (Gi ps ls rs).length))=JX ps ls rs:=by
    rw[hxs,List.take_of_length_le (by simp),JX,hxs]
   rw[e]at hO⊢;exact⟨O,u,Sm,O,hO⟩
  exact hX.elim
 obtain⟨rfl,u,Sm,rfl,hO⟩:=h3;obtain⟨ua,uc,rfl⟩:=hO.aU;refine gI ?_;refine W.sb (F':=(d,.deferred (some []))::(nP,.cells #[I (JX ps ls rs).1,.slice ua (JX ps ls rs).2.length uc] lU (0,0))::([(b1,.cells #[aG bl] jU (0,0)),(oJ,.cells #[I 0,.slice none 0 0] lU (0,0)),(vg,.cells #[aG bl] jU (0,0))]++(Sm++Rl o rs))) (.cons (.cons (.aT dK.symm))) ?_;refine kJ ?_;refine lvm (hl:=At.head) (AY (hv:=qU nM) ⟨_,Sm,O,hO,?_⟩);exact .skip O (.skip O (.skip O (.skip O (.skip O .refl))))
def sD(ps:List Pn)(ls:List Lt)(rs:List Int):List Int×Int×Int:=
 if jP ps ls rs≠0 then([],0,jP ps ls rs)else((vZ ps ls rs).2.headD [],(vZ ps ls rs).1,0)
theorem amM(h:jP ps ls rs=0):EO ps/\Io ls/\Ip ps.length rs:=by
 unfold jP at h;split at h
 ·rename_i h1;exact absurd h h1
 split at h
 ·rename_i h1;exact absurd h h1
 rename_i h1 h2;exact⟨EO.xE (by simpa using h1),Io.xE (by simpa using h2),Ip.xE h⟩
theorem XC:(vZ ps ls rs).2≠[]:=(NP vY:su (I9 ls) (Gi ps ls rs) (vZ ps ls rs)).ne Rk
theorem UL(h:s∈(vZ ps ls rs).2):s∈Gi ps ls rs:=by
 have e:(vZ ps ls rs).2=(Gi ps ls rs).filter fun x=>decide (I9 ls x=(vZ ps ls rs).1):=(NP vY:su (I9 ls) (Gi ps ls rs) (vZ ps ls rs)).eq;rw[e]at h;exact(List.mem_filter.1 h).1
theorem agR(h:p.length=4):pU p=p.map fun n=>I n:=by
 obtain⟨a,b,c,d,rfl⟩:=ajL h
 rfl
theorem abv(main:aN)(h:Hp)(ps:List Pn)(ls:List Lt)(rs:List Int)(vp vl vr:Value)(hp:Sl h Pn.row vp ps)(hl:Sl h Lt.row vl ls)(hr:Sl h bY vr rs):bG aV main VJ #[vp,vl,vr] h [] (fun v A=>∃l S,v= .tuple #[l,I (sD ps ls rs).2.1,I (sD ps ls rs).2.2]/\Os aX bY l (sD ps ls rs).1 S/\Sb S A):=by
 obtain⟨a,cap,rfl⟩:=hp.aU;obtain⟨a2,JA,rfl⟩:=hl.aU;obtain⟨a3,Zq,rfl⟩:=hr.aU;refine bG.bH func52 [(0,.slice a ps.length cap),(1,.slice a2 ls.length JA),(2,.slice a3 rs.length Zq)] ?_;refine iC ?_;refine c0 (fun h' hE hL=>agI _ h' ps ls rs _ _ _ (hp.ext hE) (hl.ext hE) (hr.ext hE)) (fun v A' hv=>?_)
 have hv2:∃pv,v= .tuple #[pv,I (jP ps ls rs)]/\(jP ps ls rs≠0->eH A')/\(jP ps ls rs=0->∃bl R vm,pv=aG bl/\Os aX bY vm rs R/\Sb ((bl,.cells #[.slice a ps.length cap,U8 0,.slice a2 ls.length JA,vm] EH (0,0))::R) A'):=by
  rcases hv with⟨h1,rfl,h2⟩ | ⟨h1,bl,R,vm,rfl,hR,bF⟩
  ·exact⟨_,O,fun _=>h2,fun h=>absurd h h1⟩
  exact⟨_,by rw[h1],fun h=>absurd h1 h,fun _=>⟨bl,R,vm,O,hR,bF⟩⟩
 obtain⟨pv,rfl,hv3,hv4⟩:=hv2;clear hv;refine oz ?_;refine W.aJ O (fun c20=>?_) (fun c20=>?_)
 ·refine FT ?_;have e:sD ps ls rs=([],0,jP ps ls rs):=by rw[sD,if_pos c20]
  rw[e];exact iQ (vs:=[_,_,_]) ⟨_,[],O,.nil .nil,.nil (by simpa using hv3 c20)⟩
 have h0:jP ps ls rs=0:=by simpa using c20
 obtain⟨uU,Qb,FK⟩:=amM h0;obtain⟨bl,R,vm,rfl,hR,bF⟩:=hv4 h0;obtain⟨o,hrm,pJ⟩:=amG hR;rw[FK.len]at hrm;have Zo:=Qb.len;refine W.sb (F':=(bl,.cells #[.slice a ps.length cap,U8 0,.slice a2 ls.length JA,vm] EH (0,0))::Rl o rs) (by simpa using(Sb.cons pJ).trans bF) ?_;refine kJ ?_;refine cg (.tail .all) (fun h' hE hL=>ajR _ h' ps ls rs _ _ vm o bl _ _ uU Qb FK hrm (hp.ext hE) (hl.ext hE) (hL bl _ (.head _))) (fun v A1 hv=>?_);obtain⟨u,S,rfl,hO,ajS⟩:=hv;rw[ajN]at hO⊢;simp only at hO;obtain⟨s0,rest,hs0⟩:=List.exists_cons_of_ne_nil (XC (ps:=ps) (ls:=ls) (rs:=rs));have axt:s0.length=ls.length:=DL (UL (by rw[hs0];exact bT ..));have LK:(qo s0).length=4:=abq aj;rw[hs0,dQ]at hO;rcases hO with⟨h9,-⟩ | ⟨βu,c,cp,Ju,rfl,rfl,Y4,ZJ,hpt,hJu⟩
 ·cases h9
 refine aA.sb (F':=(βu,.cells c h_ (0,0))::[]) (.skip O (Sb.trans (.cons (.nil (hJu.app (by unfold Rl;split;exact .nil;exact .cons O .nil)))) ajS)) ?_
 have CV:flat pU (qo s0::rest.map qo)=[]++(flat bY s0++(((List.replicate (4-s0.length) 0).map fun n=>I n)++flat pU (rest.map qo))):=by
  rw[iW,agR LK,adL,qo,List.map_append,List.nil_append,eF]
 have axu:Part c 0 (flat bY s0):=by
  rw[CV]at hpt;exact hpt.sub
 refine aA.new (fun zH=>?_);refine gI ?_;refine W.jS (n:=12) O ?_;refine ay 0 ?_;refine ay 1 ?_;refine fJ 2 (ZX O O O aj (by simp only[gK];omega)) O ?_;refine ay 3 ?_;refine ay 4 ?_;refine fJ 5 (Et O O O Zo) O ?_;refine ay 7 ?_;refine ay 8 ?_;refine ae (i:=6) O an O O (oL (args:=[_]) O O (fun h' hE hL=>DC _ h' s0 _ (Sl.mk (hL βu _ (.tail _ (.head _))) axt.symm axu) aj) (fun v A' hv=>?_));refine⟨.inr (aC.app aC.refl),?_⟩;obtain⟨S2,hS2,axv⟩:=hv;refine ay 9 ?_;refine ay 10 ?_;refine ay 11 ?_;refine az ?_;refine d_ ?_;have e:sD ps ls rs=(s0,(vZ ps ls rs).1,0):=by rw[sD,if_neg (by simpa using h0),hs0];rfl
 rw[e];exact iQ (vs:=[_,_,_]) ⟨_,S2,O,hS2,.right axv (.cons O (.cons O .nil))⟩
theorem ajT{p:Pn}(h:0<=p.lo/\p.lo<=12/\p.hi<=12/\p.lo<=p.hi/\-6<=p.sh/\p.sh<=6):oN p=0:=by
 unfold oN;rw[if_neg (by unfold outs;omega),if_neg aj,if_neg (by unfold outs;omega)]
theorem adM(h:∀p∈ps,oN p=0):uO ps=0:=by
 induction ps with
 | nil=>rfl
 | cons p ps ih=>
  rw[uO,if_pos (h p (bT ..))];exact ih fun q hq=>h q (dH _ hq)
theorem amN(hl:ps.length<=4)(h:∀p∈ps,oN p=0):Dw ps=0:=by
 rw[Dw,if_neg aj];exact adM h

theorem ajU(main:aN)(h:Hp)(cZ:List Int)(lv:Value)(b k:Nat)(s:Int)(hl:Sl h bY lv cZ)(hk:k<=1000000):bG aV main aaK #[aG b] h [(b,jl lv k s)] (fun v A=>∃p s',v=p.val/\oN p=0/\Sb [(b,jl lv (k+4) s')] A):=by
 refine bG.bH func55 [(0,aG b)] ?_;refine d_ ?_;refine aA.new (fun oJ=>?_);refine lF ?_;refine cg (A:=[(b,_)]) (.tail .all) (fun h' hE hL=>zK _ h' cZ lv b k s 12 (hl.ext hE) aj aj) (fun v A' hv=>?_);obtain⟨lo,s1,rfl,Qb,bF⟩:=hv;refine aA.sb (.cons bF) ?_;refine jk ?_;refine aA.zZ (cs:= #[I 0,I 1,I 2,I 4,I 12]) (fun Oi=>?_) O;refine cg (A:=[(b,_)]) (.tail (.tail .all)) (fun h' hE hL=>EN _ h' cZ lv b (k+1) s1 [0,1,2,4,12] _ (hl.ext hE) (Sl.mk (hL Oi _ (.head _)) O (Part.all [I 0,I 1,I 2,I 4,I 12])) aj (by simp) (by simp)) (fun v A' hv=>?_);obtain⟨d,s2,rfl,hd,bF⟩:=hv;refine aA.sb (.skip O (.cons bF)) ?_
 have hd2:0<=d/\d<=12:=by
  simp only[bU,List.not_mem_nil,or_false]at hd;omega
 refine lF ?_;refine cg (A:=[(b,_)]) (.tail .all) (fun h' hE hL=>oM _ h' cZ lv b (k+1+1) s2 (-6) 6 (hl.ext hE) aj aj) (fun v A' hv=>?_);obtain⟨sh0,s3,rfl,aAs,bF⟩:=hv;refine aA.sb (.cons bF) ?_;refine aA.zZ (cs:= #[I (-1),I (-2),I (-3),I (-3),I 2,I 1,I 0,I sh0]) (fun ajV=>?_) O;refine cg (A:=[(b,_)]) (.tail (.tail .all)) (fun h' hE hL=>EN _ h' cZ lv b (k+1+1+1) s3 [-1,-2,-3,-3,2,1,0,sh0] _ (hl.ext hE) (Sl.mk (hL ajV _ (.head _)) O (Part.all [I (-1),I (-2),I (-3),I (-3),I 2,I 1,I 0,I sh0])) aj (by simp) (by simp)) (fun v A' hv=>?_);obtain⟨sh,s4,rfl,yu,bF⟩:=hv;refine aA.sb (.skip O (.cons bF)) ?_
 have aAt: -6<=sh/\sh<=6:=by
  simp only[bU,List.not_mem_nil,or_false]at yu;omega
 refine lF ?_;refine AY (hv:=qU nM) ⟨⟨lo,_,sh⟩,s4,O,ajT ?_,.skip O .refl⟩;simp only;omega
theorem agS(main:aN)(h:Hp)(cZ:List Int)(lv:Value)(b k:Nat)(s:Int)(n:Nat)(hl:Sl h bY lv cZ)(hk:k<=100000)(hn:n<=4):bG aV main YO #[aG b,I n] h [(b,jl lv k s)]
  (fun v A=>∃ps Sp k' s',Os aaO Pn.row v ps Sp/\(ps.length<=n/\∀p∈ps,oN p=0)/\k'<=k+100/\Sb ((b,jl lv k' s')::Sp) A):=by
 refine bG.bH func23 [(0,aG b),(1,I n)] ?_;refine CW ?_;refine cg (A:=[(b,_)]) .all (fun h' hE hL=>oM _ h' cZ lv b k s 0 n (hl.ext hE) aj aj) (fun v A' hv=>?_);obtain⟨r,s1,rfl,hr,bF⟩:=hv;refine aA.sb bF ?_;obtain⟨m,rfl⟩:∃m:Nat,r=m:=⟨r.toNat,aj⟩
 refine gI ?_
 refine W.uq (σ:=Nat) (τ:=List Pn×Value×ah) (υ:=Nat×Int) (fun i t u=>i<=m/\Os aaO Pn.row t.2.1 t.1 t.2.2/\(∀p∈t.1,oN p=0)/\t.1.length+i=m/\u.1+4*i=k+1+4*m) (fun i t _=>[(6,I i),(5,t.2.1),(0,aG b)])
  (fun _ t u=>(b,jl lv u.1 u.2)::t.2.2) (fun i _ _=>i) m ([],.slice none 0 0,[]) (k+1,s1) ⟨Nat.le_refl _,.nil .nil,(fun p hp=>by cases hp),by simp,by simp⟩ iw .refl ?_
 rintro i ⟨ps,vp,Sp⟩ ⟨k1,s2⟩ ⟨hi,hO,zU,hlen,hk1⟩;simp only at hO zU hlen hk1⊢;obtain⟨va,vc,rfl⟩:=hO.aU;refine lg ?_;refine W.aJ O (fun ZI=>?_) (fun ZI=>?_)
 ·skip
  refine jk ?_;refine cg (A:=[(b,_)]) .head (fun h' hE hL=>ajU _ h' cZ lv b k1 s2 (hl.ext hE) aj) (fun v A' hv=>?_);obtain⟨p,s3,rfl,hcp,bF⟩:=hv;refine aA.sb (bF.app (D:=Sp) .refl) ?_;refine aA.zZ (cs:= #[I p.lo,I p.hi,I p.sh]) (fun agT=>?_) O;refine oe O wn O O (bV (row:=Pn.row) (l':=[p]) O O O hO (.tail (.tail .all)) (fun h2 _ hl=>Sl.mk (hl agT _ (.head _)) O (Part.all (flat Pn.row [p]))) (by simp;omega) dF O (fun v' S' qm=>?_));refine zW rfl rfl rfl<|aA.nil<|iE<|fH<|W.region rfl<|aiH rfl rfl rfl ?_;refine gI ?_;refine⟨O,i-1,(ps++[p],v',S'),(k1+4,s3),⟨aj,qm,fun q hq=>?_,by simp;omega,by simp only;omega⟩,aj,⟨lk O (show I _=I _ by congr 1;omega),O,O,trivial⟩,.skip O .refl⟩;rcases dh.1 hq with hq | hq
  ·exact zU q hq
  rw[dP.1 hq];exact hcp
 skip
 refine iC ?_;exact iQ (vs:=[_]) ⟨ps,Sp,k1,s2,hO,⟨aj,zU⟩,aj,.refl⟩

theorem UM(main:aN)(h:Hp)(cZ:List Int)(lv:Value)(b k:Nat)(s:Int)(n:Nat)(hl:Sl h bY lv cZ)(hk:k<=100000)(hn:n<=30):bG aV main VG #[aG b,I n] h [(b,jl lv k s)]
  (fun v A=>∃rs Sp k' s',Os aX bY v rs Sp/\(rs.length=n/\∀r∈rs,0<=r/\r<=20)/\k'<=k+100/\Sb ((b,jl lv k' s')::Sp) A):=by
 refine bG.bH func25 [(0,aG b),(1,I n)] ?_;refine Qs ?_
 refine W.uq (σ:=Nat) (τ:=List Int×Value×ah) (υ:=Nat×Int) (fun i t u=>i<=n/\Os aX bY t.2.1 t.1 t.2.2/\(∀p∈t.1,0<=p/\p<=20)/\t.1.length=i/\u.1=k+3*i) (fun i t _=>[(6,I i),(5,t.2.1),(0,aG b),(1,I n)])
  (fun _ t u=>(b,jl lv u.1 u.2)::t.2.2) (fun i _ _=>n-i) 0 ([],.slice none 0 0,[]) (k,s) ⟨Nat.zero_le _,.nil .nil,(fun p hp=>by cases hp),by simp,by simp⟩ iw .refl ?_
 rintro i ⟨ps,vp,Sp⟩ ⟨k1,s2⟩ ⟨hi,hO,zU,hlen,hk1⟩;simp only at hO zU hlen hk1⊢;obtain⟨va,vc,rfl⟩:=hO.aU;refine jk ?_;refine W.aJ O (fun c9=>?_) (fun c9=>?_)
 ·skip
  refine kR ?_;refine cg (A:=[(b,_)]) .head (fun h' hE hL=>zK _ h' cZ lv b k1 s2 9 (hl.ext hE) aj aj) (fun v A' hv=>?_);obtain⟨q,s3,rfl,hq,bF⟩:=hv;refine aA.sb (bF.app (D:=Sp) .refl) ?_;refine zT ?_;refine cg (A:=[(b,_)]) .head (fun h' hE hL=>zK _ h' cZ lv b (k1+1) s3 14 (hl.ext hE) aj aj) (fun v A' hv=>?_);obtain⟨q2,s4,rfl,hq2,bF⟩:=hv;refine aA.sb (bF.app (D:=Sp) .refl) ?_;refine aA.zZ (cs:= #[I 0,I q,I q2,I 20]) (fun abw=>?_) O;refine cg (A:=[(b,_)]) (.tail .head) (fun h' hE hL=>EN _ h' cZ lv b (k1+1+1) s4 [0,q,q2,20] _ (hl.ext hE) (Sl.mk (hL abw _ (.head _)) O (Part.all [I 0,I q,I q2,I 20])) aj (by simp) (by simp)) (fun v A' hv=>?_);obtain⟨r,s5,rfl,hr,bF⟩:=hv;refine aA.sb (.skip O (bF.app (D:=Sp) .refl)) ?_
  have hr2:0<=r/\r<=20:=by
   simp only[bU,List.not_mem_nil,or_false]at hr;omega
  refine aA.zZ (cs:= #[I r]) (fun mP=>?_) O;refine oe O wn O O (bV (row:=bY) (l':=[r]) O O O hO (.tail (.tail .all)) (fun h2 _ hl=>Sl.mk (hl mP _ (.head _)) O (Part.all [I r])) (by simp;omega) dF O (fun v' S' qm=>?_));refine zW rfl rfl rfl<|aA.nil<|iE<|fH<|W.region rfl<|aiH rfl rfl rfl ?_;refine gI ?_;refine⟨O,i+1,(ps++[r],v',S'),(k1+3,s5),⟨aj,qm,fun x hx=>?_,by simp;omega,by simp only;omega⟩,aj,iw,.skip O .refl⟩;rcases dh.1 hx with hx | hx
  ·exact zU x hx
  rw[dP.1 hx];exact hr2
 skip
 refine iC ?_;exact iQ (vs:=[_]) ⟨ps,Sp,k1,s2,hO,⟨aj,zU⟩,aj,.refl⟩
theorem I_{l:List α}{p:α}(h:l[i]? =some p):l.take (i+1)=l.take i++[p]:=by
 rw[List.take_add_one,h];rfl
instance:NS aV aaO:=⟨aB,aB⟩
instance:NS aV anW:=⟨aB,aB⟩
theorem acz(main:aN)(h:Hp)(l:List Int)(v:Value)(hl:Sl h bY v l)(hn:l.length<=1000):bG aV main acD #[v] h [] (fun v A=>∃S,Os aX bY v l S/\Sb S A):=by
 obtain⟨a,cap,rfl⟩:=hl.aU;refine bG.bH func42 [(0,.slice a l.length cap)] ?_;refine lg ?_;refine aA.alJ (fun nP=>?_);refine zT ?_;have hO:Os aX bY (.slice (some ⟨nP,0,none⟩) 0 0) ([]:List Int) [(nP,.cells #[] aX (0,0))]:=.inr ⟨nP, #[],0,[],O,O,O,Nat.le_refl _,Part.all [],.nil⟩;refine oe O wn O O (bV (row:=bY) (l:=[]) (l':=l) O O O hO .all (fun h2 hE _=>hl.ext hE) (by simp;omega) dF O (fun v' S' xM=>?_));rw[List.nil_append]at xM;refine gI ?_;exact iQ (vs:=[v']) ⟨S',xM,.refl⟩

theorem ahl(main:aN)(h:Hp)(l:List Pn)(v:Value)(hl:Sl h Pn.row v l)(hn:l.length<=1000):bG aV main acC #[v] h [] (fun v A=>∃S,Os aaO Pn.row v l S/\Sb S A):=by
 obtain⟨a,cap,rfl⟩:=hl.aU;refine bG.bH func41 [(0,.slice a l.length cap)] ?_;refine lg ?_;refine aA.alJ (fun nP=>?_);refine zT ?_;have hO:Os aaO Pn.row (.slice (some ⟨nP,0,none⟩) 0 0) ([]:List Pn) [(nP,.cells #[] aaO (0,0))]:=.inr ⟨nP, #[],0,[],O,O,O,Nat.le_refl _,Part.all [],.nil⟩;refine oe O wn O O (bV (row:=Pn.row) (l:=[]) (l':=l) O O O hO .all (fun h2 hE _=>hl.ext hE) (by simp;omega) dF O (fun v' S' xM=>?_));rw[List.nil_append]at xM;refine gI ?_;exact iQ (vs:=[v']) ⟨S',xM,.refl⟩

theorem XD(main:aN)(h:Hp)(l l':List Int)(v v':Value)(hl:Sl h bY v l)(hl':Sl h bY v' l')(hn:l.length<=100000):Pu aV main YQ #[v,v'] h (.bool (decide (l=l'))):=by
 obtain⟨a,cap,rfl⟩:=hl.aU;obtain⟨a',f_,rfl⟩:=hl'.aU;refine bG.bH func32 [(0,.slice a l.length cap),(1,.slice a' l'.length f_)] ?_;refine gZ ?_;refine W.loop (σ:=Nat) (fun k=>k<=l.length/\k<=l'.length/\l.take k=l'.take k) (fun k=>[(5,I k),(0,.slice a l.length cap),(1,.slice a' l'.length f_)]) (fun _=>[]) (fun k=>l.length-k) 0 ⟨Nat.zero_le _,Nat.zero_le _,O⟩ iw qE ?_;rintro k ⟨hk,fA,he⟩;refine kR ?_;refine aA.ask (fun aqA=>?_) (fun aqA=>?_)
 ·refine lg ?_;refine W.aJ O (fun Xn=>?_) (fun Xn=>?_)
  ·obtain⟨p,hp,-⟩:=has (show k<l.length by omega);obtain⟨q,hq,-⟩:=has (show k<l'.length by omega);obtain⟨b,off,c,E,fz,rfl,hb,-,YZ,Gq⟩:=hl.at hp;have hx2:c[off+k*1+0]? =some (I p):=Gq 0 dF;clear Gq;obtain⟨b',J8,c',E',fz',rfl,wz,-,hy2,Gq⟩:=hl'.at hq;have hx3:c'[J8+k*1+0]? =some (I q):=Gq 0 dF;clear Gq;refine kJ ?_;refine W.jS (n:=9) O ?_;refine ay 0 ?_;refine ay 1 ?_;refine ay 2 ?_;refine ay 3 ?_;refine ay 4 ?_;refine ay 5 ?_;refine ay 6 ?_;refine ay 7 ?_;refine ay 8 ?_;refine az ?_;refine fH ?_;refine W.aJ O (fun Rf=>?_) (fun Rf=>?_)
   ·refine gZ ?_;refine lQ ?_;refine congrArg Value.bool (decide_eq_false fun e=>?_).symm;subst e;rw[hp]at hq
    cases hq
    exact Rf O
   refine kR ?_;have hpq:p=q:=Decidable.byContradiction Rf;subst hpq;exact⟨O,k+1,⟨aj,aj,by rw[I_ hp,I_ hq,he]⟩,aj,iw,qE⟩
  refine Qu ?_;refine lQ ?_;refine congrArg Value.bool (decide_eq_decide.2 ⟨fun e=>?_,fun e=>?_⟩)
  ·have e':l.length=l'.length:=by omega
   have zI:k=l.length:=by omega
   rw[<-List.take_length (l:=l),<-List.take_length (l:=l'),<-e',<-zI,he]
  rw[e]
 refine lg ?_;refine W.iq ?_;refine Qu ?_;refine lQ ?_;refine congrArg Value.bool (decide_eq_decide.2 ⟨fun e=>?_,fun e=>?_⟩)
 ·have e':l.length=l'.length:=by omega
  have zI:k=l.length:=by omega
  rw[<-List.take_length (l:=l),<-List.take_length (l:=l'),<-e',<-zI,he]
 rw[e]

structure Rn(S:ah)(v:Value)(l:List Int):Prop where
 sl:∃a cap,v= .slice a l.length cap
 cl:∀b o,(b,o)∈S->o.isChan=false
 rd:∀h,je S h->Sl h bY v l
theorem eH.NW:∀{S:ah},(∀b o,(b,o)∈S->o.isChan=false)->eH S
 | [],_=>.nil
 | (b,o)::S,h=>.cons (Gu (h b o (bT ..))) (eH.NW fun b o hb=>h b o (dH _ hb))
theorem Rn.shut{l:List Int}(H:Rn S v l):eH S:=eH.NW H.cl
theorem Rn.more{l:List Int}(H:Rn S v l)(h':∀b o,(b,o)∈S'->o.isChan=false):Rn (S'++S) v l:=
 ⟨H.sl,fun b o hb=>(dh.1 hb).elim (h' b o) (H.cl b o),fun h hl=>H.rd h fun b o hb=>hl b o (bZ _ hb)⟩
theorem Rn.left{l:List Int}(H:Rn S v l)(h':∀b o,(b,o)∈S'->o.isChan=false):Rn (S++S') v l:=
 ⟨H.sl,fun b o hb=>(dh.1 hb).elim (H.cl b o) (h' b o),fun h hl=>H.rd h fun b o hb=>hl b o (jm _ hb)⟩
theorem Rn.nil:Rn [] (.slice none 0 0) []:=⟨⟨_,_,rfl⟩,(fun _ _ h=>by cases h),fun _ _=>.nil⟩
theorem Rn.os{l:List Int}(H:Os aX bY v l A):∃S,Rn S v l/\Sb S A:=by
 obtain⟨a,cap,he⟩:=H.aU;rcases id H with⟨rfl,rfl,yu⟩ | ⟨β,c,f_,J,h1,rfl,h3,h4,h5,hJ⟩
 ·exact⟨[],.nil,.nil yu⟩
 refine⟨[(β,.cells c aX (0,0))],⟨⟨a,cap,he⟩,fun b o hb=>?_,fun h hl=>?_⟩,.cons (.nil hJ)⟩
 ·simp only[dP,Prod.mk.injEq]at hb;rw[hb.2];rfl
 rw[h1];exact Sl.mk (hl β _ (bT ..)) O h5

instance:NS aV kS:=⟨aB,aB⟩
theorem ei8:EqAt aV QG 1 1 .u8:=EqAt.int
theorem ajW:Rj aV kS 3 2 .u8:=Rj.array (n:=3) (w:=1) (K:=1) ei8
instance:EV aV kS 3 .u8:=⟨ajW.le dF⟩
theorem ajX:Xk aV kS 3 2 .u8:=Xk.array (n:=3) (w:=1) (K:=1) V5.int
instance:KV aV kS 3 .u8:=⟨inferInstance,ajX.le dF,_,TD.out,.inr ⟨_,_,O⟩⟩
def Tm.l(t:Tm):List Int:=[(t.a:Int),(t.b:Int),(t.c:Int)]
abbrev tmV(t:Tm):Value:=.agg #[U8 t.a,U8 t.b,U8 t.c]
theorem Tm.aom{u:Tm}(h:t.l=u.l):t=u:=by
 obtain⟨a,b,c⟩:=t;obtain⟨x,y,z⟩:=u;simp only[Tm.l,List.cons.injEq,Int.natCast_inj,and_true]at h;obtain⟨rfl,rfl,rfl⟩:=h;rfl
theorem Zt{met:List Tm}:t.l∈met.map Tm.l↔t∈met:=by
 constructor
 ·intro h;obtain⟨u,hu,e⟩:=List.mem_map.1 h;rw[<-Tm.aom e];exact hu
 exact fun h=>List.mem_map.2 ⟨t,h,O⟩
def Ir(a:Value×Tm):List Value:=[if one a.1=true then a.1 else .bool false,U8 a.2.a,U8 a.2.b,U8 a.2.c]
instance:Rw Ir 4:=⟨fun _=>rfl,fun a=>by
 simp only[Ir];split
 ·rename_i h;simp[lC,h];exact⟨O,O,O⟩
 rfl⟩
theorem abx(h:one v=true):Ir (v,t)=[v,U8 t.a,U8 t.b,U8 t.c]:=by simp[Ir,h]

theorem amO(main:aN)(h:Hp)(qb mb:Nat)(E:TypeId)(vq:Value)(qv:List (Value×Tm))(Sq:ah)(es:Array MapEntry)(ck:Nat)(met:List Tm)(t:Tm)(vw:Value)(hO:Oq eX Ir vq qv Sq)(hM:JB es (met.map Tm.l) .u8)(hw:one vw=true)(hn:qv.length<=100000):
  bG aV main mF #[aG qb,tmV t,.agg #[vw,U8 t.a,U8 t.b,U8 t.c]] h ((qb,.cells #[vq,.map (some mb)] E (0,0))::(mb,.map es ck)::Sq)
   (fun _ F=>∃vq' Sq' LM ck',Oq eX Ir vq' (if t∈met then qv else qv++[(vw,t)]) Sq'/\JB LM ((if t∈met then met else met++[t]).map Tm.l) .u8/\Sb ((qb,.cells #[vq',.map (some mb)] E (0,0))::(mb,.map LM ck')::Sq') F):=by
 have hw3:∀b∈met.map Tm.l,b.length=3:=fun b hb=>by
  obtain⟨u,-,rfl⟩:=List.mem_map.1 hb;rfl
 obtain⟨aQ,cQ,rfl⟩:=hO.aU;refine bG.bH func187 [(0,aG qb),(1,tmV t),(2,.agg #[vw,U8 t.a,U8 t.b,U8 t.c])] ?_;refine d_ ?_;refine aA.box (fun mW=>?_);refine aA.box (fun iI=>?_);refine d_ ?_;refine W.kQ [(iI,.cells #[vw,U8 t.a,U8 t.b,U8 t.c] eX (0,0)),(mW,.cells #[U8 t.a,U8 t.b,U8 t.c] kS (0,0)),(qb,.cells #[.slice aQ qv.length cQ,.map (some mb)] E (0,0))] (n:=7) O ?_;refine ay 0 ?_;refine ay 1 ?_;refine ay 2 ?_;refine ay 3 ?_;refine ay 4 ?_;refine ae (i:=5) O an O O (aa3 (a:=t.l) (ks:=met.map Tm.l) O O O O O (.tail (.tail (.tail .head))) hM hw3 ?_);refine⟨.inr (by repeat(first | exact aC.nil | refine aC.one zS ?_)),?_⟩;refine ay 6 ?_;refine az ?_;refine fH ?_;refine W.cond O (fun OZ=>?_) (fun OZ=>?_)
 ·have hom:t∉met:=by simpa[Zt]using OZ
  have axz:t.l∉met.map Tm.l:=fun h=>hom (Zt.1 h);refine W.seq ?_;refine W.jS (n:=6) O ?_;refine ay 0 ?_;refine ay 1 ?_;refine ay 2 ?_;refine ay 3 ?_;refine ay 4 ?_;refine ae (i:=5) O an O O (Il (a:=t.l) (ks:=met.map Tm.l) O O O O O O (.tail (.tail (.tail .head))) hM hw3 (fun es2 ck2 hM2=>?_));refine⟨.inl aB,?_⟩;rw[if_neg axz]at hM2;refine az ?_;refine fH ?_;refine W.kQ [(iI,.cells #[vw,U8 t.a,U8 t.b,U8 t.c] eX (0,0)),(qb,.cells #[.slice aQ qv.length cQ,.map (some mb)] E (0,0))] (n:=11) O ?_;refine ay 0 ?_;refine ay 1 ?_;refine ay 2 ?_;refine ay 3 ?_;refine ay 4 ?_;refine ay 5 ?_;refine abl (i:=6) (cs:= #[vw,U8 t.a,U8 t.b,U8 t.c]) (fun ajY=>?_) O (hf:=by kernel_rfl);refine ae (i:=7) O an O O (agy (row:=Ir) (l':=[(vw,t)]) O O O hO (.tail (.tail (.tail (.tail (.tail .all))))) (fun h2 _ hl=>Sl.mk (hl ajY _ (.head _)) O (by rw[show flat Ir [(vw,t)]=[vw,U8 t.a,U8 t.b,U8 t.c] by rw[iW,abx hw];rfl];exact Part.all [vw,U8 t.a,U8 t.b,U8 t.c])) (by simp;omega) dF O (fun v' S' qm=>?_));refine⟨.inr (by repeat(first | exact aC.nil | refine aC.one zS ?_)),?_⟩;obtain⟨a5,c5,rfl⟩:=qm.aU;refine ay 8 ?_;refine ay 9 ?_;refine ae (i:=10) O an O O (eS O O O ?_);refine⟨.inl aB,?_⟩;refine az ?_;refine iQ (vs:=[]) ⟨_,_,_,_,(by rw[if_neg hom];exact qm),(by rw[if_neg hom,List.map_append];exact hM2),.skip O (.skip O (.skip O .refl))⟩
 refine W.skip ?_;have hom:t∈met:=by simpa[Zt]using OZ
 refine iQ (vs:=[]) ⟨_,_,_,_,(by rw[if_pos hom];exact hO),(by rw[if_pos hom];exact hM),.skip O (.skip O .refl)⟩

theorem amP(main:aN)(h:Hp)(qb mb:Nat)(E:TypeId)(vq:Value)(Sq:ah)(es:Array MapEntry)(ck:Nat)(hO:Oq eX Ir vq [] Sq):
  bG aV main ny #[aG qb] h ((qb,.cells #[vq,.map (some mb)] E (0,0))::(mb,.map es ck)::Sq) (fun v F=>v= .tuple #[.agg #[.slice none 0 0,U8 0,U8 0,U8 0],.bool false]/\eH F):=by
 obtain⟨aQ,cQ,rfl⟩:=hO.aU;have yu:=hO.shut;refine bG.bH func188 [(0,aG qb)] ?_;refine d_ ?_;refine aA.new (fun oJ=>?_);refine oz ?_;refine W.aJ O (fun ZI=>?_) (fun ZI=>?_)
 ·refine lg ?_;refine oe O wn O O (ajy O O (.tail (.tail .head)) ?_);refine gI ?_;refine aA.new (fun mW=>?_);refine FT ?_;refine AY (vs:=[.agg #[.slice none 0 0,U8 0,U8 0,U8 0],.bool false]) ⟨O,.cons O (.cons O (.cons O (.cons O yu)))⟩
 exact absurd O ZI
theorem aqD(main:aN)(h:Hp)(qb mb:Nat)(E:TypeId)(vq:Value)(vw:Value)(t:Tm)(qv:List (Value×Tm))(Sq:ah)(es:Array MapEntry)(ck:Nat)(hO:Oq eX Ir vq ((vw,t)::qv) Sq)(hw:one vw=true):
  bG aV main ny #[aG qb] h ((qb,.cells #[vq,.map (some mb)] E (0,0))::(mb,.map es ck)::Sq) (fun v F=>v= .tuple #[.agg #[vw,U8 t.a,U8 t.b,U8 t.c],.bool true]/\∃vq',Oq eX Ir vq' qv Sq/\Sb ((qb,.cells #[vq',.map (some mb)] E (0,0))::(mb,.map es ck)::Sq) F):=by
 rcases id hO with⟨he,-⟩ | ⟨βq,cq,oq0,aAu,Jq,rfl,rfl,hq1,hq2,hq3,hq4⟩
 ·cases he
 have axB:Ir (vw,t)=[vw,U8 t.a,U8 t.b,U8 t.c]:=abx hw
 have Sz:cq.extract (oq0+0*4) (oq0+0*4+4)= #[vw,U8 t.a,U8 t.b,U8 t.c]:=by
  have:=(Part.afN hq3 (i:=0) O).1;rw[axB]at this;exact this
 have hxn:oq0+0*4+4<=cq.size:=(Part.afN hq3 (i:=0) O).2;have amQ:=hO.pop;refine bG.bH func188 [(0,aG qb)] ?_;refine d_ ?_;refine aA.new (fun oJ=>?_);refine oz ?_;refine W.aJ O (fun ZI=>?_) (fun ZI=>?_)
 ·simp only[gK]at ZI;exact absurd ZI aj
 refine gZ ?_;refine aA.new (fun iI=>?_);refine aA.Yi (vs:= #[vw,U8 t.a,U8 t.b,U8 t.c]) ?_ (h1:=by show(one vw&&true)=true;rw[hw];rfl);refine kR ?_;refine b_ (adF (m:=1) O O O (by simp) (by simpa using hq2)) O ?_;refine jk ?_;refine aA.Yi (vs:= #[vw,U8 t.a,U8 t.b,U8 t.c]) ?_ (h1:=by show(one vw&&true)=true;rw[hw];rfl);refine gI ?_;refine AY (vs:=[.agg #[vw,U8 t.a,U8 t.b,U8 t.c],.bool true]) ⟨O,_,amQ,.skip O (.skip O .refl)⟩
end Go.jc
