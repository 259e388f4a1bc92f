/- A place of goroutine 0's: the others move, until it does. Conditions: none; over any program. (And 7 texts more.) -/
import Derived.Test.YtjohlemgkcpoeaaGreatDoorR05
set_option linter.unusedVariables false
set_option linter.unusedSimpArgs false
set_option linter.unusedSectionVars false
set_option maxRecDepth 100000
set_option maxHeartbeats 4000000

namespace Go.jc
open Go.Conc (crowd parked rcase scase QuitsIn QuitsD Before Knows knows_own touchAt touchAt_of touchAt_old getElem?_append_old getElem?_append_cases lt_size_of_getElem? touch_of hb_po hb_app ofEvents_eq woken Deaf deaf_old g?_old act?_old heard_old lt_of_act? Deaf_own Deaf_other counts_old deaf_inside)
open Go.ConcN (RelBy)
def Tv(P:Program)(og:Option OG)(ks:List (KS P))(gm g:Goroutine):Prop:=
 (
  ac5 g gm/\gm.status= .running/\(gm=g\/∃c z jd,∀w,stepG P true g w= .comm jd #[rcase c z] true (.recv true) w #[]))\/(∃(c:Nat) (z:Value) (jd:Goroutine) (i:Nat) (g':Goroutine) (k:Hp) (M:Nat->Prop),gm=parked jd #[rcase c z] (.recv true)/\ac5 g jd/\(∀w,stepG P true g w= .comm jd #[rcase c z] true (.recv true) w #[])/\ks[i]? =some (.run c g' k M))\/
  ∃o,og=some o/\o.p= .reg/\o.x.ws=0/\g.status= .running/\g.offers=none/\gm={g with status:=.blocked}
def ost(og:Option OG):Option (GP×Nat×MP×Array Value):=og.map fun o=>(o.γ,o.left,o.p,o.xc)
def o_[Base](P:Program)(s:Option (GP×Nat×MP×Array Value))(n:List Nat)(dG:Nat)(k₀:Hp)(aH:Nat->Prop)(g:Goroutine)(ks:List (KS P))(gs:Array Goroutine)(w:World)(t:Trace):Prop:=
 ∃og,MS P gs w t dG k₀ aH og ks/\(ost og=s/\ks.filterMap KS.Cb=n)/\(∀p∈ks,Acc (Fh (P:=P)) p)/\∃gm,gs[0]? =some gm/\Tv P og ks gm g
variable{i:Nat}{α:Type}{a b:α}{r:α->α->Prop}
theorem apt(h:Acc r a):Acc (Relation.TransGen r) a:=by
 induction h with
 | intro a _ ih=>
  refine⟨_,fun b hb=>?_⟩
  have key:∀{b c},Relation.TransGen r b c->c=a->Acc (Relation.TransGen r) b:=by
   intro b c hb
   induction hb with
   | single h=>intro e;subst e;exact ih _ h
   | tail h1 h2 ih2=>intro e;subst e;exact(ih _ h2).inv h1
  exact key hb O
theorem af5(h:Acc r a)(hr:Relation.TransGen r b a):Acc r b:=by
 induction hr with
 | single h1=>exact h.inv h1
 | tail h1 h2 ih=>exact ih (h.inv h2)
theorem set_set{l:List α}:(l.set i a).set i b=l.set i b:=by
 apply List.ext_getElem?;intro j;simp only[List.getElem?_set,List.length_set];split
 ·split <;>rfl
 rfl
theorem aiA{l:List α}(h:l[i]? =some a):(l.set i b)[i]? =some b:=by
 rw[List.getElem?_set,if_pos O,if_pos (gy h)]

section
variable{P:Program}{Q:Machine->Outcome->World->Trace->Prop}{gs gs':Array Goroutine}{w w':World}{t u:Trace}{k₀ fU:Hp}{aH jo:Nat->Prop}{og En:Option OG}{st:Option (GP×Nat×MP×Array Value)}{ks ks':List (KS P)}{n:List Nat}{dG i c:Nat}{g g' gm ga QW:Goroutine}{x x':KS P}{sl:Option (Nat×Nat)}
theorem MS.at[Base](I:MS P gs w t dG k₀ aH og ks)(d:Nat):MS P gs (w.at d) t dG k₀ aH og ks:=by
 refine⟨I.size,I.Y.at d,I.new,fun i x hi=>?_,I.one,I.has,fun o h=>?_,I.Vw,I.Kv,I.base.at d,I.low,I.Kw,I.vX⟩
 ·obtain⟨g,h1,h2⟩:=I.Cc i x hi;have h3:=h2.keep (w':=w.at d) (u:= #[]) QY (fun _ _ _ h _=>h) (fun _ _=>rfl) (fun _ _ _ h=>h) (fun op h=>by simp at h) (fun _ _ op h=>by simp at h) (fun _ _ op h=>by simp at h) fun _ _ _=>⟨O,fun op h=>by simp at h⟩
  rw[Array.append_empty]at h3;exact⟨g,h1,h3⟩
 have h3:=(I.Td o h).keep (w':=w.at d) (u:= #[]) (ks':=ks) O O (fun i x h1 h2=>⟨x,h1,h2⟩) (.none fun _ _=>⟨O,fun op h=>by simp at h⟩);rw[Array.append_empty]at h3;exact h3
theorem MS.get[Base](I:MS P gs w t dG k₀ aH og ks)(h:gs[i+1]? =some g):∃x,ks[i]? =some x/\Bz P w t k₀ aH og i g x:=by
 have fK:=(Array.getElem?_eq_some_iff.1 h).1;have hi:i<ks.length:=by have:=I.size;omega
 obtain⟨jd,h1,h2⟩:=I.Cc i _ (jh hi);rw[h]at h1;cases h1;exact⟨_,jh hi,h2⟩
theorem Bz.offers(h:Bz P w t k₀ aH og i g x)(r:Nat):Conc.offersAt g r false=[]/\(x.ch≠some r->Conc.offersAt g r true=[]):=by
 rcases h.status with hs | hs | ⟨g',c,v,z,rfl,hc⟩
 ·exact⟨Conc.offersAt_of_not_blocked (by rw[hs];simp) _ _,fun _=>Conc.offersAt_of_not_blocked (by rw[hs];simp) _ _⟩
 ·exact⟨Conc.offersAt_of_not_blocked (by rw[hs];simp) _ _,fun _=>Conc.offersAt_of_not_blocked (by rw[hs];simp) _ _⟩
 exact⟨Conc.offersAt_parked_send' _ _ _ _ _ _,fun iK=>by rw[Conc.offersAt_parked_send,if_neg fun e:c=r=>iK (hc.trans (congrArg some e))]⟩

theorem Tv.woken(hm:Tv P og ks gm g)(w':World)(hx:∀o,og=some o->∃o',En=some o'/\o'.p=o.p/\(o'.x.ws=o.x.ws\/MF P ga QW=true))
  (hc:∀(c i:Nat) (g':Goroutine) (k:Hp) (M:Nat->Prop),ks[i]? =some (.run c g' k M)->(MF P ga QW=true/\∃s r,w'.heap[c]? =some (Obj.chan 0 #[] true s r false))\/((∃s r,w'.heap[c]? =some (Obj.chan 0 #[] false s r false))/\∃(i':Nat) (g'':Goroutine) (k':Hp) (M':Nat->Prop),ks'[i']? =some (.run c g'' k' M'))):
  Tv P En ks' (Conc.woken P ga QW w' gm) g:=by
 rcases hm with⟨h1,h2⟩ | ⟨c,z,jd,i,g',k,M,rfl,h1,h2,h3⟩ | ⟨o,ho,h1,h2,h3,h4,rfl⟩
 ·rw[aie (.inl h2.1)];exact .inl ⟨h1,h2⟩
 ·rcases hc c i g' k M h3 with⟨hw,s,r,ho⟩ | ⟨⟨s,r,ho⟩,i',g'',k',M',h4⟩
  ·rw[sN,if_pos hw,Conc.again_recv_closed ho];exact .inl ⟨h1,O,.inr ⟨c,z,jd,h2⟩⟩
  have:Conc.woken P ga QW w' (parked jd #[rcase c z] (.recv true))=parked jd #[rcase c z] (.recv true):=by
   rw[sN];split
   ·exact Conc.again_recv_open ho
   rfl
  rw[this];exact .inr (.inl ⟨c,z,jd,i',g'',k',M',O,h1,h2,h4⟩)
 obtain⟨o',mM,h5,h6⟩:=hx o ho;by_cases hw:MF P ga QW=true
 ·rw[sN,if_pos hw,SX h3 h4];exact .inl ⟨⟨O,O,O⟩,h3,.inl O⟩
 rw[sN,if_neg hw];exact .inr (.inr ⟨o',mM,h5.trans h1,(h6.resolve_right hw).trans h2,h3,h4,O⟩)

theorem MS.others[Base](I:MS P gs w t dG k₀ aH og ks)(fK:i+1<gs.size)(hc:∀(j:Nat) (x:KS P) (c:Nat),j≠i->ks[j]? =some x->x.ch=some c->∀o,w.heap[c]? =some o->o.isChan=true->w'.heap[c]? =some o):
  ∀m,m≠i+1->0<m->((gs.map (Conc.woken P ga QW w')).setIfInBounds (i+1) QW)[m]? =gs[m]? :=by
 intro m hm h0;rw[jT fK,if_neg hm]
 cases hg:gs[m]? with
 | none=>rfl
 | some g=>
  obtain⟨j,rfl⟩:∃j,m=j+1:=⟨m-1,aj⟩
  obtain⟨x,hx,h2⟩:=I.get hg;have:=h2.again (w':=w') fun c PS o ho Gv=>hc j x c aj hx PS o ho Gv;rw[Option.map_some,sN,this];simp
theorem MS.IX[Base](I:MS P gs w t dG k₀ aH og ks)(fK:0<gs.size)(hc:∀(b:Nat) (o:Obj),w.heap[b]? =some o->o.isChan=true->w'.heap[b]? =some o):∀m,0<m->((gs.map (Conc.woken P ga QW w')).setIfInBounds 0 QW)[m]? =gs[m]? :=by
 intro m h0;rw[jT fK,if_neg aj]
 cases hg:gs[m]? with
 | none=>rfl
 | some g=>
  obtain⟨j,rfl⟩:∃j,m=j+1:=⟨m-1,aj⟩
  obtain⟨x,hx,h2⟩:=I.get hg;have:=h2.again (w':=w') fun c PS o ho Gv=>hc c o ho Gv;rw[Option.map_some,sN,this];simp

theorem MQ(kT:∀p∈ks,Acc (Fh (P:=P)) p)(hx:Acc (Fh (P:=P)) x'):∀p∈ks.set i x',Acc (Fh (P:=P)) p:=fun p hp=>by
 rcases List.mem_or_eq_of_mem_set hp with h | rfl
 ·exact kT p h
 exact hx

theorem MS.anQ[Base]{γ:GP}{j:Nat}{pre:Option (Hp×(Nat->Prop))}{A:ah}{s:LS}{gx:Goroutine}{T:qO P false (gJ γ.toGrp) (Gone P) s gx}(I:MS P gs w t dG k₀ aH og ks)(hx:ks[i]? =some (.fin γ j pre A T))(hi:gs[i+1]? =some ga)(hr:ga.status= .running):
  ∃(En:Option OG) (y:KS P) (iF:Goroutine) (w':World) (ops:Array MemOp),runT P (crowd gs w sl) (i+1)=(.next (crowd ((gs.map (Conc.woken P ga iF w')).setIfInBounds (i+1) iF) w' sl),ops)/\MS P ((gs.map (Conc.woken P ga iF w')).setIfInBounds (i+1) iF) w' (t++ops) dG k₀ aH En (ks.set i y)/\ost En=ost og/\y.Cb=some j/\Fh y (.fin γ j pre A T)/\
   (∀o,og=some o->∃o',En=some o'/\o'.p=o.p/\(o'.x.ws=o.x.ws\/MF P ga iF=true))/\∀(b s r:Nat),w.heap[b]? =some (.chan 0 #[] false s r false)->w'.heap[b]? =some (.chan 0 #[] false s r false):=by
 have fK:=(Array.getElem?_eq_some_iff.1 hi).1;have hb:((i+1)==0)=false:=by simp
 obtain⟨jd,h1,h2⟩:=I.Cc i _ hx;rw[hi]at h1;cases h1;obtain⟨rfl,⟨o,rfl,rfl⟩,OI,r,d,hsd,hrg,h8,h9⟩:=h2;rcases T.split with⟨xK,he,rfl⟩ | ⟨g',xK,e,T,rfl⟩ | ⟨a,xK,hc,ho,wait,ok,wk,fr,hh,rfl⟩
 ·obtain⟨e,_⟩:=he;rw[hsd]at e;cases e;exact absurd rfl hrg
 ·refine⟨some o,.fin o.γ j pre A T,g',w,_,Conc.runT_crowd_go hi (by rw[hb];exact e w),?_,O,O,.alq,fun o' h=>⟨o',h,O,.inl O⟩,fun _ _ _ h=>h⟩;rw[af2];exact I.relabel (x':=.fin o.γ j pre A T) hx rfl rfl rfl rfl rfl rfl (by simp) (by rw[jT fK,if_pos rfl]) (I.others fK fun _ _ _ _ _ _ o h _=>h) ⟨rfl,⟨o,rfl,rfl⟩,OI,r,d,hsd,hrg,h8,h9⟩ fun c e=>by cases e
 obtain⟨o',g',y,x',mM,fP,uT,hR,hj,hws,xR,⟨ob,hob,awC⟩,hI⟩:=I.Yw hx
 cases mM
 have um:∀(b:Nat) (ob':Obj),w.heap[b]? =some ob'->ob'.isChan=true->(tq o.γ.toGrp a o.x w).heap[b]? =some ob':=fun b ob' h Og=>by
  rw[xR b fun e=>by rw[e,hob]at h;cases h;rw[awC]at Og;cases Og];exact h
 exact⟨some {o with x:=x'},y,g',_,_,Conc.runT_crowd_go hi (by rw[hb];exact fP),hI _ _ _ (by simp) (by rw[jT fK,if_pos rfl]) (I.others fK fun _ _ _ _ _ _ ob' h Og=>um _ _ h Og),rfl,hj,hR,fun o' h=>⟨_,rfl,by cases h;rfl,by cases h;exact hws.imp id fun h=>by simp[MF,h,uT]⟩,fun _ _ _ h=>um _ _ h rfl⟩

theorem o_.Cc[Base](I0:o_ P st n dG k₀ aH g ks gs w t)(hi:gs[i+1]? =some ga)(hr:ga.status= .running)
  (meet:∀(c:Nat) (z v:Value) (jd:Goroutine) (l:List Value),(∀w,stepG P true g w= .comm jd #[rcase c z] true (.recv true) w #[])->k₀ c=some (mO (v::l))->∀ks' gs w t sl,o_ P st n dG (dM k₀ c (mO l)) aH (jd.finishComm P #[rcase c z] (.recv true) 0 v true) ks' gs w t->Ends P Q (crowd gs w sl) t):
  Move P Q (Jj (Relation.TransGen Fh)) (o_ P st n dG k₀ aH g) ks gs w t sl (i+1):=by
 have I00:=I0;obtain⟨og,I,fP,kT,gm,h0,hm⟩:=I0;obtain⟨x,hx,hk⟩:=I.get hi;have fK:=(Array.getElem?_eq_some_iff.1 hi).1;have hb:((i+1)==0)=false:=by simp
 have hax:=kT _ (dL hx)
 have g0:∀{QW:Goroutine} {w':World},((gs.map (Conc.woken P ga QW w')).setIfInBounds (i+1) QW)[0]? =some (Conc.woken P ga QW w' gm):=by
  intro QW w';rw[jT fK,if_neg aj,h0];rfl
 have opn:∀{c' i':Nat} {g'':Goroutine} {k':Hp} {M':Nat->Prop},ks[i']? =some (KS.run c' g'' k' M':KS P)->∃s r,w.heap[c']? =some (Obj.chan 0 #[] false s r false):=fun h=>by
  obtain⟨_,_,h2⟩:=I.Cc _ _ h;exact h2.2.2.2.opened
 have go:∀{y:KS P} {En:Option OG} {iF:Goroutine} {w':World} {ops:Array MemOp},runT P (crowd gs w sl) (i+1)=(.next (crowd ((gs.map (Conc.woken P ga iF w')).setIfInBounds (i+1) iF) w' sl),ops)->MS P ((gs.map (Conc.woken P ga iF w')).setIfInBounds (i+1) iF) w' (t++ops) dG k₀ aH En (ks.set i y)->(ost En=st/\True)->y.Cb=x.Cb->Relation.TransGen Fh y x->
   (∀o,og=some o->∃o',En=some o'/\o'.p=o.p/\(o'.x.ws=o.x.ws\/MF P ga iF=true))->(∀(b s r:Nat),w.heap[b]? =some (.chan 0 #[] false s r false)->w'.heap[b]? =some (.chan 0 #[] false s r false))->(∀c g' k' M',x= .run c g' k' M'->∃g'' k'' M'',y= .run c g'' k'' M'')->Move P Q (Jj (Relation.TransGen Fh)) (o_ P st n dG k₀ aH g) ks gs w t sl (i+1):=by
  intro y En iF w' ops uT I' MN hj hR Aq um hrn;refine .less uT ⟨En,I',⟨MN.1,by rw[Ej hx hj];exact fP.2⟩,MQ kT (af5 hax hR),_,g0,hm.woken w' Aq fun c' i' g'' k' M' h=>.inr ⟨?_,?_⟩⟩ (Jj.at hR hx)
  ·obtain⟨s,r,ho⟩:=opn h;exact⟨s,r,um _ _ _ ho⟩
  by_cases hii:i=i'
  ·subst hii;rw[hx]at h;obtain⟨g3,k3,M3,rfl⟩:=hrn _ _ _ _ (Option.some.inj h);exact⟨i,g3,k3,M3,aiA hx⟩
  exact⟨i',g'',k',M',by rw[List.getElem?_set,if_neg hii];exact h⟩
 cases x with
 | uj c k M=>obtain⟨_,_,_,_,rfl,_⟩:=hk;cases hr
 | quit c n d=>
  obtain⟨n',iF,es,hn,hmt,MN,hq'⟩:=S9 hk.1 hr;have I':=I.quits (fn:=ga.frame.fn) (pos:=ga.frame.place) hx hmt hq' (gs':=(gs.map (Conc.woken P ga iF w)).setIfInBounds (i+1) iF) (by simp) (by rw[jT fK,if_pos O]) (I.others fK fun _ _ _ _ _ _ o h _=>h);have hR:Fh (P:=P) (.quit c n' (deafBehind d es)) (.quit c n d):=.quits aj;exact go (Conc.runT_crowd_go hi (by rw[hb];exact MN w)) I' ⟨fP.1,trivial⟩ rfl (.single hR) (fun o h=>⟨o,h,rfl,.inl rfl⟩) (fun _ _ _ h=>h) (fun _ _ _ _ e=>by cases e)
 | run c g' k M=>
  obtain⟨rfl,_,um,L⟩:=hk;obtain⟨s,r,ho⟩:=L.opened;obtain⟨afZ,hl1,hl2⟩:=L.ghost;have K:=I.Y.xQ (i+1) k M ((iY hx).trans O)
  cases um with
  | step hs ok h=>
   obtain⟨iF,w',es,e,gu⟩:=ok w K.rO K.qC;have asP:=h w iF w' es K.rO K.qC e;have uT:iF.status= .running:=by cases asP <;>assumption
   have hR:Fh (P:=P) (.run c iF (snap k w w') (grown M w w')) (.run c g' k M):=.step K.rO K.qC ho e gu;have I':=I.asw (fn:=g'.frame.fn) (pos:=g'.frame.place) hx L gu uT asP (gs':=(gs.map (Conc.woken P g' iF w')).setIfInBounds (i+1) iF) (by simp) (by rw[jT fK,if_pos O]) (I.others fK fun _ _ _ _ _ _ o h hc=>gu.lJ _ _ h hc);exact go (Conc.runT_crowd_go hi (by rw[hb];exact e)) I' ⟨fP.1,trivial⟩ rfl (.single hR) (fun o h=>⟨o,h,rfl,.inl rfl⟩) (fun _ _ _ h=>gu.lJ _ _ h rfl) fun _ _ _ _ e=>by cases e;exact⟨_,_,_,rfl⟩
  | @close _ iF _ _ n hs hk hw xK e hq=>
   have yu:∀b,b≠c->(w.shut c s r false).heap[b]? =w.heap[b]? :=fun b hb=>by simp[World.shut,Ne.symm hb]
   have awF:(w.shut c s r false).heap[c]? =some (.chan 0 #[] true s r false):=by simp[World.shut,nT ho]
   have hR:Fh (P:=P) (.quit (some c) n 0) (.run c g' k M):=.quit;have I':=I.close (fn:=g'.frame.fn) (pos:=g'.frame.place) hx L hk hq ho (gs':=(gs.map (Conc.woken P g' iF (w.shut c s r false))).setIfInBounds (i+1) iF) (by simp) (by rw[jT fK,if_pos O]) (I.others fK fun j x' c' hj hjx PS o h _=>by rw[yu c' fun e=>hj (I.one j i c x' _ hjx hx (e▸PS) O)];exact h);refine .less (Conc.runT_crowd_go hi (by rw[hb];exact e w s r ho)) ⟨og,I',⟨fP.1,(Ej (f:=KS.Cb) hx (by rfl)).trans fP.2⟩,MQ kT (hax.inv hR),_,g0,hm.woken _ (fun o h=>⟨o,h,O,.inl O⟩) fun c' i' g'' k' M' h=>?_⟩ (Jj.at (.single hR) hx);by_cases hii:i=i'
   ·subst hii;rw[hx]at h
    cases h
    exact .inl ⟨by simp[MF,hw,xK],s,r,awF⟩
   obtain⟨s',r',mM⟩:=opn h;exact .inr ⟨⟨s',r',by rw[yu c' fun e=>hii (I.one i i' c _ _ hx h O (e▸rfl))];exact mM⟩,i',g'',k',M',by rw[List.getElem?_set,if_neg hii];exact h⟩
  | @send _ iF _ _ v z l hs hk e h=>
   have kids:∀(m:Nat) (y:Goroutine),m≠0->(gs.setIfInBounds (i+1) Conc.ph)[m]? =some y->Conc.offersAt y c false=[]:=by
    intro m y hm hy;rcases Conc.getElem?_stand gs (i+1) m y hy with⟨_,rfl⟩ | ⟨_,hy⟩
    ·exact Conc.offersAt_ph _ _
    obtain⟨j,rfl⟩:∃j,m=j+1:=⟨m-1,aj⟩
    obtain⟨_,_,h2⟩:=I.get hy;exact(h2.offers c).1
   have h0':(gs.setIfInBounds (i+1) Conc.ph)[0]? =some gm:=by rw[kM aj];exact h0
   have hgo:∀(aeL:Array Goroutine) (x:Goroutine),aeL.size=gs.size->(∀m,m≠i+1->0<m->aeL[m]? =gs[m]?)->∀m,m≠i+1->0<m->(aeL.setIfInBounds (i+1) x)[m]? =gs[m]? :=fun aeL x _ h m hm h'=>by
    rw[kM (fun e=>hm e.symm)];exact h m hm h'
   have waits:Conc.offersAt gm c false=[]->(∀c' z' jd,gm=parked jd #[rcase c' z'] (.recv true)->c'≠c)->Move P Q (Jj (Relation.TransGen Fh)) (o_ P st n dG k₀ aH g) ks gs w t sl (i+1):=by
    intro xJ iK
    have hp:partners (gs.setIfInBounds (i+1) Conc.ph) c false=[]:=Conc.partners_nil fun m y hy=>by
     by_cases hm0:m=0
     ·subst hm0;rw[h0']at hy;cases hy;exact xJ
     exact kids m y hm0 hy
    have hn:t++MemOp.ofEvents (i+1) g'.frame.fn g'.frame.place #[]=t:=by rw[ofEvents_eq];simp
    have I':=I.uj hx L hk h (gs':=gs.setIfInBounds (i+1) (parked iF #[scase c v z] .send)) (by simp) (by rw[Array.getElem?_setIfInBounds_self_of_lt fK]) (hgo gs _ O fun _ _ _=>rfl);have hR:Fh (P:=P) (.uj c k M) (.run c g' k M):=.uj;refine .less (Conc.crowd_waits hi (by rw[hb];exact e w) (fun cc hcc=>?_)) ⟨og,by rw[hn];exact I',⟨fP.1,(Ej (f:=KS.Cb) hx (by rfl)).trans fP.2⟩,MQ kT (hax.inv hR),gm,by rw[kM aj];exact h0,?_⟩ (Jj.at (.single hR) hx)
    ·obtain rfl:cc=scase c v z:=by simpa using hcc
     exact Conc.ways_send_none ho (by simp) hp
    rcases hm with hm | ⟨c',z',jd,i',g'',k',M',e1,e2,e3,e4⟩ | hm
    ·exact .inl hm
    rotate_left
    ·exact .inr (.inr hm)
    refine .inr (.inl ⟨c',z',jd,i',g'',k',M',e1,e2,e3,?_⟩)
    have:i≠i':=by
     rintro rfl;rw[hx]at e4
     cases e4
     exact iK _ _ _ e1 O
    rw[List.getElem?_set,if_neg this];exact e4
   rcases hm with⟨_,hm,_⟩ | ⟨c',z',jd,i',g'',k',M',rfl,e2,e3,e4⟩ | ⟨o,_,_,_,_,mM,rfl⟩
   ·refine waits (Conc.offersAt_of_not_blocked (by rw[hm];simp) _ _) fun c' z' jd e=>?_;rw[e]at hm;cases hm
   ·by_cases hcc:c'=c
    ·subst hcc
     have hp:partners (gs.setIfInBounds (i+1) Conc.ph) c' false=[(0,0)]:=by
      rw[Conc.partners_one h0' fun m y hm hy=>kids m y hm hy,Conc.offersAt_parked_recv,if_pos O];rfl
     refine .on (Conc.crowd_send_meets hi (by rw[hb];exact e w) ho aj h0 hp) ?_;have uT:(iF.finishComm P #[scase c' v z] .send 0 undef false).status= .running:=rfl
     have I':=I.meet (w':=w.setChan c' 0 #[] false (s+1) (r+1) false) (s:=s+1) (r:=r+1) hx O O O O L hk uT h (by simp[World.setChan]) (fun b hb=>by simp[World.setChan,Ne.symm hb]) (by simp[World.setChan,nT ho])
      (
       u:=MemOp.ofEvents (i+1) g'.frame.fn g'.frame.place #[]++ #[{g:=i+1,fn:=iF.frame.fn,pos:=iF.frame.place,act:=.send c' s},{g:=0,fn:=jd.frame.fn,pos:=jd.frame.place,act:=.recv c' r 0},
       {g:=i+1,fn:=iF.frame.fn,pos:=iF.frame.place,act:=.sendDone c' s},{g:=0,fn:=jd.frame.fn,pos:=jd.frame.place,act:=.recvDone c' r}])
      (
       fun op aY=>by
       have:op={g:=i+1,fn:=iF.frame.fn,pos:=iF.frame.place,act:=.send c' s}\/op={g:=0,fn:=jd.frame.fn,pos:=jd.frame.place,act:=.recv c' r 0}\/op={g:=i+1,fn:=iF.frame.fn,pos:=iF.frame.place,act:=.sendDone c' s}\/op={g:=0,fn:=jd.frame.fn,pos:=jd.frame.place,act:=.recvDone c' r}:=by
        rw[ofEvents_eq]at aY;simpa using aY
       rcases this with rfl | rfl | rfl | rfl <;>exact⟨rfl,by simp,by simp⟩) rfl rfl rfl
      (gs':=(gs.setIfInBounds 0 (jd.finishComm P #[rcase c' z'] (.recv true) 0 v true)).setIfInBounds (i+1) (iF.finishComm P #[scase c' v z] .send 0 undef false))
      (by simp) (by rw[Array.getElem?_setIfInBounds_self_of_lt (by simpa using fK)]) (hgo _ _ (by simp) fun m _ Vf=>by rw[kM aj])
     rw[hk]at hl1;have hl:=yG hl1;subst hl;refine meet c' z' v jd l e3 hl2 _ _ _ _ _ ⟨og,I',⟨fP.1,(Ej (f:=KS.Cb) hx (by rfl)).trans fP.2⟩,MQ kT h.ao2,_,?_,.inl ⟨⟨O,O,O⟩,O,.inl O⟩⟩;rw[kM aj,Array.getElem?_setIfInBounds_self_of_lt aj]
    refine waits (by rw[Conc.offersAt_parked_recv,if_neg hcc]) fun c'' z'' ay6 e=>?_
    have:c'=c'':=by
     simp only[parked,rcase,Goroutine.mk.injEq,dY,Prod.mk.injEq]at e;exact(by simpa using e.2.2.2.2.1:c'=c''/\z'=z'').1
    rw[<-this];exact hcc
   refine waits ?_ fun c' z' jd e=>?_
   ·simp[Conc.offersAt,mM]
   have:=congrArg Goroutine.offers e;rw[mM]at this;cases this
 | work γ j T=>
  obtain⟨rfl,⟨o,ho,rfl⟩,OI⟩:=hk;have K:=I.Y.xQ (i+1) _ _ ((iY hx).trans O)
  cases T with
  | step hs ok h=>
   obtain⟨iF,w',es,e,gu⟩:=ok w K.rO K.qC;exact go (y:=.work o.γ j (h w iF w' es K.rO K.qC e)) (Conc.runT_crowd_go hi (by rw[hb];exact e)) (I.asD (T':=h w iF w' es K.rO K.qC e) hx gu (by simp) (by rw[jT fK,if_pos rfl]) (I.others fK fun _ _ _ _ _ _ o h hc=>gu.lJ _ _ h hc)) ⟨fP.1,trivial⟩ rfl (.single .asq) (fun o h=>⟨o,h,rfl,.inl rfl⟩) (fun _ _ _ h=>gu.lJ _ _ h rfl) fun _ _ _ _ e=>by cases e
  | y9 hs ok h=>
   obtain⟨iF,w',es,e,gu,hp⟩:=ok w K.rO K.qC;exact go (y:=.work o.γ j (h w iF w' es K.rO K.qC e)) (Conc.runT_crowd_go hi (by rw[hb];exact e)) (I.asE (T':=h w iF w' es K.rO K.qC e) hx gu hp (by simp) (by rw[jT fK,if_pos rfl]) (I.others fK fun _ _ _ _ _ _ o h hc=>gu.lJ _ _ h hc)) ⟨fP.1,trivial⟩ rfl (.single .ao0) (fun o h=>⟨o,h,rfl,.inl rfl⟩) (fun _ _ _ h=>gu.lJ _ _ h rfl) fun _ _ _ _ e=>by cases e
  | done A hA hn hR T=>
   have I1:=I.relabel (x':=.fin o.γ j (some (_,_)) A T) hx rfl rfl rfl rfl rfl rfl rfl hi (fun _ _ _=>rfl) ⟨rfl,⟨o,ho,rfl⟩,OI,.live,0,rfl,by simp,fun _=>⟨_,_,rfl,hA,hn,hR⟩,fun h=>absurd rfl h⟩ fun c e=>by cases e
   obtain⟨En,y,iF,w',ops,h1,h2,h3,h4,h5,h6,h7⟩:=I1.anQ (sl:=sl) (aiA hx) hi hr;rw[set_set]at h2;exact go h1 h2 ⟨h3.trans fP.1,trivial⟩ h4 (.tail (.single h5) .asr) h6 h7 fun _ _ _ _ e=>by cases e
 | fin γ j pre A T=>
  obtain⟨En,y,iF,w',ops,h1,h2,h3,h4,h5,h6,h7⟩:=I.anQ (sl:=sl) hx hi hr;exact go h1 h2 ⟨h3.trans fP.1,trivial⟩ h4 (.single h5) h6 h7 fun _ _ _ _ e=>by cases e
 | gone j A n d=>
  obtain⟨n',iF,es,hn,hmt,MN,hq'⟩:=S9 hk.1 hr;exact go (Conc.runT_crowd_go hi (by rw[hb];exact MN w)) (I.aeI (fn:=ga.frame.fn) (pos:=ga.frame.place) hx hmt hq' (gs':=(gs.map (Conc.woken P ga iF w)).setIfInBounds (i+1) iF) (by simp) (by rw[jT fK,if_pos rfl]) (I.others fK fun _ _ _ _ _ _ o h _=>h)) ⟨fP.1,trivial⟩ rfl (.single (.aeI aj)) (fun o h=>⟨o,h,rfl,.inl rfl⟩) (fun _ _ _ h=>h) fun _ _ _ _ e=>by cases e

theorem o_.ends[Base](hs:g.status= .running)
  (mv:∀og ks gs gm w t sl,MS P gs w t dG k₀ aH og ks->(ost og=st/\ks.filterMap KS.Cb=n)->(∀p∈ks,Acc (Fh (P:=P)) p)->gs[0]? =some gm->ac5 g gm->gm.status= .running->(gm=g\/∃c z jd,∀w,stepG P true g w= .comm jd #[rcase c z] true (.recv true) w #[])->Move P Q (Jj (Relation.TransGen Fh)) (o_ P st n dG k₀ aH g) ks gs w t sl 0)
  (meet:∀xW,yP k₀ xW->LH k₀ aH->(∃(og:Option OG) (ks:List (KS P)) (gs:Array Goroutine) (t:Trace),MS P gs xW t dG k₀ aH og ks/\ost og=st)->∀(c:Nat) (z v:Value) (jd:Goroutine) (l:List Value),(∀w,stepG P true g w= .comm jd #[rcase c z] true (.recv true) w #[])->k₀ c=some (mO (v::l))->∀ks' gs w t sl,o_ P st n dG (dM k₀ c (mO l)) aH (jd.finishComm P #[rcase c z] (.recv true) 0 v true) ks' gs w t->Ends P Q (crowd gs w sl) t):
  ∀ks gs w t sl,o_ P st n dG k₀ aH g ks gs w t->Ends P Q (crowd gs w sl) t:=by
 intro ks gs w t sl I;refine node (R:=Jj (Relation.TransGen Fh)) (Inv:=o_ P st n dG k₀ aH g) (fun c gs w t d I=>?_) (fun ks gs w t I=>⟨fun g' Oy=>?_,?_⟩) (fun c hc gs w t sl i g' I hi hr=>?_) ks (aal fun p hp=>apt (I.elim fun _ h=>h.2.2.1 p hp)) gs w t sl I
 ·obtain⟨og,I,h⟩:=I;exact⟨og,I.at d,h⟩
 ·obtain⟨og,I,fP,kT,gm,h0,hm⟩:=I;obtain⟨i,fK,e⟩:=Array.mem_iff_getElem.1 Oy;have hi:gs[i]? =some g':=by rw[<-e];exact Array.getElem?_eq_getElem fK
  cases i with
  | zero=>
   rw[h0]at hi;cases hi;rcases hm with⟨_,h,_⟩ | ⟨_,_,_,_,_,_,_,rfl,_⟩ | ⟨_,_,_,_,_,_,rfl⟩
   ·exact awake_of (.inl h)
   ·exact awake_of (.inr (.inr O))
   exact awake_of (.inr (.inr O))
  | succ i=>
   obtain⟨x,_,h2⟩:=I.get hi;rcases h2.status with h | h | ⟨_,_,_,_,rfl,_⟩
   ·exact awake_of (.inl h)
   ·exact awake_of (.inr (.inl h))
   exact awake_of (.inr (.inr O))
 ·obtain⟨og,I,fP,kT,gm,h0,hm⟩:=I;rcases hm with⟨_,h,_⟩ | ⟨c,z,jd,i,g',k,M,_,_,_,hi⟩ | ⟨o,rfl,hp,hw,_⟩
  ·exact⟨0,gm,h0,h⟩
  ·obtain⟨gi,h1,h2⟩:=I.Cc i _ hi;exact⟨i+1,gi,h1,h2.2.1⟩
  have G:=(I.Td o O).wok;rw[hp]at G;have hg:=G.goes hw
  have key:∀r:WR,r≠ .gone->0<cK ks r->∃(i:Nat) (g:Goroutine),gs[i]? =some g/\g.status= .running:=fun r hr hp=>by
   obtain⟨i,x,hi,hx⟩:=afX hp;obtain⟨gi,h1,h2⟩:=I.Cc i x hi;refine⟨i+1,gi,h1,?_⟩
   cases x with
   | work γ j T=>obtain⟨rfl,_⟩:=h2;exact T.status
   | fin γ j pre A T=>obtain⟨rfl,_⟩:=h2;exact T.status
   | gone j A n d=>cases hx;exact absurd rfl hr
   | _=>cases hx
  by_cases h1:0<cK ks .live
  ·exact key _ (by simp) h1
  by_cases h2:0<cK ks .s1
  ·exact key _ (by simp) h2
  by_cases h3:0<cK ks .s2
  ·exact key _ (by simp) h3
  by_cases h4:0<cK ks .s3
  ·exact key _ (by simp) h4
  by_cases h5:0<cK ks .s4
  ·exact key _ (by simp) h5
  omega
 have K:=I.elim fun _ h=>h.1.Y.xQ 0 k₀ aH aW
 cases i with
 | zero=>
  obtain⟨og,I,fP,kT,gm,h0,hm⟩:=I;rw[h0]at hi;cases hi;rcases hm with⟨h1,h2,h3⟩ | ⟨_,_,_,_,_,_,_,rfl,_⟩ | ⟨_,_,_,_,_,_,rfl⟩
  ·exact mv og c gs g' w t sl I fP kT h0 h1 h2 h3
  ·cases hr
  cases hr
 | succ i=>exact I.Cc hi hr (meet w K.rO K.qC (I.elim fun og h=>⟨og,_,_,_,h.1,h.2.1.1⟩))
end
end Go.jc

namespace Go.jc
open Go.Conc (crowd parked rcase scase QuitsIn QuitsD Before Knows knows_own touchAt touchAt_of touchAt_old getElem?_append_old getElem?_append_cases lt_size_of_getElem? touch_of hb_po hb_app ofEvents_eq woken Deaf deaf_old g?_old act?_old heard_old lt_of_act? Deaf_own Deaf_other counts_old deaf_inside)
open Go.ConcN (RelBy)
variable{xc:Array Value}
section
variable{P:Program}{γ:GP}{Q:Machine->Outcome->World->Trace->Prop}{gs gs':Array Goroutine}{w w':World}{t u:Trace}{k k' k₀ fU:Hp}{M aH jo:Nat->Prop}{og En:Option OG}{st:Option (GP×Nat×MP×Array Value)}{ks ks':List (KS P)}{d d' dG i c:Nat}{n:List Nat}{g g' gm ga QW:Goroutine}{sl:Option (Nat×Nat)}{o:OG}
theorem MS.zero[Base](I:MS P gs w t dG k₀ aH og ks)(hs:gs'.size=gs.size)(hgo:∀m,0<m->gs'[m]? =gs[m]?):MS P gs' w t dG k₀ aH og ks:=
 ⟨by rw[hs,I.size],I.Y,I.new,fun i x hi=>let⟨g,h1,h2⟩:=I.Cc i x hi;⟨g,by rw[hgo (i+1) aj];exact h1,h2⟩,I.one,I.has,I.Td,I.Vw,I.Kv,I.base,I.low,I.Kw,I.vX⟩
theorem MS.YE[Base]{x:KS P}(I:MS P gs w t dG k₀ aH og ks)(hx:ks[i]? =some x)(hc:x.ch=some c):∀(m:Nat) (y:Goroutine),m≠i+1->(gs.setIfInBounds 0 Conc.ph)[m]? =some y->Conc.offersAt y c true=[]:=by
 intro m y hm hy;rcases Conc.getElem?_stand gs 0 m y hy with⟨_,rfl⟩ | ⟨h0,hy⟩
 ·exact Conc.offersAt_ph _ _
 obtain⟨j,rfl⟩:∃j,m=j+1:=⟨m-1,aj⟩
 obtain⟨x',Aq,h2⟩:=I.get hy;exact(h2.offers c).2 fun e=>hm (by rw[I.one j i c x' x Aq hx e hc])

theorem MS.waits[Base]{z:Value}{gi:Goroutine}{k:Hp}{M:Nat->Prop}(I:MS P gs w t dG k₀ aH og ks)(fP:ost og=st/\ks.filterMap KS.Cb=n)(kT:∀p∈ks,Acc (Fh (P:=P)) p)(h0:gs[0]? =some gm)(qx:ac5 g gm)(hr:gm.status= .running)(hx:ks[i]? =some (.run c gi k M))
  (e:∀w,stepG P true g w= .comm g' #[rcase c z] true (.recv true) w #[]) (Oy:ac5 g g'):Move P Q (Jj (Relation.TransGen Fh)) (o_ P st n dG k₀ aH g) ks gs w t sl 0:=by
 have fK:0<gs.size:=by have:=I.size;omega
 obtain⟨ga,hga,hk⟩:=I.Cc i _ hx;obtain⟨s,r,ho⟩:=hk.2.2.2.opened
 have hp:partners (gs.setIfInBounds 0 Conc.ph) c true=[]:=Conc.partners_nil fun m y hy=>by
  by_cases hm:m=i+1
  ·subst hm;rw[kM aj,hga]at hy
   cases hy
   exact Conc.offersAt_of_not_blocked (by rw[hk.2.1];simp) _ _
  exact I.YE hx O m y hm hy
 refine .wait (Conc.crowd_waits h0 (show stepG P (0==0) gm w=_ by rw[show((0:Nat)==0)=true from rfl,qx.step];exact e w) fun cc hcc=>?_) ⟨og,by rw[af2];exact I.zero (gs':=gs.setIfInBounds 0 (parked g' #[rcase c z] (.recv true))) (by simp) fun m hm=>by rw[kM aj],fP,kT,_,by rw[Array.getElem?_setIfInBounds_self_of_lt fK],.inr (.inl ⟨c,z,g',i,gi,k,M,O,Oy,e,hx⟩)⟩ (aam h0 hr O);obtain rfl:cc=rcase c z:=by simpa using hcc
 exact Conc.ways_recv_none ho hp


theorem lD.Q5{m:Bool}{π:qL}{E:π.S->Goroutine->Prop}{s:π.S}{g:Goroutine}(T:lD P m π E s g):g.status= .running:=by cases T <;>assumption
theorem qQ.status{Fin:Goroutine->Hp->(Nat->Prop)->Prop}(hF:∀g k M,Fin g k M->g.status= .running){q:Option GP}{g:Goroutine}{k:Hp}{M:Nat->Prop}(T:qQ P Fin q d g k M):g.status= .running:=by
 induction T with
 | fin h=>exact hF _ _ _ h
 | add hk hM E T hE h=>exact T.Q5
 | wait hk hM hX E T hE h=>exact T.Q5
 | exit hk h ih=>exact ih
 | opens _ _ _ _ _ _ _ _ _ _ ih=>exact ih
 | step hs | y9 hs | spawn hs | recv hs | done hs | Oz hs | work hs=>exact hs
theorem now(h:g.status= .running):Tv P og ks g g:=.inl ⟨⟨O,O,O⟩,h,.inl O⟩
theorem MS.say[Base]{a c a' c':Nat}{b b':List Nat}(I:MS P gs w t dG k₀ aH (some o) ks)(hk:k₀ o.γ.Wg=some (tu a b c)):MS P gs w t dG (dM k₀ o.γ.Wg (tu a' b' c')) aH (some o) ks:=by
 have K:=I.Y.xQ 0 k₀ aH aW
 have hT:Told k₀ (dM k₀ o.γ.Wg (tu a' b' c')):=fun b' ob ho=>by
  rcases aZ ho with⟨rfl,rfl⟩ | ⟨_,h2⟩
  ·exact .inr ⟨_,hk,O,O,by rw[G7,G7],fun c po e=>by simp[tu,bn]at e⟩
  exact .inl h2
 have iK:∀{i:Nat} {y:KS P} {c:Nat},ks[i]? =some y->y.ch=some c->c≠o.γ.Wg:=fun hi hc e=>by
  obtain⟨g,_,h2⟩:=I.Cc _ _ hi;obtain⟨ob,h3,h4⟩:=I.heap h2 hc;have nN:=(I.Td o O).at_;unfold Ku at nN;rw[e,nN]at h3;cases h3;cases h4
 refine⟨I.size,(I.Y.told aW hT (fun b hb=>by rw[(Md hk O O).2];exact K.qC b hb) fun _ h=>h).Eh fun g=>zh g,fun b hb hn=>?_,fun i y hi=>?_,I.one,fun c l hc hl=>?_,I.Td,I.Vw,I.Kv,I.base,fun gn k M b hp hb=>?_,I.Kw,fun gn k M b c po hp hb=>?_⟩
 ·rcases aZ hn with⟨_,h⟩ | ⟨_,h⟩
  ·exfalso;simp[tu,sZ]at h
  exact I.new b hb h
 ·obtain⟨g,h1,h2⟩:=I.Cc i y hi;have h3:=h2.keep (w':=w) (u:= #[]) (fU:=dM k₀ o.γ.Wg (tu a' b' c')) (jo:=aH) QY (fun _ _ _ h _=>h) (fun c hc=>bJ _ _ (iK hi hc)) (fun _ _ _ h=>h) (fun op h=>by simp at h) (fun _ _ op h=>by simp at h) (fun _ _ op h=>by simp at h) fun _ _ _=>⟨O,fun op h=>by simp at h⟩
  rw[Array.append_empty]at h3;exact⟨g,h1,h3⟩
 ·rcases aZ hl with⟨_,h⟩ | ⟨_,h⟩
  ·exfalso;simp[tu,mO]at h
  exact I.has c l hc h
 ·rcases fV hp with⟨rfl,rfl,rfl⟩ | ⟨j,y,rfl,hj,hy⟩
  ·exact I.low 0 k₀ _ b aW hb
  exact I.low _ k M b (by rw[iY hj];exact hy) hb
 rcases fV hp with⟨rfl,rfl,rfl⟩ | ⟨j,y,rfl,hj,hy⟩
 ·rcases aZ hb with⟨_,h⟩ | ⟨_,h⟩
  ·exfalso;simp[tu,bn]at h
  exact I.vX 0 k₀ _ b c po aW h
 exact I.vX _ k M b c po ((iY hj).trans hy) hb

theorem o_.idle[Base](hs:g.status= .running)(xK:g'.status= .running)(e:∀w,stepG P true g w= .go g' w #[])(h:∀ks gs w t sl,o_ P st n dG k₀ aH g' ks gs w t->Ends P Q (crowd gs w sl) t):∀ks gs w t sl,o_ P st n dG k₀ aH g ks gs w t->Ends P Q (crowd gs w sl) t:=by
 refine o_.ends hs (fun og ks gs gm w t sl I fP kT h0 qx hr _=>?_) fun xW a d _ c z v jd l e'=>?_
 ·have fK:0<gs.size:=by have:=I.size;omega
  refine .on (Conc.runT_crowd_go h0 (show stepG P (0==0) gm w=_ by rw[show((0:Nat)==0)=true from rfl,qx.step];exact e w)) (h ks _ _ _ _ ⟨og,?_,fP,kT,g',by rw[jT fK,if_pos O],now xK⟩);rw[af2];exact I.zero (by simp) (I.IX fK fun b o x _=>x)
 have:=e xW;rw[e']at this;cases this

theorem apu.ends[Base]{l:Nat}{E:(gJ γ.toGrp).S->Goroutine->Prop}{s:(gJ γ.toGrp).S}{g:Goroutine}(T:lD P true (gJ γ.toGrp) E s g)(hx:∀g',E (.wg .out 0) g'->∀ks gs w t sl,o_ P (some (γ,l,.out,xc)) n 0 k₀ aH g' ks gs w t->Ends P Q (crowd gs w sl) t):
  s= .wg .out 0->∀ks gs w t sl,o_ P (some (γ,l,.out,xc)) n 0 k₀ aH g ks gs w t->Ends P Q (crowd gs w sl) t:=by
 induction T with
 | exit hs he=>intro e;subst e;exact hx _ he
 | idle hs e T ih=>exact fun es=>o_.idle hs T.Q5 e (ih es)
 | act a hs hc ho wait ok wk fr h ih=>
  intro e;subst e;exfalso;have hc:oP a (.wg .out 0):=hc
  cases a <;>simp[oP]at hc
structure apv(γ:GP)(k₀:Hp)(aH:Nat->Prop)(j:List Nat)(As:List ah):Prop where
 len:As.length=j.length
 R:∀(i τ:Nat) (A:ah),As[i]? =some A->j[i]? =some τ->γ.R τ A
 nodup:(As.flatten.map (·.1)).Nodup
 new:∀b ob,(b,ob)∈As.flatten->k₀ b=none/\¬aH b/\ob.isChan=false
theorem wY{q:GP×Nat×MP×Array Value}(h:ost og=some q):∃o,og=some o/\o.γ=q.1/\o.left=q.2.1/\o.p=q.2.2.1/\o.xc=q.2.2.2:=by
 cases og with
 | none=>cases h
 | some o=>cases h;exact⟨o,rfl,rfl,rfl,rfl,rfl⟩
theorem Lib.ends[Base]{l m:Nat}{gw:Obj}(hk:k₀ γ.Wg=some gw)(hkX:k₀ γ.X=some (bn xc m)){E:(gJ γ.toGrp).S->Goroutine->Prop}{s:(gJ γ.toGrp).S}{g:Goroutine}(T:lD P true (gJ γ.toGrp) E s g):
  (∀p' d' g',E (.wg p' d') g'->p'≠ .out->∀ks gs w t sl,o_ P (some (γ,l,p',xc)) n d' k₀ aH g' ks gs w t->Ends P Q (crowd gs w sl) t)->
  (∀g',E (.wg .out 0) g'->∀As,apv γ k₀ aH n As->∀ks gs w t sl,o_ P (some (γ,l,.out,xc)) [] 0 (dM (dM (qN k₀ As.flatten) γ.Wg wW) γ.X (.cells xc γ.tX γ.fX)) (fun b=>aH b\/∃o,(b,o)∈As.flatten) g' ks gs w t->Ends P Q (crowd gs w sl) t)->
  ∀p d,s= .wg p d->p≠ .out->∀ks gs w t sl,o_ P (some (γ,l,p,xc)) n d k₀ aH g ks gs w t->Ends P Q (crowd gs w sl) t:=by
 induction T with
 | exit hs he=>intro hx _ p d e hp;subst e;exact hx p d _ he hp
 | idle hs e T ih=>exact fun hx hy p d es hp=>o_.idle hs T.Q5 e (ih hx hy p d es hp)
 | act a hs hc ho wait ok wk fr h ih=>
  rename_i s g;intro hx hy p d es hp;subst es;have hc:oP a (.wg p d):=hc;refine o_.ends hs (fun og ks gs gm w t sl I fP kT h0 qx hr hgm=>?_) fun xW az9 dG hM c z v jd l' e'=>?_
  ·obtain⟨o,rfl,rfl,rfl,rfl,rfl⟩:=wY fP.1;have G:=I.Td o O;have nN:Ku o.γ.toGrp w o.x:=G.at_;have BA:SI a (.wg o.p d) o.x:=G.anP;have fK:0<gs.size:=by have:=I.size;omega
   have hgm:gm=g:=by
    rcases hgm with h | ⟨c,z,jd,h⟩
    ·exact h
    exfalso;by_cases FQ:yZ a o.x
    ·have:=wait w o.x nN BA FQ;rw[h]at this;cases this
    obtain⟨g',MN,_⟩:=ok w o.x nN BA FQ;rw[h]at MN;cases MN
   subst hgm;by_cases FQ:yZ a o.x
   ·have aax:=wait w o.x nN BA FQ
    have ha:o.p= .reg/\o.x.ws=0:=by
     cases a <;>first | exact FQ.elim | skip
     exact⟨hc.2,FQ⟩
    have uT:=Conc.runT_crowd_go (P:=P) (w:=w) (sl:=sl) h0 aax;rw[Vt]at uT;refine .wait uT ⟨some o,?_,fP,kT,{gm with status:=.blocked},by rw[Array.getElem?_setIfInBounds_self_of_lt fK],.inr (.inr ⟨o,rfl,ha.1,ha.2,hs,ho,rfl⟩)⟩ (aam h0 hs rfl);rw[af2];exact I.zero (by simp) fun m hm=>by rw[kM aj]
   obtain⟨g',aax,anS⟩:=ok w o.x nN BA FQ;obtain⟨s',hn⟩:=Yn (x:=o.x) hc;by_cases ha:a= .Qo
   ·subst ha;obtain⟨rfl,hps⟩:=hc;have xK:s'= .wg .out 0:=hn;subst xK;obtain⟨z,Gq,hz2,hz3⟩:=aeH (g:=0) (fn:=gm.frame.fn) (pos:=gm.frame.place) (m:=.acquire (jY o.γ.Wg));obtain⟨As,ks',e1,e2,e3,e4,e5,e6,e7⟩:=I.shut hps hk hkX hz2 hz3 kT;refine .on (Conc.runT_crowd_go h0 aax) ?_;show Ends P Q (crowd ((gs.map (Conc.woken P gm g' w)).setIfInBounds 0 g') w sl) (t++MemOp.ofEvents 0 gm.frame.fn gm.frame.place #[yw (.acquire (jY o.γ.Wg))]);rw[Gq];exact apu.ends (h w o.x g' _ _ _ nN BA FQ aax hn) (fun g'' hE=>hy g'' hE As ⟨e1.trans (congrArg List.length fP.2),fun i τ A h1 h2=>e2 i τ A h1 (by rw[fP.2];exact h2),e3,e4⟩) O ks' _ _ _ _ ⟨_,e7 _ (by simp) (I.IX fK fun b o x _=>x),⟨O,e6⟩,e5,g',by rw[jT fK,if_pos O],now anS⟩
   obtain⟨p',d',x',rfl,aiw,um,hI⟩:=I.awu hc ha hp FQ hn;refine .on (Conc.runT_crowd_go h0 aax) (ih w o.x g' _ _ _ nN BA FQ aax hn hx hy p' d' rfl ?_ ks _ _ _ _ ⟨_,hI _ gm.frame.fn gm.frame.place (by simp) (I.IX fK um),⟨O,fP.2⟩,kT,g',by rw[jT fK,if_pos O],now anS⟩);exact aiw
  obtain⟨og,ks,gs,t,I,fP⟩:=hM;obtain⟨o,rfl,rfl,rfl,rfl,rfl⟩:=wY fP;have G:=I.Td o O;have BA:SI a (.wg o.p d) o.x:=G.anP;by_cases FQ:yZ a o.x
  ·have:=wait xW o.x G.at_ BA FQ;rw[e']at this;cases this
  obtain⟨g',MN,_⟩:=ok xW o.x G.at_ BA FQ;rw[e']at MN;cases MN

end
end Go.jc

namespace Go.jc
open Go.Conc (crowd parked rcase scase QuitsIn QuitsD Before Knows knows_own touchAt touchAt_of touchAt_old getElem?_append_old getElem?_append_cases lt_size_of_getElem? touch_of hb_po hb_app ofEvents_eq woken Deaf deaf_old g?_old act?_old heard_old lt_of_act? Deaf_own Deaf_other counts_old deaf_inside)
open Go.ConcN (RelBy)
variable{Fin:Goroutine->Hp->(Nat->Prop)->Prop}
section
variable{P:Program}{γ:GP}{Q:Machine->Outcome->World->Trace->Prop}{gs gs':Array Goroutine}{w w':World}{t u:Trace}{k k' k₀ fU:Hp}{M aH jo:Nat->Prop}{og En:Option OG}{st:Option (GP×Nat×MP×Array Value)}{ks ks':List (KS P)}{d d' dG i c:Nat}{n:List Nat}{g g' gm ga QW:Goroutine}{sl:Option (Nat×Nat)}{o:OG}
def GA(q:Option GP)(k:Hp)(st:Option (GP×Nat×MP×Array Value))(n:List Nat):Prop:=
 match q with
 | none=>st=none/\n=[]
 | some γ=>(∃t l c m,k γ.Wg=some (tu t n l)/\k γ.X=some (bn c m)/\st=some (γ,l,.add t,c))\/(k γ.Wg=some wW/\n=[]/\∃l c,st=some (γ,l,.out,c))
theorem GA.open{t l:Nat}{j:List Nat}(h:GA (some γ) k st n)(hk:k γ.Wg=some (tu t j l)):∃c m,j=n/\k γ.X=some (bn c m)/\st=some (γ,l,.add t,c):=by
 rcases h with⟨t',l',c,m,h1,h2,h3⟩ | ⟨h1,_⟩
 ·rw[hk]at h1;obtain⟨rfl,rfl,rfl⟩:=aln (Option.some.inj h1);exact⟨c,m,O,h2,h3⟩
 rw[hk]at h1;exact absurd (Option.some.inj h1) ac2
theorem GA.snap{q:Option GP}(h:GA q k st n)(w w':World):GA q (snap k w w') st n:=by
 cases q with
 | none=>exact h
 | some γ=>
  rcases h with⟨t,l,c,m,h1,h2,h3⟩ | ⟨h1,h2,h3⟩
  ·exact .inl ⟨t,l,c,m,sK h1 O,sK h2 O,h3⟩
  exact .inr ⟨sK h1 O,h2,h3⟩

theorem qQ.asQ[Base](hF:∀g k M,Fin g k M->g.status= .running)(awG:∀g k M,Fin g k M->∀ks gs w t sl,o_ P none [] 0 k M g ks gs w t->Ends P Q (crowd gs w sl) t){q:Option GP}{g:Goroutine}{k:Hp}{M:Nat->Prop}(T:qQ P Fin q d g k M):
  ∀st n,GA q k st n->∀ks gs w t sl,o_ P st n d k M g ks gs w t->Ends P Q (crowd gs w sl) t:=by
 have hb:((0:Nat)==0)=true:=rfl
 induction T with
 | fin h=>exact fun st n hA=>by obtain⟨rfl,rfl⟩:=hA;exact awG _ _ _ h
 | @step q d g k M hs ok h ih=>
  intro st n hA;refine o_.ends hs (fun og ks gs gm w t sl I fP kT h0 qx hr _=>?_) fun xW a d _ c z v jd l e=>?_
  ·have K:=I.Y.xQ 0 k M aW;obtain⟨g',w',es,e,gu⟩:=ok w K.rO K.qC;have fK:0<gs.size:=by have:=I.size;omega
   exact .on (Conc.runT_crowd_go h0 (by rw[hb,qx.step];exact e)) (ih w g' w' es K.rO K.qC e st n (hA.snap w w') ks _ _ _ _ ⟨og,I.anL gu (by simp) (I.IX fK fun b o x y=>gu.lJ b o x y),fP,kT,g',by rw[jT fK,if_pos O],now ((h w g' w' es K.rO K.qC e).status hF)⟩)
  obtain⟨g',w',es,e',_⟩:=ok xW a d;rw[e]at e';cases e'
 | @y9 q d d' g k M hs ok h ih=>
  intro st n hA;refine o_.ends hs (fun og ks gs gm w t sl I fP kT h0 qx hr _=>?_) fun xW a d _ c z v jd l e=>?_
  ·have K:=I.Y.xQ 0 k M aW;obtain⟨g',w',es,e,gu,hp⟩:=ok w K.rO K.qC;have fK:0<gs.size:=by have:=I.size;omega
   have I':=(I.YA (fn:=gm.frame.fn) (pos:=gm.frame.place) hp).anL (fn:=gm.frame.fn) (pos:=gm.frame.place) gu (gs':=(gs.map (Conc.woken P gm g' w')).setIfInBounds 0 g') (by simp) (I.IX fK fun b o x y=>gu.lJ b o x y);rw[af2]at I';exact .on (Conc.runT_crowd_go h0 (by rw[hb,qx.step];exact e)) (ih w g' w' es K.rO K.qC e st n (hA.snap w w') ks _ _ _ _ ⟨og,I',fP,kT,g',by rw[jT fK,if_pos O],now ((h w g' w' es K.rO K.qC e).status hF)⟩)
  obtain⟨g',w',es,e',_⟩:=ok xW a d;rw[e]at e';cases e'
 | @spawn g g' child k kc M M' c l hs xK hsc e hk hM Jf qB hc SV aae FP h ih=>
  intro st n hA;obtain⟨rfl,rfl⟩:=hA;refine o_.ends hs (fun og ks gs gm w t sl I fP kT h0 qx hr _=>?_) fun xW a d _ c z v jd l e'=>?_
  ·have fK:0<gs.size:=by have:=I.size;omega
   obtain rfl:og=none:=by cases og with | none=>rfl | some o=>cases fP.1
   have uT:=Conc.runT_crowd_spawn (sl:=sl) h0 (show stepG P (0==0) gm w= .spawn g' child w #[] by rw[hb,qx.step];exact e w);refine .on uT ?_
   have en:((MemOp.ofEvents 0 gm.frame.fn gm.frame.place #[]).push {g:=0,fn:=gm.frame.fn,pos:=gm.frame.place,act:=.go gs.size}).push {g:=gs.size,fn:=child.frame.fn,pos:=gm.frame.place,act:=.start}= #[OB gs.size gm.frame.fn gm.frame.place,go2 gs.size child.frame.fn gm.frame.place]:=by
    rw[ofEvents_eq];simp[OB,go2]
   rw[en,I.size];refine ih none [] ⟨O,O⟩ (ks++[.run c child kc (· =c)]) _ _ _ _ ⟨none,I.spawn hk hM Jf qB hsc hc SV aae FP (by simp) (by rw[Array.getElem?_push,if_pos (by simp)]) fun m hm h0'=>?_,⟨O,by rw[List.filterMap_append,fP.2];rfl⟩,fun p hp=>?_,g',by rw[Array.getElem?_push,if_neg (by simp;omega),Array.getElem?_setIfInBounds_self_of_lt fK],now xK⟩
   ·rw[Array.getElem?_push,if_neg (by simp;omega),kM aj]
   rcases dh.1 hp with hp | hp
   ·exact kT p hp
   obtain rfl:p=_:=by simpa using hp
   exact hc.ao2
  intro _;have:=e xW;rw[e']at this;cases this
 | @recv g g' k M c v z l hs hk hM Oy e h ih=>
  intro st n hA;obtain⟨rfl,rfl⟩:=hA;refine o_.ends hs (fun og ks gs gm w t sl I fP kT h0 qx hr _=>?_) fun xW a d _ c' z' v' jd l' e' fA ks' gs w t sl I=>?_
  ·obtain⟨i,x,hx,PS⟩:=I.has c _ hM hk;obtain⟨gi,Ce,af6⟩:=I.Cc i x hx;have fK:0<gs.size:=by have:=I.size;omega
   cases x with
   | run _ _ _ _=>cases PS;exact I.waits fP kT h0 qx hr hx e Oy
   | quit c' n d=>
    rcases af6.2 with⟨h1,_⟩ | ⟨c'',e1,h1,_⟩
    ·rw[h1 c PS]at hk;exact absurd (Option.some.inj hk).symm G6
    cases PS.symm.trans e1
    rw[hk]at h1;cases yG h1
   | work γ j T=>cases PS
   | fin γ j pre A T=>cases PS
   | gone j A n d=>cases PS
   | uj c' kc Mc=>
    cases PS
    obtain⟨iF,v',l',z',rfl,h1,h2,L⟩:=af6;obtain⟨afZ,e1,e2⟩:=L.ghost;rw[h1]at e1;rw[hk]at e2;have e3:=yG e1;have e4:=yG e2;rw[<-e3]at e4;obtain⟨rfl,rfl⟩:=List.cons.inj e4;obtain⟨s,r,ho⟩:=L.opened
    have hp:partners (gs.setIfInBounds 0 Conc.ph) c true=[(i+1,0)]:=by
     rw[Conc.partners_one (j:=i+1) (g:=parked iF #[scase c v z'] .send) (by rw[kM aj];exact Ce) fun m y hm hy=>I.YE hx O m y hm hy,Conc.offersAt_parked_send,if_pos O];rfl
    refine .on (Conc.crowd_recv_meets h0 (show stepG P (0==0) gm w=_ by rw[hb,qx.step];exact e w) ho aj Ce hp) ?_;have Gp:=gy hx;have Vy:i+1<gs.size:=by have:=I.size;omega
    refine ih none [] ⟨O,O⟩ _ _ _ _ _ ⟨og,I.meet (w':=w.setChan c 0 #[] false (s+1) (r+1) false) (s:=s+1) (r:=r+1) hx O O O O L h1 (g':=iF.finishComm P #[scase c v z'] .send 0 undef false) O h2 (by simp[World.setChan]) (fun b hb=>by simp[World.setChan,Ne.symm hb]) (by simp[World.setChan,nT ho])
     (
      u:=MemOp.ofEvents 0 gm.frame.fn gm.frame.place #[]++ #[{g:=i+1,fn:=iF.frame.fn,pos:=iF.frame.place,act:=.send c s},{g:=0,fn:=g'.frame.fn,pos:=g'.frame.place,act:=.recv c r 0},
      {g:=i+1,fn:=iF.frame.fn,pos:=iF.frame.place,act:=.sendDone c s},{g:=0,fn:=g'.frame.fn,pos:=g'.frame.place,act:=.recvDone c r}])
     (
      fun op aY=>by
      have:op={g:=i+1,fn:=iF.frame.fn,pos:=iF.frame.place,act:=.send c s}\/op={g:=0,fn:=g'.frame.fn,pos:=g'.frame.place,act:=.recv c r 0}\/op={g:=i+1,fn:=iF.frame.fn,pos:=iF.frame.place,act:=.sendDone c s}\/op={g:=0,fn:=g'.frame.fn,pos:=g'.frame.place,act:=.recvDone c r}:=by
       rw[ofEvents_eq]at aY;simpa using aY
      rcases this with rfl | rfl | rfl | rfl <;>exact⟨rfl,by simp,by simp⟩) rfl rfl rfl
     (gs':=(gs.setIfInBounds (i+1) (iF.finishComm P #[scase c v z'] .send 0 undef false)).setIfInBounds 0 (g'.finishComm P #[rcase c z] (.recv true) 0 v true))
     (by simp) (by rw[kM aj,Array.getElem?_setIfInBounds_self_of_lt Vy]) (fun m hm hm0=>by rw[kM aj,kM aj]),⟨fP.1,(Ej (f:=KS.Cb) hx (by rfl)).trans fP.2⟩,MQ kT h2.ao2,_,by rw[Array.getElem?_setIfInBounds_self_of_lt (by simpa using fK)],now O⟩
  have e2:=e xW;rw[e']at e2;simp only[GStep.comm.injEq]at e2;obtain⟨rfl,e3,_⟩:=e2;obtain⟨rfl,rfl⟩:c'=c/\z'=z:=by simpa[rcase]using e3
  rw[hk]at fA;have:=yG fA;obtain⟨rfl,rfl⟩:=List.cons.inj this;exact ih none [] ⟨O,O⟩ ks' gs w t sl I
 | @done g g' k M c z hs hk hM Oy e h ih=>
  intro st n hA;obtain⟨rfl,rfl⟩:=hA;refine o_.ends hs (fun og ks gs gm w t sl I fP kT h0 qx hr _=>?_) fun xW a d _ c' z' v' jd l' e' fA ks' gs w t sl I=>?_
  ·obtain⟨i,x,hx,PS⟩:=I.has c _ hM hk;obtain⟨gi,Ce,af6⟩:=I.Cc i x hx;have fK:0<gs.size:=by have:=I.size;omega
   cases x with
   | run _ _ _ _=>cases PS;exact I.waits fP kT h0 qx hr hx e Oy
   | work γ j T=>cases PS
   | fin γ j pre A T=>cases PS
   | gone j A n d=>cases PS
   | uj c' kc Mc=>
    cases PS
    obtain⟨iF,v',l',z',rfl,h1,h2,L⟩:=af6;obtain⟨afZ,e1,e2⟩:=L.ghost;rw[h1]at e1;rw[hk]at e2;rw[<-yG e1]at e2
    cases yG e2
   | quit c' n d=>
    cases PS
    rcases af6.2 with⟨h1,_⟩ | ⟨c'',e1,h1,_,⟨s,r,ho⟩,_⟩
    ·rw[h1 c O]at hk;exact absurd (Option.some.inj hk).symm G6
    cases e1
    have hp:partners (gs.setIfInBounds 0 Conc.ph) c true=[]:=Conc.partners_nil fun m y hy=>by
     by_cases hm:m=i+1
     ·subst hm;rw[kM aj,Ce]at hy
      cases hy
      exact Conc.offersAt_of_not_blocked (by rcases af6.1.status with h | h <;>(rw[h];simp)) _ _
     exact I.YE hx O m y hm hy
    refine .on (Conc.crowd_recv_closed h0 (show stepG P (0==0) gm w=_ by rw[hb,qx.step];exact e w) ho hp) ?_;rw[show MemOp.ofEvents 0 gm.frame.fn gm.frame.place #[]= #[] by rw[ofEvents_eq];simp,Array.empty_append];exact ih none [] ⟨O,O⟩ ks _ _ _ _ ⟨og,I.done hx hk O O (by simp) fun m hm=>by rw[kM aj],fP,kT,_,by rw[Array.getElem?_setIfInBounds_self_of_lt fK],now O⟩
  have e2:=e xW;rw[e']at e2;simp only[GStep.comm.injEq]at e2;obtain⟨rfl,e3,_⟩:=e2;obtain⟨rfl,rfl⟩:c'=c/\z'=z:=by simpa[rcase]using e3
  rw[hk]at fA
  cases yG fA
 | @opens g k M γ N c hN hk hM iK hX hMX h ih=>
  intro st n hA ks gs w t sl I;obtain⟨rfl,rfl⟩:=hA;obtain⟨og,I,fP,kT,gm,h0,hm⟩:=I;obtain rfl:og=none:=by cases og with | none=>rfl | some o=>cases fP.1
  refine ih _ _ (.inl ⟨0,N,c,c.size,by rw[bJ _ _ (Ne.symm iK)];exact bP _ _ _,bP _ _ _,O⟩) ks gs w t sl ⟨_,I.opens hN hk hM iK hX hMX,⟨O,fP.2⟩,kT,gm,h0,?_⟩;rcases hm with h | h | ⟨o,h,_⟩
  ·exact .inl h
  ·exact .inr (.inl h)
  cases h
 | @Oz γ g g' k M c m v tt jj ll hs xK hkW hk hM e h ih=>
  intro st n hA;obtain⟨Tz,afZ,c',m',h1,h2,h3⟩:=hA.resolve_right fun h'=>absurd (Option.some.inj (hkW.symm.trans h'.1)) ac2;rw[hk]at h2;simp only[dY,bn,Obj.chan.injEq]at h2;obtain⟨_,rfl,_⟩:=h2;subst h3;refine o_.ends hs (fun og ks gs gm w t sl I fP kT h0 qx hr hgm=>?_) fun xW a d hMS az_ z aAa jd l e'=>?_
  ·have fK:0<gs.size:=by have:=I.size;omega
   obtain⟨o,rfl,rfl,h4,h5,rfl⟩:=wY fP.1;have G:=I.Td o O;have LK:o.p≠ .out:=by rw[h5];simp
   have hXw:=G.xat LK;refine .on (Conc.runT_crowd_go h0 (show stepG P (0==0) gm w=_ by rw[hb,qx.step];exact e w hXw)) (ih _ _ (.inl ⟨Tz,afZ,_,m,by rw[bJ _ _ G.Vu.symm];exact h1,bP _ _ _,O⟩) ks _ _ _ _ ⟨_,I.Oz (fn:=gm.frame.fn) (pos:=gm.frame.place) (v:=v) LK hk (by simp) (I.IX fK fun b ob wz hc=>?_),⟨by simp only[ost,Option.map_some,h4,h5],fP.2⟩,kT,g',by rw[jT fK,if_pos O],now xK⟩);exact(wX (fun e'=>by rw[e',hXw]at wz;cases wz;cases hc)).trans wz
  obtain⟨og,ks,gs,t,I,fP⟩:=hMS;obtain⟨o,rfl,rfl,h4,h5,rfl⟩:=wY fP;have:=e xW ((I.Td o O).xat (by rw[h5];simp));rw[e']at this;cases this
 | @add γ g k M left j hk hM E T hE h ih=>
  intro st n hA;obtain⟨xc,m,h1,h2,h3⟩:=hA.open hk;subst h1 h3;refine Lib.ends hk h2 T (fun p' d' g' TA hp ks gs w t sl I=>?_) (fun g' TA=>?_) _ _ O (by simp)
  ·have h3:=hE _ _ TA
   cases h3
   obtain⟨og,I,fP,kT,gm,h0,hm⟩:=I;obtain⟨o,rfl,rfl,h4,h5,h6⟩:=wY fP.1;exact ih _ _ TA _ _ (.inl ⟨1,left,xc,m,bP _ _ _,by rw[bJ _ _ (I.Td o O).Vu];exact h2,O⟩) ks gs w t sl ⟨_,I.say hk,fP,kT,gm,h0,hm⟩
  have:=hE _ _ TA;cases this
 | @work γ g g' child k kc M M' left j τ A hs xK hsc e hk hM qB hA' hc SV ac3 FP h ih=>
  intro st n hA;obtain⟨xc,m,h1,h2,h3⟩:=hA.open hk;subst h1 h3;obtain⟨T⟩:=hc;refine o_.ends hs (fun og ks gs gm w t sl I fP kT h0 qx hr _=>?_) fun xW a d _ c z v jd l e'=>?_
  ·have fK:0<gs.size:=by have:=I.size;omega
   obtain⟨o,rfl,rfl,h4,h5,h6⟩:=wY fP.1;have uT:=Conc.runT_crowd_spawn (sl:=sl) h0 (show stepG P (0==0) gm w= .spawn g' child w #[] by rw[hb,qx.step];exact e w);refine .on uT ?_
   have en:((MemOp.ofEvents 0 gm.frame.fn gm.frame.place #[]).push {g:=0,fn:=gm.frame.fn,pos:=gm.frame.place,act:=.go gs.size}).push {g:=gs.size,fn:=child.frame.fn,pos:=gm.frame.place,act:=.start}= #[OB gs.size gm.frame.fn gm.frame.place,go2 gs.size child.frame.fn gm.frame.place]:=by
    rw[ofEvents_eq];simp[OB,go2]
   rw[en,I.size]
   have hXA:∀ob,(o.γ.X,ob)∉A:=fun ob hb=>by
    have h7:=(hA' _ _ hb).2;rw[h2]at h7;cases h7.1;cases h7.2.2
   refine ih _ _ (.inl ⟨0,left,xc,m,bP _ _ _,?_,O⟩) (ks++[.work o.γ τ T]) _ _ _ _ ⟨_,I.work h5 h4 hk qB hA' T SV ac3 FP (by simp) (by rw[Array.getElem?_push,if_pos (by simp)]) fun m hm h0'=>?_,⟨by simp only[ost,Option.map_some,h6],by rw[aas (j:=τ) O,fP.2]⟩,fun p hp=>?_,g',by rw[Array.getElem?_push,if_neg (by simp;omega),Array.getElem?_setIfInBounds_self_of_lt fK],now xK⟩
   ·rw[bJ _ _ (I.Td o O).Vu,Ee]
    ·exact h2
    cases e':A.lookup o.γ.X with
    | none=>rfl
    | some ob=>exact absurd (jO e') (hXA ob)
   ·rw[Array.getElem?_push,if_neg (by simp;omega),kM aj]
   rcases dh.1 hp with hp | hp
   ·exact kT p hp
   obtain rfl:p=_:=by simpa using hp
   exact aij T
  intro _;have:=e xW;rw[e']at this;cases this
 | @wait γ g k M left m j c hk hM hX E T hE h ih=>
  intro st n hA;obtain⟨xc,m',h1,h2,h3⟩:=hA.open hk;rw[hX]at h2;simp only[dY,bn,Obj.chan.injEq]at h2;obtain⟨_,rfl,_⟩:=h2;subst h1 h3;refine Lib.ends hk hX T (fun p' d' g' TA hp=>?_) (fun g' TA As W ks gs w t sl I=>?_) _ _ O (by simp)
  ·have:=hE _ _ TA
   cases this
   exact absurd O hp
  have iK:γ.Wg≠γ.X:=by
   obtain⟨og,I',fP,_⟩:=I;obtain⟨o,rfl,rfl,_⟩:=wY fP.1;exact(I'.Td o O).Vu.symm
  exact ih _ _ As TA W.len W.R W.nodup W.new _ _ (.inr ⟨by rw[bJ _ _ iK];exact bP _ _ _,O,left,c,O⟩) ks gs w t sl I
 | @exit γ g k M hk h ih=>
  intro st n hA ks gs w t sl I
  obtain⟨rfl,l,c,rfl⟩:n=[]/\∃l c,st=some (γ,l,.out,c):=by
   rcases hA with⟨t,l,_,_,h1,_⟩ | ⟨_,h1,h2⟩
   ·rw[hk]at h1;exact absurd (Option.some.inj h1).symm ac2
   exact⟨h1,h2⟩
  obtain⟨og,I,fP,kT,gm,h0,hm⟩:=I;obtain⟨o,rfl,rfl,h4,h5,h6⟩:=wY fP.1;refine ih none [] ⟨O,O⟩ ks gs w t sl ⟨_,I.exit h5 fP.2,⟨O,fP.2⟩,kT,gm,h0,?_⟩;rcases hm with h | h | ⟨o',h,h6,_⟩
  ·exact .inl h
  ·exact .inr (.inl h)
  cases h;rw[h5]at h6;cases h6

theorem MS.over[Base]{fO:Value->World->Prop}{es:Array Event}{fn:FuncId}{pos:String}{v:Value}(I:MS P gs w t 0 k₀ aH none ks)(xJ:∀c o,aH c->k₀ c=some o->opn o=false)(gu:iR k₀ aH w w' es)(hp:fO v w')(d:Nat):
  Conc.Good P (PK fO) (crowd gs (w.at d) sl) (.done v) w' (t++MemOp.ofEvents 0 fn pos es):=by
 have Y:=I.Y.step (fn:=fn) (pos:=pos) aW aj gu;have oH:=I.size
 have left:∀(i:Nat) (g:Goroutine),gs[i+1]? =some g->∃c m d,ks[i]? =some (.quit c m d)/\QuitsD P m d g/\∀n,t.counts n->t.g? n=some (i+1)->Knows t 0 n:=fun i g hg=>by
  obtain⟨x,hx,h2⟩:=I.get hg;have Ti:=I.Vw O x (dL hx);have bad:∀{c l},k₀ c=some (mO l)->aH c->False:=fun h1 h2=>by have:=xJ _ _ h2 h1;cases this
  cases x with
  | run c g' k M=>obtain⟨l,_,h3⟩:=h2.2.2.2.ghost;exact(bad h3 h2.2.2.2.m0).elim
  | uj c k M=>obtain⟨_,_,_,_,_,_,_,L⟩:=h2;obtain⟨l,_,h3⟩:=L.ghost;exact(bad h3 L.m0).elim
  | quit c m d=>
   rcases h2.2 with⟨_,h3⟩ | ⟨c',_,h3,h4,_⟩
   ·exact⟨c,m,d,hx,h2.1,h3⟩
   exact(bad h3 h4).elim
  | _=>cases Ti
 refine⟨v,O,⟨hp,I.base.Ji gu fun b hb=>I.low 0 k₀ aH b aW hb⟩,Y.tk.clean,fun i g hg iK apw=>?_,⟨fun g hg=>?_,O⟩,fun i g hg iK=>?_⟩
 ·obtain⟨op,aY,asy⟩:=jR.1 hg;rcases getElem?_append_cases aY with⟨hi,h1⟩ | ⟨_,h1⟩
  ·have fK:op.g<ks.length+1:=I.Y.tk.who op (Conc.mem_of_getElem? h1);obtain⟨j,rfl⟩:∃j,g=j+1:=⟨g-1,aj⟩
   have hj:j+1<gs.size:=by omega
   obtain⟨_,_,_,_,_,hkn⟩:=left j gs[j+1] (Array.getElem?_eq_getElem hj);have hgt:t.g? i=some (j+1):=by rw[g?_old hi]at hg;exact hg
   obtain⟨r,z,h2,h3,h4⟩:=hkn i ((counts_old hi).1 apw) hgt;rcases h4 with rfl | h4
   ·simp[Trace.g?,h2]at hgt;rw[h3]at hgt;omega
   exact⟨r,by rw[g?_old (lt_size_of_getElem? h2)];simp[Trace.g?,h2,h3],hb_app _ h4⟩
  obtain⟨e,_,rfl⟩:=mem_ofEvents h1;exact absurd asy.symm iK
 ·obtain⟨m,hm⟩:=List.getElem?_of_mem hg;rw[List.getElem?_drop]at hm;have:gs[m+1]? =some g:=by rw[Nat.add_comm];simpa[crowd]using hm
  obtain⟨_,n,_,_,h1,_⟩:=left m g this;exact⟨n,h1.leaves⟩
 obtain⟨j,rfl⟩:∃j,i=j+1:=⟨i-1,aj⟩
 obtain⟨c,n,d,h0,h1,_⟩:=left j g hg;refine⟨n,?_⟩;have:=Y.tk.deaf (j+1);rw[Bv h0]at this;rw[show(t++MemOp.ofEvents 0 fn pos es).deaf (j+1) (t++MemOp.ofEvents 0 fn pos es).size=d from this];exact h1.hears _

theorem Mn.ends[Base]{fO:Value->World->Prop}(YF:∀g k M,Fin g k M->AX P fO g k M){g:Goroutine}{k:Hp}{M:Nat->Prop}(H:Mn P Fin g k M):
  ∀ks gs w t sl,o_ P none [] 0 k M g ks gs w t->Ends P (Conc.Good P (PK fO)) (crowd gs w sl) t:=by
 refine qQ.asQ (fun g k M h=>(YF g k M h).1) (fun g k M h=>?_) H none [] ⟨O,O⟩;obtain⟨hs,ho,he⟩:=YF g k M h;refine o_.ends hs (fun og ks gs gm w t sl I fP kT h0 qx hr _=>?_) fun xW a d _ c z v jd l e=>?_
 ·have K:=I.Y.xQ 0 k M aW;obtain rfl:og=none:=by cases og with | none=>rfl | some o=>cases fP.1
  obtain⟨v,w',es,e,gu,hp⟩:=he w K.rO K.qC;exact .over (runT_crowd_ended h0 (by rw[show((0:Nat)==0)=true from rfl,qx.step];exact e)) fun sl' d=>I.over ho gu hp d
 obtain⟨v',w',es,e',_⟩:=he xW a d;rw[e]at e';cases e'
end
end Go.jc

namespace Go.jc
open Go.Conc (rcase scase QuitsIn)
variable{P:Program}
variable{F:ah}{Fin:Goroutine->Hp->(Nat->Prop)->Prop}{M M':Nat->Prop}{b c j:Nat}{es:Array Event}{g:Goroutine}{h k:Hp}{o o':Obj}{w':World}{γ:GP}
theorem qA.qC(h:qA k M' M)(d:LH k M):LH k M':=fun b hb=>d b (h.1 b hb)
theorem qA.trans{X4 oV ak_:Nat->Prop}(h:qA k X4 oV)(h':qA k oV ak_):qA k X4 ak_:=by
 refine⟨fun b hb=>h'.1 b (h.1 b hb),fun b o h3 h1 hk=>?_⟩;rcases Classical.em (oV b)with h2 | h2
 ·exact h.2 b o h2 h1 hk
 exact h'.2 b o h3 h2 hk
theorem qA.Ji{w:World}(h:qA k M' M)(g:iR k M' w w' es):iR k M w w' es:=by
 refine⟨g.size,fun b hb hm=>g.keep b hb fun h'=>hm (h.1 b h'),g.lJ,g.news,g.stay,g.JF,g.os,g.output,g.tape,fun e he=>?_⟩;have:=g.jv e he;unfold Jd at this⊢;split at this
 ·exact⟨this.1,this.2.imp (fun x=>⟨x.1,x.2.1,fun y=>h.1 _ (x.2.2 y)⟩) id⟩
 ·exact⟨this.1,this.2.imp (fun x=>⟨x.1,x.2.1,fun y=>h.1 _ (x.2.2 y)⟩) id⟩
 ·exact this
 exact this.elim
theorem qA.grown{w:World}(h:qA k M' M)(ha:yP k w)(hd:LH k M)(g:iR k M' w w' es):qA (snap k w w') (jc.grown M' w w') (jc.grown M w w'):=by
 refine⟨fun b hb=>hb.imp (h.1 b) id,fun b o hb hn hk=>?_⟩;rcases hb with hb | hb
 ·have GN:¬M' b:=fun x=>hn (.inl x)
  cases hc:lI (k b)with
  | true=>
   have:snap k w w' b=k b:=by simp[snap,hc]
   exact h.2 b o hb GN (by rw[<-this];exact hk)
  | false=>
   obtain⟨x,hx⟩:=iJ.1 (hd b hb);have PS:x.isChan=false:=by rw[hx]at hc;exact hc
   have hw:=ha.get hx PS;have e:w'.heap[b]? =some x:=by rw[g.keep b (nT hw) GN];exact hw
   have:snap k w w' b=some x:=by simp[snap,hc,hx,e]
   rw[this]at hk
   cases hk
   exact Gu PS
 exact absurd (.inr hb) hn

theorem J4.aaH{main:Bool}{Stop:Goroutine->Hp->(Nat->Prop)->Prop}(hS:Gy Stop):Gy (J4 P main Stop):=by
 intro g k M M' hl H
 induction H generalizing M with
 | stop h=>exact .stop (hS _ _ _ _ hl h)
 | step hs ok h ih=>
  refine .step hs (fun w ha hd=>?_) fun w g' w' es ha hd e=>?_
  ·obtain⟨g',w',es,e,gu⟩:=ok w ha (hl.qC hd);exact⟨g',w',es,e,hl.Ji gu⟩
  obtain⟨iF,mJ,PL,G9,gu⟩:=ok w ha (hl.qC hd);rw[e]at G9;cases G9;exact ih w _ _ _ ha (hl.qC hd) e _ (hl.grown ha hd gu)

theorem qA.dM(h:qA k M' M)(hk:k c=some o)(ho:opn o=true):qA (jc.dM k c o') M' M:=by
 refine⟨h.1,fun b x hb hn hx=>?_⟩;by_cases YB:b=c
 ·subst YB;rw[h.2 b o hb hn hk]at ho;cases ho
 rw[bJ _ _ YB]at hx;exact h.2 b x hb hn hx

theorem qA.zV(h:qA k M' M):qA (jc.zV k c) (fun b=>M' b/\b≠c) (fun b=>M b/\b≠c):=
 ⟨fun b hb=>⟨h.1 b hb.1,hb.2⟩,fun b o hb hn hk=>h.2 b o hb.1 (fun h'=>hn ⟨h',hb.2⟩) (y8 hk).2⟩
theorem qA.aeN(h:qA k M' M)(hc:M' c\/opn o'=false):qA (jc.dM k c o') M' M:=by
 refine⟨h.1,fun b x hb hn hx=>?_⟩;rcases aZ hx with⟨rfl,rfl⟩ | ⟨_,h2⟩
 ·exact hc.resolve_left hn
 exact h.2 b x hb hn h2
theorem qA.or(N:Nat->Prop)(h:qA k M' M):qA k (fun b=>M' b\/N b) (fun b=>M b\/N b):=
 ⟨fun b hb=>hb.imp (h.1 b) id,fun b o hb hn hk=>hb.elim (fun hb=>h.2 b o hb (fun h'=>hn (.inl h')) hk) fun hb=>absurd (.inr hb) hn⟩

theorem Ch.aaH:Gy (Ch P c):=by
 intro g k M M' hl H
 induction H generalizing M with
 | step hs ok h ih=>
  refine .step hs (fun w ha hd=>?_) fun w g' w' es ha hd e=>?_
  ·obtain⟨g',w',es,e,gu⟩:=ok w ha (hl.qC hd);exact⟨g',w',es,e,hl.Ji gu⟩
  obtain⟨iF,mJ,PL,G9,gu⟩:=ok w ha (hl.qC hd);rw[e]at G9;cases G9;exact ih w _ _ _ ha (hl.qC hd) e _ (hl.grown ha hd gu)
 | send hs hk e h ih=>exact .send hs hk e (ih _ (hl.dM hk rfl))
 | close hs hk hw xK e h=>exact .close hs hk hw xK e h
theorem qA.prv{d d':Nat}(h:qA k M' M)(p:Ox k M' d es d'):Ox k M d es d':=by
 refine⟨fun e he=>?_,p.2⟩;rcases p.1 e he with h1 | h1 | h1 | h1 | ⟨a,h1,h2,h3⟩
 ·exact .inl h1
 ·exact .inr (.inl h1)
 ·exact .inr (.inr (.inl h1))
 ·exact .inr (.inr (.inr (.inl h1)))
 exact .inr (.inr (.inr (.inr ⟨a,h1,h.1 _ h2,h3⟩)))
theorem Vg.aaH{d:Nat}(hl:qA k M' M)(T:Vg P γ j d g k M'):Nonempty (Vg P γ j d g k M):=by
 induction T generalizing M with
 | step hs ok h ih=>
  refine⟨.step hs (fun w ha hd=>?_) fun w g' w' es ha hd e=>Classical.choice ?_⟩
  ·obtain⟨g',w',es,e,gu⟩:=ok w ha (hl.qC hd);exact⟨g',w',es,e,hl.Ji gu⟩
  obtain⟨iF,mJ,PL,G9,gu⟩:=ok w ha (hl.qC hd);rw[e]at G9;cases G9;exact ih w _ _ _ ha (hl.qC hd) e (hl.grown ha hd gu)
 | @y9 d d' g k X4 hs ok h ih=>
  refine⟨.y9 (d':=d') hs (fun w ha hd=>?_) fun w g' w' es ha hd e=>Classical.choice ?_⟩
  ·obtain⟨g',w',es,e,gu,p⟩:=ok w ha (hl.qC hd);exact⟨g',w',es,e,hl.Ji gu,hl.prv p⟩
  obtain⟨iF,mJ,PL,G9,gu,_⟩:=ok w ha (hl.qC hd);rw[e]at G9;cases G9;exact ih w _ _ _ ha (hl.qC hd) e (hl.grown ha hd gu)
 | done A hA hn hR T=>exact⟨.done A (fun b o hb=>⟨(hA b o hb).1,hl.1 _ (hA b o hb).2.1,(hA b o hb).2.2⟩) hn hR T⟩
theorem Wk.aaH:Gy (Wk P γ j):=fun _ _ _ _ hl ⟨T⟩=>T.aaH hl
theorem qQ.aaH(hF:Gy Fin){q:Option GP}{d:Nat}:Gy (qQ P Fin q d):=by
 intro g k M M' hl H
 induction H generalizing M with
 | fin h=>exact .fin (hF _ _ _ _ hl h)
 | step hs ok h ih=>
  refine .step hs (fun w ha hd=>?_) fun w g' w' es ha hd e=>?_
  ·obtain⟨g',w',es,e,gu⟩:=ok w ha (hl.qC hd);exact⟨g',w',es,e,hl.Ji gu⟩
  obtain⟨iF,mJ,PL,G9,gu⟩:=ok w ha (hl.qC hd);rw[e]at G9;cases G9;exact ih w _ _ _ ha (hl.qC hd) e _ (hl.grown ha hd gu)
 | @y9 q d d' g k X4 hs ok h ih=>
  refine .y9 (d':=d') hs (fun w ha hd=>?_) fun w g' w' es ha hd e=>?_
  ·obtain⟨g',w',es,e,gu,p⟩:=ok w ha (hl.qC hd);exact⟨g',w',es,e,hl.Ji gu,hl.prv p⟩
  obtain⟨iF,mJ,PL,G9,gu,_⟩:=ok w ha (hl.qC hd);rw[e]at G9;cases G9;exact ih w _ _ _ ha (hl.qC hd) e _ (hl.grown ha hd gu)
 | spawn hs xK hsc e hk hM Jf qB hc SV aae FP h ih=>exact .spawn hs xK hsc e hk (hl.1 _ hM) Jf qB hc (SV.trans hl) aae FP h
 | recv hs hk hM Oy e h ih=>exact .recv hs hk (hl.1 _ hM) Oy e (ih _ (hl.dM hk rfl))
 | done hs hk hM Oy e h ih=>exact .done hs hk (hl.1 _ hM) Oy e (ih _ (hl.dM hk rfl))
 | opens γ N c hN hk hM iK hX hMX h ih=>exact .opens γ N c hN hk (hl.1 _ hM) iK hX (hl.1 _ hMX) (ih _ ((hl.aeN (.inl hM)).aeN (.inl hMX)))
 | Oz hs xK hkW hk hM e h ih=>exact .Oz hs xK hkW hk (hl.1 _ hM) e (ih _ (hl.aeN (.inl hM)))
 | add hk hM E T TA h ih=>exact .add hk (hl.1 _ hM) E T TA fun s g' he=>ih s g' he _ (hl.aeN (.inl hM))
 | work hs xK hsc e hk hM qB hA hc SV ac3 FP h ih=>exact .work hs xK hsc e hk (hl.1 _ hM) qB (fun b o hb=>⟨(hA b o hb).1,(hA b o hb).2.1,hl.1 _ (hA b o hb).2.2.1,(hA b o hb).2.2.2⟩) hc (SV.trans hl) ac3 FP h
 | wait hk hM hX E T TA h ih=>
  rename_i γ g k X4 j left n c;refine .wait hk (hl.1 _ hM) hX E T TA fun s g' As he hlen hR uX Vx=>ih s g' As he hlen hR uX (fun b o hb=>⟨(Vx b o hb).1,fun h'=>(Vx b o hb).2.1 (hl.1 _ h'),(Vx b o hb).2.2⟩) _ ?_;refine⟨fun b hb=>hb.imp (hl.1 b) id,fun b o hb hn fA=>?_⟩;rcases hb with hb | hb
  ·have GN:¬X4 b:=fun h'=>hn (.inl h');rcases aZ fA with⟨_,rfl⟩ | ⟨_,fA⟩
   ·rfl
   rcases aZ fA with⟨rfl,rfl⟩ | ⟨_,h2⟩
   ·exact absurd hM GN
   simp only[qN]at h2
   cases e:As.flatten.lookup b with
   | none=>rw[e]at h2;exact hl.2 b o hb GN h2
   | some o'=>exact absurd (.inr ⟨o',jO e⟩) hn
  exact absurd (.inr hb) hn
 | exit hk h ih=>exact .exit hk (ih _ hl.zV)
theorem Mn.aaH(hF:Gy Fin):Gy (Mn P Fin):=qQ.aaH hF

theorem qQ.ng{q:Option GP}{d:Nat}(H:J4 P true (qQ P Fin q d) g k M):qQ P Fin q d g k M:=by
 induction H with
 | stop h=>exact h
 | step hs ok h ih=>exact .step hs ok ih
theorem Mn.ng(H:J4 P true (Mn P Fin) g k M):Mn P Fin g k M:=qQ.ng H
theorem Ch.ng(H:J4 P false (Ch P c) g k M):Ch P c g k M:=by
 induction H with
 | stop h=>exact h
 | step hs ok h ih=>exact .step hs ok ih
theorem Wk.ng(H:J4 P false (Wk P γ j) g k M):Wk P γ j g k M:=by
 induction H with
 | stop h=>exact h
 | step hs ok h ih=>exact⟨.step hs ok fun w g' w' es ha hd e=>Classical.choice (ih w g' w' es ha hd e)⟩

def G_(P:Program)(Fin:Goroutine->Hp->(Nat->Prop)->Prop):aN:=⟨true,fun S=>S=Mn P Fin⟩
def af7(P:Program)(c:Nat):aN:=⟨false,fun S=>S=Ch P c⟩
def alE(P:Program)(γ:GP):aN:=⟨true,fun S=>∃Fin,S=qQ P Fin (some γ) 0⟩
def wkS(P:Program)(γ:GP)(j:Nat):aN:=⟨false,fun S=>S=Wk P γ j⟩

def freeze(h:Hp)(b:Nat)(o:Obj):Hp:=⟨fun b'=>if b'=b then some o else h b',fun b'=>b'=b\/h.z b'⟩
theorem IY(h:Hp)(b:Nat)(o:Obj):freeze h b o b=some o:=by simp[freeze]

theorem Sat.freeze(S:Sat h ((b,o)::F) k M)(ho:opn o=false):Sat (freeze h b o) F k (fun c=>M c/\c≠b)/\Ext h (jc.freeze h b o)/\qA k (fun c=>M c/\c≠b) M:=by
 have hb:=S.own b o (bT ..);have uX:=S.nodup;simp only[dQ,List.nodup_cons]at uX
 have Eo:∀c x,(c,x)∈F->c≠b:=by
  rintro c x hx rfl;exact uX.1 (List.mem_map.2 ⟨_,hx,O⟩)
 refine⟨⟨fun c x hc=>?_,fun c x hc=>?_,uX.2,fun c x hm hx hox=>?_,fun c hc=>?_⟩,⟨fun c x hc=>?_,fun c hc=>.inr hc⟩,⟨fun c hc=>hc.1,fun c x hm hn hx=>?_⟩⟩
 ·by_cases e:c=b
  ·subst e;rw[IY]at hc;cases hc;exact hb.1
  simp only[jc.freeze,if_neg e]at hc;exact S.sub c x hc
 ·have e:=Eo c x hc;have:=S.own c x (dH _ hc);exact⟨this.1,⟨this.2.1,e⟩,by simp[jc.freeze,e,this.2.2]⟩
 ·rcases S.all c x hm.1 hx hox with h1 | h1
  ·rcases bU.1 h1 with e | h1
   ·cases e;exact absurd rfl hm.2
   exact .inl h1
  exact .inr (by simp[jc.freeze,hm.2,h1])
 ·rcases hc with rfl | hc
  ·exact⟨fun h=>h.2 O,by rw[hb.1];rfl⟩
  exact⟨fun h=>(S.Je c hc).1 h.1,(S.Je c hc).2⟩
 ·have e:c≠b:=by rintro rfl;rw[hb.2.2]at hc;cases hc
  simp[jc.freeze,e,hc]
 have e:c=b:=by
  rcases Classical.em (c=b)with e | e
  ·exact e
  exact absurd ⟨hm,e⟩ hn
 subst e;rw[hb.1]at hx;cases hx;exact ho

theorem Sat.thaw(S:Sat (jc.freeze h b o) F k M)(hb:h b=none)(ho:opn o=false):Sat h F k M:=by
 have ext:∀c x,h c=some x->jc.freeze h b o c=some x:=fun c x hc=>by
  have e:c≠b:=by rintro rfl;rw[hb]at hc;cases hc
  simp[jc.freeze,e,hc]
 refine⟨fun c x hc=>S.sub c x (ext c x hc),fun c x hc=>?_,S.nodup,fun c x hm hx hox=>?_,fun c hc=>S.Je c (.inr hc)⟩
 ·have:=S.own c x hc;refine⟨this.1,this.2.1,?_⟩
  cases hh:h c with
  | none=>rfl
  | some y=>rw[ext c y hh]at this;cases this.2.2
 rcases S.all c x hm hx hox with h1 | h1
 ·exact .inl h1
 by_cases e:c=b
 ·subst e;rw[IY]at h1;cases h1;rw[ho]at hox;cases hox
 simp only[jc.freeze,if_neg e]at h1;exact .inr h1

theorem W.freeze{x:Cx}{c:Code}{Q:fO}{ρ:Env}{ds:List Deferred}(ho:opn o=false)(H:∀h',Ext x.h h'->h' b=some o->h'.z b->W {x with h:=h'} c Q ρ ds F):W x c Q ρ ds ((b,o)::F):=by
 intro fr k cs Stop tmps hk M h1 h0 h2 h3 h4 h5 hc;obtain⟨S,e,hl⟩:=h5.freeze ho;have hb:=(h5.own b o (bT ..)).2.2;refine J4.aaH Stop.2.2 _ _ _ _ hl (H _ e (IY _ _ _) (.inl O) fr k cs Stop tmps hk _ h1 h0 h2 h3 h4 S fun ex gW iT F' bC fA M' q a1 a2 a3 a4=>hc ex gW iT F' bC fA M' q a1 a2 (a3.thaw hb ho) fun c' hm hF=>?_);have iK:c'≠b:=by rintro rfl;exact hF o (bT ..)
 exact a4 c' ⟨hm,iK⟩ fun o' mM=>hF o' (dH _ mM)
end Go.jc

namespace Go.jc
open Go.Conc (rcase scase QuitsIn)
variable{P:Program}{U:Obj->ah}{b' c ct el s':Nat}{dir:ChanDir}{es:Array Event}{fr:Frame}{s:Sem Next}{z:Value}{zc:Array Value}{β:Type}
section
variable{P:Program}
theorem Sat.ghost{h k:Hp}{F:ah}{M:Nat->Prop}{o o':Obj}(S:Sat h F k M)(hl:At c o F U)(mM:o.isChan=true/\o'.isChan=true):k c=some o/\M c/\Sat h (U o') (dM k c o') M/\Fr M F M (U o'):=by
 obtain⟨F1,F2,rfl,e2⟩:=hl.split;have hc:=S.own c o (by simp);have uX:=S.nodup;rw[e2]
 have iK:∀b x,(b,x)∈F1\/(b,x)∈F2->b≠c:=by
  rintro b x hx rfl;simp only[List.map_append,dQ,List.nodup_append,List.nodup_cons]at uX;rcases hx with hx | hx
  ·exact uX.2.2 b (List.mem_map.2 ⟨_,hx,O⟩) b (by simp) O
  exact uX.2.1.1 (List.mem_map.2 ⟨_,hx,O⟩)
 refine⟨hc.1,hc.2.1,⟨fun b x hb=>?_,fun b x hb=>?_,by simpa using uX,fun b x hm hx hox=>?_,fun b hb=>?_⟩,Fr.turn _ _ _ _ _ fun _ h=>h⟩
 ·have e:b≠c:=by rintro rfl;rw[hc.2.2]at hb;cases hb
  rw[bJ _ _ e];exact S.sub b x hb
 ·have old:(b,x)∈F1\/(b,x)∈F2->dM k c o' b=some x/\M b/\h b=none:=fun hx=>by
   have:=S.own b x (by rcases hx with hx | hx <;>simp[hx]);rw[bJ _ _ (iK b x hx)];exact this
  rcases dh.1 hb with hb | hb
  ·exact old (.inl hb)
  rcases bU.1 hb with e | hb
  ·cases e;exact⟨bP _ _ _,hc.2⟩
  exact old (.inr hb)
 ·by_cases e:b=c
  ·subst e;rw[bP]at hx;cases hx;exact .inl (by simp)
  rw[bJ _ _ e]at hx;rcases S.all b x hm hx hox with h1 | h1
  ·left;rcases dh.1 h1 with h1 | h1
   ·exact jm _ h1
   rcases bU.1 h1 with e' | h1
   ·cases e';exact absurd rfl e
   exact bZ _ (dH _ h1)
  exact .inr h1
 have:=S.Je b hb;have e:b≠c:=by rintro rfl;exact this.1 hc.2.1
 rw[bJ _ _ e];exact this

theorem He(fn:FuncId):seen P fn #[]= #[]:=rfl

theorem TB{cs:List Frame}{w:World}{aiC:Array CommCase}{bl:Bool}{sh:CommShape}(r:s.runT P w #[]=(.ok (.comm aiC bl sh) w, #[]))(hk:(fr.kind==CallKind.early)=false):
  stepG.apply P true fr cs none s w= .comm (G fr cs) aiC bl sh w #[]:=by
 unfold stepG.apply;simp only[r,hk,if_true,eU,if_false];rw[He]
 rfl

def xX(P:Program)(d:Deferred):Goroutine:={frame:={(default:Frame)with fn:=P.funcs.size,defers:=[d],mode:=.panicking [goexitEntry]},callers:=[],status:=.running,dying:=none}

theorem aay{cs:List Frame}{w:World}{f:Fn}{cap args:Array Value}(r:s.runT P w #[]=(.ok (.spawn {target:=.fn f cap,args}) w, #[]))(hk:(fr.kind==CallKind.early)=false):
  stepG.apply P true fr cs none s w= .spawn (G (fr.finish undef) cs) (xX P {target:=.fn f cap,args}) w #[]:=by
 unfold stepG.apply;simp only[r,hk,if_true,eU,if_false];rw[He];simp[GStep.after,xX,Conc.G]
end
section rules
variable{x:Cx}{Q:fO}{ρ:Env}{ds:List Deferred}{F:ah}{ops:Array Oper}{i:Nat}{rest:List Nat}{o:Oper}
theorem aiD{t s b:Nat}[j:TI P t s b z zc]{f:Value->Sem β}{w:World}:((zeroValue t).bind f).runT P w es=(f z).runT P w es:=by
 obtain⟨j,h1,_,_,h2,_⟩:=j.out;simp only[zeroValue,typeInfo,program,bind_eq,au,Sem.bind,Sem.runT,h1,h2]
theorem af8{t:TypeId}{d:TypeDesc}[j:TD P t d]{f:TypeDesc->Sem β}{w:World}:((underlying t).bind f).runT P w es=(f d).runT P w es:=by
 simp only[underlying,program,bind_eq,au,Sem.bind,Sem.runT,j.out]

theorem aeO{b:Frame}{t:Array Value}{k:List Item}{cs:List Frame}{ch:Operand}[TD x.P ct (.chan dir el)][TI x.P el s' b' z zc](ho:ops[i]? =some o)(aY:o.op= .recv ct ch true)(hw:Region.wanted o (yielded ops t)=true)(hk:(b.kind==CallKind.early)=false)
  (hc:(dR b t ds (.inRegion ops (i::rest)::k)).eval ch= .chan (some c)) (w:World):
  stepG x.P true (G (dR b t ds (.inRegion ops (i::rest)::k)) cs) w= .comm (G (dR b t ds (.inRegion ops (i::rest)::k)) cs) #[rcase c z] true (.recv true) w #[]:=by
 have e:=wC (P:=x.P) (main:=G_ x.P fun _ _ _=>False) (cs:=cs) (w:=w) (ds:=ds) (k:=k) (b:=b) (rest:=rest) ho hw (fun c=>by rw[aY];simp);rw[show(G_ x.P fun _ _ _=>False).b=true from rfl]at e;rw[e];refine TB ?_ hk;simp only[execOp,aY,hc,bind_eq,au];rw[af8,aiD]
 rfl

theorem aA.recv{v:Value}{ch:Operand}{l:List Value}(hS:∀S,x.main.ok S->∃Fin,S=Mn x.P Fin)(hb:x.main.b=true)[TD x.P ct (.chan dir el)][TI x.P el s' b' z zc](ho:ops[i]? =some o)(aY:o.op= .recv ct ch true)(hw:gY ops ρ o)(hd:iy o.dst x.n=true)
  (um:ev ρ ch=some (.chan (some c))) (hl:At c (mO (v::l)) F U) (H:aA x ops rest Q (put ρ o.dst (.tuple #[v,.bool true])) ds (U (mO l))):aA x ops (i::rest) Q ρ ds F:=by
 intro b k cs Stop tmps hk M h1 h0 h2 h3 h4 h5 hc;have fA:(b.kind==CallKind.early)=false:=by simpa using h2.1
 obtain⟨e1,e2,S',f'⟩:=h5.ghost (o':=mO l) hl ⟨rfl,rfl⟩;obtain⟨Fin,eS⟩:=hS _ Stop.2.1;obtain⟨p1,p2⟩:=h3.Jg h4 hd (.tuple #[v,.bool true]);have:=H b k cs Stop _ _ _ h1 h0 h2 p1 p2 S' fun e gW iT G bC fA M' q a1 a2 a3 a4=>hc e gW iT G bC fA M' q a1 a2 a3 (f'.trans a4);refine .stop ?_;unfold Gs at this;rw[eS,hb]at this;rw[eS];refine .recv O e1 e2 ⟨O,O,O⟩ (aeO ho aY (hw.wanted h3) fA (h3.ev um)) ?_;have hf:=fQ (b:=b) (t:=tmps) (ds:=ds) (k:=k) (cs:=cs) (rest:=rest) ho (.tuple #[v,.bool true]);have:=Mn.ng this;rw[<-hf]at this;exact this

theorem aA.recvDone{ch:Operand}(hS:∀S,x.main.ok S->∃Fin,S=Mn x.P Fin)(hb:x.main.b=true)[TD x.P ct (.chan dir el)][TI x.P el s' b' z zc](ho:ops[i]? =some o)(aY:o.op= .recv ct ch true)(hw:gY ops ρ o)(hd:iy o.dst x.n=true)
  (um:ev ρ ch=some (.chan (some c))) (hl:At c (mO []) F U) (H:aA x ops rest Q (put ρ o.dst (.tuple #[z,.bool false])) ds (U Fg)):aA x ops (i::rest) Q ρ ds F:=by
 intro b k cs Stop tmps hk M h1 h0 h2 h3 h4 h5 hc;have fA:(b.kind==CallKind.early)=false:=by simpa using h2.1
 obtain⟨e1,e2,S',f'⟩:=h5.ghost (o':=Fg) hl ⟨rfl,rfl⟩;obtain⟨Fin,eS⟩:=hS _ Stop.2.1;obtain⟨p1,p2⟩:=h3.Jg h4 hd (.tuple #[z,.bool false]);have:=H b k cs Stop _ _ _ h1 h0 h2 p1 p2 S' fun e gW iT G bC fA M' q a1 a2 a3 a4=>hc e gW iT G bC fA M' q a1 a2 a3 (f'.trans a4);refine .stop ?_;unfold Gs at this;rw[eS,hb]at this;rw[eS];refine .done O e1 e2 ⟨O,O,O⟩ (aeO ho aY (hw.wanted h3) fA (h3.ev um)) ?_;have hf:=fQ (b:=b) (t:=tmps) (ds:=ds) (k:=k) (cs:=cs) (rest:=rest) ho (.tuple #[z,.bool false]);have:=Mn.ng this;rw[<-hf]at this;exact this
end rules
end Go.jc

namespace Go.jc
open Go.Conc (rcase scase QuitsIn)
variable{U:Obj->ah}{args ca fi t:Array Value}{b:Frame}{c:Nat}{f:FuncId}{h:Hp}{k:List Item}{o:Obj}{ts:Array TypeId}{v:Value}{y:Operand}
section
variable{P:Program}{ds:List Deferred}{ops:Array Oper}{i:Nat}{rest:List Nat}{o:Oper}
theorem alG{cs:List Frame}{ch:Operand}(ho:ops[i]? =some o)(aY:o.op= .send ch y)(hw:Region.wanted o (yielded ops t)=true)(hk:(b.kind==CallKind.early)=false)
  (hc:(dR b t ds (.inRegion ops (i::rest)::k)).eval ch= .chan (some c)) (hv:(dR b t ds (.inRegion ops (i::rest)::k)).eval y=v) (w:World):
  stepG P false (G (dR b t ds (.inRegion ops (i::rest)::k)) cs) w= .comm (G (dR b t ds (.inRegion ops (i::rest)::k)) cs) #[scase c v (.tuple #[])] true .send w #[]:=by
 have e:=wC (P:=P) (main:=af7 P c) (cs:=cs) (w:=w) (ds:=ds) (k:=k) (b:=b) (rest:=rest) ho hw (fun c=>by rw[aY];simp);rw[show(af7 P c).b=false from rfl]at e;rw[e];refine TB ?_ hk;simp only[execOp,aY,hc,hv,bind_eq,au]
 rfl

theorem anU{cs:List Frame}{f:Fn}{vs:Array Value}{args:Array Operand}(ho:ops[i]? =some o)(aY:o.op= .go ⟨.value y,args,ts⟩)(hw:Region.wanted o (yielded ops t)=true)(hk:(b.kind==CallKind.early)=false)
  (hc:(dR b t ds (.inRegion ops (i::rest)::k)).eval y= .func f fi ca) (hv:args.map (dR b t ds (.inRegion ops (i::rest)::k)).eval=vs) (w:World):
  stepG P true (G (dR b t ds (.inRegion ops (i::rest)::k)) cs) w= .spawn (G ((dR b t ds (.inRegion ops (i::rest)::k)).finish undef) cs) (xX P {target:=.fn f ca,args:=fi++vs}) w #[]:=by
 have e:=wC (P:=P) (main:=G_ P fun _ _ _=>False) (cs:=cs) (w:=w) (ds:=ds) (k:=k) (b:=b) (rest:=rest) ho hw (fun c=>by rw[aY];simp);rw[show(G_ P fun _ _ _=>False).b=true from rfl]at e;rw[e];refine aay ?_ hk;simp only[execOp,aY,resolve,Deferred.ofValue,hc,hv,bind_eq,au]
 rfl

def pq(P:Program):Frame:={(default:Frame)with fn:=P.funcs.size,defers:=[],mode:=.panicking [goexitEntry]}

theorem aaz[FB P f](w:World):stepG P false (xX P {target:=.fn (.func f) ca,args}) w= .go (G (Frame.enter P f (args++ca) .deferred) [pq P]) w #[]:=by
 obtain⟨fn,h1,h2,h3⟩:=FB.out (inferInstance:FB P f)
 have r:(invoke (.fn (.func f) ca) args).runT P w #[]=(.ok (.enter f (args++ca)) w, #[]):=by
  show(callFunc f (args++ca)).runT P w #[]=_;simp only[callFunc,program,bind_eq,au,Sem.bind,Sem.runT,h1,h2,h3,eU,if_false]
 have e:stepG P false (xX P {target:=.fn (.func f) ca,args}) w=callDeferred P (pq P) [] none {target:=.fn (.func f) ca,args} w:=rfl;rw[e];unfold callDeferred;simp only[r,He]
 rfl

theorem TF:QuitsIn P 1 (G (pq P) []):=by
 refine .inr ⟨O,{frame:=pq P,callers:=[],status:=.finished,dying:=none},fun w=>?_,O⟩;have ht:(pq P).todo=[]:=rfl
 have hc:(pq P).catches P=false:=by
  unfold Frame.catches;rw[ht];split <;>first | rfl | (rename_i h;cases h)
 have e:stepG P false (G (pq P) []) w=unwind P false (pq P) [] none w:=rfl;rw[e];unfold unwind;have h1:(pq P).defers=[]:=rfl;have h2:(pq P).mode= .panicking [goexitEntry]:=rfl;simp only[h1,h2,hc,eU,if_false]
 rfl

theorem aiE{b:Frame}{t:Array Value}{cs:List Frame}{s r:Nat}{tys:Array TypeId}{ty:TypeId}{cons:Array Bool}{ds:List Deferred}{todo:List Item}{w:World}(ho:w.heap[c]? =some (.chan 0 #[] false s r false)):
  stepG P false (G (kP b t ({target:=.builtin .close tys ty cons,args:= #[.chan (some c)]}::ds) todo) cs) w= .go (G (kP b t ds todo) cs) (w.shut c s r false) (yF c):=by
 have run:(invoke (.builtin .close tys ty cons) #[.chan (some c)]).runT P w #[]=(.ok (.value (.tuple #[])) (w.shut c s r false),yF c):=by
  have fK:=nT ho
  have e1:(invoke (.builtin .close tys ty cons) #[.chan (some c)])=Sem.getObj c fun o=>(match o with
    | .chan room buf closed awI aiG timer=>(do
     if closed then runtimePanic (.plain "close of closed channel")
     setObj c (.chan room buf true awI aiG timer)
     pure (.tuple #[]):Sem Value)
    | _=>stuck "close: no channel in this block").bind fun v=>.pure (Next.value v):=rfl
  rw[e1];simp only[Sem.runT,ho,eU,if_false,setObj,bind_eq,au,Sem.bind]
  rfl
 have e:stepG P false (G (kP b t ({target:=.builtin .close tys ty cons,args:= #[.chan (some c)]}::ds) todo) cs) w=callDeferred P (kP b t ds todo) cs none {target:=.builtin .close tys ty cons,args:= #[.chan (some c)]} w:=rfl;rw[e];unfold callDeferred;have hs:seen P b.fn (yF c)=yF c:=by simp[seen,yF]
 have hf:(kP b t ds todo).fn=b.fn:=rfl;simp only[run,hf,hs]
 rfl

theorem aaA{fn:Func}{todo:List Item}{w:World}(hf:P.funcs[b.fn]? =some fn)(hr:fn.results= #[])(hk:b.kind= .deferred):stepG P false (G (kP b t [] todo) [pq P]) w= .go (G (pq P) []) w #[]:=by
 have e:stepG P false (G (kP b t [] todo) [pq P]) w=unwind P false (kP b t [] todo) [pq P] none w:=rfl
 have r:(results fn t).runT P w #[]=(.ok (.tuple #[]) w, #[]):=by
  unfold results;rw[hr,show(#[]:Array ResultVar)=([]:List ResultVar).toArray from rfl,List.mapM_toArray]
  rfl
 rw[e];unfold unwind;have h1:(kP b t [] todo).defers=[]:=rfl;have h2:(kP b t [] todo).mode= .returning:=rfl;have h3:(kP b t [] todo).fn=b.fn:=rfl;have h4:(kP b t [] todo).tmps=t:=rfl;have h5:(kP b t [] todo).kind= .deferred:=hk;simp only[h1,h2,h3,h4,hf,r,doReturn,h5]
 rfl

def YG(P:Program)(c:Nat)(h:Hp):List Deferred->ah->Prop
 | [],_=>False
 | d::ds,F=>
  match d.target with
  | .collected r=>tr P h (Instr.takeDeferred r) F fun l F'=>l=[]/\YG P c h ds F'
  | .builtin .close _ _ _=>ds=[]/\d.args= #[.chan (some c)]/\(c,mO [])∈F
  | _=>False

theorem af9{fn:Func}{t:Array Value}(hf:P.funcs[b.fn]? =some fn)(hr:fn.results= #[])(hkd:b.kind= .deferred):∀{ds:List Deferred} {F:ah} {hk:Hp} {M:Nat->Prop} (todo:List Item),Sat h F hk M->YG P c h ds F->
  J4 P false (Ch P c) (G (kP b t ds todo) [pq P]) hk M:=by
 intro ds
 induction ds with
 | nil=>exact fun _ _ hu=>hu.elim
 | cons d ds ih=>
  intro F hk M todo S hu;obtain⟨target,wM⟩:=d;unfold YG at hu;split at hu
  ·rename_i r heq;simp only at heq;subst heq;refine .tY ⟨O,fun w hw hM=>?_⟩;obtain⟨l,F',w',es,r1,r2,r3,r4,rfl,r5⟩:=oh _ #[] hu S hw hM;rw[Array.empty_append]at r1;exact⟨G (kP b t ds todo) [pq P],w',seen P b.fn es,D7 (main:=af7 P c) r1,r2.mem fun _=>mem_seen,ih todo r3 r5⟩
  ·rename_i tys ty cons heq;simp only at heq;obtain⟨rfl,aeP,hm⟩:=hu;simp only at aeP;subst heq aeP;refine .stop (.close O (S.own _ _ hm).1 O O (fun w s r ho=>aiE ho) (n:=2) ?_);exact .inr ⟨O,_,fun w=>aaA hf hr hkd,TF⟩
  exact hu.elim

theorem Ch.start{fn:Func}{body:Code}[FB P f](hf:P.funcs[f]? =some fn)(hb:fn.body=some body)(hr:fn.results= #[])(ha:(args++ca).size<=fn.ntmps)(ρ:Env)(LD:LV ρ (args++ca)){l:List Value}{kc:Hp}{M:Nat->Prop}(S:Sat h [(c,mO l)] kc M)
  (H:W ⟨P,af7 P c,f,fn.ntmps,none,h⟩ body (fun e _ ds F=>(e= .ret\/e= .normal)/\YG P c h ds F) ρ [] [(c,mO l)]):Ch P c (xX P {target:=.fn (.func f) ca,args}) kc M:=by
 refine Ch.ng (.idle O aaz ?_)
 have e:Frame.enter P f (args++ca) .deferred=dR {(default:Frame)with fn:=f,kind:=.deferred} (args++ca++Array.replicate (fn.ntmps- (args++ca).size) undef) [] [.code body]:=by
  simp[Frame.enter,dR,hf,hb];rfl
 rw[e];refine H _ [] [pq P] ⟨Ch P c,O,Ch.aaH⟩ _ kc M O O (.deferred O (.inr O)) LD.ok (by simp at ha⊢;omega) S fun ex gW iT F' bC fA M' q a1 a2 a3 a4=>?_;obtain⟨hex,hu⟩:=q;have go:∀todo,J4 P false (Ch P c) (G (kP {(default:Frame)with fn:=f,kind:=.deferred} bC iT todo) [pq P]) fA M':=fun todo=>af9 (fn:=fn) hf hr rfl todo a3 hu;rcases hex with rfl | rfl
 ·exact fun k'=>.idle O (fun _=>J5 (main:=af7 P c) O) (go _)
 exact .idle O (fun _=>J6 (main:=af7 P c) O) (go _)
end
section rules
variable{x:Cx}{Q:fO}{ρ:Env}{ds:List Deferred}{F:ah}{ops:Array Oper}{i:Nat}{rest:List Nat}{o:Oper}
theorem aA.send{ch:Operand}{l:List Value}(hS:∀S,x.main.ok S->S=Ch x.P c)(hb:x.main.b=false)(ho:ops[i]? =some o)(aY:o.op= .send ch y)(hw:gY ops ρ o)(hd:o.dst=none)
  (um:ev ρ ch=some (.chan (some c))) (hy:ev ρ y=some v) (hl:At c (mO (v::l)) F U) (H:aA x ops rest Q ρ ds (U (mO l))):aA x ops (i::rest) Q ρ ds F:=by
 intro b k cs Stop tmps hk M h1 h0 h2 h3 h4 h5 hc;have fA:(b.kind==CallKind.early)=false:=by simpa using h2.1
 obtain⟨e1,e2,S',f'⟩:=h5.ghost (o':=mO l) hl ⟨rfl,rfl⟩;have eS:=hS _ Stop.2.1;have:=H b k cs Stop _ _ _ h1 h0 h2 h3 h4 S' fun e gW iT G bC fA M' q a1 a2 a3 a4=>hc e gW iT G bC fA M' q a1 a2 a3 (f'.trans a4);refine .stop ?_;unfold Gs at this;rw[eS,hb]at this;rw[eS];refine .send O e1 (alG ho aY (hw.wanted h3) fA (h3.ev um) (h3.ev hy)) ?_;have hf:=fQ (b:=b) (t:=tmps) (ds:=ds) (k:=k) (cs:=cs) (rest:=rest) ho undef;have:=Ch.ng this;rw[hd]at hf;simp only at hf;rw[<-hf]at this;exact this

noncomputable def told(h:Hp)(c:Nat)(l:List Value):Hp:=by
 classical exact⟨fun b=>if b=c then some (mO l)else if h.z b/\lI (h b)=false then h b else none,fun _=>False⟩
noncomputable def PU(h:Hp)(c:Nat):Hp:=by
 classical exact⟨fun b=>if b=c then none else if h.z b/\lI (h b)=false then h b else none,fun _=>False⟩

theorem Hf{b:Nat}{o:Obj}(hn:h c=none)(hz:h.z b)(hb:h b=some o)(ho:o.isChan=false):PU h c b=some o:=by
 have e:b≠c:=by rintro rfl;rw[hn]at hb;cases hb
 simp[PU,e,hz,hb,lI,ho]
theorem aA.spawn{l:List Value}{args:List Operand}{vs:List Value}(hS:∀S,x.main.ok S->∃Fin,S=Mn x.P Fin)(hb:x.main.b=true)(ho:ops[i]? =some o)(aY:o.op= .go ⟨.value y,args.toArray,ts⟩)(hw:gY ops ρ o)(hd:iy o.dst x.n=true)
  (hy:ev ρ y=some (.func (.func f) fi ca)) (hv:jv ρ args=some vs) (hl:At c sZ F U)
  (hc:x.h c=none->∀kc,Sat (PU x.h c) [(c,mO l)] kc (· =c)->Ch x.P c (xX x.P {target:=.fn (.func f) ca,args:=fi++vs.toArray}) kc (· =c))
  (H:aA x ops rest Q (put ρ o.dst undef) ds (U (mO l))):aA x ops (i::rest) Q ρ ds F:=by
 classical
 intro b k cs Stop tmps hk M h1 h0 h2 h3 h4 h5 Z7;have fA:(b.kind==CallKind.early)=false:=by simpa using h2.1
 obtain⟨e1,e2,S',f'⟩:=h5.ghost (o':=mO l) hl ⟨rfl,rfl⟩
 have aaw:x.h c=none:=by
  obtain⟨F1,F2,hF,_⟩:=hl.split;exact(h5.own c sZ (by rw[hF];simp)).2.2
 obtain⟨Fin,eS⟩:=hS _ Stop.2.1;obtain⟨p1,p2⟩:=h3.Jg h4 hd undef;have:=H b k cs Stop _ _ _ h1 h0 h2 p1 p2 S' fun e gW iT G bC fA M' q a1 a2 a3 a4=>Z7 e gW iT G bC fA M' q a1 a2 a3 (f'.trans a4);refine .stop ?_;unfold Gs at this;rw[eS,hb]at this;rw[eS];have iK:∀b,b≠c->told x.h c l b=if x.h.z b/\lI (x.h b)=false then x.h b else none:=fun b hb=>by simp[told,hb]
 have qB:∀b o,b≠c->told x.h c l b=some o->x.h.z b/\x.h b=some o/\o.isChan=false:=by
  intro b o hb ho;rw[iK b hb]at ho;split at ho
  ·rename_i h;refine⟨h.1,ho,?_⟩;rw[ho]at h;exact h.2
  cases ho
 refine qQ.spawn (c:=c) (l:=l) (kc:=told x.h c l) (M':=M) O O O (anU ho aY (hw.wanted h3) fA (h3.ev hy) (by rw[List.map_toArray,oK (fun _ _ h=>h3.ev h) hv])) e1 e2 (by simp[told]) (fun b o hb ho=>⟨h5.sub b o (qB b o hb ho).2.1,(qB b o hb ho).2.2⟩) (hc aaw _ ⟨fun b o hb=>?_,fun b o hb=>?_,by simp,fun b o hm hko aY=>?_,fun b hb=>hb.elim⟩) ⟨fun _ h=>h,fun b o hm hn=>absurd hm hn⟩ e2 (fun b hb hs hm=>?_) ?_
 ·by_cases e:b=c
  ·subst e;simp[PU]at hb
  rw[iK b e];simpa[PU,e]using hb
 ·obtain⟨rfl,rfl⟩:=Prod.mk.inj (dP.1 hb);exact⟨by simp[told],O,by simp[PU]⟩
 ·left;subst hm;have:told x.h b l b=some (mO l):=by simp[told]
  rw[this]at hko
  cases hko
  exact bT ..
 ·obtain⟨o,ho⟩:=iJ.1 hs;exact(h5.Je b (qB b o hb ho).1).1 hm
 have hf:=fQ (b:=b) (t:=tmps) (ds:=ds) (k:=k) (cs:=cs) (rest:=rest) ho undef;have:=Mn.ng this;rw[<-hf]at this;exact this
end rules
noncomputable def Hg(h:Hp):Hp:=by
 classical exact⟨fun b=>if h.z b/\lI (h b)=false then h b else none,fun _=>False⟩
theorem aaB{b:Nat}(hz:h.z b)(hb:h b=some o)(ho:o.isChan=false):Hg h b=some o:=by simp[Hg,hz,hb,lI,ho]
theorem TG{b:Nat}(e:Hg h b=some o):h.z b/\h b=some o/\o.isChan=false:=by
 classical
 simp only[Hg]at e;split at e
 ·rename_i hc;refine⟨hc.1,e,?_⟩;rw[e]at hc;exact hc.2
 cases e
end Go.jc

namespace Go.jc
open Go.Conc (solo solo_eq_crowd)
variable{b:Frame}{c:Call}{t:Array Value}
section rules
variable{x:Cx}{Q:fO}{ρ:Env}{ds:List Deferred}{F:ah}{ops:Array Oper}{i:Nat}{rest:List Nat}{o:Oper}{R:Value->ah->Prop}
theorem ac_{t el s b:Nat}{dir:ChanDir}{z:Value}{zc:Array Value}{y:Operand}(ho:o.op= .makeChan t y)[TD x.P t (.chan dir el)][TI x.P el s b z zc](hy:ev ρ y=some (.int .i64 0))
  (H:∀β,x.h β=none->(∀o,(β,o)∉F)->R (.chan (some β)) ((β,sZ)::F)):Ef x ρ o F R:=
 Ef.uY fun e he h' hE=>by
  obtain⟨j,h1,h2,h3,h4,hz⟩:=TI.out (inferInstance:TI x.P el s b z zc);have hd:=(inferInstance:TD x.P t (.chan dir el)).out;have hb:¬((0:Int)<0\/(0:Int)>IntKind.i64.max\/(j.bytes:Int)*0>2 ^ 48-112):=by rintro(h | h | h) <;>revert h <;>simp <;>decide
  simp only[execOp,ho,he y _ hy,Instr.makeChan,asInt,asIntOf,underlying,typeInfo,program,bind_eq,au,Sem.bind,tr,hd,h1,hb,if_false,newObj];exact⟨fun _=>rfl,fun r h5 h6=>⟨_,.inl O,H r (hE.none h5) h6⟩⟩

theorem aaC{P:Program}{fr:Frame}{cs:List Frame}{s:Sem Next}{w:World}{d:Deferred}(r:s.runT P w #[]=(.ok (.defer d) w, #[]))(hk:(fr.kind==CallKind.early)=false):
  stepG.apply P true fr cs none s w= .go (G ({fr with defers:=d::fr.defers}.finish undef) cs) w #[]:=by
 unfold stepG.apply;simp only[r,hk,if_true,eU,if_false];rw[He]
 rfl

theorem aaD{k:List Item}{cs:List Frame}{w:World}{d:Deferred}(ho:ops[i]? =some o)(aY:o.op= .defer c)(hw:Region.wanted o (yielded ops t)=true)(hr:b.roundOf=none)(hk:(b.kind==CallKind.early)=false)
  (hd:resolve (dR b t ds (.inRegion ops (i::rest)::k)).eval c o.type= .pure d):
  stepG x.P x.main.b (G (dR b t ds (.inRegion ops (i::rest)::k)) cs) w= .go (G ((dR b t (d::ds) (.inRegion ops (i::rest)::k)).finish undef) cs) w #[]:=by
 obtain⟨dst,op,type,pos,bW,guard⟩:=o;simp only at aY hd;subst aY
 have e:stepG x.P x.main.b (G (dR b t ds (.inRegion ops (i::rest)::k)) cs) w=stepG.apply x.P true (dR b t ds (.inRegion ops (i::rest)::k)) cs none (execOp (dR b t ds (.inRegion ops (i::rest)::k)).eval ⟨dst,.defer c,type,pos,bW,guard⟩) w:=by
  simp only[Conc.G,stepG,stepG.exec,stepG.oper,Frame.oper?,dR,ho,hw,hr,Option.map_some,Option.getD_some,if_true]
 rw[e];refine aaC (fr:=dR b t ds (.inRegion ops (i::rest)::k)) ?_ hk;simp only[execOp,hd,bind_eq,au,Sem.bind,Sem.runT]

theorem aA.defer{d:Deferred}(FK:x.ro=none)(ho:ops[i]? =some o)(aY:o.op= .defer c)(hw:gY ops ρ o)(hd:o.dst=none)
  (hr:∀e:Operand->Value,(∀y v,ev ρ y=some v->e y=v)->resolve e c o.type= .pure d) (H:aA x ops rest Q ρ (d::ds) F):aA x ops (i::rest) Q ρ ds F:=by
 intro b k cs Stop tmps hk M h1 h0 h2 h3 h4 h5 hc;have fA:(b.kind==CallKind.early)=false:=by simpa using h2.1
 refine .idle O (fun w=>aaD ho aY (hw.wanted h3) (h0.trans FK) fA (hr _ fun _ _ hx=>h3.ev hx)) ?_;have hf:=fQ (b:=b) (t:=tmps) (ds:=d::ds) (k:=k) (cs:=cs) (rest:=rest) ho undef;rw[hf,hd];exact H b k cs Stop tmps hk M h1 h0 h2 h3 h4 h5 hc
end rules
section top
variable{P:Program}{fO:Value->World->Prop}
theorem AX.aaH:Gy (AX P fO):=by
 intro g k M M' hl ⟨h1,h2,h3⟩;refine⟨h1,fun c o hm hk=>?_,fun w ha hd=>?_⟩
 ·rcases Classical.em (M' c)with h | h
  ·exact h2 c o h hk
  exact hl.2 c o hm h hk
 obtain⟨v,w',es,e,gu,hp⟩:=h3 w ha (hl.qC hd);exact⟨v,w',es,e,hl.Ji gu,hp⟩

theorem apx{fn:Func}{todo:List Item}{w w':World}{v:Value}{es:Array Event}(hf:P.funcs[b.fn]? =some fn)(hi:P.inits.idxOf? b.fn=none)(r:(results fn t).runT P w #[]=(.ok v w',es))(hk:b.kind= .normal):
  stepG P true (G (kP b t [] todo) []) w= .ended (.done v) w' (seen P b.fn es):=by
 have e:stepG P true (G (kP b t [] todo) []) w=unwind P true (kP b t [] todo) [] none w:=rfl;rw[e];unfold unwind;have h1:(kP b t [] todo).defers=[]:=rfl;have h2:(kP b t [] todo).mode= .returning:=rfl;have h3:(kP b t [] todo).fn=b.fn:=rfl;have h4:(kP b t [] todo).tmps=t:=rfl;have h5:(kP b t [] todo).kind= .normal:=hk;simp only[h1,h2,h3,h4,hf,r,doReturn,h5,hi,Bool.not_true,eU,if_false]
 rfl

theorem Mn.top{f:FuncId}{fn:Func}{body:Code}(hf:P.funcs[f]? =some fn)(hb:fn.body=some body)(hi:P.inits.idxOf? f=none){args:Array Value}(ha:args.size<=fn.ntmps)(ρ:Env)(LD:LV ρ args){h k:Hp}{M:Nat->Prop}(S:Sat h [] k M)(xJ:∀b o,h b=some o->o.isChan=false)
  {R:Value->Prop} (TJ:∀v w,R v->(∀b o,h b=some o->w.heap[b]? =some o)->fO v w)
  (H:W ⟨P,G_ P (AX P fO),f,fn.ntmps,none,h⟩ body (fun e ρ ds F=>ds=[]/\eH F/\leave P (G_ P (AX P fO)) fn h (fun v _=>R v) e ρ [] F) ρ [] []):Mn P (AX P fO) (G (Frame.enter P f args .normal) []) k M:=by
 refine Mn.ng ?_
 have e:Frame.enter P f args .normal=dR {(default:Frame)with fn:=f,kind:=.normal} (args++Array.replicate (fn.ntmps-args.size) undef) [] [.code body]:=by
  simp[Frame.enter,dR,hf,hb];rfl
 rw[e];refine H _ [] [] ⟨Mn P (AX P fO),O,Mn.aaH AX.aaH⟩ _ k M O O (.normal O) LD.ok (by simp;omega) S fun ex gW iT F' bC fA M' q a1 a2 a3 a4=>?_;obtain⟨rfl,yu,hex,hu⟩:=q;have hu':tr P h (results fn bC) F' (fun v _=>R v):=hu bC a1
 have go:∀todo,J4 P true (Mn P (AX P fO)) (G (kP {(default:Frame)with fn:=f,kind:=.normal} bC [] todo) []) fA M':=fun todo=>by
  refine .stop (.fin ⟨O,fun c o hm hk=>?_,fun w hw hM=>?_⟩)
  ·cases ho:opn o with
   | false=>rfl
   | true=>
    rcases a3.all c o hm hk ho with h1 | h1
    ·rw[yu _ h1]at ho;cases ho
    rw[Gu (xJ c o h1)]at ho;cases ho
  obtain⟨v,WE,w',es,r1,r2,r3,r4,r5⟩:=oh _ #[] hu' a3 hw hM;rw[Array.empty_append]at r1;refine⟨v,w',_,apx hf hi r1 O,r2.mem fun _=>mem_seen,TJ v w' r5 fun b o hb=>?_⟩;exact(wL hw r2).get (r3.sub b o hb) (xJ b o hb)
 rcases hex with rfl | rfl
 ·exact fun k'=>.idle O (fun _=>J5 (main:=G_ P (AX P fO)) O) (go _)
 exact .idle O (fun _=>J6 (main:=G_ P (AX P fO)) O) (go _)

noncomputable def kZ(W:World):Hp:=⟨fun b=>match W.heap[b]? with | some o=>if o.isChan then none else some o | none=>none,fun b=>∃o,W.heap[b]? =some o/\o.isChan=false⟩
theorem lN{W:World}{b:Nat}{o:Obj}:kZ W b=some o↔W.heap[b]? =some o/\o.isChan=false:=by
 simp only[kZ]
 cases e:W.heap[b]? with
 | none=>simp
 | some o'=>
  cases hc:o'.isChan with
  | true=>
   simp only[hc,if_true];constructor
   ·intro h;cases h
   rintro⟨h,h'⟩;cases h;rw[hc]at h';cases h'
  | false=>
   simp only[hc,eU,if_false];constructor
   ·intro h;cases h;exact⟨rfl,hc⟩
   rintro⟨h,_⟩;exact h
theorem aaE{W:World}:Sat (kZ W) [] (kZ W) fun _=>False:=
 ⟨(fun _ _ h=>h),(fun _ _ h=>by cases h),(by simp),(fun _ _ h=>h.elim),(fun b ⟨o,h1,h2⟩=>⟨fun h=>h,by rw[lN.2 ⟨h1,h2⟩];rfl⟩)⟩

theorem Mn.run{W:World}{g:Goroutine}(H:Mn P (AX P fO) g (kZ W) fun _=>False):
  ∃M last o w' t',runNT P (M+1) (solo g W) #[]=(.ended o w',t')/\runN P M (solo g W)= .next last/\Go.step P last= .ended o w'/\Conc.Good P (fun v w'=>fO v w'/\Kept W w') last o w' t':=by
 letI:Base:=⟨W⟩
 have K:Kno W #[] 0 (kZ W) (fun _=>False):=⟨fun b o hb=>⟨o,(lN.1 hb).1,.inl rfl,.nc (lN.1 hb).2⟩,fun b hb=>hb.elim,fun b hb=>hb.elim,fun b _ _ i a hi=>(by rw[show Conc.touchAt #[] i=none by simp[Conc.touchAt,Trace.act?]]at hi;cases hi),fun b c po off hb=>by have:=(lN.1 hb).2;cases this⟩
 have um:∀b o,kZ W b=some o->o.isChan=true->False:=fun b o hb ho=>by rw[(lN.1 hb).2]at ho;cases ho
 have Y:LY W #[] 1 (D5 0 ([]:List (KS P))) (xU (kZ W) (fun _=>False) ([]:List (KS P))) (LJ none) (qR ([]:List (KS P))):=by
  have hdv:D5 0 ([]:List (KS P))=fun _=>0:=by funext g;unfold D5;split <;>simp
  rw[hdv]
  have pc:∀{g k M},xU (kZ W) (fun _=>False) ([]:List (KS P)) g=some (k,M)->g=0/\k=kZ W/\M=fun _=>False:=fun e=>by
   rcases fV e with h | ⟨i,x,_,h,_⟩
   ·exact h
   simp at h
  refine⟨TK.empty,fun g k M e=>?_,fun g g' k M k' M' iK e1 e2=>?_,fun b g k M o ⟨_,hb,_⟩=>(by cases hb),fun b g k M o e ho hh=>?_,fun b g k M ⟨o,hb⟩=>(by simp at hb),fun b hb=>?_⟩
  ·obtain⟨rfl,rfl,rfl⟩:=pc e;exact K
  ·obtain⟨rfl,_,_⟩:=pc e1;obtain⟨rfl,_,_⟩:=pc e2;exact absurd O iK
  ·obtain⟨rfl,rfl,rfl⟩:=pc e;exact(um b o ho (eP hh)).elim
  rcases hb with⟨_,hb,_⟩ | ⟨o,hb⟩
  ·cases hb
  simp at hb
 have I:MS P #[g] W #[] 0 (kZ W) (fun _=>False) none []:=⟨rfl,Y,fun b hb=>hb.elim,fun i x hi=>(by simp at hi),fun i j c x y hi=>(by simp at hi),fun c l hc=>hc.elim,fun o h=>(by cases h),fun _ x hx=>(by cases hx),by simp,Kept.refl W,fun gn k M b hp hb=>(by
  rcases fV hp with⟨_,_,rfl⟩ | ⟨i,x,_,h,_⟩
  ·exact hb.elim
  ·simp at h),fun b ⟨o,hb⟩=>(by simp at hb),fun gn k M b c po hp hb=>by
  rcases fV hp with⟨_,rfl,_⟩ | ⟨i,x,_,h,_⟩
  ·exact(um b _ hb O).elim
  simp at h⟩
 have hs:g.status= .running:=qQ.status (fun _ _ _ h=>h.1) H;have:=Mn.ends (fun _ _ _ h=>h) H [] #[g] W #[] none ⟨none,I,⟨rfl,rfl⟩,fun p hp=>(by cases hp),g,rfl,now hs⟩;rw[solo_eq_crowd];exact this
end top
end Go.jc

namespace Go.jc
variable{A B:Prop}{fuel listed:Nat}{g:Nat×Bool}
section
variable{x:Cx}{Q:fO}{K:Env->List Deferred->ah->Prop}{ρ:Env}{ds:List Deferred}{F:ah}{ops:Array Oper}{i:Nat}{rest:List Nat}{v:Value}{d:Tmp}{ty:TypeId}{pos:String}{bW:Array Edge}{y:Operand}
theorem aiH(ho:dS ops.toList i=some ⟨some d,.move y,ty,pos,bW,none⟩)(hy:ev ρ y=some v)(hd:Nat.blt d x.n=true)(H:aA x ops rest Q ((d,v)::ρ) ds F):aA x ops (i::rest) Q ρ ds F:=oq (xO O hy) ho wn hd O H
theorem zW(ho:dS ops.toList i=some ⟨some d,.assign y,ty,pos,bW,none⟩)(hy:ev ρ y=some v)(hd:Nat.blt d x.n=true)(H:aA x ops rest Q ((d,v)::ρ) ds F):aA x ops (i::rest) Q ρ ds F:=oq (GI O hy) ho wn hd O H
theorem b_{op:Op}(hy:Yv x (· =F) ρ ⟨some d,op,ty,pos,bW,none⟩ v)(ho:dS ops.toList i=some ⟨some d,op,ty,pos,bW,none⟩)(H:aA x ops rest Q ((d,v)::ρ) ds F)(hd:Nat.blt d x.n=true:=by exact rfl)(hn:fB op=true:=by exact rfl):aA x ops (i::rest) Q ρ ds F:=oq hy ho wn hd hn H
theorem fJ{op:Op}{L:ah}(i:Nat)(hy:Yv x (aC L) ρ ⟨some d,op,ty,pos,bW,none⟩ v)(ho:dS ops.toList i=some ⟨some d,op,ty,pos,bW,none⟩)(H:Any x ops L fuel (listed||| 2 ^ i) Q ((d,v)::ρ) ds F)(hd:Nat.blt d x.n=true:=by exact rfl)(hn:fB op=true:=by exact rfl)(hr:(Oo ops listed i&&Fb ops listed i&&LW ops)=true:=by kernel_rfl)(hS:aC L F:=by first | exact fun _ h=>h | exact fun _ h=>absurd h List.not_mem_nil | ((repeat(first | exact fun _ h=>h | apply aC.cons | apply aC.app)) <;>fail) | (repeat(first | exact aC.nil | refine aC.one zS ?_))):Any x ops L (fuel+1) listed Q ρ ds F:=aq hy ho an hd hn H hr hS
theorem awJ{op:Op}(ho:dS ops.toList i=some ⟨some d,op,ty,pos,bW,none⟩)(H:aA x ops rest Q ((d,v)::ρ) ds F)(hy:Yv x (· =F) ρ ⟨some d,op,ty,pos,bW,none⟩ v:=by exact o8 O O)(hd:Nat.blt d x.n=true:=by exact rfl)(hn:fB op=true:=by exact rfl):aA x ops (i::rest) Q ρ ds F:=oq hy ho wn hd hn H
theorem aAb{op:Op}(ho:dS ops.toList i=some ⟨some d,op,ty,pos,bW,none⟩)(H:aA x ops rest Q ((d,v)::ρ) ds F)(hy:Yv x (· =F) ρ ⟨some d,op,ty,pos,bW,none⟩ v:=by exact CG O O)(hd:Nat.blt d x.n=true:=by exact rfl)(hn:fB op=true:=by exact rfl):aA x ops (i::rest) Q ρ ds F:=oq hy ho wn hd hn H
theorem asR{op:Op}(ho:dS ops.toList i=some ⟨some d,op,ty,pos,bW,none⟩)(H:aA x ops rest Q ((d,v)::ρ) ds F)(hy:Yv x (· =F) ρ ⟨some d,op,ty,pos,bW,none⟩ v:=by first | exact ZW rfl rfl | exact Qm rfl rfl)(hd:Nat.blt d x.n=true:=by exact rfl)(hn:fB op=true:=by exact rfl):aA x ops (i::rest) Q ρ ds F:=oq hy ho wn hd hn H
theorem asT{op:Op}(ho:dS ops.toList i=some ⟨some d,op,ty,pos,bW,none⟩)(H:aA x ops rest Q ((d,v)::ρ) ds F)(hy:Yv x (· =F) ρ ⟨some d,op,ty,pos,bW,none⟩ v:=by first | exact acU rfl rfl rfl | exact RU rfl rfl rfl)(hd:Nat.blt d x.n=true:=by exact rfl)(hn:fB op=true:=by exact rfl):aA x ops (i::rest) Q ρ ds F:=oq hy ho wn hd hn H
theorem aAc{op:Op}(ho:dS ops.toList i=some ⟨some d,op,ty,pos,bW,none⟩)(H:aA x ops rest Q ((d,v)::ρ) ds F)(hy:Yv x (· =F) ρ ⟨some d,op,ty,pos,bW,none⟩ v:=by first | exact Vr rfl rfl rfl | exact Ou rfl rfl rfl)(hd:Nat.blt d x.n=true:=by exact rfl)(hn:fB op=true:=by exact rfl):aA x ops (i::rest) Q ρ ds F:=oq hy ho wn hd hn H
theorem aAd{op:Op}(ho:dS ops.toList i=some ⟨some d,op,ty,pos,bW,none⟩)(H:aA x ops rest Q ((d,v)::ρ) ds F)(hy:Yv x (· =F) ρ ⟨some d,op,ty,pos,bW,none⟩ v:=by first | exact yix rfl rfl rfl | exact ZX rfl rfl rfl)(hd:Nat.blt d x.n=true:=by exact rfl)(hn:fB op=true:=by exact rfl):aA x ops (i::rest) Q ρ ds F:=oq hy ho wn hd hn H
theorem aAe{op:Op}(ho:dS ops.toList i=some ⟨some d,op,ty,pos,bW,none⟩)(H:aA x ops rest Q ((d,v)::ρ) ds F)(hy:Yv x (· =F) ρ ⟨some d,op,ty,pos,bW,none⟩ v:=by first | exact rJ rfl rfl | exact oZ rfl rfl)(hd:Nat.blt d x.n=true:=by exact rfl)(hn:fB op=true:=by exact rfl):aA x ops (i::rest) Q ρ ds F:=oq hy ho wn hd hn H
theorem qj(H:K ρ ds F):aA x ops [] (thn K Q) ρ ds F:=aA.nil (fH H)
theorem ay{op:Op}{L:ah}(i:Nat)(H:Any x ops L fuel (listed||| 2 ^ i) Q ((d,v)::ρ) ds F)(ho:dS ops.toList i=some ⟨some d,op,ty,pos,bW,none⟩:=by exact rfl)(hy:Yv x (aC L) ρ ⟨some d,op,ty,pos,bW,none⟩ v:=by first | exact xO rfl rfl | exact o8 rfl rfl | exact CG rfl rfl | exact ZW rfl rfl | exact Qm rfl rfl | exact asU rfl rfl | exact rJ rfl rfl | exact oZ rfl rfl | exact acU rfl rfl rfl | exact RU rfl rfl rfl | exact Vr rfl rfl rfl | exact Ou rfl rfl rfl | exact yix rfl rfl rfl | exact ZX rfl rfl rfl | exact aer rfl rfl | exact WG rfl rfl rfl | exact aen rfl rfl rfl | exact WH rfl rfl rfl | exact aeo rfl rfl rfl | exact yt rfl rfl rfl | exact Fe rfl rfl rfl | exact PI rfl rfl | exact QO rfl rfl rfl | exact QS rfl rfl rfl | exact GI rfl rfl | exact IJ rfl rfl rfl | exact dw rfl rfl rfl | exact aep rfl rfl rfl | exact ah0 rfl rfl rfl | exact ZP rfl rfl rfl | exact aes rfl rfl rfl | exact Yf rfl rfl rfl)(hd:Nat.blt d x.n=true:=by exact rfl)(hn:fB op=true:=by exact rfl)(hr:(Oo ops listed i&&Fb ops listed i&&LW ops)=true:=by kernel_rfl)(hS:aC L F:=by first | exact fun _ h=>h | exact fun _ h=>absurd h List.not_mem_nil | ((repeat(first | exact fun _ h=>h | apply aC.cons | apply aC.app)) <;>fail) | (repeat(first | exact aC.nil | refine aC.one (by repeat(first | exact List.Mem.head _ | apply List.Mem.tail)) ?_))):Any x ops L (fuel+1) listed Q ρ ds F:=fJ i hy ho H hd hn hr hS
theorem kw_{op:Op}(hy:Yv x (· =F) ρ ⟨some d,op,ty,pos,bW,some g⟩ v)(ho:dS ops.toList i=some ⟨some d,op,ty,pos,bW,some g⟩)(H:aA x ops rest Q ((d,v)::ρ) ds F)(hw:gY ops ρ ⟨some d,op,ty,pos,bW,some g⟩:=by exact aI O O O)(hd:Nat.blt d x.n=true:=by exact rfl)(hn:fB op=true:=by exact rfl):aA x ops (i::rest) Q ρ ds F:=oq hy ho hw hd hn H
theorem asV{op:Op}(ho:dS ops.toList i=some ⟨some d,op,ty,pos,bW,none⟩)(H:aA x ops rest Q ((d,v)::ρ) ds F)(hy:Yv x (· =F) ρ ⟨some d,op,ty,pos,bW,none⟩ v:=by first | exact xO rfl rfl | exact o8 rfl rfl | exact CG rfl rfl | exact ZW rfl rfl | exact Qm rfl rfl | exact asU rfl rfl | exact rJ rfl rfl | exact oZ rfl rfl | exact acU rfl rfl rfl | exact RU rfl rfl rfl | exact Vr rfl rfl rfl | exact Ou rfl rfl rfl | exact yix rfl rfl rfl | exact ZX rfl rfl rfl | exact aer rfl rfl | exact WG rfl rfl rfl | exact aen rfl rfl rfl | exact WH rfl rfl rfl | exact aeo rfl rfl rfl | exact yt rfl rfl rfl | exact Fe rfl rfl rfl | exact PI rfl rfl | exact QO rfl rfl rfl | exact QS rfl rfl rfl | exact GI rfl rfl | exact IJ rfl rfl rfl | exact dw rfl rfl rfl | exact aep rfl rfl rfl | exact ah0 rfl rfl rfl | exact ZP rfl rfl rfl | exact aes rfl rfl rfl | exact Yf rfl rfl rfl | exact GL rfl rfl | exact yV rfl rfl rfl | exact WI rfl rfl rfl | exact TL rfl rfl rfl | exact aiI rfl rfl | exact yfc rfl rfl)(hd:Nat.blt d x.n=true:=by exact rfl)(hn:fB op=true:=by exact rfl):aA x ops (i::rest) Q ρ ds F:=oq hy ho wn hd hn H
theorem awK{op:Op}(ho:dS ops.toList i=some ⟨some d,op,ty,pos,bW,some g⟩)(H:aA x ops rest Q ((d,v)::ρ) ds F)(hw:gY ops ρ ⟨some d,op,ty,pos,bW,some g⟩:=by exact aI rfl rfl rfl)(hy:Yv x (· =F) ρ ⟨some d,op,ty,pos,bW,some g⟩ v:=by first | exact xO rfl rfl | exact o8 rfl rfl | exact CG rfl rfl | exact ZW rfl rfl | exact Qm rfl rfl | exact asU rfl rfl | exact rJ rfl rfl | exact oZ rfl rfl | exact acU rfl rfl rfl | exact RU rfl rfl rfl | exact Vr rfl rfl rfl | exact Ou rfl rfl rfl | exact yix rfl rfl rfl | exact ZX rfl rfl rfl | exact aer rfl rfl | exact WG rfl rfl rfl | exact aen rfl rfl rfl | exact WH rfl rfl rfl | exact aeo rfl rfl rfl | exact yt rfl rfl rfl | exact Fe rfl rfl rfl | exact PI rfl rfl | exact QO rfl rfl rfl | exact QS rfl rfl rfl | exact GI rfl rfl | exact IJ rfl rfl rfl | exact dw rfl rfl rfl | exact aep rfl rfl rfl | exact ah0 rfl rfl rfl | exact ZP rfl rfl rfl | exact aes rfl rfl rfl | exact Yf rfl rfl rfl | exact GL rfl rfl | exact yV rfl rfl rfl | exact WI rfl rfl rfl | exact TL rfl rfl rfl | exact aiI rfl rfl | exact yfc rfl rfl)(hd:Nat.blt d x.n=true:=by exact rfl)(hn:fB op=true:=by exact rfl):aA x ops (i::rest) Q ρ ds F:=oq hy ho hw hd hn H
theorem bG.bH{P:Program}{main:aN}{h:Hp}{f:FuncId}{fn:Func}{c:Code}{args:Array Value}{F:ah}{R:Value->ah->Prop}(hf:P.funcs[f]? =some fn)(ρ:Env)(H:W ⟨P,main,f,fn.ntmps,none,h⟩ c (leave P main fn h R) ρ [] F)(hb:fn.body=some c:=by rfl)(ha:args.size<=fn.ntmps:=by exact Nat.le_of_ble_eq_true rfl)(LD:LV ρ args:=by repeat(first | exact trivial | refine⟨rfl,?_⟩)):bG P main f args h F R:=bG.gX hf hb ha ρ LD H
theorem iw{E ρ:Env}(h:Sub E ρ:=by repeat(first | exact trivial | refine⟨rfl,?_⟩)):Sub E ρ:=h
theorem MR{L F:ah}(h:aC L F:=by first | exact aC.nil | exact aC.refl | exact fun _ h=>h | ((repeat(first | exact fun _ h=>h | apply aC.cons | apply aC.app)) <;>fail) | (repeat(first | exact aC.nil | refine aC.one (by repeat(first | exact List.Mem.head _ | apply List.Mem.tail)) ?_))):aC L F:=h
theorem aiJ{L F:ah}(h:aC L F:=by first | exact aC.refl | exact aC.nil | ((repeat(first | exact fun _ h=>h | apply aC.cons | apply aC.app)) <;>fail) | (repeat(first | exact aC.nil | refine aC.one (by repeat(first | exact List.Mem.head _ | apply List.Mem.tail)) ?_))):aC L F:=h
theorem awL{L F:ah}(h:aC L F:=by first | exact aC.app aC.refl | exact fun _ h=>bZ _ h | (exact aC.app (by repeat(first | exact aC.nil | refine aC.one (by repeat(first | exact List.Mem.head _ | apply List.Mem.tail)) ?_)))):aC L F:=h
end
structure Qr(B:Prop):Prop where
  out:B
theorem zY(b:B)(h:Qr B->A:=by first
  | ((with_reducible show Qr _->aA _ _ _ _ _ _ _);first
    | exact fun b=>qj b.out
    | exact fun b=>asV rfl b.out
    | exact fun b=>aA.Yi b.out
    | exact fun b=>aA.alf b.out
    | exact fun b=>aA.sto b.out
    | exact fun b=>awK rfl b.out
    | exact fun b=>aA.no b.out)
  | with_reducible exact fun b=>fH b.out
  | with_reducible exact fun b=>iE b.out
  | with_reducible exact fun b=>sG b.out
  | with_reducible exact fun b=>CB b.out
  | with_reducible exact fun b=>aex b.out
  | with_reducible exact fun b=>aey b.out
  | with_reducible exact fun b=>W.seq b.out
  | with_reducible exact fun b=>W.block b.out
  | with_reducible exact fun b=>W.skip b.out
  | with_reducible exact fun b=>W.ret b.out
  | with_reducible exact fun b=>W.exit b.out
  | ((with_reducible show Qr _->W _ (.region _ _ false) _ _ _ _);exact fun b=>W.region rfl b.out)
  | exact fun b=>CB b.out
  | exact fun b=>aey b.out
  | exact fun b=>iE b.out
  | exact fun b=>sG b.out
  | exact fun b=>aex b.out
  | exact fun b=>fH b.out):A:=h ⟨b⟩
theorem zT(b:B)(h:Qr B->A:=by(intro b;iterate 1 refine zY ?_);exact b.out):A:=h ⟨b⟩
theorem d_(b:B)(h:Qr B->A:=by(intro b;iterate 2 refine zY ?_);exact b.out):A:=h ⟨b⟩
theorem gI(b:B)(h:Qr B->A:=by(intro b;iterate 3 refine zY ?_);exact b.out):A:=h ⟨b⟩
theorem lF(b:B)(h:Qr B->A:=by(intro b;iterate 4 refine zY ?_);exact b.out):A:=h ⟨b⟩
theorem kJ(b:B)(h:Qr B->A:=by(intro b;iterate 5 refine zY ?_);exact b.out):A:=h ⟨b⟩
theorem lg(b:B)(h:Qr B->A:=by(intro b;iterate 6 refine zY ?_);exact b.out):A:=h ⟨b⟩
theorem jk(b:B)(h:Qr B->A:=by(intro b;iterate 7 refine zY ?_);exact b.out):A:=h ⟨b⟩
theorem kR(b:B)(h:Qr B->A:=by(intro b;iterate 8 refine zY ?_);exact b.out):A:=h ⟨b⟩
theorem FT(b:B)(h:Qr B->A:=by(intro b;iterate 9 refine zY ?_);exact b.out):A:=h ⟨b⟩
theorem gZ(b:B)(h:Qr B->A:=by(intro b;iterate 10 refine zY ?_);exact b.out):A:=h ⟨b⟩
theorem iC(b:B)(h:Qr B->A:=by(intro b;iterate 11 refine zY ?_);exact b.out):A:=h ⟨b⟩
theorem oz(b:B)(h:Qr B->A:=by(intro b;iterate 12 refine zY ?_);exact b.out):A:=h ⟨b⟩
theorem CW(b:B)(h:Qr B->A:=by(intro b;iterate 13 refine zY ?_);exact b.out):A:=h ⟨b⟩
theorem Qs(b:B)(h:Qr B->A:=by(intro b;iterate 14 refine zY ?_);exact b.out):A:=h ⟨b⟩
theorem Qu(b:B)(h:Qr B->A:=by(intro b;iterate 15 refine zY ?_);exact b.out):A:=h ⟨b⟩
theorem Qv(b:B)(h:Qr B->A:=by(intro b;iterate 16 refine zY ?_);exact b.out):A:=h ⟨b⟩
theorem asW(b:B)(h:Qr B->A:=by(intro b;iterate 17 refine zY ?_);exact b.out):A:=h ⟨b⟩
theorem asX(b:B)(h:Qr B->A:=by(intro b;iterate 18 refine zY ?_);exact b.out):A:=h ⟨b⟩
theorem awM(b:B)(h:Qr B->A:=by(intro b;iterate 19 refine zY ?_);exact b.out):A:=h ⟨b⟩
theorem apy(b:B)(h:Qr B->A:=by(intro b;iterate 20 refine zY ?_);exact b.out):A:=h ⟨b⟩
theorem awN(b:B)(h:Qr B->A:=by(intro b;iterate 21 refine zY ?_);exact b.out):A:=h ⟨b⟩
theorem asY(b:B)(h:Qr B->A:=by(intro b;iterate 22 refine zY ?_);exact b.out):A:=h ⟨b⟩
end Go.jc
