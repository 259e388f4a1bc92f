/- The core of a logic for one goroutine in any company: partial heaps, nodes, and the judgement 'Gos'. Conditions: none; over any program. (And 3 texts more.) -/
import GoSem.Step
import Derived.Conc.Own4
set_option linter.unusedVariables false
set_option linter.unusedSimpArgs false
set_option linter.unusedSectionVars false
set_option maxRecDepth 100000
set_option maxHeartbeats 4000000

namespace Go.jc
theorem O{α:Sort _}{a:α}:a=a:=rfl
theorem zS{α:Type}{a:α}{l:List α}(h:a∈l:=by repeat(first | exact List.Mem.head _ | apply List.Mem.tail)):a∈l:=h
abbrev bZ:= @List.mem_append_right
abbrev jm:= @List.mem_append_left
abbrev bT:= @List.mem_cons_self
abbrev dH:= @List.mem_cons_of_mem
abbrev dL:= @List.mem_of_getElem?
abbrev iJ:= @Option.isSome_iff_exists
abbrev dK:= @List.perm_append_comm
abbrev dh:= @List.mem_append
abbrev eF:= @List.append_assoc
abbrev bU:= @List.mem_cons
abbrev fM:= @List.getElem?_eq_none
abbrev dP:= @List.mem_singleton
abbrev dY:= @Option.some.injEq
abbrev jh:= @List.getElem?_eq_getElem
abbrev jy:= @List.length_eq_zero_iff
abbrev bQ:= @Nat.lt_or_ge
abbrev gK:= @List.length_cons
abbrev dQ:= @List.map_cons
abbrev iL:= @List.getElem?_map
abbrev jA:= @List.length_append
abbrev kM:= @Array.getElem?_setIfInBounds_ne
abbrev jR:= @Option.map_eq_some_iff
abbrev eU:= @Bool.false_eq_true
variable{p:Prop}
theorem aB(h:p:=by kernel_rfl):p:=h
theorem aj(h:p:=by omega):p:=h
theorem dF(h:p:=by decide):p:=h
end Go.jc
namespace Go.jc
structure Hp where
 f:Nat->Option Obj
 z:Nat->Prop
instance:CoeFun Hp (fun _=>Nat->Option Obj):=⟨Hp.f⟩
variable{M M':Nat->Prop}{P:Program}{Stop:Goroutine->Hp->(Nat->Prop)->Prop}{args t tmps:Array Value}{b hi id:Nat}{bd c us x z:Code}{cs:List Frame}{es LM:Array Event}{f:FuncId}{fr:Frame}{g g':Goroutine}{h k:Hp}{k':List Item}{o o':Obj}{s:Sem Next}{todo:List Nat}{v:Value}{w' fE mJ:World}{y:Nat×Obj}{α:Type}
theorem Hp.ext'{h':Hp}(e:∀b,h b=h' b)(e':h.z=h'.z):h=h':=by
 obtain⟨f,z⟩:=h;obtain⟨f',z'⟩:=h';have:f=f':=funext e;subst this e'
 rfl
abbrev ah:=List (Nat×Obj)

def ji:Obj->Bool
 | .chan cap .. =>Nat.ble 2 cap
 | _=>false
variable{A B F:ah}{R R':Value->ah->Prop}
theorem eP(h:ji o=true):o.isChan=true:=by cases o <;>first | rfl | cases h
def Fit(o o':Obj):Prop:=o'=o\/(o.isChan=true/\(o'.isChan=true\/ji o=true))
def bn(c:Array Value)(po:Nat):Obj:=.chan 2 c false po 0 false
def VOK(o o':Obj):Prop:=∀c po,o=bn c po->∃c' e fz,o'= .cells c' e fz/\∀i,i<c.size->i≠po->c'[i]? =c[i]?
theorem VOK.of(h:∀c po,o≠bn c po):VOK o o':=fun c po e=>absurd e (h c po)
theorem VOK.nc(h:o.isChan=false):VOK o o':=.of fun c po e=>by rw[e]at h;cases h
def lI:Option Obj->Bool | some o=>o.isChan | none=>false
def yP(k:Hp)(w:World):Prop:=∀b o,k b=some o->∃o',w.heap[b]? =some o'/\Fit o o'/\VOK o o'

theorem yP.get{w:World}(h:yP k w)(hb:k b=some o)(hc:o.isChan=false):w.heap[b]? =some o:=by
 obtain⟨o',h1,h2 | h2,_⟩:=h b o hb
 ·rw[h1,h2]
 rw[hc]at h2;cases h2.1

def snap(k:Hp)(w w':World):Hp:=⟨fun b=>if lI (k b)then k b else if(k b).isSome|| (w.heap.size<=b&&b<w'.heap.size)then w'.heap[b]? else none,k.z⟩
def grown(M:Nat->Prop)(w w':World):Nat->Prop:=fun b=>M b\/(w.heap.size<=b/\b<w'.heap.size)

def Rz:Mark->Bool
 | .acquire _=>false
 | .release _=>false
 | .releaseMerge _=>false
 | .disable=>false
 | .enable=>false
 | .read _=>false
 | .write _=>false
 | _=>true

def Jd(k:Hp)(M:Nat->Prop)(lo hi:Nat)(e:Event):Prop:=
 match e.loc with
 | .cell a=>e.sync=false/\(((k a.block).isSome=true/\lI (k a.block)=false/\(e.write=true->M a.block))\/(lo<=a.block/\a.block<hi)\/(e.write=false/\a.spot=none/\∃c po,k a.block=some (bn c po)/\a.off<c.size/\a.off≠po))
 | .obj r=>e.sync=false/\(((k r).isSome=true/\lI (k r)=false/\(e.write=true->M r))\/(lo<=r/\r<hi))
 | .mark m=>Rz m=true
 | _=>False

def sZ:Obj:=.chan 0 #[] false 0 0 false

structure iR(k:Hp)(M:Nat->Prop)(w w':World)(es:Array Event):Prop where
 size:w.heap.size<=w'.heap.size
 keep:∀b,b<w.heap.size->¬M b->w'.heap[b]? =w.heap[b]?
 lJ:∀(b:Nat) (o:Obj),w.heap[b]? =some o->o.isChan=true->w'.heap[b]? =some o
 news:∀(b:Nat) (o:Obj),w.heap.size<=b->w'.heap[b]? =some o->o.isChan=true->o=sZ
 stay:∀(b:Nat) (o o':Obj),w.heap[b]? =some o->o.isChan=false->w'.heap[b]? =some o'->o'.isChan=false
 JF:∀(b:Nat) (o:Obj),k b=some o->ji o=true->w'.heap[b]? =w.heap[b]?
 os:w'.os=w.os
 output:w'.output=w.output
 tape:w'.tape=w.tape
 jv:∀e∈es,Jd k M w.heap.size w'.heap.size e

def Stp(P:Program)(main:Bool)(T:Goroutine->Hp->(Nat->Prop)->Prop)(g:Goroutine)(k:Hp)(M:Nat->Prop):Prop:=
 g.status= .running/\∀w,yP k w->(∀b,M b->(k b).isSome=true)->∃g' w' es,stepG P main g w= .go g' w' es/\iR k M w w' es/\T g' (snap k w w') (grown M w w')

inductive J4(P:Program)(main:Bool)(Stop:Goroutine->Hp->(Nat->Prop)->Prop):Goroutine->Hp->(Nat->Prop)->Prop
 | stop {g:Goroutine} {k:Hp} {M:Nat->Prop} (h:Stop g k M):J4 P main Stop g k M
 | step {g:Goroutine} {k:Hp} {M:Nat->Prop} (hs:g.status= .running)
   (ok:∀w,yP k w->(∀b,M b->(k b).isSome=true)->∃g' w' es,stepG P main g w= .go g' w' es/\iR k M w w' es)
   (h:∀w g' w' es,yP k w->(∀b,M b->(k b).isSome=true)->stepG P main g w= .go g' w' es->J4 P main Stop g' (snap k w w') (grown M w w')):J4 P main Stop g k M

theorem iR.mem{w:World}(g:iR k M w w' es)(h:∀e∈LM,e∈es):iR k M w w' LM:=⟨g.size,g.keep,g.lJ,g.news,g.stay,g.JF,g.os,g.output,g.tape,fun e he=>g.jv e (h e he)⟩

theorem iR.heap{w:World}(h:w'.heap=w.heap)(h1:w'.os=w.os)(h2:w'.output=w.output)(h3:w'.tape=w.tape):iR k M w w' #[]:=
 ⟨by rw[h];exact Nat.le_refl _,fun _ _ _=>by rw[h],fun _ _ x _=>by rw[h];exact x,fun b o x y _=>(by rw[h,Array.getElem?_eq_none x]at y;cases y),fun b o o' x y z=>(by rw[h,x]at z;cases z;exact y),fun _ _ _ _=>by rw[h],h1,h2,h3,fun e x=>by simp at x⟩

theorem J4.tY{main:Bool}(h:Stp P main (J4 P main Stop) g k M):J4 P main Stop g k M:=
 .step h.1 (fun w hw hm=>let⟨g',w',es,e,x,_⟩:=h.2 w hw hm;⟨g',w',es,e,x⟩) (fun w g' w' es hw hm e=>by
  obtain⟨jd,fE,RD,arZ,_,x⟩:=h.2 w hw hm;rw[e]at arZ
  cases arZ
  exact x)

theorem vF{w:World}(h:yP k w):snap k w w=k:=by
 refine Hp.ext' (fun b=>?_) O;simp only[snap]
 cases hb:k b with
 | none=>
  have:¬(w.heap.size<=b/\b<w.heap.size):=by omega
  simp[this,lI]
 | some o=>
  cases hc:o.isChan with
  | true=>simp[lI,hc]
  | false=>simp[lI,hc,h.get hb hc]

theorem rG{w:World}:grown M w w=M:=by
 funext b;have:¬(w.heap.size<=b/\b<w.heap.size):=by omega
 simp[grown,this]

theorem iR.refl{w:World}:iR k M w w #[]:=⟨Nat.le_refl _,fun _ _ _=>rfl,fun _ _ h _=>h,fun b o h1 h2 _=>(by rw[Array.getElem?_eq_none h1]at h2;cases h2),fun b o o' h1 h2 h3=>(by rw[h1]at h3;cases h3;exact h2),fun _ _ _ _=>rfl,rfl,rfl,rfl,fun e h=>by simp at h⟩

theorem Stp.idle{main:Bool}{T:Goroutine->Hp->(Nat->Prop)->Prop}(hs:g.status= .running)(e:∀w,stepG P main g w= .go g' w #[])(h:T g' k M):Stp P main T g k M:=
 ⟨hs,fun w hw _=>⟨g',w, #[],e w,.refl,by rw[vF hw,rG];exact h⟩⟩

theorem J4.idle{main:Bool}(hs:g.status= .running)(e:∀w,stepG P main g w= .go g' w #[])(h:J4 P main Stop g' k M):J4 P main Stop g k M:=
 .tY (.idle hs e h)

def dR(b:Frame)(tmps:Array Value)(ds:List Deferred)(todo:List Item):Frame:={b with tmps,todo,defers:=ds,mode:=.run}

abbrev G(fr:Frame)(cs:List Frame):Goroutine:=Conc.G fr cs

section ar0
variable{P:Program}{main:Bool}{b:Frame}{t:Array Value}{ds:List Deferred}{k:List Item}{cs:List Frame}{w:World}
theorem aef:stepG P main (G (dR b t ds (.code .skip::k)) cs) w= .go (G (dR b t ds k) cs) w:=by simp[Conc.G,stepG,stepG.exec,dR]
theorem ZL{l:Nat}:stepG P main (G (dR b t ds (.code (.label l)::k)) cs) w= .go (G (dR b t ds k) cs) w:=by simp[Conc.G,stepG,stepG.exec,dR]
theorem RF:stepG P main (G (dR b t ds (.inBlock id::k)) cs) w= .go (G (dR b t ds k) cs) w:=by simp[Conc.G,stepG,stepG.exec,dR]
theorem acE:stepG P main (G (dR b t ds (.inScope c::k)) cs) w= .go (G (dR b t ds k) cs) w:=by simp[Conc.G,stepG,stepG.exec,dR]
theorem X0{y:Code}:stepG P main (G (dR b t ds (.code (.seq x y)::k)) cs) w= .go (G (dR b t ds (.code x:: .code y::k)) cs) w:=by simp[Conc.G,stepG,stepG.exec,dR]
theorem aeg{c:Operand}{y:Code}{v:Bool}(h:(dR b t ds (.code (.cond c x y)::k)).eval c= .bool v):
  stepG P main (G (dR b t ds (.code (.cond c x y)::k)) cs) w= .go (G (dR b t ds (.code (if v then x else y)::k)) cs) w:=by
 simp only[dR]at h;simp[Conc.G,stepG,stepG.exec,dR,h]
theorem ZM:stepG P main (G (dR b t ds (.code (.block id c)::k)) cs) w= .go (G (dR b t ds (.code c:: .inBlock id::k)) cs) w:=by simp[Conc.G,stepG,stepG.exec,dR]
theorem X3:stepG P main (G (dR b t ds (.code (.loop c)::k)) cs) w= .go (G (dR b t ds (.code c:: .inLoop c::k)) cs) w:=by simp[Conc.G,stepG,stepG.exec,dR]
theorem Ol:stepG P main (G (dR b t ds (.inLoop c::k)) cs) w= .go (G (dR b t ds (.code c:: .inLoop c::k)) cs) w:=by simp[Conc.G,stepG,stepG.exec,dR]
theorem ahN:stepG P main (G (dR b t ds (.code (.scope c)::k)) cs) w= .go (G (dR b t ds (.code c:: .inScope c::k)) cs) w:=by simp[Conc.G,stepG,stepG.exec,dR]
theorem aeh(h:exitTo id k=some k'):stepG P main (G (dR b t ds (.code (.exit id)::k)) cs) w= .go (G (dR b t ds k') cs) w:=by simp[Conc.G,stepG,stepG.exec,dR,h]
theorem aei{l:Nat}(h:gotoIn l k=some k'):stepG P main (G (dR b t ds (.code (.goto l)::k)) cs) w= .go (G (dR b t ds k') cs) w:=by simp[Conc.G,stepG,stepG.exec,dR,h]
theorem WA{ops:Array Oper}:stepG P main (G (dR b t ds (.code (.region id ops false)::k)) cs) w= .go (G (dR b t ds (.inRegion ops (List.range ops.size)::k)) cs) w:=by simp[Conc.G,stepG,stepG.exec,dR]
theorem Bl{ops:Array Oper}:stepG P main (G (dR b t ds (.inRegion ops []::k)) cs) w= .go (G (dR b t ds k) cs) w:=by simp[Conc.G,stepG,stepG.exec,dR]
end ar0
def one:Value->Bool
 | .agg _ | .tuple _=>false
 | _=>true
def LP(h:Hp)(F:ah)(b:Nat)(o:Obj):Prop:=h b=some o\/(b,o)∈F

def Cell(h:Hp)(F:ah)(a:Addr)(v:Value):Prop:=(∃c e fz,LP h F a.block (.cells c e fz)/\c[a.off]? =some v)\/∃c po,LP h F a.block (bn c po)/\a.off≠po/\c[a.off]? =some v

def opn:Obj->Bool
 | .chan _ _ closed _ _ _=> !closed
 | _=>false
theorem Gu(h:o.isChan=false):opn o=false:=by cases o <;>first | rfl | cases h

structure Sat(h:Hp)(F:ah)(k:Hp)(M:Nat->Prop):Prop where
 sub:∀b o,h b=some o->k b=some o
 own:∀b o,(b,o)∈F->k b=some o/\M b/\h b=none
 nodup:(F.map (·.1)).Nodup
 all:∀b o,M b->k b=some o->opn o=true->(b,o)∈F\/h b=some o
 Je:∀b,h.z b->¬M b/\(k b).isSome=true

def Fr(M:Nat->Prop)(F:ah)(M':Nat->Prop)(F':ah):Prop:=∀b,M b->(∀o,(b,o)∉F)->M' b/\∀o,(b,o)∉F'

theorem Fr.refl:Fr M F M F:=fun _ h h'=>⟨h,h'⟩
theorem Fr.trans{X4 oV:Nat->Prop}{vG qK:ah}(a:Fr M F X4 vG)(b:Fr X4 vG oV qK):Fr M F oV qK:=fun x h h'=>let⟨y,z⟩:=a x h h';b x y z

theorem Fr.turn(F1 F2:ah)(b:Nat)(o o':Obj)(h:∀b,M b->M' b):Fr M (F1++(b,o)::F2) M' (F1++(b,o')::F2):=by
 intro c hc hF;refine⟨h c hc,fun x hx=>?_⟩;rcases dh.1 hx with hx | hx
 ·exact hF x (jm _ hx)
 rcases bU.1 hx with e | hx
 ·cases e;exact hF o (by simp)
 exact hF x (by simp[hx])

def tr{α:Type}(P:Program)(h:Hp):Sem α->ah->(α->ah->Prop)->Prop
 | .pure a,F,Q=>Q a F
 | .load m a k,F,Q=>m= .plain/\a.spot=none/\∃v,Cell h F a v/\tr P h (k v) F Q
 | .store m a v k,F,Q=>m= .plain/\a.spot=none/\one v=true/\∃c e lo hi F1 F2,F=F1++(a.block,.cells c e (lo,hi))::F2/\a.off<c.size/\(lo<=a.off&&a.off<hi)=false/\
   tr P h k (F1++(a.block,.cells (c.setIfInBounds a.off v) e (lo,hi))::F2) Q
 | .new o k,F,Q=>(o.isChan=true->o=sZ)/\∀r,h r=none->(∀o,(r,o)∉F)->tr P h (k r) ((r,o)::F) Q
 | .shape ..,_,_=>False
 | .frozen ..,_,_=>False
 | .getObj r k,F,Q=>∃o,LP h F r o/\(∀c e fz,o≠ .cells c e fz)/\o.isChan=false/\tr P h (k o) F Q
 | .setObj r o k,F,Q=>∃X5 F1 F2,F=F1++(r,X5)::F2/\(∀c e fz,X5≠ .cells c e fz)/\(X5.isChan|| o.isChan)=false/\tr P h k (F1++(r,o)::F2) Q
 | .choose q k,F,Q=>if q.forced then tr P h (k 0) F Q else∀n,(∃t,n=q.cut t)->tr P h (k n) F Q
 | .program k,F,Q=>tr P h (k P) F Q
 | .mark m k,F,Q=>Rz m=true/\tr P h k F Q
 | _,_,_=>False

theorem qg{s:Sem α}{Q Q':α->ah->Prop}(H:tr P h s F Q)(hq:∀a F,Q a F->Q' a F):tr P h s F Q':=by
 induction s generalizing F with
 | pure a=>exact hq _ _ H
 | load m a k ih=>obtain⟨h1,h2,v,h3,h5⟩:=H;exact⟨h1,h2,v,h3,ih _ h5⟩
 | store m a v k ih=>obtain⟨h1,h2,h3,c,e,lo,hi,F1,F2,h4,h5,h6,h7⟩:=H;exact⟨h1,h2,h3,c,e,lo,hi,F1,F2,h4,h5,h6,ih h7⟩
 | new o k ih=>exact⟨H.1,fun r h1 h2=>ih _ (H.2 r h1 h2)⟩
 | shape r k ih=>exact H.elim
 | freeze a n k ih=>exact H.elim
 | frozen a k ih=>exact H.elim
 | getObj r k ih=>obtain⟨o,h1,h2,h3,h4⟩:=H;exact⟨o,h1,h2,h3,ih _ h4⟩
 | setObj r o k ih=>obtain⟨X5,F1,F2,h1,h2,h3,h4⟩:=H;exact⟨X5,F1,F2,h1,h2,h3,ih h4⟩
 | choose q k ih=>
  simp only[tr]at H⊢;split
  ·rename_i hf;simp only[hf,if_true]at H;exact ih _ H
  rename_i hf;simp only[hf,if_false]at H;exact fun n hn=>ih _ (H n hn)
 | sys c k ih=>exact H.elim
 | program k ih=>exact ih _ H
 | mark m k ih=>exact⟨H.1,ih H.2⟩
 | halt h=>exact H.elim

theorem cu{β:Type}{s:Sem α}{f:α->Sem β}{Q:β->ah->Prop}(H:tr P h s F (fun a F'=>tr P h (f a) F' Q)):tr P h (s.bind f) F Q:=by
 induction s generalizing F with
 | pure a=>exact H
 | load m a k ih=>obtain⟨h1,h2,v,h3,h5⟩:=H;exact⟨h1,h2,v,h3,ih _ h5⟩
 | store m a v k ih=>obtain⟨h1,h2,h3,c,e,lo,hi,F1,F2,h4,h5,h6,h7⟩:=H;exact⟨h1,h2,h3,c,e,lo,hi,F1,F2,h4,h5,h6,ih h7⟩
 | new o k ih=>exact⟨H.1,fun r h1 h2=>ih _ (H.2 r h1 h2)⟩
 | shape r k ih=>exact H.elim
 | freeze a n k ih=>exact H.elim
 | frozen a k ih=>exact H.elim
 | getObj r k ih=>obtain⟨o,h1,h2,h3,h4⟩:=H;exact⟨o,h1,h2,h3,ih _ h4⟩
 | setObj r o k ih=>obtain⟨X5,F1,F2,h1,h2,h3,h4⟩:=H;exact⟨X5,F1,F2,h1,h2,h3,ih h4⟩
 | choose q k ih=>
  simp only[tr,Sem.bind]at H⊢;split
  ·rename_i hf;simp only[hf,if_true]at H;exact ih _ H
  rename_i hf;simp only[hf,if_false]at H;exact fun n hn=>ih _ (H n hn)
 | sys c k ih=>exact H.elim
 | program k ih=>exact ih _ H
 | mark m k ih=>exact⟨H.1,ih H.2⟩
 | halt h=>exact H.elim

theorem wL{w:World}(hk:yP k w)(g:iR k M w w' es):yP (snap k w w') w':=by
 intro b o hb;simp only[snap]at hb;split at hb
 ·rename_i hc;obtain⟨o',h1,h2,hv⟩:=hk b o hb;have wz:=hb;rw[hb]at hc;rcases h2 with h2 | ⟨h2,h3 | h3⟩
  ·exact⟨o',g.lJ b o' h1 (by rw[h2];exact hc),.inl h2,hv⟩
  ·exact⟨o',g.lJ b o' h1 h3,.inr ⟨h2,.inl h3⟩,hv⟩
  exact⟨o',by rw[g.JF b o wz h3];exact h1,.inr ⟨h2,.inr h3⟩,hv⟩
 rename_i hnc;split at hb
 ·refine⟨o,hb,.inl O,.of fun c po e=>?_⟩;have Gv:o.isChan=true:=by rw[e];rfl
  by_cases hs:w.heap.size<=b
  ·rw[g.news b o hs hb Gv]at e;cases e
  cases hkb:k b with
  | none=>rename_i hh;simp[hkb]at hh;omega
  | some y=>
   have hyc:y.isChan=false:=by
    cases hy:y.isChan with
    | false=>rfl
    | true=>exact absurd (by rw[hkb];exact hy) hnc
   have:=g.stay b y o (hk.get hkb hyc) hyc hb;rw[Gv]at this;cases this
 cases hb

theorem WB{w:World}(hk:yP k w)(h1:w.heap.size<=fE.heap.size)(h2:fE.heap.size<=mJ.heap.size)(hc:∀(b:Nat) (o:Obj),fE.heap[b]? =some o->o.isChan=true->mJ.heap[b]? =some o):snap (snap k w fE) fE mJ=snap k w mJ:=by
 refine Hp.ext' (fun b=>?_) O
 cases X6:lI (k b)with
 | true=>simp[snap,X6]
 | false=>
 
 have e1:snap k w fE b=if(k b).isSome|| (w.heap.size<=b&&b<fE.heap.size)then fE.heap[b]? else none:=by simp[snap,X6]
 have e2:snap k w mJ b=if(k b).isSome|| (w.heap.size<=b&&b<mJ.heap.size)then mJ.heap[b]? else none:=by simp[snap,X6]
 have e3:snap (snap k w fE) fE mJ b=if lI (snap k w fE b)then snap k w fE b else if(snap k w fE b).isSome|| (fE.heap.size<=b&&b<mJ.heap.size)then mJ.heap[b]? else none:=rfl
 rw[e3,e2,e1];by_cases hb:(k b).isSome=true\/(w.heap.size<=b/\b<fE.heap.size)
 ·have h3:b<fE.heap.size:=by
   rcases hb with hb | hb
   ·obtain⟨o,ho⟩:=iJ.1 hb;obtain⟨o',h',_⟩:=hk b o ho;rcases bQ b w.heap.size with h | h
    ·omega
    rw[Array.getElem?_eq_none h]at h';cases h'
   exact hb.2
  have h4:((k b).isSome|| (decide (w.heap.size<=b)&&decide (b<fE.heap.size)))=true:=by simpa using hb
  have h5:((k b).isSome|| (decide (w.heap.size<=b)&&decide (b<mJ.heap.size)))=true:=by
   rcases hb with hb | hb
   ·simp[hb]
   have:w.heap.size<=b/\b<mJ.heap.size:=by omega
   simp[this]
  rw[if_pos h4,if_pos h5];obtain⟨o,ho⟩:=iJ.1 (show(fE.heap[b]?).isSome=true by simp;exact h3);rw[ho]
  cases Gw:o.isChan with
  | true=>simp[lI,Gw,hc b o ho Gw]
  | false=>simp[lI,Gw]
 have h4:((k b).isSome|| (decide (w.heap.size<=b)&&decide (b<fE.heap.size)))=false:=by
  cases hx:((k b).isSome|| (decide (w.heap.size<=b)&&decide (b<fE.heap.size)))with
  | false=>rfl
  | true=>exact absurd (by simpa using hx) hb
 rw[h4]
 have h5:(k b).isSome=false:=by
  cases hx:(k b).isSome with
  | false=>rfl
  | true=>exact absurd (.inl hx) hb
 have h6:(decide (fE.heap.size<=b)&&decide (b<mJ.heap.size))=(decide (w.heap.size<=b)&&decide (b<mJ.heap.size)):=by
  have:¬(w.heap.size<=b/\b<fE.heap.size):=fun h=>hb (.inr h);have:(fE.heap.size<=b/\b<mJ.heap.size)↔(w.heap.size<=b/\b<mJ.heap.size):=by omega
  rw[<-Bool.decide_and,<-Bool.decide_and];exact decide_eq_decide.2 this
 simp[lI,h5,h6]

theorem Gx{w:World}(h1:w.heap.size<=fE.heap.size)(h2:fE.heap.size<=mJ.heap.size):grown (grown M w fE) fE mJ=grown M w mJ:=by
 funext b;unfold grown;apply propext;constructor
 ·rintro((h | h) | h)
  ·exact .inl h
  ·exact .inr aj
  exact .inr aj
 rintro(h | h)
 ·exact .inl (.inl h)
 by_cases h3:b<fE.heap.size
 ·exact .inl (.inr aj)
 exact .inr aj

theorem Jd.up{lo hi':Nat}{e:Event}(h1:hi<=hi')(h:Jd k M lo hi e):Jd k M lo hi' e:=by
 unfold Jd at h⊢;split at h
 ·exact⟨h.1,h.2.imp id fun x=>x.imp (fun x=>⟨x.1,aj⟩) id⟩
 ·exact⟨h.1,h.2.imp id fun x=>⟨x.1,aj⟩⟩
 ·exact h
 exact h.elim
theorem Jd.trans{w:World}{e:Event}(h1:w.heap.size<=fE.heap.size)(h2:fE.heap.size<=hi)(h:Jd (snap k w fE) (grown M w fE) fE.heap.size hi e):Jd k M w.heap.size hi e:=by
 have key:∀b,((snap k w fE) b).isSome=true->(k b).isSome=true\/(w.heap.size<=b/\b<hi):=by
  intro b hb;by_cases hk:(k b).isSome=true
  ·exact .inl hk
  simp only[Bool.not_eq_true]at hk;have hkn:k b=none:=by simpa using hk
  simp only[snap,hkn,lI]at hb;by_cases h3:w.heap.size<=b/\b<fE.heap.size
  ·exact .inr ⟨h3.1,aj⟩
  have h7:(w.heap.size<=b&&b<fE.heap.size)=false:=by simpa using h3
  simp[h7]at hb
 have avT:∀b,lI ((snap k w fE) b)=false->lI (k b)=false:=by
  intro b hb
  cases hc:lI (k b)with
  | false=>rfl
  | true=>simp[snap,hc]at hb
 have on:∀(b:Nat) (wr:Bool),(((snap k w fE b).isSome=true/\lI (snap k w fE b)=false/\(wr=true->grown M w fE b))\/(fE.heap.size<=b/\b<hi))->((k b).isSome=true/\lI (k b)=false/\(wr=true->M b))\/(w.heap.size<=b/\b<hi):=by
  rintro b wr (⟨h1,h2,h3⟩ | h1')
  ·rcases key b h1 with h4 | h4
   ·by_cases h5:w.heap.size<=b/\b<fE.heap.size
    ·exact .inr ⟨h5.1,aj⟩
    exact .inl ⟨h4,avT b h2,fun e=>(h3 e).resolve_right fun h=>h5 h⟩
   exact .inr h4
  exact .inr aj
 unfold Jd at h⊢;split at h
 ·refine⟨h.1,?_⟩;rcases h.2 with h2 | h2 | ⟨h2,h3,c,po,h4,h5⟩
  ·exact(on _ _ (.inl h2)).imp id .inl
  ·exact(on _ _ (.inr h2)).imp id .inl
  rename_i a _;by_cases X6:lI (k a.block)=true
  ·refine .inr (.inr ⟨h2,h3,c,po,?_,h5⟩);rw[<-h4];simp[snap,X6]
  rcases key _ (by rw[h4];rfl)with h6 | h6
  ·exact .inl ⟨h6,by simpa using X6,fun e=>by rw[h2]at e;cases e⟩
  exact .inr (.inl h6)
 ·exact⟨h.1,on _ _ h.2⟩
 ·exact h
 exact h.elim

theorem iR.trans{w:World}(h1:iR k M w fE es)(h2:iR (snap k w fE) (grown M w fE) fE mJ LM):iR k M w mJ (es++LM) where
 size:=Nat.le_trans h1.size h2.size
 keep:=fun b hb hm=>by
  have:=h1.size;rw[h2.keep b aj (by rintro(h | h);exact hm h;omega),h1.keep b hb hm]
 lJ:=fun b o h c=>h2.lJ b o (h1.lJ b o h c) c
 news:=fun b o hb ho hc=>by
  by_cases h:fE.heap.size<=b
  ·exact h2.news b o h ho hc
  obtain⟨Om,e⟩:=iJ.1 (show(fE.heap[b]?).isSome=true by simp;omega)
  cases ahQ:Om.isChan with
  | true=>
   have:=h2.lJ b Om e ahQ;rw[this]at ho;cases ho;exact h1.news b _ hb e ahQ
  | false=>rw[h2.stay b Om o e ahQ ho]at hc;cases hc
 stay:=fun b o o' ho hc mM=>by
  have fK:b<w.heap.size:=by
   rcases bQ b w.heap.size with h | h
   ·exact h
   rw[Array.getElem?_eq_none h]at ho;cases ho
  have:=h1.size;obtain⟨Om,e⟩:=iJ.1 (show(fE.heap[b]?).isSome=true by simp;omega);exact h2.stay b Om o' e (h1.stay b o Om ho hc e) mM
 JF:=fun b o hb ho=>by
  have e:snap k w fE b=some o:=by simp[snap,hb,lI,eP ho]
  rw[h2.JF b o e ho,h1.JF b o hb ho]
 os:=h2.os.trans h1.os
 output:=h2.output.trans h1.output
 tape:=h2.tape.trans h1.tape
 jv:=fun e he=>by
  rcases Array.mem_append.1 he with he | he
  ·exact(h1.jv e he).up h2.size
  exact(h2.jv e he).trans h1.size h2.size

theorem ahR{w:World}(hk:k b=some o)(h:o.isChan=true\/w'.heap[b]? =some o):snap k w w' b=some o:=by
 cases hc:o.isChan with
 | true=>simp[snap,hk,lI,hc]
 | false=>
  rcases h with h | h
  ·rw[hc]at h;cases h
  simp[snap,hk,lI,hc,h]
theorem vH{w:World}(hk:k b=some o)(ha:yP k w)(h:w'.heap[b]? =w.heap[b]?):snap k w w' b=some o:=by
 refine ahR hk ?_
 cases hc:o.isChan with
 | true=>exact .inl rfl
 | false=>exact .inr (by rw[h];exact ha.get hk hc)
theorem yP.lt{w:World}(ha:yP k w)(hk:k b=some o):b<w.heap.size:=by
 obtain⟨o',h,_⟩:=ha b o hk;rcases bQ b w.heap.size with h' | h'
 ·exact h'
 rw[Array.getElem?_eq_none h']at h;cases h

theorem nT{w:World}(h:w.heap[b]? =some o):b<w.heap.size:=by
 rcases bQ b w.heap.size with h' | h'
 ·exact h'
 rw[Array.getElem?_eq_none h']at h;cases h

theorem Sat.look(S:Sat h F k M)(H:LP h F b o):k b=some o:=H.elim (S.sub b o) (fun x=>(S.own b o x).1)

theorem Sat.turn{F1 F2:ah}{w:World}(S:Sat h (F1++(b,o)::F2) k M)(hk:yP k w)
  (Gv:o.isChan=false) (avU:o'.isChan=false) (hs:w'.heap.size=w.heap.size) (hb:w'.heap[b]? =some o') (ho:∀c,c≠b->w'.heap[c]? =w.heap[c]?):Sat h (F1++(b,o')::F2) (snap k w w') (grown M w w'):=by
 have vI:=S.own b o (by simp);have uX:=S.nodup;refine⟨fun c x hc=>?_,fun c x hc=>?_,by simpa using uX,fun c x hm hx mM=>?_,fun c hc=>?_⟩
 ·have X6:c≠b:=by rintro rfl;rw[vI.2.2]at hc;cases hc
  exact vH (S.sub c x hc) hk (ho c X6)
 ·have iK:∀y,(c,y)∈F1\/(c,y)∈F2->c≠b:=by
   rintro y hy rfl;simp only[List.map_append,dQ,List.nodup_append,List.nodup_cons]at uX;rcases hy with hy | hy
   ·exact uX.2.2 c (List.mem_map.2 ⟨_,hy,O⟩) c (by simp) O
   exact uX.2.1.1 (List.mem_map.2 ⟨_,hy,O⟩)
  have old:(c,x)∈F1\/(c,x)∈F2->snap k w w' c=some x/\grown M w w' c/\h c=none:=fun hy=>by
   have h1:=S.own c x (by rcases hy with hy | hy <;>simp[hy]);exact⟨vH h1.1 hk (ho c (iK x hy)),.inl h1.2.1,h1.2.2⟩
  rcases dh.1 hc with hc | hc
  ·exact old (.inl hc)
  rcases bU.1 hc with e | hc
  ·cases e
   refine⟨?_,.inl vI.2.1,vI.2.2⟩;simp[snap,vI.1,hb,lI,Gv]
  exact old (.inr hc)
 ·have Vf:M c:=by
   rcases hm with hm | hm
   ·exact hm
   omega
  by_cases X6:c=b
  ·subst X6;have:snap k w w' c=some o':=by simp[snap,vI.1,hb,lI,Gv]
   rw[this]at hx
   cases hx
   rw[Gu avU]at mM;cases mM
  
  have Jf:k c=some x:=by
   simp only[snap]at hx;split at hx
   ·exact hx
   rename_i hnc;have fK:¬(w.heap.size<=c/\c<w'.heap.size):=by omega
   split at hx
   ·rw[ho c X6]at hx
    cases fA:k c with
    | none=>
     have h1:(decide (w.heap.size<=c)&&decide (c<w'.heap.size))=false:=by
      cases Aq:(decide (w.heap.size<=c)&&decide (c<w'.heap.size))with
      | false=>rfl
      | true=>exact absurd (by simpa using Aq) fK
     simp_all
    | some y=>
     have hyc:y.isChan=false:=by
      cases hy:y.isChan with
      | false=>rfl
      | true=>exact absurd (by simp[fA,lI,hy]) hnc
     rw[hk.get fA hyc]at hx;exact hx
   cases hx
  rcases S.all c x Vf Jf mM with h1 | h1
  ·left;rcases dh.1 h1 with h1 | h1
   ·exact jm _ h1
   rcases bU.1 h1 with e | h1
   ·cases e;exact absurd rfl X6
   exact bZ _ (dH _ h1)
  exact .inr h1
 have h1:=S.Je c hc;obtain⟨x,hx⟩:=iJ.1 h1.2;have fK:=hk.lt hx;refine⟨?_,?_⟩
 ·rintro(hm | hm)
  ·exact h1.1 hm
  omega
 have X6:c≠b:=by rintro rfl;exact h1.1 vI.2.1
 rw[vH hx hk (ho c X6)];rfl

theorem Sat.grow{w:World}{o:Obj}(S:Sat h F k M)(hk:yP k w):
  Sat h ((w.heap.size,o)::F) (snap k w {w with heap:=w.heap.push o}) (grown M w {w with heap:=w.heap.push o})/\h w.heap.size=none/\∀o',(w.heap.size,o')∉F:=by
 have h1:∀c x,k c=some x->({w with heap:=w.heap.push o}:World).heap[c]? =w.heap[c]? :=fun c x hc=>by
  have fK:=hk.lt hc;simp only[Array.getElem?_push,Nat.ne_of_lt fK,if_false]
 have h2:h w.heap.size=none:=by
  cases hh:h w.heap.size with
  | none=>rfl
  | some x=>exact absurd (hk.lt (S.sub _ _ hh)) aj
 have h3:∀o',(w.heap.size,o')∉F:=fun o' hm=>absurd (hk.lt (S.own _ _ hm).1) aj
 have hkn:k w.heap.size=none:=by
  cases hh:k w.heap.size with
  | none=>rfl
  | some x=>exact absurd (hk.lt hh) aj
 refine⟨⟨fun c x hc=>vH (S.sub c x hc) hk (h1 c x (S.sub c x hc)),fun c x hc=>?_,?_,fun c x hm hx ho=>?_,fun c hc=>?_⟩,h2,h3⟩
 ·rcases bU.1 hc with e | hc
  ·cases e
   have hkn:k w.heap.size=none:=by
    cases hh:k w.heap.size with
    | none=>rfl
    | some x=>exact absurd (hk.lt hh) aj
   exact⟨by simp[snap,hkn,lI],.inr ⟨Nat.le_refl _,by simp⟩,h2⟩
  have:=S.own c x hc;exact⟨vH this.1 hk (h1 c x this.1),.inl this.2.1,this.2.2⟩
 ·simp only[dQ,List.nodup_cons];refine⟨fun hm=>?_,S.nodup⟩;obtain⟨⟨c,x⟩,hx,hc⟩:=List.mem_map.1 hm;simp only at hc;subst hc;exact h3 x hx
 ·by_cases X6:c=w.heap.size
  ·subst X6;have:snap k w {w with heap:=w.heap.push o} w.heap.size=some o:=by simp[snap,hkn,lI]
   rw[this]at hx
   cases hx
   exact .inl (bT ..)
  have Vf:M c:=by
   rcases hm with hm | hm
   ·exact hm
   simp at hm;omega
  have Jf:k c=some x:=by
   cases fA:k c with
   | none=>
    have h1:(decide (w.heap.size<=c)&&decide (c<(w.heap.push o).size))=false:=by
     cases Aq:(decide (w.heap.size<=c)&&decide (c<(w.heap.push o).size))with
     | false=>rfl
     | true=>simp at Aq;omega
    simp[snap,fA,lI]at hx;omega
   | some y=>
    have:=vH (w':={w with heap:=w.heap.push o}) fA hk (h1 c y fA);rw[this]at hx;exact hx
  rcases S.all c x Vf Jf ho with h1 | h1
  ·exact .inl (dH _ h1)
  exact .inr h1
 have e1:=S.Je c hc;obtain⟨x,hx⟩:=iJ.1 e1.2;have fK:=hk.lt hx;refine⟨?_,?_⟩
 ·rintro(hm | hm)
  ·exact e1.1 hm
  omega
 rw[vH hx hk (h1 c x hx)];rfl

theorem Cj{w:World}(hk:yP k w)(hM:∀b,M b->(k b).isSome=true)(hs:w.heap.size<=w'.heap.size):∀b,grown M w w' b->(snap k w w' b).isSome=true:=by
 intro b hb
 have:b<w'.heap.size:=by
  rcases hb with hb | hb
  ·obtain⟨o,ho⟩:=iJ.1 (hM b hb);have:=hk.lt ho;omega
  exact hb.2
 have h3:(w'.heap[b]?).isSome=true:=by simp;omega
 simp only[snap];split
 ·rename_i hc
  cases fA:k b with
  | none=>rw[fA]at hc;cases hc
  | some o=>rfl
 rcases hb with hb | hb
 ·simp[hM b hb,h3]
 simp[hb.1,hb.2,h3]

theorem oh{P:Program}{h:Hp}(s:Sem α):∀{F:ah} {Q:α->ah->Prop} {k:Hp} {M:Nat->Prop} {w:World} (kE:Array Event),
  tr P h s F Q->Sat h F k M->yP k w->(∀b,M b->(k b).isSome=true)->
  ∃a F' w' es,s.runT P w kE=(.ok a w',kE++es)/\iR k M w w' es/\Sat h F' (snap k w w') (grown M w w')/\Fr M F (grown M w w') F'/\Q a F':=by
 
 have still:∀{β:Type} {F:ah} {Q:β->ah->Prop} {k:Hp} {M:Nat->Prop} {w:World} {kE:Array Event} {s:Sem β} {e:Event},(∀hi,Jd k M w.heap.size hi e)->
   (∃a F' w' es,s.runT P w (kE.push e)=(.ok a w',kE.push e++es)/\iR k M w w' es/\Sat h F' (snap k w w') (grown M w w')/\Fr M F (grown M w w') F'/\Q a F')->
   ∃a F' w' es,s.runT P w (kE.push e)=(.ok a w',kE++es)/\iR k M w w' es/\Sat h F' (snap k w w') (grown M w w')/\Fr M F (grown M w w') F'/\Q a F':=by
  intro β F Q k M w kE s e he ⟨a,F',w',es,h1,h2,h3,h5,h4⟩;refine⟨a,F',w', #[e]++es,by rw[h1,Array.push_eq_append,Array.append_assoc],⟨h2.size,h2.keep,h2.lJ,h2.news,h2.stay,h2.JF,h2.os,h2.output,h2.tape,fun x hx=>?_⟩,h3,h5,h4⟩;rcases Array.mem_append.1 hx with hx | hx
  ·obtain rfl:x=e:=by simpa using hx
   exact he _
  exact h2.jv x hx
 
 have on:∀{β:Type} {F vG:ah} {Q:β->ah->Prop} {k:Hp} {M:Nat->Prop} {w fE:World} {kE RD:Array Event} {s:Sem β},yP k w->iR k M w fE RD->Fr M F (grown M w fE) vG->
   (∃a F' w' es,s.runT P fE (kE++RD)=(.ok a w',kE++RD++es)/\iR (snap k w fE) (grown M w fE) fE w' es/\Sat h F' (snap (snap k w fE) fE w') (grown (grown M w fE) fE w')/\Fr (grown M w fE) vG (grown (grown M w fE) fE w') F'/\Q a F')->
   ∃a F' w' es,s.runT P fE (kE++RD)=(.ok a w',kE++es)/\iR k M w w' es/\Sat h F' (snap k w w') (grown M w w')/\Fr M F (grown M w w') F'/\Q a F':=by
  intro β F vG Q k M w fE kE RD s hk g f ⟨a,F',w',es,h1,h2,h3,h5,h4⟩;rw[WB hk g.size h2.size h2.lJ,Gx g.size h2.size]at h3;rw[Gx g.size h2.size]at h5;exact⟨a,F',w',RD++es,by rw[h1,Array.append_assoc],g.trans h2,h3,f.trans h5,h4⟩
 induction s with
 | pure a=>exact fun{F Q k M w} kE H S hk hM=>⟨a,F,w, #[],by simp[Sem.runT],.refl,by rw[vF hk,rG];exact S,by rw[rG];exact .refl,H⟩
 | load m a c ih=>
  intro F Q k M w kE ⟨h1,h2,v,h3,h5⟩ S hk hM;subst h1;rcases h3 with⟨cs,e,fz,h3,h4⟩ | ⟨cs,po,h3,h4,h6⟩
  ·have hc:w.cell? a=some v:=by
    unfold World.cell?;rw[hk.get (S.look h3) O];simp[h2,h4]
   simp only[Sem.runT,hc];refine still (F:=F) ?_ (ih v _ h5 S hk hM);exact fun _=>⟨O,.inl ⟨by simp[S.look h3],by simp[S.look h3,lI,Obj.isChan],by simp⟩⟩
  have hkv:=S.look h3
  have hc:w.cell? a=some v:=by
   obtain⟨o',e1,_,e2⟩:=hk _ _ hkv;obtain⟨c',e,fz,rfl,e3⟩:=e2 cs po rfl;unfold World.cell?;rw[e1];simp[h2,e3 _ (Array.getElem?_eq_some_iff.1 h6).1 h4,h6]
  simp only[Sem.runT,hc];refine still (F:=F) ?_ (ih v _ h5 S hk hM);exact fun _=>⟨O,.inr (.inr ⟨O,h2,cs,po,hkv,(Array.getElem?_eq_some_iff.1 h6).1,h4⟩)⟩
 | store m a v c ih=>
  intro F Q k M w kE ⟨h1,h2,h3,cs,e,lo,hi,F1,F2,h4,h5,h6,h7⟩ S hk hM;subst h1 h4;have vI:=S.own a.block _ (bZ _ (bT ..));have hw:=hk.get vI.1 O
  have hc:w.cell? a=some cs[a.off]:=by
   unfold World.cell?;rw[hw];simp[h2,h5]
  have hf:w.frozen? a=false:=by
   unfold World.frozen?;rw[hw];exact h6
  have fK:=nT hw;have hnc:(Obj.cells cs e (lo,hi)).isChan=false:=rfl;have aoJ:(Obj.cells (cs.setIfInBounds a.off v) e (lo,hi)).isChan=false:=rfl;have oH:(w.setCell a v).heap.size=w.heap.size:=by simp[World.setCell]
  have nN:(w.setCell a v).heap[a.block]? =some (.cells (cs.setIfInBounds a.off v) e (lo,hi)):=by
   simp[World.setCell,Array.getElem?_modify,hw,h2]
  have RG:∀b,b≠a.block->(w.setCell a v).heap[b]? =w.heap[b]? :=fun b hb=>by
   simp[World.setCell,Array.getElem?_modify,Ne.symm hb]
  have g:iR k M w (w.setCell a v) #[⟨.cell a,true,false⟩]:=
   ⟨by rw[oH];exact Nat.le_refl _,fun b _ hb=>RG b (by rintro rfl;exact hb vI.2.1),fun b o ho hc=>by rw[RG b (by rintro rfl;rw[hw]at ho;cases ho;cases hc)];exact ho,fun b o hb ho _=>(by rw[Array.getElem?_eq_none (by rw[oH];exact hb)]at ho;cases ho),fun b o o' ho hc mM=>(by
    by_cases hba:b=a.block
    ·subst hba;rw[nN]at mM;cases mM;rfl
    ·rw[RG b hba,ho]at mM;cases mM;exact hc),(fun b o ho hfk=>RG b (by rintro rfl;rw[vI.1]at ho;cases ho;cases hfk)),rfl,rfl,rfl,fun x hx=>by
    obtain rfl:x=⟨.cell a,true,false⟩:=by simpa using hx
    exact⟨O,.inl ⟨by simp[vI.1],by simp[vI.1,lI,Obj.isChan],fun _=>vI.2.1⟩⟩⟩
  have run:(Sem.store Mode.plain a v c).runT P w kE=c.runT P (w.setCell a v) (kE++ #[⟨.cell a,true,false⟩]):=by
   have e1:(Mode.plain==Mode.atomic)=false:=rfl
   cases v <;>first | (cases h3;done) | simp[Sem.runT,hc,hf,e1]
  rw[run];exact on hk g (Fr.turn _ _ _ _ _ fun b h=>.inl h) (ih _ h7 (S.turn hk hnc aoJ oH nN RG) (wL hk g) (Cj hk hM g.size))
 | new o c ih=>
  intro F Q k M w kE H S hk hM;obtain⟨S',h1,h2⟩:=S.grow (o:=o) hk
  have g:iR k M w {w with heap:=w.heap.push o} #[]:=⟨by simp,fun b hb _=>by simp[Array.getElem?_push,Nat.ne_of_lt hb],fun b o ho _=>by simp[Array.getElem?_push,Nat.ne_of_lt (nT ho),ho],fun b o' hb mM hc=>(by
   rw[Array.getElem?_push]at mM;split at mM
   ·cases mM;exact H.1 hc
   ·rw[Array.getElem?_eq_none hb]at mM;cases mM),fun b Om ak8 ho hc mM=>(by
   simp only[Array.getElem?_push,Nat.ne_of_lt (nT ho),if_false,ho]at mM
   cases mM;exact hc),(fun b o' mM _=>by simp[Array.getElem?_push,Nat.ne_of_lt (hk.lt mM)]),rfl,rfl,rfl,fun x hx=>by simp at hx⟩
  have run:(Sem.new o c).runT P w kE=(c w.heap.size).runT P {w with heap:=w.heap.push o} (kE++ #[]):=by simp[Sem.runT]
  rw[run];refine on hk g (fun b hb hF=>⟨.inl hb,fun o' mM=>?_⟩) (ih _ _ (H.2 _ h1 h2) S' (wL hk g) (Cj hk hM g.size));rcases bU.1 mM with e | mM
  ·cases e
   obtain⟨x,hx⟩:=iJ.1 (hM _ hb);exact absurd (hk.lt hx) aj
  exact hF o' mM
 | shape r c ih=>exact fun _ H=>H.elim
 | freeze a n c ih=>exact fun _ H=>H.elim
 | frozen a c ih=>exact fun _ H=>H.elim
 | getObj r c ih=>
  intro F Q k M w kE ⟨o,h1,h2,h3,h4⟩ S hk hM;have hw:=hk.get (S.look h1) h3
  have run:(Sem.getObj r c).runT P w kE=(c o).runT P w (kE.push ⟨.obj r,false,o.isChan⟩):=by
   simp only[Sem.runT,hw]
  rw[run];exact still (F:=F) (fun _=>⟨h3,.inl ⟨by simp[S.look h1],by simp[S.look h1,lI,h3],by simp⟩⟩) (ih o _ h4 S hk hM)
 | setObj r o c ih=>
  intro F Q k M w kE ⟨X5,F1,F2,h1,h2,h3,h4⟩ S hk hM;subst h1;have vI:=S.own r _ (bZ _ (bT ..));rw[Bool.or_eq_false_iff]at h3;obtain⟨hnc,h3⟩:=h3;have aoJ:=h3;have hw:=hk.get vI.1 hnc;have fK:=nT hw;have oH:({w with heap:=w.heap.setIfInBounds r o}:World).heap.size=w.heap.size:=by simp
  have nN:({w with heap:=w.heap.setIfInBounds r o}:World).heap[r]? =some o:=by simp[fK]
  have RG:∀b,b≠r->({w with heap:=w.heap.setIfInBounds r o}:World).heap[b]? =w.heap[b]? :=fun b hb=>by simp[Ne.symm hb]
  have g:iR k M w {w with heap:=w.heap.setIfInBounds r o} #[⟨.obj r,true,o.isChan⟩]:=
   ⟨by rw[oH];exact Nat.le_refl _,fun b _ hb=>RG b (by rintro rfl;exact hb vI.2.1),fun b o ho hc=>by rw[RG b (by rintro rfl;rw[hw]at ho;cases ho;rw[hnc]at hc;cases hc)];exact ho,fun b o' hb ho _=>(by rw[Array.getElem?_eq_none (by rw[oH];exact hb)]at ho;cases ho),fun b Om ak8 ho hc mM=>(by
    by_cases hba:b=r
    ·subst hba;rw[nN]at mM;cases mM;exact h3
    ·rw[RG b hba,ho]at mM;cases mM;exact hc),(fun b o' mM hfk=>RG b (by rintro rfl;rw[vI.1]at mM;cases mM;rw[eP hfk]at hnc;cases hnc)),rfl,rfl,rfl,fun x hx=>by
    obtain rfl:x=⟨.obj r,true,o.isChan⟩:=by simpa using hx
    exact⟨h3,.inl ⟨by simp[vI.1],by simp[vI.1,lI,hnc],fun _=>vI.2.1⟩⟩⟩
  have run:(Sem.setObj r o c).runT P w kE=c.runT P {w with heap:=w.heap.setIfInBounds r o} (kE++ #[⟨.obj r,true,o.isChan⟩]):=by
   simp only[Sem.runT,hw]
   cases X5 <;>first | exact absurd rfl (h2 _ _ _) | simp
  rw[run];exact on hk g (Fr.turn _ _ _ _ _ fun b h=>.inl h) (ih _ h4 (S.turn hk hnc aoJ oH nN RG) (wL hk g) (Cj hk hM g.size))
 | choose q c ih=>
  intro F Q k M w kE H S hk hM;simp only[tr]at H;simp only[Sem.runT];split
  ·rename_i hf;simp only[hf,if_true]at H;exact ih _ _ H S hk hM
  rename_i hf;simp only[hf]at H;have H':=H (q.cut (w.tape w.drawn q)) ⟨_,O⟩;have e1:snap k w {w with drawn:=w.drawn+1}=k:=vF hk;have e2:grown M w {w with drawn:=w.drawn+1}=M:=rG;have g:iR k M w {w with drawn:=w.drawn+1} #[]:=iR.heap rfl rfl rfl rfl;have:=on (F:=F) (vG:=F) (kE:=kE) hk g (by rw[e2];exact .refl) (ih _ _ H' (by rw[e1,e2];exact S) (wL hk g) (Cj hk hM g.size));simpa using this
 | sys c f ih=>exact fun _ H=>H.elim
 | program c ih=>
  intro F Q k M w kE H S hk hM;simp only[Sem.runT];exact ih _ _ H S hk hM
 | mark m c ih=>
  intro F Q k M w kE ⟨h1,h2⟩ S hk hM;simp only[Sem.runT];exact still (F:=F) (fun _=>h1) (ih _ h2 S hk hM)
 | halt x=>exact fun _ H=>H.elim

abbrev Env:=List (Nat×Value)
def look:Env->Nat->Option Value
 | [],_=>none
 | (t,v)::r,s=>bif Nat.beq s t then some v else look r s
def jf(ρ:Env)(tmps:Array Value):Prop:=∀t v,look ρ t=some v->tmps[t]? =some v
def Sub:Env->Env->Prop
 | [],_=>True
 | (t,v)::r,ρ=>look ρ t=some v/\Sub r ρ

theorem Sub.look{ρ:Env}:∀{gW:Env},Sub gW ρ->∀t v,look gW t=some v->look ρ t=some v
 | [],_,t,v,h=>by cases h
 | (s,x)::r,⟨h1,h2⟩,t,v,h=>by
  unfold jc.look at h
  cases e:Nat.beq t s with
  | true=>rw[e]at h;simp only[cond_true,dY]at h;subst h;rw[Nat.eq_of_beq_eq_true e];exact h1
  | false=>rw[e]at h;exact Sub.look h2 t v h

variable{ρ:Env}
theorem jf.sub{gW:Env}(h:jf ρ tmps)(s:Sub gW ρ):jf gW tmps:=fun t v x=>h t v (s.look t v x)

theorem jf.put(h:jf ρ tmps){d:Nat}(hd:d<tmps.size)(v:Value):jf ((d,v)::ρ) (tmps.setIfInBounds d v):=by
 intro t x ht;unfold look at ht
 cases e:Nat.beq t d with
 | true=>
  rw[e]at ht;simp only[cond_true,dY]at ht;subst ht;rw[Nat.eq_of_beq_eq_true e];simp[hd]
 | false=>
  rw[e]at ht;have iK:t≠d:=fun e'=>by rw[e',Nat.beq_refl]at e;cases e
  simp only[cond_false]at ht;rw[Array.getElem?_setIfInBounds];simp only[Ne.symm iK,if_false];exact h t x ht

def ev(ρ:Env):Operand->Option Value
 | .tmp t=>look ρ t
 | .const v=>some v
 | .global g=>some (.pointer (some ⟨g,0,none⟩))
 | .func f=>some (.func (.func f) #[] #[])

theorem jf.ev(h:jf ρ tmps){x:Operand}(hx:ev ρ x=some v){b:Frame}{ds:List Deferred}{k:List Item}:(dR b tmps ds k).eval x=v:=by
 cases x with
 | tmp t=>simp[Frame.eval,dR,h t v hx]
 | const c=>simpa[jc.ev,Frame.eval]using hx
 | global g=>simpa[jc.ev,Frame.eval]using hx
 | func f=>simpa[jc.ev,Frame.eval]using hx

structure aN where
 b:Bool
 ok:(Goroutine->Hp->(Nat->Prop)->Prop)->Prop

def qA(k:Hp)(M' M:Nat->Prop):Prop:=(∀b,M' b->M b)/\∀b o,M b->¬M' b->k b=some o->opn o=false
def Gy(S:Goroutine->Hp->(Nat->Prop)->Prop):Prop:=∀g k M M',qA k M' M->S g k M'->S g k M
def JG(s:aN):={S:Goroutine->Hp->(Nat->Prop)->Prop // s.ok S/\Gy S}
abbrev Gs(P:Program)(s:aN)(Stop:JG s)(g:Goroutine)(hk:Hp)(M:Nat->Prop):Prop:=J4 P s.b Stop.1 g hk M

structure Cx where
 P:Program
 main:aN
 fn:FuncId
 n:Nat
 ro:Option Nat
 h:Hp

def KOK(b:Frame)(cs:List Frame):Prop:=b.kind≠ .early/\∀fr:Frame,fr.kind=b.kind->tryRecover fr cs=none
theorem KOK.normal{b:Frame}(h:b.kind= .normal):KOK b cs:=⟨by rw[h];simp,fun fr e=>by unfold tryRecover;rw[e,h]⟩
theorem KOK.deferred{b c:Frame}(h:b.kind= .deferred)(hc:c.mode= .returning\/c.mode= .panicking [goexitEntry]):KOK b (c::cs):=⟨by rw[h];simp,fun fr e=>by
 unfold tryRecover;rw[e,h];rcases hc with hc | hc <;>simp only[hc,goexitEntry]⟩
def After(P:Program)(main:aN)(Stop:JG main)(b:Frame)(k:List Item)(cs:List Frame)(e:Exit)(tmps:Array Value)(ds:List Deferred)(hk:Hp)(M:Nat->Prop):Prop:=
 match e with
 | .normal=>Gs P main Stop (G (dR b tmps ds k) cs) hk M
 | .exit id=>(∃k',exitTo id k=some k'/\Gs P main Stop (G (dR b tmps ds k') cs) hk M)\/(exitTo id k=none/\∀k',exitTo id k'=none->Stp P main.b (Gs P main Stop) (G (dR b tmps ds (.code (.exit id)::k')) cs) hk M)
 | .goto l=>(∃k',gotoIn l k=some k'/\Gs P main Stop (G (dR b tmps ds k') cs) hk M)\/(gotoIn l k=none/\∀k',gotoIn l k'=none->Stp P main.b (Gs P main Stop) (G (dR b tmps ds (.code (.goto l)::k')) cs) hk M)
 | .ret=>∀k',Stp P main.b (Gs P main Stop) (G (dR b tmps ds (.code .ret::k')) cs) hk M
 | _=>False

abbrev fO:=Exit->Env->List Deferred->ah->Prop

def W(x:Cx)(c:Code)(Q:fO)(ρ:Env)(ds:List Deferred)(F:ah):Prop:=
 ∀(b:Frame) (k:List Item) (cs:List Frame) (Stop:JG x.main) (tmps:Array Value) (hk:Hp) (M:Nat->Prop),b.fn=x.fn->b.roundOf=x.ro->KOK b cs->jf ρ tmps->tmps.size=x.n->Sat x.h F hk M->
  (∀e gW iT F' bC fA M',Q e gW iT F'->jf gW bC->bC.size=x.n->Sat x.h F' fA M'->Fr M F M' F'->After x.P x.main Stop b k cs e bC iT fA M')->
  Gs x.P x.main Stop (G (dR b tmps ds (.code c::k)) cs) hk M

def aA(x:Cx)(ops:Array Oper)(todo:List Nat)(Q:fO)(ρ:Env)(ds:List Deferred)(F:ah):Prop:=
 ∀(b:Frame) (k:List Item) (cs:List Frame) (Stop:JG x.main) (tmps:Array Value) (hk:Hp) (M:Nat->Prop),b.fn=x.fn->b.roundOf=x.ro->KOK b cs->jf ρ tmps->tmps.size=x.n->Sat x.h F hk M->
  (∀e gW iT F' bC fA M',Q e gW iT F'->jf gW bC->bC.size=x.n->Sat x.h F' fA M'->Fr M F M' F'->After x.P x.main Stop b k cs e bC iT fA M')->
  Gs x.P x.main Stop (G (dR b tmps ds (.inRegion ops todo::k)) cs) hk M

section rules
variable{x:Cx}{Q Q':fO}{ρ gW:Env}{ds:List Deferred}{F F':ah}
theorem W.mono(H:W x c Q ρ ds F)(hq:∀e ρ ds F,Q e ρ ds F->Q' e ρ ds F):W x c Q' ρ ds F:=
 fun b k cs Stop tmps hk M h1 h0 h2 h3 h4 h5 hc=>H b k cs Stop tmps hk M h1 h0 h2 h3 h4 h5 fun e gW iT F' bC fA M' q=>hc e gW iT F' bC fA M' (hq _ _ _ _ q)

theorem aA.mono{ops:Array Oper}(H:aA x ops todo Q ρ ds F)(hq:∀e ρ ds F,Q e ρ ds F->Q' e ρ ds F):aA x ops todo Q' ρ ds F:=
 fun b k cs Stop tmps hk M h1 h0 h2 h3 h4 h5 hc=>H b k cs Stop tmps hk M h1 h0 h2 h3 h4 h5 fun e gW iT F' bC fA M' q=>hc e gW iT F' bC fA M' (hq _ _ _ _ q)

theorem W.env(s:Sub gW ρ)(H:W x c Q gW ds F):W x c Q ρ ds F:=
 fun b k cs Stop tmps hk M h1 h0 h2 h3 h4 h5 hc=>H b k cs Stop tmps hk M h1 h0 h2 (h3.sub s) h4 h5 hc

theorem Sat.perm(S:Sat h F k M)(s:F'.Perm F):Sat h F' k M:=
 ⟨S.sub,fun b o x=>S.own b o (s.subset x),((s.map _).nodup_iff).2 S.nodup,fun b o h1 h2 h3=>(S.all b o h1 h2 h3).imp (fun h=>s.symm.subset h) id,S.Je⟩

theorem Fr.sub{F F' G:ah}(s:∀x,x∈F'->x∈F)(f:Fr M F' M' G):Fr M F M' G:=fun b hb hF=>f b hb fun o ho=>hF o (s _ ho)

def eH(A:ah):Prop:=∀p∈A,opn p.2=false
theorem eH.app(h:eH A)(h':eH B):eH (A++B):=fun p hp=>(dh.1 hp).elim (h p) (h' p)
theorem eH.nil:eH []:=fun p hp=>by cases hp
theorem eH.cons(h:opn y.2=false)(h':eH A):eH (y::A):=fun p hp=>by
 rcases bU.1 hp with rfl | hp
 ·exact h
 exact h' p hp

def Sb(B A:ah):Prop:=∃C,(B++C).Perm A/\eH C
theorem Sb.refl:Sb A A:=⟨[],by simp,.nil⟩
theorem Sb.aT(p:B.Perm A):Sb B A:=⟨[],by simpa using p,.nil⟩
theorem Sb.trans{C:ah}(h:Sb A B)(h':Sb B C):Sb A C:=by
 obtain⟨X,p,x⟩:=h;obtain⟨Y,q,y⟩:=h';exact⟨X++Y,by rw[<-eF];exact(p.append_right Y).trans q,x.app y⟩
theorem Sb.right{C:ah}(h:Sb A B)(hc:eH C):Sb A (B++C):=h.trans ⟨C,.refl _,hc⟩
theorem Sb.left{C:ah}(h:Sb A B)(hc:eH C):Sb A (C++B):=h.trans ⟨C,dK,hc⟩
theorem Sb.skip(hy:opn y.2=false)(h:Sb A B):Sb A (y::B):=h.left (C:=[y]) (.cons hy .nil)
theorem Sb.cons(h:Sb A B):Sb (y::A) (y::B):=by
 obtain⟨X,p,x⟩:=h;exact⟨X,p.cons y,x⟩
theorem Sb.app{C D:ah}(h:Sb A B)(h':Sb C D):Sb (A++C) (B++D):=by
 obtain⟨X,p,x⟩:=h;obtain⟨Y,q,y⟩:=h';refine⟨X++Y,?_,x.app y⟩
 have e:(A++C++(X++Y)).Perm (A++X++(C++Y)):=by
  rw[eF,eF];refine List.Perm.append_left A ?_;rw[<-eF,<-eF];exact dK.append_right Y
 exact e.trans (p.append q)
theorem Sb.nil(h:eH A):Sb [] A:=⟨A,by simp,h⟩
theorem Sb.shut(h:Sb [] A):eH A:=by
 obtain⟨C,p,x⟩:=h;exact fun y hy=>x y (by simpa using p.symm.subset hy)
theorem Sb.mem(h:Sb A B):∀x∈A,x∈B:=by
 obtain⟨C,p,_⟩:=h;exact fun x hx=>p.subset (jm _ hx)
theorem Sat.sb(S:Sat h B k M)(s:Sb A B):Sat h A k M:=by
 obtain⟨C,p,hC⟩:=s;have S':=S.perm p;refine⟨S'.sub,fun b o x=>S'.own b o (jm _ x),(((List.sublist_append_left A C).map _).nodup S'.nodup),fun b o h1 h2 h3=>?_,S'.Je⟩;rcases S'.all b o h1 h2 h3 with h4 | h4
 ·rcases dh.1 h4 with h4 | h4
  ·exact .inl h4
  have:=hC _ h4;rw[h3]at this;cases this
 exact .inr h4
theorem Fr.sb{F:ah}(f:Fr M F M' B)(s:Sb A B):Fr M F M' A:=fun b hb hF=>let⟨x,y⟩:=f b hb hF;⟨x,fun o ho=>y o (s.mem _ ho)⟩
theorem W.sb(s:Sb F' F)(H:W x c Q ρ ds F'):W x c Q ρ ds F:=
 fun b k cs Stop tmps hk M h1 h0 h2 h3 h4 h5 hc=>H b k cs Stop tmps hk M h1 h0 h2 h3 h4 (h5.sb s) fun e gW iT G bC fA M' q a1 a2 a3 a4=>hc e gW iT G bC fA M' q a1 a2 a3 (a4.sub fun _ y=>s.mem _ y)
theorem aA.sb{ops:Array Oper}(s:Sb F' F)(H:aA x ops todo Q ρ ds F'):aA x ops todo Q ρ ds F:=
 fun b k cs Stop tmps hk M h1 h0 h2 h3 h4 h5 hc=>H b k cs Stop tmps hk M h1 h0 h2 h3 h4 (h5.sb s) fun e gW iT G bC fA M' q a1 a2 a3 a4=>hc e gW iT G bC fA M' q a1 a2 a3 (a4.sub fun _ y=>s.mem _ y)
theorem W.perm(s:F'.Perm F)(H:W x c Q ρ ds F'):W x c Q ρ ds F:=
 fun b k cs Stop tmps hk M h1 h0 h2 h3 h4 h5 hc=>H b k cs Stop tmps hk M h1 h0 h2 h3 h4 (h5.perm s) fun e gW iT G bC fA M' q a1 a2 a3 a4=>hc e gW iT G bC fA M' q a1 a2 a3 (a4.sub fun _ y=>s.subset y)
theorem aA.perm{ops:Array Oper}(s:F'.Perm F)(H:aA x ops todo Q ρ ds F'):aA x ops todo Q ρ ds F:=
 fun b k cs Stop tmps hk M h1 h0 h2 h3 h4 h5 hc=>H b k cs Stop tmps hk M h1 h0 h2 h3 h4 (h5.perm s) fun e gW iT G bC fA M' q a1 a2 a3 a4=>hc e gW iT G bC fA M' q a1 a2 a3 (a4.sub fun _ y=>s.subset y)

theorem W.skip(H:Q .normal ρ ds F):W x .skip Q ρ ds F:=
 fun b k cs Stop tmps hk M h1 h0 h2 h3 h4 h5 hc=>.idle O (fun _=>aef) (hc .normal ρ ds F tmps hk M H h3 h4 h5 .refl)
theorem W.label{l:Nat}(H:Q .normal ρ ds F):W x (.label l) Q ρ ds F:=
 fun b k cs Stop tmps hk M h1 h0 h2 h3 h4 h5 hc=>.idle O (fun _=>ZL) (hc .normal ρ ds F tmps hk M H h3 h4 h5 .refl)
theorem W.ret(H:Q .ret ρ ds F):W x .ret Q ρ ds F:=
 fun b k cs Stop tmps hk M h1 h0 h2 h3 h4 h5 hc=>.tY (hc .ret ρ ds F tmps hk M H h3 h4 h5 .refl k)
theorem W.exit(H:Q (.exit id) ρ ds F):W x (.exit id) Q ρ ds F:=
 fun b k cs Stop tmps hk M h1 h0 h2 h3 h4 h5 hc=>by
  rcases hc (.exit id) ρ ds F tmps hk M H h3 h4 h5 .refl with⟨k',e,g⟩ | ⟨e,g⟩
  ·exact .idle O (fun _=>aeh e) g
  exact .tY (g k e)
theorem W.goto{l:Nat}(H:Q (.goto l) ρ ds F):W x (.goto l) Q ρ ds F:=
 fun b k cs Stop tmps hk M h1 h0 h2 h3 h4 h5 hc=>by
  rcases hc (.goto l) ρ ds F tmps hk M H h3 h4 h5 .refl with⟨k',e,g⟩ | ⟨e,g⟩
  ·exact .idle O (fun _=>aei e) g
  exact .tY (g k e)

def thn(K:Env->List Deferred->ah->Prop)(Q:fO):fO:=fun e ρ ds F=>match e with | .normal=>K ρ ds F | e=>Q e ρ ds F

theorem After.push{main:aN}{Stop:JG main}{b:Frame}{x:Item}{k:List Item}{e:Exit}{ds:List Deferred}{hk:Hp}(hx:x.plain=true)(he:e≠ .normal)
  (H:After P main Stop b k cs e tmps ds hk M):After P main Stop b (x::k) cs e tmps ds hk M:=by
 cases e with
 | normal=>exact absurd rfl he
 | exit id=>
  have e1:exitTo id (x::k)=exitTo id k:=by cases x <;>simp_all[exitTo,Item.plain]
  simp only[After,e1]at H⊢;exact H
 | goto l=>
  have e1:gotoIn l (x::k)=gotoIn l k:=by cases x <;>simp_all[gotoIn,Item.plain]
  simp only[After,e1]at H⊢;exact H
 | ret=>exact H
 | panic ch=>exact H
 | outgrown=>exact H

theorem W.seq{y:Code}(H:W x y (thn (fun gW iT F'=>W x z Q gW iT F') Q) ρ ds F):W x (.seq y z) Q ρ ds F:=by
 intro b k cs Stop tmps hk M h1 h0 h2 h3 h4 h5 hc;refine .idle O (fun _=>X0) (H b (.code z::k) cs Stop tmps hk M h1 h0 h2 h3 h4 h5 fun e gW iT F' bC fA M' q a1 a2 a3 a4=>?_)
 cases e with
 | normal=>exact q b k cs Stop bC fA M' h1 h0 h2 a1 a2 a3 fun e Fa nO qK yE ou oV X7 c1 c2 c3 c4=>hc e Fa nO qK yE ou oV X7 c1 c2 c3 (a4.trans c4)
 | exit id=>exact(hc _ _ _ _ _ _ _ q a1 a2 a3 a4).push rfl (by simp)
 | goto l=>exact(hc _ _ _ _ _ _ _ q a1 a2 a3 a4).push rfl (by simp)
 | ret=>exact(hc _ _ _ _ _ _ _ q a1 a2 a3 a4).push (x:=.code z) rfl (by simp)
 | panic ch=>exact hc _ _ _ _ _ _ _ q a1 a2 a3 a4
 | outgrown=>exact hc _ _ _ _ _ _ _ q a1 a2 a3 a4

theorem W.cond{c:Operand}{y:Code}{v:Bool}(hv:ev ρ c=some (.bool v))(ht:v=true->W x y Q ρ ds F)(hf:v=false->W x z Q ρ ds F):W x (.cond c y z) Q ρ ds F:=by
 intro b k cs Stop tmps hk M h1 h0 h2 h3 h4 h5 hc;refine .idle O (fun _=>aeg (h3.ev hv)) ?_
 cases v with
 | true=>exact ht rfl b k cs Stop tmps hk M h1 h0 h2 h3 h4 h5 hc
 | false=>exact hf rfl b k cs Stop tmps hk M h1 h0 h2 h3 h4 h5 hc

theorem W.aJ{c:Operand}{y:Code}{p:Prop}[Decidable p](hv:ev ρ c=some (.bool (decide p)))(ht:p->W x y Q ρ ds F)(hf:¬p->W x z Q ρ ds F):W x (.cond c y z) Q ρ ds F:=
 W.cond hv (fun e=>ht (of_decide_eq_true e)) (fun e=>hf (of_decide_eq_false e))

def blk(id:Nat)(Q:fO):fO:=fun e ρ ds F=>match e with | .exit Oe=>bif Nat.beq Oe id then Q .normal ρ ds F else Q (.exit Oe) ρ ds F | e=>Q e ρ ds F

theorem W.block(H:W x c (blk id Q) ρ ds F):W x (.block id c) Q ρ ds F:=by
 intro b k cs Stop tmps hk M h1 h0 h2 h3 h4 h5 hc;refine .idle O (fun _=>ZM) (H b (.inBlock id::k) cs Stop tmps hk M h1 h0 h2 h3 h4 h5 fun e gW iT F' bC fA M' q a1 a2 a3 a4=>?_)
 cases e with
 | normal=>exact .idle rfl (fun _=>RF) (hc .normal _ _ _ _ _ _ q a1 a2 a3 a4)
 | exit Oe=>
  cases nU:Nat.beq Oe id with
  | true=>
   have e:Oe=id:=Nat.eq_of_beq_eq_true nU;simp only[blk,nU,cond_true]at q;exact .inl ⟨k,by simp[exitTo,e],hc .normal _ _ _ _ _ _ q a1 a2 a3 a4⟩
  | false=>
   simp only[blk,nU,cond_false]at q
   have e1:exitTo Oe (.inBlock id::k)=exitTo Oe k:=by
    have:id≠Oe:=fun e=>by subst e;rw[Nat.beq_refl]at nU;cases nU
    simp[exitTo,this]
   have:=hc (.exit Oe) _ _ _ _ _ _ q a1 a2 a3 a4;simp only[After,e1]at this⊢;exact this
 | goto l=>
  have e1:gotoIn l (.inBlock id::k)=gotoIn l k:=by simp[gotoIn]
  have:=hc (.goto l) _ _ _ _ _ _ q a1 a2 a3 a4;simp only[After,e1]at this⊢;exact this
 | ret=>exact hc .ret _ _ _ _ _ _ q a1 a2 a3 a4
 | panic ch=>exact hc (.panic ch) _ _ _ _ _ _ q a1 a2 a3 a4
 | outgrown=>exact hc .outgrown _ _ _ _ _ _ q a1 a2 a3 a4

theorem W.loop{σ:Type}(C:σ->Prop)(E:σ->Env)(D:σ->ah)(μ:σ->Nat)(l7:σ)(X8:C l7)(he:Sub (E l7) ρ)(hF:Sb (D l7) F)
  (round:∀s,C s->W x c (thn (fun gW iT F'=>iT=ds/\∃s',C s'/\μ s'<μ s/\Sub (E s') gW/\Sb (D s') F') Q) (E s) ds (D s)):W x (.loop c) Q ρ ds F:=by
 refine W.env he (W.sb hF ?_);intro b k cs Stop tmps hk M h1 h0 h2 h3 h4 h5 hc;refine .idle O (fun _=>X3) ?_
 have key:∀N s,μ s=N->C s->∀tmps hk M,jf (E s) tmps->tmps.size=x.n->Sat x.h (D s) hk M->(∀e gW iT F' bC fA M',Q e gW iT F'->jf gW bC->bC.size=x.n->Sat x.h F' fA M'->Fr M (D s) M' F'->After x.P x.main Stop b k cs e bC iT fA M')->
   Gs x.P x.main Stop (G (dR b tmps ds (.code c:: .inLoop c::k)) cs) hk M:=by
  intro N
  induction N using Nat.strongRecOn with
  | _ N ih=>
   intro s hN hs tmps hk M h3 h4 h5 hc;refine round s hs b (.inLoop c::k) cs Stop tmps hk M h1 h0 h2 h3 h4 h5 fun e gW iT F' bC fA M' q a1 a2 a3 a4=>?_
   cases e with
   | normal=>
    obtain⟨rfl,s',c1,c2,c3,c4⟩:=q;exact .idle O (fun _=>Ol) (ih (μ s') (hN▸c2) s' rfl c1 bC fA M' (a1.sub c3) a2 (a3.sb c4) fun e Fa nO qK yE ou oV X7 e1 e2 e3 e4=>hc e Fa nO qK yE ou oV X7 e1 e2 e3 (a4.trans (e4.sub fun _ y=>c4.mem _ y)))
   | exit id=>exact(hc _ _ _ _ _ _ _ q a1 a2 a3 a4).push rfl (by simp)
   | goto l=>exact(hc _ _ _ _ _ _ _ q a1 a2 a3 a4).push rfl (by simp)
   | ret=>exact(hc _ _ _ _ _ _ _ q a1 a2 a3 a4).push (x:=.inLoop c) rfl (by simp)
   | panic ch=>exact hc _ _ _ _ _ _ _ q a1 a2 a3 a4
   | outgrown=>exact hc _ _ _ _ _ _ _ q a1 a2 a3 a4
 exact key _ l7 O X8 tmps hk M h3 h4 h5 hc

theorem W.region{ops:Array Oper}(ht:List.range ops.size=todo)(H:aA x ops todo Q ρ ds F):W x (.region id ops false) Q ρ ds F:=
 fun b k cs Stop tmps hk M h1 h0 h2 h3 h4 h5 hc=>.idle O (fun _=>WA) (by rw[ht];exact H b k cs Stop tmps hk M h1 h0 h2 h3 h4 h5 hc)

theorem aA.nil{ops:Array Oper}(H:Q .normal ρ ds F):aA x ops [] Q ρ ds F:=
 fun b k cs Stop tmps hk M h1 h0 h2 h3 h4 h5 hc=>.idle O (fun _=>Bl) (hc .normal ρ ds F tmps hk M H h3 h4 h5 .refl)

end rules
def put(ρ:Env)(d:Option Tmp)(v:Value):Env:=match d with | some d=>(d,v)::ρ | none=>ρ
def iy(d:Option Tmp)(n:Nat):Bool:=match d with | some d=>Nat.blt d n | none=>true

def bG(P:Program)(main:aN)(f:FuncId)(args:Array Value)(h:Hp)(F:ah)(R:Value->ah->Prop):Prop:=
 ∀(c:Frame) (cs:List Frame) (Stop:JG main) (hk:Hp) (M:Nat->Prop),Sat h F hk M->
  (∀v F' fA M',R v F'->Sat h F' fA M'->Fr M F M' F'->Gs P main Stop (G (c.finish v) cs) fA M')->
  Gs P main Stop (G (Frame.enter P f args .normal) (c::cs)) hk M

def QN(P:Program)(main:aN)(f:FuncId)(args:Array Value)(h:Hp)(F:ah)(R:ah->Prop):Prop:=
 ∀(c:Frame) (cs:List Frame) (Stop:JG main) (hk:Hp) (M:Nat->Prop),c.mode= .returning->Sat h F hk M->
  (∀F' fA M',R F'->Sat h F' fA M'->Fr M F M' F'->Gs P main Stop (G c cs) fA M')->
  Gs P main Stop (G (Frame.enter P f args .deferred) (c::cs)) hk M

def Rnd(P:Program)(main:aN)(l:Nat)(f:FuncId)(tmps:Array Value)(assign body:Code)(h:Hp)(F:ah)(R:Value->ah->Prop):Prop:=
 ∀(c:Frame) (cs:List Frame) (Stop:JG main) (hk:Hp) (M:Nat->Prop),Sat h F hk M->
  (∀v F' fA M',R v F'->Sat h F' fA M'->Fr M F M' F'->Gs P main Stop (G (c.finish v) cs) fA M')->
  Gs P main Stop (G (Frame.round l f tmps assign body .normal) (c::cs)) hk M

def tZ(P:Program)(main:aN)(h:Hp)(R:Value->ah->Prop):Next->ah->Prop
 | .value v,F=>R v F
 | .skip,F=>R undef F
 | .enter f args,F=>bG P main f args h F R
 | .round l f tmps assign body,F=>Rnd P main l f tmps assign body h F R
 | _,_=>False

def Inv(P:Program)(main:aN)(t:Target)(args:Array Value)(h:Hp)(F:ah)(R:Value->ah->Prop):Prop:=tr P h (invoke t args) F (tZ P main h R)

section
variable{P:Program}{main:aN}{h:Hp}{F:ah}
theorem bG.mono(H:bG P main f args h F R)(hr:∀v F,R v F->R' v F):bG P main f args h F R':=
 fun c cs Stop hk M S hc=>H c cs Stop hk M S fun v F' fA M' r=>hc v F' fA M' (hr _ _ r)
theorem Rnd.mono{l:Nat}{a b:Code}(H:Rnd P main l f tmps a b h F R)(hr:∀v F,R v F->R' v F):Rnd P main l f tmps a b h F R':=
 fun c cs Stop hk M S hc=>H c cs Stop hk M S fun v F' fA M' r=>hc v F' fA M' (hr _ _ r)
theorem QN.mono{R R':ah->Prop}(H:QN P main f args h F R)(hr:∀F,R F->R' F):QN P main f args h F R':=
 fun c cs Stop hk M m S hc=>H c cs Stop hk M m S fun F' fA M' r=>hc F' fA M' (hr _ r)
theorem tZ.mono{nx:Next}(H:tZ P main h R nx F)(hr:∀v F,R v F->R' v F):tZ P main h R' nx F:=by
 cases nx <;>first | exact hr _ _ H | exact bG.mono H hr | exact Rnd.mono H hr | exact H.elim
theorem Inv.mono{t:Target}(H:Inv P main t args h F R)(hr:∀v F,R v F->R' v F):Inv P main t args h F R':=qg H fun _ _ x=>x.mono hr
end
def Ext(h h':Hp):Prop:=(∀b o,h b=some o->h' b=some o)/\∀b,h.z b->h'.z b
def je(Fr:ah)(h':Hp):Prop:=∀b o,(b,o)∈Fr->h' b=some o

def Cm(h:Hp)(F:ah):Hp:=⟨fun b=>match h b with | some o=>some o | none=>F.lookup b,h.z⟩

theorem JH:∀{F:ah} {b:Nat} {o:Obj},(F.map (·.1)).Nodup->(b,o)∈F->F.lookup b=some o
 | [],_,_,_,hm=>by cases hm
 | (c,x)::F,b,o,hn,hm=>by
  simp only[dQ,List.nodup_cons]at hn;rcases bU.1 hm with e | hm
  ·cases e;simp[List.lookup]
  have iK:b≠c:=fun e=>hn.1 (e▸List.mem_map.2 ⟨_,hm,O⟩);have:(b==c)=false:=by simpa using iK
  simp only[List.lookup,this];exact JH hn.2 hm

theorem wB:∀{F:ah} {b:Nat} {o:Obj},F.lookup b=some o->(b,o)∈F
 | [],_,_,h=>by cases h
 | (c,x)::F,b,o,h=>by
  simp only[List.lookup]at h;split at h
  ·rename_i e;cases h;rw[show b=c by simpa using e];simp
  exact dH _ (wB h)

theorem Sat.Cm(S:Sat h (A++B) k M):Sat (Cm h B) A k M/\Ext h (Cm h B)/\je B (Cm h B):=by
 have uX:=S.nodup;rw[List.map_append,List.nodup_append]at uX;have e1:Ext h (jc.Cm h B):=⟨fun b o hb=>by simp[jc.Cm,hb],fun _ z=>z⟩
 have e2:je B (jc.Cm h B):=fun b o hb=>by
  have:=(S.own b o (bZ _ hb)).2.2;simp only[jc.Cm,this];exact JH uX.2.1 hb
 refine⟨⟨fun b o hb=>?_,fun b o hb=>?_,uX.1,fun b o h1 h2 h3=>?_,S.Je⟩,e1,e2⟩
 ·simp only[jc.Cm]at hb;split at hb
  ·rename_i x hx;cases hb;exact S.sub b _ hx
  exact(S.own b o (bZ _ (wB hb))).1
 ·have:=S.own b o (jm _ hb);refine⟨this.1,this.2.1,?_⟩;simp only[jc.Cm,this.2.2]
  cases hl:B.lookup b with
  | none=>rfl
  | some x=>exact absurd rfl (uX.2.2 b (List.mem_map.2 ⟨_,hb,rfl⟩) b (List.mem_map.2 ⟨_,wB hl,rfl⟩))
 rcases S.all b o h1 h2 h3 with h4 | h4
 ·rcases dh.1 h4 with h4 | h4
  ·exact .inl h4
  exact .inr (e2 b o h4)
 exact .inr (e1.1 b o h4)

theorem Sat.back{A':ah}{k':Hp}(S:Sat h (A++B) k M)(S':Sat (jc.Cm h B) A' k' M')(f:Fr M A M' A'):Sat h (A'++B) k' M'/\Fr M (A++B) M' (A'++B):=by
 obtain⟨_,e1,e2⟩:=S.Cm;have uX:=S.nodup;rw[List.map_append,List.nodup_append]at uX;have hB:∀b o,(b,o)∈B->M' b/\∀o',(b,o')∉A':=fun b o hb=>f b (S.own b o (bZ _ hb)).2.1 fun o' mM=>uX.2.2 b (List.mem_map.2 ⟨_,mM,O⟩) b (List.mem_map.2 ⟨_,hb,O⟩) O;refine⟨⟨fun b o hb=>S'.sub b o (e1.1 b o hb),fun b o hb=>?_,?_,fun b o h1 h2 h3=>?_,S'.Je⟩,fun b hb hF=>?_⟩
 ·rcases dh.1 hb with hb | hb
  ·have:=S'.own b o hb;refine⟨this.1,this.2.1,?_⟩
   cases hh:h b with
   | none=>rfl
   | some x=>have:=e1.1 b x hh;rw[(S'.own b o hb).2.2]at this;cases this
  exact⟨S'.sub b o (e2 b o hb),(hB b o hb).1,(S.own b o (bZ _ hb)).2.2⟩
 ·rw[List.map_append,List.nodup_append];refine⟨S'.nodup,uX.2.1,fun b hb c hc e=>?_⟩;subst e;obtain⟨⟨x,o⟩,hx,rfl⟩:=List.mem_map.1 hb;obtain⟨⟨y,o'⟩,hy,hyx⟩:=List.mem_map.1 hc;simp only at hyx;subst hyx;exact(hB _ _ hy).2 _ hx
 ·rcases S'.all b o h1 h2 h3 with h4 | h4
  ·exact .inl (jm _ h4)
  simp only[jc.Cm]at h4;split at h4
  ·rename_i x hx;cases h4;exact .inr hx
  exact .inl (bZ _ (wB h4))
 have:=f b hb fun o ho=>hF o (jm _ ho)
 exact⟨this.1,fun o ho=>by
  rcases dh.1 ho with ho | ho
  ·exact this.2 o ho
  exact hF o (bZ _ ho)⟩

theorem bG.frame{main:aN}(H:∀h',Ext h h'->je B h'->bG P main f args h' A R):
  bG P main f args h (A++B) fun v F'=>∃A',R v A'/\F'=A'++B:=by
 intro c cs Stop hk M S hc;obtain⟨S1,e1,e2⟩:=S.Cm;refine H _ e1 e2 c cs Stop hk M S1 fun v A' fA M' r S' f=>?_;obtain⟨a,b⟩:=S.back S' f;exact hc v _ fA M' ⟨A',r,O⟩ a b

theorem bG.perm{main:aN}(p:A.Perm B)(H:bG P main f args h A R):bG P main f args h B R:=
 fun c cs Stop hk M S hc=>H c cs Stop hk M (S.perm p) fun v F' fA M' r S' f=>hc v F' fA M' r S' (f.sub fun _ x=>p.subset x)

theorem bG.sb{main:aN}(p:Sb A B)(H:bG P main f args h A R):bG P main f args h B R:=
 fun c cs Stop hk M S hc=>H c cs Stop hk M (S.sb p) fun v F' fA M' r S' f=>hc v F' fA M' r S' (f.sub fun _ x=>p.mem _ x)

section rules
variable{x:Cx}{P:Program}{main:aN}{n:Nat}{Q:fO}{ρ:Env}{ds:List Deferred}{F:ah}{ops:Array Oper}{i:Nat}{rest:List Nat}
def gY(ops:Array Oper)(ρ:Env)(o:Oper):Prop:=
 match o.guard with
 | none=>True
 | some (j,w)=>∃d,(ops[j]?).bind (·.dst)=some d/\look ρ d=some (.bool w)

theorem gY.wanted{o:Oper}(hw:gY ops ρ o)(he:jf ρ tmps):Region.wanted o (yielded ops tmps)=true:=by
 unfold gY at hw;unfold Region.wanted
 cases hg:o.guard with
 | none=>rfl
 | some jw=>
  obtain⟨j,w⟩:=jw;rw[hg]at hw;obtain⟨d,h1,h2⟩:=hw;simp[yielded,h1,he d _ h2]

theorem fQ{b:Frame}{t:Array Value}{ds:List Deferred}{k:List Item}{cs:List Frame}{o:Oper}(ho:ops[i]? =some o)(v:Value):
  (dR b t ds (.inRegion ops (i::rest)::k)).finish v=dR b (match o.dst with | some d=>t.setIfInBounds d v | none=>t) ds (.inRegion ops rest::k):=by
 simp only[Frame.finish,dR,ho,Option.bind_some]
 cases o.dst <;>rfl

theorem wC{b:Frame}{k:List Item}{cs:List Frame}{w:World}{o:Oper}(ho:ops[i]? =some o)(hw:Region.wanted o (yielded ops t)=true)(hd:∀c,o.op≠ .defer c):
  stepG P main.b (G (dR b t ds (.inRegion ops (i::rest)::k)) cs) w=stepG.apply P true (dR b t ds (.inRegion ops (i::rest)::k)) cs none (execOp (dR b t ds (.inRegion ops (i::rest)::k)).eval o) w:=by
 obtain⟨dst,op,type,pos,bW,guard⟩:=o;simp only at hd;simp only[Conc.G,stepG,stepG.exec,stepG.oper,Frame.oper?,dR,ho,hw,Option.map_some,Option.getD_some,if_true];split
 ·exact absurd O (hd _)
 rfl

theorem oW{cs:List Frame}{w:World}(r:s.runT P w #[]=(.ok (.value v) w',es))(hk:(fr.kind==CallKind.early)=false):
  stepG.apply P true fr cs none s w= .go (G (fr.finish v) cs) w' (seen P fr.fn es):=by
 unfold stepG.apply;simp only[r,hk,if_true]
 rfl
theorem D6{cs:List Frame}{w:World}(r:s.runT P w #[]=(.ok .skip w',es))(hk:(fr.kind==CallKind.early)=false):
  stepG.apply P true fr cs none s w= .go (G (fr.finish undef) cs) w' (seen P fr.fn es):=by
 unfold stepG.apply;simp only[r,hk,if_true]
 rfl
theorem Gz{w:World}(r:s.runT P w #[]=(.ok (.enter f args) w',es))(hk:(fr.kind==CallKind.early)=false)
  (ht:∃ops l k,fr.todo= .inRegion ops l::k):stepG.apply P true fr cs none s w= .go (G (Frame.enter P f args .normal) (fr::cs)) w' (seen P fr.fn es):=by
 obtain⟨ops,l,k,ht⟩:=ht;unfold stepG.apply;simp only[r,hk,if_true,ht]
 rfl
theorem Pz{cs:List Frame}{w:World}{l:Nat}{tm:Array Value}(r:s.runT P w #[]=(.ok (.round l f tm us bd) w',es))(hk:(fr.kind==CallKind.early)=false):
  stepG.apply P true fr cs none s w= .go (G (Frame.round l f tm us bd .normal) (fr::cs)) w' (seen P fr.fn es):=by
 unfold stepG.apply;simp only[r,hk,if_true]
 rfl

theorem Ar{b:Frame}{k:List Item}{cs:List Frame}{w:World}{o:Oper}(ho:ops[i]? =some o)(hw:Region.wanted o (yielded ops t)=false):
  stepG P main.b (G (dR b t ds (.inRegion ops (i::rest)::k)) cs) w= .go (G ((dR b t ds (.inRegion ops (i::rest)::k)).finish undef) cs) w:=by
 simp[Conc.G,stepG,stepG.exec,dR,ho,hw]

theorem mem_seen{fn:FuncId}{es:Array Event}{e:Event}(hm:e∈seen P fn es):e∈es:=Conc.mem_seen hm

theorem jf.Jg{o:Oper}(h3:jf ρ tmps)(h4:tmps.size=n)(hd:iy o.dst n=true)(v:Value):
  jf (jc.put ρ o.dst v) (match o.dst with | some d=>tmps.setIfInBounds d v | none=>tmps)/\(match o.dst with | some d=>tmps.setIfInBounds d v | none=>tmps).size=n:=by
 cases hds:o.dst with
 | none=>exact⟨by simpa[jc.put]using h3,by simpa using h4⟩
 | some d=>
  rw[hds]at hd;have:d<tmps.size:=by rw[h4];exact Nat.le_of_ble_eq_true hd
  exact⟨by simpa[jc.put]using h3.put this v,by simpa using h4⟩

def LQ(x:Cx)(o:Oper)(e:Operand->Value)(F:ah)(R:Value->ah->Prop):Prop:=
 ∃A B,(A++B).Perm F/\∀h',Ext x.h h'->je B h'->tr x.P h' (execOp e o) A (tZ x.P x.main h' fun v A'=>R v (A'++B))

theorem LQ.mono{o:Oper}{e:Operand->Value}(H:LQ x o e F R)(hr:∀v F,R v F->R' v F):LQ x o e F R':=by
 obtain⟨A,B,h1,h2⟩:=H;exact⟨A,B,h1,fun h' e1 e2=>qg (h2 h' e1 e2) fun _ _ y=>y.mono fun v F=>hr v _⟩

theorem aA.op{o:Oper}(ho:ops[i]? =some o)(hw:gY ops ρ o)(hd:iy o.dst x.n=true)(DZ:∀c,o.op≠ .defer c)
  (H:∀e:Operand->Value,(∀y v,ev ρ y=some v->e y=v)->LQ x o e F fun v F'=>aA x ops rest Q (put ρ o.dst v) ds F'):
  aA x ops (i::rest) Q ρ ds F:=by
 intro b k cs Stop tmps hk M h1 h0 h2 h3 h4 h5 hc;refine .tY ⟨O,fun w hw' hM=>?_⟩;obtain⟨A,B,hp,H'⟩:=H (dR b tmps ds (.inRegion ops (i::rest)::k)).eval fun _ _ hx=>h3.ev hx;have S0:=h5.perm hp;obtain⟨S1,e1,e2⟩:=S0.Cm;obtain⟨nx,F',w',es,r1,r2,r3,r4,r5⟩:=oh _ #[] (H' _ e1 e2) S1 hw' hM;rw[Array.empty_append]at r1;have fA:(b.kind==CallKind.early)=false:=by simpa using h2.1
 have hgo:iR hk M w w' (seen x.P b.fn es):=r2.mem fun _=>mem_seen;rw[wC ho (hw.wanted h3) DZ]
 
 have on:∀v G (ou:Hp) (oV:Nat->Prop),aA x ops rest Q (put ρ o.dst v) ds (G++B)->Sat (Cm x.h B) G ou oV->Fr M A oV G->Gs x.P x.main Stop (jc.G ((dR b tmps ds (.inRegion ops (i::rest)::k)).finish v) cs) ou oV:=by
  intro v G ou oV r RH RI;obtain⟨p1,p2⟩:=h3.Jg h4 hd v;obtain⟨avV,aoL⟩:=S0.back RH RI;rw[fQ (cs:=cs) ho v];exact r b k cs Stop _ _ _ h1 h0 h2 p1 p2 avV fun e gW iT G bC fA M' q a1 a2 a3 a4=>hc e gW iT G bC fA M' q a1 a2 a3 ((aoL.sub fun _ y=>hp.subset y).trans a4)
 cases nx with
 | value v=>exact⟨_,w',_,oW r1 fA,hgo,on v F' _ _ r5 r3 r4⟩
 | skip=>exact⟨_,w',_,D6 r1 fA,hgo,on undef F' _ _ r5 r3 r4⟩
 | enter f args=>exact⟨_,w',_,Gz r1 fA ⟨_,_,_,rfl⟩,hgo,r5 _ cs Stop _ _ r3 fun v G ou oV r RH RI=>on v G ou oV r RH (r4.trans RI)⟩
 | round l f tm us bd=>exact⟨_,w',_,Pz r1 fA,hgo,r5 _ cs Stop _ _ r3 fun v G ou oV r RH RI=>on v G ou oV r RH (r4.trans RI)⟩
 | _=>exact r5.elim

theorem aA.unwanted{o:Oper}{j d:Nat}{w v:Bool}(ho:ops[i]? =some o)(hg:o.guard=some (j,w))(hj:(ops[j]?).bind (·.dst)=some d)(hv:look ρ d=some (.bool v))(iK:(v==w)=false)(hd:iy o.dst x.n=true)
  (H:aA x ops rest Q (put ρ o.dst undef) ds F):aA x ops (i::rest) Q ρ ds F:=by
 intro b k cs Stop tmps hk M h1 h0 h2 h3 h4 h5 hc
 have hw:Region.wanted o (yielded ops tmps)=false:=by
  simp only[Region.wanted,hg,yielded,hj,Option.bind_some,h3 d _ hv]
  cases v <;>cases w <;>simp_all
 obtain⟨p1,p2⟩:=h3.Jg h4 hd undef;refine .idle O (fun _=>Ar ho hw) ?_;rw[fQ (cs:=cs) ho undef];exact H b k cs Stop _ _ _ h1 h0 h2 p1 p2 h5 hc

theorem aA.split{d:Nat}{v:Bool}(_hv:look ρ d=some (.bool v))(ht:v=true->aA x ops (i::rest) Q ρ ds F)(hf:v=false->aA x ops (i::rest) Q ρ ds F):aA x ops (i::rest) Q ρ ds F:=by
 cases v with
 | true=>exact ht rfl
 | false=>exact hf rfl

end rules
def kP(b:Frame)(tmps:Array Value)(ds:List Deferred)(todo:List Item):Frame:={dR b tmps ds todo with mode:=.returning}

def WC(P:Program)(main:aN)(h:Hp):List Deferred->ah->(ah->Prop)->Prop
 | [],F,K=>K F
 | d::ds,F,K=>
  match d.target with
  | .collected r=>tr P h (Instr.takeDeferred r) F fun l F'=>l=[]/\WC P main h ds F' K
  | .fn (.func f) cap=>tr P h (callFunc f (d.args++cap)) F fun nx vG=>∃g args,nx= .enter g args/\∃A B,(A++B).Perm vG/\∀h',Ext h h'->je B h'->QN P main g args h' A fun A'=>WC P main h ds (A'++B) K
  | _=>False

def leave(P:Program)(main:aN)(fn:Func)(h:Hp)(R:Value->ah->Prop):fO:=fun e ρ ds F=>
 (e= .ret\/e= .normal)/\WC P main h ds F fun F'=>∀tmps,jf ρ tmps->tr P h (results fn tmps) F' R

section returns
variable{P:Program}{main:aN}{h:Hp}{b:Frame}{t:Array Value}{ds:List Deferred}{k:List Item}{cs:List Frame}{w:World}
theorem J5(hr:b.roundOf=none):stepG P main.b (G (dR b t ds (.code .ret::k)) cs) w= .go (G (kP b t ds (.code .ret::k)) cs) w:=by simp[Conc.G,stepG,stepG.exec,dR,kP,hr]
theorem J6(hr:b.roundOf=none):stepG P main.b (G (dR b t ds []) cs) w= .go (G (kP b t ds []) cs) w:=by simp[Conc.G,stepG,stepG.exec,dR,kP,hr]

theorem aej{fn:Func}{c:Frame}{cs:List Frame}{todo:List Item}(hf:P.funcs[b.fn]? =some fn)(r:(results fn t).runT P w #[]=(.ok v w',es))(hk:b.kind= .normal):
  stepG P main.b (G (kP b t [] todo) (c::cs)) w= .go (G (c.finish v) cs) w' (seen P b.fn es):=by
 have e:stepG P main.b (G (kP b t [] todo) (c::cs)) w=unwind P main.b (kP b t [] todo) (c::cs) none w:=rfl;rw[e];unfold unwind;have h1:(kP b t [] todo).defers=[]:=rfl;have h2:(kP b t [] todo).mode= .returning:=rfl;have h3:(kP b t [] todo).fn=b.fn:=rfl;have h4:(kP b t [] todo).tmps=t:=rfl;have h5:(kP b t [] todo).kind= .normal:=hk;simp only[h1,h2,h3,h4,hf,r,doReturn,h5]
 rfl
theorem ahS{fn:Func}{c:Frame}{cs:List Frame}{todo:List Item}(hf:P.funcs[b.fn]? =some fn)(r:(results fn t).runT P w #[]=(.ok v w',es))(hk:b.kind= .deferred)(hm:c.mode= .returning):
  stepG P main.b (G (kP b t [] todo) (c::cs)) w= .go (G c cs) w' (seen P b.fn es):=by
 have e:stepG P main.b (G (kP b t [] todo) (c::cs)) w=unwind P main.b (kP b t [] todo) (c::cs) none w:=rfl;rw[e];unfold unwind;have h1:(kP b t [] todo).defers=[]:=rfl;have h2:(kP b t [] todo).mode= .returning:=rfl;have h3:(kP b t [] todo).fn=b.fn:=rfl;have h4:(kP b t [] todo).tmps=t:=rfl;have h5:(kP b t [] todo).kind= .deferred:=hk;simp only[h1,h2,h3,h4,hf,r,doReturn,h5,hm]
 rfl
theorem D7{r:Nat}{wM:Array Value}{ds:List Deferred}{todo:List Item}(hr:(Instr.takeDeferred r).runT P w #[]=(.ok [] w',es)):
  stepG P main.b (G (kP b t ({target:=.collected r,args:=wM}::ds) todo) cs) w= .go (G (kP b t ds todo) cs) w' (seen P b.fn es):=by
 have e:stepG P main.b (G (kP b t ({target:=.collected r,args:=wM}::ds) todo) cs) w=unwind P main.b (kP b t ({target:=.collected r,args:=wM}::ds) todo) cs none w:=rfl;rw[e];unfold unwind;have h1:(kP b t ({target:=.collected r,args:=wM}::ds) todo).defers={target:=.collected r,args:=wM}::ds:=rfl;have h3:(kP b t ({target:=.collected r,args:=wM}::ds) todo).fn=b.fn:=rfl;simp only[h1,h3,hr]
 rfl
theorem ZN{g:FuncId}{cap wM:Array Value}{ds:List Deferred}{todo:List Item}(hr:(callFunc f (wM++cap)).runT P w #[]=(.ok (.enter g args) w',es)):
  stepG P main.b (G (kP b t ({target:=.fn (.func f) cap,args:=wM}::ds) todo) cs) w= .go (G (Frame.enter P g args .deferred) (kP b t ds todo::cs)) w' (seen P b.fn es):=by
 have e:stepG P main.b (G (kP b t ({target:=.fn (.func f) cap,args:=wM}::ds) todo) cs) w=unwind P main.b (kP b t ({target:=.fn (.func f) cap,args:=wM}::ds) todo) cs none w:=rfl;rw[e];unfold unwind;have h1:(kP b t ({target:=.fn (.func f) cap,args:=wM}::ds) todo).defers={target:=.fn (.func f) cap,args:=wM}::ds:=rfl;have h2:(invoke (.fn (.func f) cap) wM).runT P w #[]=(.ok (.enter g args) w',es):=hr;simp only[h1,callDeferred,h2]
 rfl

theorem PD{fn:Func}{R:Value->ah->Prop}{Stop:JG main}(hf:P.funcs[b.fn]? =some fn):∀{ds:List Deferred} {F:ah} {hk:Hp} {M:Nat->Prop} (todo:List Item),Sat h F hk M->jf ρ t->
  WC P main h ds F (fun F'=>∀tmps,jf ρ tmps->tr P h (results fn tmps) F' R)->
  (∀v F' fA M',R v F'->Sat h F' fA M'->Fr M F M' F'->(b.kind= .normal->∃c LU,cs=c::LU/\Gs P main Stop (G (c.finish v) LU) fA M')/\(b.kind= .deferred->∃c LU,cs=c::LU/\c.mode= .returning/\Gs P main Stop (G c LU) fA M'))->
  (b.kind= .normal\/b.kind= .deferred)->
  Gs P main Stop (G (kP b t ds todo) cs) hk M:=by
 intro ds
 induction ds with
 | nil=>
  intro F hk M todo S he hu hc hkd;refine .tY ⟨O,fun w hw hM=>?_⟩;obtain⟨v,F',w',es,r1,r2,r3,r4,r5⟩:=oh _ #[] (hu t he) S hw hM;rw[Array.empty_append]at r1;have hg:iR hk M w w' (seen P b.fn es):=r2.mem fun _=>mem_seen;obtain⟨c1,c2⟩:=hc v F' _ _ r5 r3 r4;rcases hkd with hkd | hkd
  ·obtain⟨c,LU,rfl,g⟩:=c1 hkd;refine⟨G (c.finish v) LU,w',seen P b.fn es,?_,hg,g⟩;exact aej hf r1 hkd
  obtain⟨c,LU,rfl,hm,g⟩:=c2 hkd;refine⟨G c LU,w',seen P b.fn es,?_,hg,g⟩;exact ahS hf r1 hkd hm
 | cons d ds ih=>
  intro F hk M todo S he hu hc hkd;obtain⟨target,wM⟩:=d;unfold WC at hu;refine .tY ⟨O,fun w hw hM=>?_⟩;split at hu
  ·rename_i r heq;simp only at heq;subst heq;obtain⟨l,F',w',es,r1,r2,r3,r4,rfl,r5⟩:=oh _ #[] hu S hw hM;rw[Array.empty_append]at r1;have hg:iR hk M w w' (seen P b.fn es):=r2.mem fun _=>mem_seen;refine⟨G (kP b t ds todo) cs,w',seen P b.fn es,?_,hg,ih todo r3 he r5 (fun v WE acJ M'' q a1 a2=>hc v WE acJ M'' q a1 (r4.trans a2)) hkd⟩;exact D7 r1
  ·rename_i f cap heq;simp only at heq;subst heq;obtain⟨nx,F',w',es,r1,r2,r3,r4,g,args,rfl,A,B,hp,hfn⟩:=oh _ #[] hu S hw hM;rw[Array.empty_append]at r1;have hg:iR hk M w w' (seen P b.fn es):=r2.mem fun _=>mem_seen;refine⟨G (Frame.enter P g args .deferred) (kP b t ds todo::cs),w',seen P b.fn es,?_,hg,?_⟩
   ·exact ZN r1
   have r3':=r3.perm hp;obtain⟨S1,e1,e2⟩:=r3'.Cm;refine hfn _ e1 e2 (kP b t ds todo) cs Stop _ _ O S1 fun A' fA M' q S' f'=>?_;obtain⟨a,a'⟩:=r3'.back S' f';exact ih todo a he q (fun v WE acJ M'' q a1 a2=>hc v WE acJ M'' q a1 ((r4.trans (a'.sub fun _ x=>hp.subset x)).trans a2)) hkd
  exact hu.elim

def LV:Env->Array Value->Prop
 | [],_=>True
 | (t,v)::r,args=>args[t]? =some v/\LV r args

theorem LV.ok{args:Array Value}{m:Nat}:∀{ρ:Env},LV ρ args->jf ρ (args++Array.replicate m undef)
 | [],_,t,v,h=>by cases h
 | (
    s,x)::r,⟨h1,h2⟩,t,v,h=>by
  unfold jc.look at h
  cases e:Nat.beq t s with
  | true=>
   rw[e]at h;simp only[cond_true,dY]at h;subst h;rw[Nat.eq_of_beq_eq_true e]
   have fK:s<args.size:=by
    rcases bQ s args.size with h' | h'
    ·exact h'
    rw[Array.getElem?_eq_none h']at h1;cases h1
   rw[Array.getElem?_append_left fK];exact h1
  | false=>rw[e]at h;exact LV.ok h2 t v h

theorem bG.gX{fn:Func}(hf:P.funcs[f]? =some fn)(hb:fn.body=some c)(ha:args.size<=fn.ntmps)(ρ:Env)(LD:LV ρ args)
  (H:W ⟨P,main,f,fn.ntmps,none,h⟩ c (leave P main fn h R) ρ [] F):bG P main f args h F R:=by
 intro c' cs Stop hk M S hc
 have e:Frame.enter P f args .normal=dR {(default:Frame)with fn:=f,kind:=.normal} (args++Array.replicate (fn.ntmps-args.size) undef) [] [.code c]:=by
  simp[Frame.enter,dR,hf,hb];rfl
 rw[e];refine H _ [] (c'::cs) Stop _ hk M O O (.normal O) LD.ok (by simp;omega) S fun ex gW iT F' bC fA M' q a1 a2 a3 a4=>?_;obtain⟨hex,hu⟩:=q
 have go:∀todo,Gs P main Stop (G (kP {(default:Frame)with fn:=f,kind:=.normal} bC iT todo) (c'::cs)) fA M':=fun todo=>
  PD (ρ:=gW) (fn:=fn) hf todo a3 a1 hu (fun v WE acJ M'' r b1 b2=>⟨fun _=>⟨c',cs,rfl,hc v WE acJ M'' r b1 (a4.trans b2)⟩,(fun hh=>(by cases hh))⟩) (.inl rfl)
 rcases hex with rfl | rfl
 ·exact fun k'=>.idle O (fun _=>J5 O) (go _)
 exact .idle O (fun _=>J6 O) (go _)

theorem QN.gX{fn:Func}{R:ah->Prop}(hf:P.funcs[f]? =some fn)(hb:fn.body=some c)(ha:args.size<=fn.ntmps)(ρ:Env)(LD:LV ρ args)
  (H:W ⟨P,main,f,fn.ntmps,none,h⟩ c (leave P main fn h fun _ F=>R F) ρ [] F):QN P main f args h F R:=by
 intro c' cs Stop hk M hm S hc
 have e:Frame.enter P f args .deferred=dR {(default:Frame)with fn:=f,kind:=.deferred} (args++Array.replicate (fn.ntmps-args.size) undef) [] [.code c]:=by
  simp[Frame.enter,dR,hf,hb];rfl
 rw[e];refine H _ [] (c'::cs) Stop _ hk M O O (.deferred O (.inl hm)) LD.ok (by simp;omega) S fun ex gW iT F' bC fA M' q a1 a2 a3 a4=>?_;obtain⟨hex,hu⟩:=q
 have go:∀todo,Gs P main Stop (G (kP {(default:Frame)with fn:=f,kind:=.deferred} bC iT todo) (c'::cs)) fA M':=fun todo=>
  PD (ρ:=gW) (fn:=fn) hf todo a3 a1 hu (fun v WE acJ M'' r b1 b2=>⟨(fun hh=>(by cases hh)),fun _=>⟨c',cs,rfl,hm,hc WE acJ M'' r b1 (a4.trans b2)⟩⟩) (.inr rfl)
 rcases hex with rfl | rfl
 ·exact fun k'=>.idle O (fun _=>J5 O) (go _)
 exact .idle O (fun _=>J6 O) (go _)
end returns
def X9:Exit->Option (Option Code)
 | .normal=>some none
 | .exit id=>some (some (.exit id))
 | .goto l=>some (some (.goto l))
 | .ret=>some (some .ret)
 | _=>none

section rounds
variable{P:Program}{main:aN}{h:Hp}{b:Frame}{t:Array Value}{k:List Item}{c:Frame}{cs:List Frame}{w w':World}{l:Nat}
theorem Vo(hr:b.roundOf=some l)(hk:(b.kind==CallKind.early)=false)(hb:(Sem.bind (Instr.beginRound l) fun _=>.pure Next.skip).runT P w #[]=(.ok .skip w',es)):
  stepG P main.b (G (dR b t [] (.beginRound::k)) cs) w= .go (G (dR b t [] k) cs) w' (seen P b.fn es):=by
 have e:stepG P main.b (G (dR b t [] (.beginRound::k)) cs) w=stepG.apply P true (dR b t [] (.beginRound::k)) cs none (Sem.bind ((dR b t [] (.beginRound::k)).roundOf.elim (stuck "beginRound: no round") Instr.beginRound) fun _=>.pure Next.skip) w:=rfl;rw[e];have e2:(dR b t [] (.beginRound::k)).roundOf=some l:=hr;rw[e2];exact D6 (fr:=dR b t [] (.beginRound::k)) hb hk

theorem Au{e:Exit}{j:Option Code}(hr:b.roundOf=some l)(hk:b.kind= .normal)(hj:X9 e=some j)(hb:(Instr.endRound l j).runT P w #[]=(.ok v w',es)):
  (e= .normal->stepG P main.b (G (dR b t [] []) (c::cs)) w= .go (G (c.finish v) cs) w' (seen P b.fn es))/\
  (∀id k',e= .exit id->exitTo id k'=none->stepG P main.b (G (dR b t [] (.code (.exit id)::k')) (c::cs)) w= .go (G (c.finish v) cs) w' (seen P b.fn es))/\
  (∀id k',e= .goto id->gotoIn id k'=none->stepG P main.b (G (dR b t [] (.code (.goto id)::k')) (c::cs)) w= .go (G (c.finish v) cs) w' (seen P b.fn es))/\
  (∀k',e= .ret->stepG P main.b (G (dR b t [] (.code .ret::k')) (c::cs)) w= .go (G (c.finish v) cs) w' (seen P b.fn es)):=by
 refine⟨?_,?_,?_,?_⟩
 ·rintro rfl
  cases hj
  simp only[Conc.G,stepG,stepG.exec,dR,hr,hb,doReturn,hk]
  rfl
 ·rintro id k' rfl hx
  cases hj
  simp only[Conc.G,stepG,stepG.exec,dR,hr,hx,Option.elim,hb,doReturn,hk]
  rfl
 ·rintro id k' rfl hx
  cases hj
  simp only[Conc.G,stepG,stepG.exec,dR,hr,hx,Option.elim,hb,doReturn,hk]
  rfl
 rintro k' rfl
 cases hj
 simp only[Conc.G,stepG,stepG.exec,dR,hr,hb,doReturn,hk]
 rfl

theorem Rnd.gX(ρ:Env)(LD:jf ρ tmps)
  (
   H:W ⟨P,main,f,tmps.size,some l,h⟩ us (fun e Aw Az vG=>e= .normal/\Az=[]/\tr P h (Instr.beginRound l) vG fun _ qK=>
   W ⟨P,main,f,tmps.size,some l,h⟩ bd (fun e _ nO acK=>nO=[]/\∃j,X9 e=some j/\tr P h (Instr.endRound l j) acK R) Aw [] qK) ρ [] F):Rnd P main l f tmps us bd h F R:=by
 intro c cs Stop hk M S hc;have e:Frame.round l f tmps us bd .normal=dR {(default:Frame)with fn:=f,kind:=.normal,roundOf:=some l} tmps [] [.code us,.beginRound,.code bd]:=rfl;rw[e];refine H _ [.beginRound,.code bd] (c::cs) Stop _ hk M O O (.normal O) LD O S fun ex gW iT F' bC fA M' q a1 a2 a3 a4=>?_;obtain⟨rfl,rfl,q⟩:=q;refine .tY ⟨O,fun w hw hM=>?_⟩;obtain⟨v,qK,w',es,r1,r2,r3,r4,rfl,r5⟩:=oh _ #[] (cu (f:=fun _=>.pure Next.skip) (Q:=fun nx qK=>nx= .skip/\W ⟨P,main,f,tmps.size,some l,h⟩ bd (fun e _ nO acK=>nO=[]/\∃j,X9 e=some j/\tr P h (Instr.endRound l j) acK R) gW [] qK) (qg q fun _ _ x=>⟨rfl,x⟩)) a3 hw hM;rw[Array.empty_append]at r1;refine⟨_,w',_,Vo O O r1,r2.mem fun _=>mem_seen,?_⟩;refine r5 _ [] (c::cs) Stop _ _ _ O O (.normal O) a1 a2 r3 fun ex ayQ ayR acK au1 ar1 ak_ aoM b1 b2 b3 b4=>?_;obtain⟨rfl,j,hj,aoM⟩:=aoM
 have key:∀g:Goroutine,g.status= .running->(∀(w w':World) (v:Value) (es:Array Event),(Instr.endRound l j).runT P w #[]=(.ok v w',es)->stepG P main.b g w= .go (G (c.finish v) cs) w' (seen P f es))->Stp P main.b (Gs P main Stop) g ar1 ak_:=by
  intro g hs hg;refine⟨hs,fun w hw hM=>?_⟩;obtain⟨v,afH,w',es,r1,s2,s3,s4,s5⟩:=oh _ #[] aoM b3 hw hM;rw[Array.empty_append]at r1;exact⟨_,w',_,hg _ _ _ _ r1,s2.mem fun _=>mem_seen,hc v afH _ _ s5 s3 (((a4.trans r4).trans b4).trans s4)⟩
 cases ex with
 | normal=>exact .tY (key _ rfl fun w w' v es hr=>(Au rfl rfl hj hr).1 rfl)
 | exit id=>exact .inr ⟨rfl,fun k' fA=>key _ rfl fun w w' v es hr=>(Au rfl rfl hj hr).2.1 id k' rfl fA⟩
 | goto id=>exact .inr ⟨rfl,fun k' fA=>key _ rfl fun w w' v es hr=>(Au rfl rfl hj hr).2.2.1 id k' rfl fA⟩
 | ret=>exact fun k'=>key _ rfl fun w w' v es hr=>(Au rfl rfl hj hr).2.2.2 k' rfl
 | panic ch=>cases hj
 | outgrown=>cases hj
end rounds
end Go.jc
