/- The core of a logic for one goroutine in any company: partial heaps, nodes, and the judgement 'Gos'. Conditions: none; over any program. (And 3 texts more.) -/
import GoSem.Step
import Derived.Conc.Own4
set_option linter.unusedVariables false
set_option linter.unusedSimpArgs false
set_option linter.unusedSectionVars false

/- The core of a logic for one goroutine in any company: partial heaps, nodes, and the judgement 'Gos'. Conditions: none; over any program. -/
namespace Go.aS
structure Hp where
 f:Nat→Option Obj
 z:Nat→Prop
instance:CoeFun Hp (fun _=>Nat→Option Obj):=⟨Hp.f⟩
theorem Hp.ext'{h h':Hp}(e:∀b,h b=h' b)(e':h.z=h'.z):h=h':=by
 obtain⟨f,z⟩:=h
 obtain⟨f',z'⟩:=h'
 have:f=f':=funext e
 subst this e'
 rfl
abbrev eG:=List (Nat×Obj)

def Fit(o o':Obj):Prop:=o'=o∨(o.isChan=true∧o'.isChan=true)
def isC:Option Obj→Bool | some o=>o.isChan | none=>false
def yF(k:Hp)(w:World):Prop:=∀b o,k b=some o→∃o',w.heap[b]? =some o'∧Fit o o'

theorem yF.get{k:Hp}{w:World}(h:yF k w){b:Nat}{o:Obj}(hb:k b=some o)(hc:o.isChan=false):w.heap[b]? =some o:=by
 obtain⟨o',h1,h2 | h2⟩:=h b o hb
 ·rw[h1,h2]
 ·rw[hc]at h2;cases h2.1

def snap(k:Hp)(w w':World):Hp:=⟨fun b=>if isC (k b)then k b else if(k b).isSome|| (w.heap.size≤b&&b<w'.heap.size)then w'.heap[b]? else none,k.z⟩
def grown(M:Nat→Prop)(w w':World):Nat→Prop:=fun b=>M b∨(w.heap.size≤b∧b<w'.heap.size)

def Fg:Mark→Bool
 | .acquire _=>false
 | .release _=>false
 | .releaseMerge _=>false
 | .disable=>false
 | .enable=>false
 | .read _=>false
 | .write _=>false
 | _=>true

def Bd(k:Hp)(M:Nat→Prop)(lo hi:Nat)(e:Event):Prop:=
 match e.loc with
 | .cell a=>e.sync=false∧(((k a.block).isSome=true∧isC (k a.block)=false∧(e.write=true→M a.block))∨(lo≤a.block∧a.block<hi))
 | .obj r=>e.sync=false∧(((k r).isSome=true∧isC (k r)=false∧(e.write=true→M r))∨(lo≤r∧r<hi))
 | .mark m=>Fg m=true
 | _=>False

def acF:Obj:=.chan 0 #[] false 0 0 false

structure dX(k:Hp)(M:Nat→Prop)(w w':World)(es:Array Event):Prop where
 size:w.heap.size≤w'.heap.size
 keep:∀b,b<w.heap.size→¬M b→w'.heap[b]? =w.heap[b]?
 chans:∀(b:Nat) (o:Obj),w.heap[b]? =some o→o.isChan=true→w'.heap[b]? =some o
 news:∀(b:Nat) (o:Obj),w.heap.size≤b→w'.heap[b]? =some o→o.isChan=true→o=acF
 stay:∀(b:Nat) (o o':Obj),w.heap[b]? =some o→o.isChan=false→w'.heap[b]? =some o'→o'.isChan=false
 os:w'.os=w.os
 output:w'.output=w.output
 tape:w'.tape=w.tape
 evs:∀e∈es,Bd k M w.heap.size w'.heap.size e

def Stp(P:Program)(main:Bool)(T:Goroutine→Hp→(Nat→Prop)→Prop)(g:Goroutine)(k:Hp)(M:Nat→Prop):Prop:=
 g.status= .running∧∀w,yF k w→(∀b,M b→(k b).isSome=true)→∃g' w' es,stepG P main g w= .go g' w' es∧dX k M w w' es∧T g' (snap k w w') (grown M w w')

inductive CJ(P:Program)(main:Bool)(Stop:Goroutine→Hp→(Nat→Prop)→Prop):Goroutine→Hp→(Nat→Prop)→Prop
 | stop {g:Goroutine} {k:Hp} {M:Nat→Prop} (h:Stop g k M):CJ P main Stop g k M
 | step {g:Goroutine} {k:Hp} {M:Nat→Prop} (hs:g.status= .running)
   (ok:∀w,yF k w→(∀b,M b→(k b).isSome=true)→∃g' w' es,stepG P main g w= .go g' w' es∧dX k M w w' es)
   (h:∀w g' w' es,yF k w→(∀b,M b→(k b).isSome=true)→stepG P main g w= .go g' w' es→CJ P main Stop g' (snap k w w') (grown M w w')):CJ P main Stop g k M

theorem dX.mem{k:Hp}{M:Nat→Prop}{w w':World}{es es':Array Event}(g:dX k M w w' es)(h:∀e∈es',e∈es):dX k M w w' es':=⟨g.size,g.keep,g.chans,g.news,g.stay,g.os,g.output,g.tape,fun e he=>g.evs e (h e he)⟩

theorem dX.heap{k:Hp}{M:Nat→Prop}{w w':World}(h:w'.heap=w.heap)(h1:w'.os=w.os)(h2:w'.output=w.output)(h3:w'.tape=w.tape):dX k M w w' #[]:=
 ⟨by rw[h];exact Nat.le_refl _,fun _ _ _=>by rw[h],fun _ _ x _=>by rw[h];exact x,fun b o x y _=>(by rw[h,Array.getElem?_eq_none x]at y;cases y),fun b o o' x y z=>(by rw[h,x]at z;cases z;exact y),h1,h2,h3,fun e x=>by simp at x⟩

theorem CJ.oN{P:Program}{main:Bool}{Stop:Goroutine→Hp→(Nat→Prop)→Prop}{g:Goroutine}{k:Hp}{M:Nat→Prop}(h:Stp P main (CJ P main Stop) g k M):CJ P main Stop g k M:=
 .step h.1 (fun w hw hm=>let⟨g',w',es,e,x,_⟩:=h.2 w hw hm;⟨g',w',es,e,x⟩) (fun w g' w' es hw hm e=>by
  obtain⟨g₁,w₁,es₁,e₁,_,x⟩:=h.2 w hw hm
  rw[e]at e₁
  cases e₁
  exact x)

theorem AB{k:Hp}{w:World}(h:yF k w):snap k w w=k:=by
 refine Hp.ext' (fun b=>?_) rfl
 simp only[snap]
 cases hb:k b with
 | none=>
  have:¬(w.heap.size≤b∧b<w.heap.size):=by omega
  simp[this,isC]
 | some o=>
  cases hc:o.isChan with
  | true=>simp[isC,hc]
  | false=>simp[isC,hc,h.get hb hc]

theorem qY{M:Nat→Prop}{w:World}:grown M w w=M:=by
 funext b
 have:¬(w.heap.size≤b∧b<w.heap.size):=by omega
 simp[grown,this]

theorem dX.refl{k:Hp}{M:Nat→Prop}{w:World}:dX k M w w #[]:=⟨Nat.le_refl _,fun _ _ _=>rfl,fun _ _ h _=>h,fun b o h1 h2 _=>(by rw[Array.getElem?_eq_none h1]at h2;cases h2),fun b o o' h1 h2 h3=>(by rw[h1]at h3;cases h3;exact h2),rfl,rfl,rfl,fun e h=>by simp at h⟩

theorem Stp.idle{P:Program}{main:Bool}{T:Goroutine→Hp→(Nat→Prop)→Prop}{g g':Goroutine}{k:Hp}{M:Nat→Prop}(hs:g.status= .running)(e:∀w,stepG P main g w= .go g' w #[])(h:T g' k M):Stp P main T g k M:=
 ⟨hs,fun w hw _=>⟨g',w, #[],e w,.refl,by rw[AB hw,qY];exact h⟩⟩

theorem CJ.idle{P:Program}{main:Bool}{Stop:Goroutine→Hp→(Nat→Prop)→Prop}{g g':Goroutine}{k:Hp}{M:Nat→Prop}(hs:g.status= .running)(e:∀w,stepG P main g w= .go g' w #[])(h:CJ P main Stop g' k M):CJ P main Stop g k M:=
 .oN (.idle hs e h)

/-! ### Frames -/
def bW(b:Frame)(tmps:Array Value)(ds:List Deferred)(todo:List Item):Frame:={b with tmps,todo,defers:=ds,mode:=.run}

abbrev G(fr:Frame)(cs:List Frame):Goroutine:=Conc.G fr cs

section moves
variable{P:Program}{main:Bool}{b:Frame}{t:Array Value}{ds:List Deferred}{k:List Item}{cs:List Frame}{w:World}
theorem MK:stepG P main (G (bW b t ds (.code .skip::k)) cs) w= .go (G (bW b t ds k) cs) w:=by simp[Conc.G,stepG,stepG.exec,bW]
theorem OG{l:Nat}:stepG P main (G (bW b t ds (.code (.label l)::k)) cs) w= .go (G (bW b t ds k) cs) w:=by simp[Conc.G,stepG,stepG.exec,bW]
theorem Iy{id:Nat}:stepG P main (G (bW b t ds (.inBlock id::k)) cs) w= .go (G (bW b t ds k) cs) w:=by simp[Conc.G,stepG,stepG.exec,bW]
theorem Iz{x y:Code}:stepG P main (G (bW b t ds (.code (.seq x y)::k)) cs) w= .go (G (bW b t ds (.code x:: .code y::k)) cs) w:=by simp[Conc.G,stepG,stepG.exec,bW]
theorem SX{c:Operand}{x y:Code}{v:Bool}(h:(bW b t ds (.code (.cond c x y)::k)).eval c= .bool v):
  stepG P main (G (bW b t ds (.code (.cond c x y)::k)) cs) w= .go (G (bW b t ds (.code (if v then x else y)::k)) cs) w:=by
 simp only[bW]at h
 simp[Conc.G,stepG,stepG.exec,bW,h]
theorem OH{id:Nat}{c:Code}:stepG P main (G (bW b t ds (.code (.block id c)::k)) cs) w= .go (G (bW b t ds (.code c:: .inBlock id::k)) cs) w:=by simp[Conc.G,stepG,stepG.exec,bW]
theorem SY{c:Code}:stepG P main (G (bW b t ds (.code (.loop c)::k)) cs) w= .go (G (bW b t ds (.code c:: .inLoop c::k)) cs) w:=by simp[Conc.G,stepG,stepG.exec,bW]
theorem Lj{c:Code}:stepG P main (G (bW b t ds (.inLoop c::k)) cs) w= .go (G (bW b t ds (.code c:: .inLoop c::k)) cs) w:=by simp[Conc.G,stepG,stepG.exec,bW]
theorem S9{id:Nat}{k':List Item}(h:exitTo id k=some k'):stepG P main (G (bW b t ds (.code (.exit id)::k)) cs) w= .go (G (bW b t ds k') cs) w:=by simp[Conc.G,stepG,stepG.exec,bW,h]
theorem S_{l:Nat}{k':List Item}(h:gotoIn l k=some k'):stepG P main (G (bW b t ds (.code (.goto l)::k)) cs) w= .go (G (bW b t ds k') cs) w:=by simp[Conc.G,stepG,stepG.exec,bW,h]
theorem Ll{id:Nat}{ops:Array Oper}:stepG P main (G (bW b t ds (.code (.region id ops false)::k)) cs) w= .go (G (bW b t ds (.inRegion ops (List.range ops.size)::k)) cs) w:=by simp[Conc.G,stepG,stepG.exec,bW]
theorem uq{ops:Array Oper}:stepG P main (G (bW b t ds (.inRegion ops []::k)) cs) w= .go (G (bW b t ds k) cs) w:=by simp[Conc.G,stepG,stepG.exec,bW]
end moves
end Go.aS

/- What an operation does to a partial heap ('tr'), and that it does so in every world that agrees with it ('tr_sound'). Conditions: none; over any program. -/
namespace Go.aS
def one:Value→Bool
 | .agg _ | .tuple _=>false
 | _=>true
def shapeOf:Obj→Option (TypeId×Nat)
 | .cells c e _=>some (e,c.size)
 | _=>none
def frozenAt(n:Nat):Obj→Bool
 | .cells _ _ (lo,hi)=>lo≤n&&n<hi
 | _=>false

def Look(h:Hp)(F:eG)(b:Nat)(o:Obj):Prop:=h b=some o∨(b,o)∈F

def opn:Obj→Bool
 | .chan _ _ closed _ _ _=> !closed
 | _=>false
theorem Fh{o:Obj}(h:o.isChan=false):opn o=false:=by cases o <;>first | rfl | cases h

structure Sat(h:Hp)(F:eG)(k:Hp)(M:Nat→Prop):Prop where
 sub:∀b o,h b=some o→k b=some o
 own:∀b o,(b,o)∈F→k b=some o∧M b∧h b=none
 nodup:(F.map (·.1)).Nodup
 all:∀b o,M b→k b=some o→opn o=true→(b,o)∈F∨h b=some o
 CO:∀b,h.z b→¬M b∧(k b).isSome=true

def Fr(M:Nat→Prop)(F:eG)(M':Nat→Prop)(F':eG):Prop:=∀b,M b→(∀o,(b,o)∉F)→M' b∧∀o,(b,o)∉F'

theorem Fr.refl{M:Nat→Prop}{F:eG}:Fr M F M F:=fun _ h h'=>⟨h,h'⟩
theorem Fr.trans{M ML jr:Nat→Prop}{F qp kP:eG}(a:Fr M F ML qp)(b:Fr ML qp jr kP):Fr M F jr kP:=fun x h h'=>let⟨y,z⟩:=a x h h';b x y z

theorem Fr.turn{M M':Nat→Prop}(F1 F2:eG)(b:Nat)(o o':Obj)(h:∀b,M b→M' b):Fr M (F1++(b,o)::F2) M' (F1++(b,o')::F2):=by
 intro c hc hF
 refine⟨h c hc,fun x hx=>?_⟩
 rcases List.mem_append.1 hx with hx | hx
 ·exact hF x (List.mem_append_left _ hx)
 ·rcases List.mem_cons.1 hx with e | hx
  ·cases e;exact hF o (by simp)
  ·exact hF x (by simp[hx])

def tr{α:Type}(P:Program)(h:Hp):Sem α→eG→(α→eG→Prop)→Prop
 | .pure a,F,Q=>Q a F
 | .load m a k,F,Q=>m= .plain∧a.spot=none∧∃c e fz v,Look h F a.block (.cells c e fz)∧c[a.off]? =some v∧tr P h (k v) F Q
 | .store m a v k,F,Q=>m= .plain∧a.spot=none∧one v=true∧∃c e lo hi F1 F2,F=F1++(a.block,.cells c e (lo,hi))::F2∧a.off<c.size∧(lo≤a.off&&a.off<hi)=false∧
   tr P h k (F1++(a.block,.cells (c.setIfInBounds a.off v) e (lo,hi))::F2) Q
 | .new o k,F,Q=>(o.isChan=true→o=acF)∧∀r,h r=none→(∀o,(r,o)∉F)→tr P h (k r) ((r,o)::F) Q
 | .shape r k,F,Q=>∃o,Look h F r o∧tr P h (k (shapeOf o)) F Q
 | .frozen a k,F,Q=>∃o,Look h F a.block o∧tr P h (k (frozenAt a.off o)) F Q
 | .getObj r k,F,Q=>∃o,Look h F r o∧(∀c e fz,o≠ .cells c e fz)∧o.isChan=false∧tr P h (k o) F Q
 | .setObj r o k,F,Q=>∃o₀ F1 F2,F=F1++(r,o₀)::F2∧(∀c e fz,o₀≠ .cells c e fz)∧(o₀.isChan|| o.isChan)=false∧tr P h k (F1++(r,o)::F2) Q
 | .choose q k,F,Q=>if q.forced then tr P h (k 0) F Q else∀n,(∃t,n=q.cut t)→tr P h (k n) F Q
 | .program k,F,Q=>tr P h (k P) F Q
 | .mark m k,F,Q=>Fg m=true∧tr P h k F Q
 | _,_,_=>False

theorem lM{α:Type}{P:Program}{h:Hp}{s:Sem α}{F:eG}{Q Q':α→eG→Prop}(H:tr P h s F Q)(hq:∀a F,Q a F→Q' a F):tr P h s F Q':=by
 induction s generalizing F with
 | pure a=>exact hq _ _ H
 | load m a k ih=>obtain⟨h1,h2,c,e,fz,v,h3,h4,h5⟩:=H;exact⟨h1,h2,c,e,fz,v,h3,h4,ih _ h5⟩
 | store m a v k ih=>obtain⟨h1,h2,h3,c,e,lo,hi,F1,F2,h4,h5,h6,h7⟩:=H;exact⟨h1,h2,h3,c,e,lo,hi,F1,F2,h4,h5,h6,ih h7⟩
 | new o k ih=>exact⟨H.1,fun r h1 h2=>ih _ (H.2 r h1 h2)⟩
 | shape r k ih=>obtain⟨o,h1,h2⟩:=H;exact⟨o,h1,ih _ h2⟩
 | freeze a n k ih=>exact H.elim
 | frozen a k ih=>obtain⟨o,h1,h2⟩:=H;exact⟨o,h1,ih _ h2⟩
 | getObj r k ih=>obtain⟨o,h1,h2,h3,h4⟩:=H;exact⟨o,h1,h2,h3,ih _ h4⟩
 | setObj r o k ih=>obtain⟨o₀,F1,F2,h1,h2,h3,h4⟩:=H;exact⟨o₀,F1,F2,h1,h2,h3,ih h4⟩
 | choose q k ih=>
  simp only[tr]at H⊢
  split
  ·rename_i hf;simp only[hf,if_true]at H;exact ih _ H
  ·rename_i hf;simp only[hf,if_false]at H;exact fun n hn=>ih _ (H n hn)
 | sys c k ih=>exact H.elim
 | program k ih=>exact ih _ H
 | mark m k ih=>exact⟨H.1,ih H.2⟩
 | halt h=>exact H.elim

theorem bJ{α β:Type}{P:Program}{h:Hp}{s:Sem α}{f:α→Sem β}{F:eG}{Q:β→eG→Prop}(H:tr P h s F (fun a F'=>tr P h (f a) F' Q)):tr P h (s.bind f) F Q:=by
 induction s generalizing F with
 | pure a=>exact H
 | load m a k ih=>obtain⟨h1,h2,c,e,fz,v,h3,h4,h5⟩:=H;exact⟨h1,h2,c,e,fz,v,h3,h4,ih _ h5⟩
 | store m a v k ih=>obtain⟨h1,h2,h3,c,e,lo,hi,F1,F2,h4,h5,h6,h7⟩:=H;exact⟨h1,h2,h3,c,e,lo,hi,F1,F2,h4,h5,h6,ih h7⟩
 | new o k ih=>exact⟨H.1,fun r h1 h2=>ih _ (H.2 r h1 h2)⟩
 | shape r k ih=>obtain⟨o,h1,h2⟩:=H;exact⟨o,h1,ih _ h2⟩
 | freeze a n k ih=>exact H.elim
 | frozen a k ih=>obtain⟨o,h1,h2⟩:=H;exact⟨o,h1,ih _ h2⟩
 | getObj r k ih=>obtain⟨o,h1,h2,h3,h4⟩:=H;exact⟨o,h1,h2,h3,ih _ h4⟩
 | setObj r o k ih=>obtain⟨o₀,F1,F2,h1,h2,h3,h4⟩:=H;exact⟨o₀,F1,F2,h1,h2,h3,ih h4⟩
 | choose q k ih=>
  simp only[tr,Sem.bind]at H⊢
  split
  ·rename_i hf;simp only[hf,if_true]at H;exact ih _ H
  ·rename_i hf;simp only[hf,if_false]at H;exact fun n hn=>ih _ (H n hn)
 | sys c k ih=>exact H.elim
 | program k ih=>exact ih _ H
 | mark m k ih=>exact⟨H.1,ih H.2⟩
 | halt h=>exact H.elim

theorem qZ{k:Hp}{M:Nat→Prop}{w w':World}{es:Array Event}(hk:yF k w)(g:dX k M w w' es):yF (snap k w w') w':=by
 intro b o hb
 simp only[snap]at hb
 split at hb
 ·rename_i hc
  obtain⟨o',h1,h2⟩:=hk b o hb
  rw[hb]at hc
  have hc':o'.isChan=true:=by
   rcases h2 with h2 | h2
   ·rw[h2];exact hc
   ·exact h2.2
  exact⟨o',g.chans b o' h1 hc',h2⟩
 ·split at hb
  ·exact⟨o,hb,.inl rfl⟩
  ·cases hb

theorem Lm{k:Hp}{w w₁ w₂:World}(hk:yF k w)(h1:w.heap.size≤w₁.heap.size)(h2:w₁.heap.size≤w₂.heap.size)(hc:∀(b:Nat) (o:Obj),w₁.heap[b]? =some o→o.isChan=true→w₂.heap[b]? =some o):snap (snap k w w₁) w₁ w₂=snap k w w₂:=by
 refine Hp.ext' (fun b=>?_) rfl
 cases hcb:isC (k b)with
 | true=>simp[snap,hcb]
 | false=>
 
 have e1:snap k w w₁ b=if(k b).isSome|| (w.heap.size≤b&&b<w₁.heap.size)then w₁.heap[b]? else none:=by simp[snap,hcb]
 have e2:snap k w w₂ b=if(k b).isSome|| (w.heap.size≤b&&b<w₂.heap.size)then w₂.heap[b]? else none:=by simp[snap,hcb]
 have e3:snap (snap k w w₁) w₁ w₂ b=if isC (snap k w w₁ b)then snap k w w₁ b else if(snap k w w₁ b).isSome|| (w₁.heap.size≤b&&b<w₂.heap.size)then w₂.heap[b]? else none:=rfl
 rw[e3,e2,e1]
 by_cases hb:(k b).isSome=true∨(w.heap.size≤b∧b<w₁.heap.size)
 ·have h3:b<w₁.heap.size:=by
   rcases hb with hb | hb
   ·obtain⟨o,ho⟩:=Option.isSome_iff_exists.1 hb
    obtain⟨o',h',_⟩:=hk b o ho
    rcases Nat.lt_or_ge b w.heap.size with h | h
    ·omega
    ·rw[Array.getElem?_eq_none h]at h';cases h'
   ·exact hb.2
  have h4:((k b).isSome|| (decide (w.heap.size≤b)&&decide (b<w₁.heap.size)))=true:=by simpa using hb
  have h5:((k b).isSome|| (decide (w.heap.size≤b)&&decide (b<w₂.heap.size)))=true:=by
   rcases hb with hb | hb
   ·simp[hb]
   ·have:w.heap.size≤b∧b<w₂.heap.size:=by omega
    simp[this]
  rw[if_pos h4,if_pos h5]
  obtain⟨o,ho⟩:=Option.isSome_iff_exists.1 (show(w₁.heap[b]?).isSome=true by simp;exact h3)
  rw[ho]
  cases hco:o.isChan with
  | true=>simp[isC,hco,hc b o ho hco]
  | false=>simp[isC,hco]
 ·have h4:((k b).isSome|| (decide (w.heap.size≤b)&&decide (b<w₁.heap.size)))=false:=by
   cases hx:((k b).isSome|| (decide (w.heap.size≤b)&&decide (b<w₁.heap.size)))with
   | false=>rfl
   | true=>exact absurd (by simpa using hx) hb
  rw[h4]
  have h5:(k b).isSome=false:=by
   cases hx:(k b).isSome with
   | false=>rfl
   | true=>exact absurd (.inl hx) hb
  have h6:(decide (w₁.heap.size≤b)&&decide (b<w₂.heap.size))=(decide (w.heap.size≤b)&&decide (b<w₂.heap.size)):=by
   have:¬(w.heap.size≤b∧b<w₁.heap.size):=fun h=>hb (.inr h)
   have:(w₁.heap.size≤b∧b<w₂.heap.size)↔(w.heap.size≤b∧b<w₂.heap.size):=by omega
   rw[←Bool.decide_and,←Bool.decide_and]
   exact decide_eq_decide.2 this
  simp[isC,h5,h6]

theorem yX{M:Nat→Prop}{w w₁ w₂:World}(h1:w.heap.size≤w₁.heap.size)(h2:w₁.heap.size≤w₂.heap.size):grown (grown M w w₁) w₁ w₂=grown M w w₂:=by
 funext b
 unfold grown
 apply propext
 constructor
 ·rintro((h | h) | h)
  ·exact .inl h
  ·exact .inr (by omega)
  ·exact .inr (by omega)
 ·rintro(h | h)
  ·exact .inl (.inl h)
  ·by_cases h3:b<w₁.heap.size
   ·exact .inl (.inr (by omega))
   ·exact .inr (by omega)

theorem Bd.up{k:Hp}{M:Nat→Prop}{lo hi hi':Nat}{e:Event}(h1:hi≤hi')(h:Bd k M lo hi e):Bd k M lo hi' e:=by
 unfold Bd at h⊢
 split at h
 ·exact⟨h.1,h.2.imp id fun x=>⟨x.1,by omega⟩⟩
 ·exact⟨h.1,h.2.imp id fun x=>⟨x.1,by omega⟩⟩
 ·exact h
 ·exact h.elim
theorem Bd.trans{k:Hp}{M:Nat→Prop}{w w₁:World}{hi:Nat}{e:Event}(h1:w.heap.size≤w₁.heap.size)(h2:w₁.heap.size≤hi)(h:Bd (snap k w w₁) (grown M w w₁) w₁.heap.size hi e):Bd k M w.heap.size hi e:=by
 have key:∀b,((snap k w w₁) b).isSome=true→(k b).isSome=true∨(w.heap.size≤b∧b<hi):=by
  intro b hb
  by_cases hk:(k b).isSome=true
  ·exact .inl hk
  ·simp only[Bool.not_eq_true]at hk
   have hkn:k b=none:=by simpa using hk
   simp only[snap,hkn,isC]at hb
   by_cases h3:w.heap.size≤b∧b<w₁.heap.size
   ·exact .inr ⟨h3.1,by omega⟩
   ·have h7:(w.heap.size≤b&&b<w₁.heap.size)=false:=by simpa using h3
    simp[h7]at hb
 have aer:∀b,isC ((snap k w w₁) b)=false→isC (k b)=false:=by
  intro b hb
  cases hc:isC (k b)with
  | false=>rfl
  | true=>simp[snap,hc]at hb
 have on:∀(b:Nat) (wr:Bool),(((snap k w w₁ b).isSome=true∧isC (snap k w w₁ b)=false∧(wr=true→grown M w w₁ b))∨(w₁.heap.size≤b∧b<hi))→((k b).isSome=true∧isC (k b)=false∧(wr=true→M b))∨(w.heap.size≤b∧b<hi):=by
  rintro b wr (⟨h1,h2,h3⟩ | h1')
  ·rcases key b h1 with h4 | h4
   ·by_cases h5:w.heap.size≤b∧b<w₁.heap.size
    ·exact .inr ⟨h5.1,by omega⟩
    ·exact .inl ⟨h4,aer b h2,fun e=>(h3 e).resolve_right fun h=>h5 h⟩
   ·exact .inr h4
  ·exact .inr (by omega)
 unfold Bd at h⊢
 split at h
 ·exact⟨h.1,on _ _ h.2⟩
 ·exact⟨h.1,on _ _ h.2⟩
 ·exact h
 ·exact h.elim

theorem dX.trans{k:Hp}{M:Nat→Prop}{w w₁ w₂:World}{es es':Array Event}(h1:dX k M w w₁ es)(h2:dX (snap k w w₁) (grown M w w₁) w₁ w₂ es'):dX k M w w₂ (es++es') where
 size:=Nat.le_trans h1.size h2.size
 keep:=fun b hb hm=>by
  have:=h1.size
  rw[h2.keep b (by omega) (by rintro(h | h);exact hm h;omega),h1.keep b hb hm]
 chans:=fun b o h c=>h2.chans b o (h1.chans b o h c) c
 news:=fun b o hb ho hc=>by
  by_cases h:w₁.heap.size≤b
  ·exact h2.news b o h ho hc
  ·obtain⟨o₁,e⟩:=Option.isSome_iff_exists.1 (show(w₁.heap[b]?).isSome=true by simp;omega)
   cases hc₁:o₁.isChan with
   | true=>
    have:=h2.chans b o₁ e hc₁
    rw[this]at ho;cases ho
    exact h1.news b _ hb e hc₁
   | false=>rw[h2.stay b o₁ o e hc₁ ho]at hc;cases hc
 stay:=fun b o o' ho hc ho'=>by
  have hlt:b<w.heap.size:=by
   rcases Nat.lt_or_ge b w.heap.size with h | h
   ·exact h
   ·rw[Array.getElem?_eq_none h]at ho;cases ho
  have:=h1.size
  obtain⟨o₁,e⟩:=Option.isSome_iff_exists.1 (show(w₁.heap[b]?).isSome=true by simp;omega)
  exact h2.stay b o₁ o' e (h1.stay b o o₁ ho hc e) ho'
 os:=h2.os.trans h1.os
 output:=h2.output.trans h1.output
 tape:=h2.tape.trans h1.tape
 evs:=fun e he=>by
  rcases Array.mem_append.1 he with he | he
  ·exact(h1.evs e he).up h2.size
  ·exact(h2.evs e he).trans h1.size h2.size

theorem Wh{k:Hp}{w w':World}{b:Nat}{o:Obj}(hk:k b=some o)(h:o.isChan=true∨w'.heap[b]? =some o):snap k w w' b=some o:=by
 cases hc:o.isChan with
 | true=>simp[snap,hk,isC,hc]
 | false=>
  rcases h with h | h
  ·rw[hc]at h;cases h
  ·simp[snap,hk,isC,hc,h]
theorem oO{k:Hp}{w w':World}{b:Nat}{o:Obj}(hk:k b=some o)(ha:yF k w)(h:w'.heap[b]? =w.heap[b]?):snap k w w' b=some o:=by
 refine Wh hk ?_
 cases hc:o.isChan with
 | true=>exact .inl rfl
 | false=>exact .inr (by rw[h];exact ha.get hk hc)
theorem yF.lt{k:Hp}{w:World}(ha:yF k w){b:Nat}{o:Obj}(hk:k b=some o):b<w.heap.size:=by
 obtain⟨o',h,_⟩:=ha b o hk
 rcases Nat.lt_or_ge b w.heap.size with h' | h'
 ·exact h'
 ·rw[Array.getElem?_eq_none h']at h;cases h

theorem m_{w:World}{b:Nat}{o:Obj}(h:w.heap[b]? =some o):b<w.heap.size:=by
 rcases Nat.lt_or_ge b w.heap.size with h' | h'
 ·exact h'
 ·rw[Array.getElem?_eq_none h']at h;cases h

theorem Sat.look{h:Hp}{F:eG}{k:Hp}{M:Nat→Prop}(S:Sat h F k M){b:Nat}{o:Obj}(H:Look h F b o):k b=some o:=H.elim (S.sub b o) (fun x=>(S.own b o x).1)

theorem Sat.turn{h:Hp}{F1 F2:eG}{k:Hp}{M:Nat→Prop}{w w':World}{b:Nat}{o o':Obj}(S:Sat h (F1++(b,o)::F2) k M)(hk:yF k w)
  (hoc:o.isChan=false) (aes:o'.isChan=false) (hs:w'.heap.size=w.heap.size) (hb:w'.heap[b]? =some o') (ho:∀c,c≠b→w'.heap[c]? =w.heap[c]?):Sat h (F1++(b,o')::F2) (snap k w w') (grown M w w'):=by
 have hown:=S.own b o (by simp)
 have hnd:=S.nodup
 refine⟨fun c x hc=>?_,fun c x hc=>?_,by simpa using hnd,fun c x hm hx ho'=>?_,fun c hc=>?_⟩
 ·have hcb:c≠b:=by rintro rfl;rw[hown.2.2]at hc;cases hc
  exact oO (S.sub c x hc) hk (ho c hcb)
 ·have hne:∀y,(c,y)∈F1∨(c,y)∈F2→c≠b:=by
   rintro y hy rfl
   simp only[List.map_append,List.map_cons,List.nodup_append,List.nodup_cons]at hnd
   rcases hy with hy | hy
   ·exact hnd.2.2 c (List.mem_map.2 ⟨_,hy,rfl⟩) c (by simp) rfl
   ·exact hnd.2.1.1 (List.mem_map.2 ⟨_,hy,rfl⟩)
  have old:(c,x)∈F1∨(c,x)∈F2→snap k w w' c=some x∧grown M w w' c∧h c=none:=fun hy=>by
   have h1:=S.own c x (by rcases hy with hy | hy <;>simp[hy])
   exact⟨oO h1.1 hk (ho c (hne x hy)),.inl h1.2.1,h1.2.2⟩
  rcases List.mem_append.1 hc with hc | hc
  ·exact old (.inl hc)
  ·rcases List.mem_cons.1 hc with e | hc
   ·cases e
    refine⟨?_,.inl hown.2.1,hown.2.2⟩
    simp[snap,hown.1,hb,isC,hoc]
   ·exact old (.inr hc)
 ·have hm':M c:=by
   rcases hm with hm | hm
   ·exact hm
   ·omega
  by_cases hcb:c=b
  ·subst hcb
   have:snap k w w' c=some o':=by simp[snap,hown.1,hb,isC,hoc]
   rw[this]at hx
   cases hx
   rw[Fh aes]at ho';cases ho'
  ·
   have hkc:k c=some x:=by
    simp only[snap]at hx
    split at hx
    ·exact hx
    ·rename_i hnc
     have hlt:¬(w.heap.size≤c∧c<w'.heap.size):=by omega
     split at hx
     ·rw[ho c hcb]at hx
      cases hk':k c with
      | none=>
       have h1:(decide (w.heap.size≤c)&&decide (c<w'.heap.size))=false:=by
        cases hx':(decide (w.heap.size≤c)&&decide (c<w'.heap.size))with
        | false=>rfl
        | true=>exact absurd (by simpa using hx') hlt
       simp_all
      | some y=>
       have hyc:y.isChan=false:=by
        cases hy:y.isChan with
        | false=>rfl
        | true=>exact absurd (by simp[hk',isC,hy]) hnc
       rw[hk.get hk' hyc]at hx
       exact hx
     ·cases hx
   rcases S.all c x hm' hkc ho' with h1 | h1
   ·left
    rcases List.mem_append.1 h1 with h1 | h1
    ·exact List.mem_append_left _ h1
    ·rcases List.mem_cons.1 h1 with e | h1
     ·cases e;exact absurd rfl hcb
     ·exact List.mem_append_right _ (List.mem_cons_of_mem _ h1)
   ·exact .inr h1
 ·have h1:=S.CO c hc
  obtain⟨x,hx⟩:=Option.isSome_iff_exists.1 h1.2
  have hlt:=hk.lt hx
  refine⟨?_,?_⟩
  ·rintro(hm | hm)
   ·exact h1.1 hm
   ·omega
  ·have hcb:c≠b:=by rintro rfl;exact h1.1 hown.2.1
   rw[oO hx hk (ho c hcb)];rfl

theorem Sat.grow{h:Hp}{F:eG}{k:Hp}{M:Nat→Prop}{w:World}{o:Obj}(S:Sat h F k M)(hk:yF k w):
  Sat h ((w.heap.size,o)::F) (snap k w {w with heap:=w.heap.push o}) (grown M w {w with heap:=w.heap.push o})∧h w.heap.size=none∧∀o',(w.heap.size,o')∉F:=by
 have h1:∀c x,k c=some x→({w with heap:=w.heap.push o}:World).heap[c]? =w.heap[c]? :=fun c x hc=>by
  have hlt:=hk.lt hc
  simp only[Array.getElem?_push,Nat.ne_of_lt hlt,if_false]
 have h2:h w.heap.size=none:=by
  cases hh:h w.heap.size with
  | none=>rfl
  | some x=>exact absurd (hk.lt (S.sub _ _ hh)) (by omega)
 have h3:∀o',(w.heap.size,o')∉F:=fun o' hm=>absurd (hk.lt (S.own _ _ hm).1) (by omega)
 have hkn:k w.heap.size=none:=by
  cases hh:k w.heap.size with
  | none=>rfl
  | some x=>exact absurd (hk.lt hh) (by omega)
 refine⟨⟨fun c x hc=>oO (S.sub c x hc) hk (h1 c x (S.sub c x hc)),fun c x hc=>?_,?_,fun c x hm hx ho=>?_,fun c hc=>?_⟩,h2,h3⟩
 ·rcases List.mem_cons.1 hc with e | hc
  ·cases e
   have hkn:k w.heap.size=none:=by
    cases hh:k w.heap.size with
    | none=>rfl
    | some x=>exact absurd (hk.lt hh) (by omega)
   exact⟨by simp[snap,hkn,isC],.inr ⟨Nat.le_refl _,by simp⟩,h2⟩
  ·have:=S.own c x hc
   exact⟨oO this.1 hk (h1 c x this.1),.inl this.2.1,this.2.2⟩
 ·simp only[List.map_cons,List.nodup_cons]
  refine⟨fun hm=>?_,S.nodup⟩
  obtain⟨⟨c,x⟩,hx,hc⟩:=List.mem_map.1 hm
  simp only at hc
  subst hc
  exact h3 x hx
 ·by_cases hcb:c=w.heap.size
  ·subst hcb
   have:snap k w {w with heap:=w.heap.push o} w.heap.size=some o:=by simp[snap,hkn,isC]
   rw[this]at hx
   cases hx
   exact .inl (List.mem_cons_self ..)
  ·have hm':M c:=by
    rcases hm with hm | hm
    ·exact hm
    ·simp at hm;omega
   have hkc:k c=some x:=by
    cases hk':k c with
    | none=>
     have h1:(decide (w.heap.size≤c)&&decide (c<(w.heap.push o).size))=false:=by
      cases hx':(decide (w.heap.size≤c)&&decide (c<(w.heap.push o).size))with
      | false=>rfl
      | true=>simp at hx';omega
     simp[snap,hk',isC]at hx
     omega
    | some y=>
     have:=oO (w':={w with heap:=w.heap.push o}) hk' hk (h1 c y hk')
     rw[this]at hx
     exact hx
   rcases S.all c x hm' hkc ho with h1 | h1
   ·exact .inl (List.mem_cons_of_mem _ h1)
   ·exact .inr h1
 ·have e1:=S.CO c hc
  obtain⟨x,hx⟩:=Option.isSome_iff_exists.1 e1.2
  have hlt:=hk.lt hx
  refine⟨?_,?_⟩
  ·rintro(hm | hm)
   ·exact e1.1 hm
   ·omega
  ·rw[oO hx hk (h1 c x hx)];rfl

theorem u_{k:Hp}{M:Nat→Prop}{w w':World}(hk:yF k w)(hM:∀b,M b→(k b).isSome=true)(hs:w.heap.size≤w'.heap.size):∀b,grown M w w' b→(snap k w w' b).isSome=true:=by
 intro b hb
 have:b<w'.heap.size:=by
  rcases hb with hb | hb
  ·obtain⟨o,ho⟩:=Option.isSome_iff_exists.1 (hM b hb)
   have:=hk.lt ho
   omega
  ·exact hb.2
 have h3:(w'.heap[b]?).isSome=true:=by simp;omega
 simp only[snap]
 split
 ·rename_i hc
  cases hk':k b with
  | none=>rw[hk']at hc;cases hc
  | some o=>rfl
 rcases hb with hb | hb
 ·simp[hM b hb,h3]
 ·simp[hb.1,hb.2,h3]

theorem jR{α:Type}{P:Program}{h:Hp}(s:Sem α):∀{F:eG} {Q:α→eG→Prop} {k:Hp} {M:Nat→Prop} {w:World} (gB:Array Event),
  tr P h s F Q→Sat h F k M→yF k w→(∀b,M b→(k b).isSome=true)→
  ∃a F' w' es,s.runT P w gB=(.ok a w',gB++es)∧dX k M w w' es∧Sat h F' (snap k w w') (grown M w w')∧Fr M F (grown M w w') F'∧Q a F':=by
 
 have still:∀{β:Type} {F:eG} {Q:β→eG→Prop} {k:Hp} {M:Nat→Prop} {w:World} {gB:Array Event} {s:Sem β} {e:Event},(∀hi,Bd k M w.heap.size hi e)→
   (∃a F' w' es,s.runT P w (gB.push e)=(.ok a w',gB.push e++es)∧dX k M w w' es∧Sat h F' (snap k w w') (grown M w w')∧Fr M F (grown M w w') F'∧Q a F')→
   ∃a F' w' es,s.runT P w (gB.push e)=(.ok a w',gB++es)∧dX k M w w' es∧Sat h F' (snap k w w') (grown M w w')∧Fr M F (grown M w w') F'∧Q a F':=by
  intro β F Q k M w gB s e he ⟨a,F',w',es,h1,h2,h3,h5,h4⟩
  refine⟨a,F',w', #[e]++es,by rw[h1,Array.push_eq_append,Array.append_assoc],⟨h2.size,h2.keep,h2.chans,h2.news,h2.stay,h2.os,h2.output,h2.tape,fun x hx=>?_⟩,h3,h5,h4⟩
  rcases Array.mem_append.1 hx with hx | hx
  ·obtain rfl:x=e:=by simpa using hx
   exact he _
  ·exact h2.evs x hx
 
 have on:∀{β:Type} {F qp:eG} {Q:β→eG→Prop} {k:Hp} {M:Nat→Prop} {w w₁:World} {gB es₁:Array Event} {s:Sem β},yF k w→dX k M w w₁ es₁→Fr M F (grown M w w₁) qp→
   (∃a F' w' es,s.runT P w₁ (gB++es₁)=(.ok a w',gB++es₁++es)∧dX (snap k w w₁) (grown M w w₁) w₁ w' es∧Sat h F' (snap (snap k w w₁) w₁ w') (grown (grown M w w₁) w₁ w')∧Fr (grown M w w₁) qp (grown (grown M w w₁) w₁ w') F'∧Q a F')→
   ∃a F' w' es,s.runT P w₁ (gB++es₁)=(.ok a w',gB++es)∧dX k M w w' es∧Sat h F' (snap k w w') (grown M w w')∧Fr M F (grown M w w') F'∧Q a F':=by
  intro β F qp Q k M w w₁ gB es₁ s hk g f ⟨a,F',w',es,h1,h2,h3,h5,h4⟩
  rw[Lm hk g.size h2.size h2.chans,yX g.size h2.size]at h3
  rw[yX g.size h2.size]at h5
  exact⟨a,F',w',es₁++es,by rw[h1,Array.append_assoc],g.trans h2,h3,f.trans h5,h4⟩
 induction s with
 | pure a=>exact fun{F Q k M w} gB H S hk hM=>⟨a,F,w, #[],by simp[Sem.runT],.refl,by rw[AB hk,qY];exact S,by rw[qY];exact .refl,H⟩
 | load m a c ih=>
  intro F Q k M w gB ⟨h1,h2,cs,e,fz,v,h3,h4,h5⟩ S hk hM
  have hc:w.cell? a=some v:=by
   unfold World.cell?
   rw[hk.get (S.look h3) rfl]
   simp[h2,h4]
  subst h1
  simp only[Sem.runT,hc]
  refine still (F:=F) ?_ (ih v _ h5 S hk hM)
  exact fun _=>⟨rfl,.inl ⟨by simp[S.look h3],by simp[S.look h3,isC,Obj.isChan],by simp⟩⟩
 | store m a v c ih=>
  intro F Q k M w gB ⟨h1,h2,h3,cs,e,lo,hi,F1,F2,h4,h5,h6,h7⟩ S hk hM
  subst h1 h4
  have hown:=S.own a.block _ (List.mem_append_right _ (List.mem_cons_self ..))
  have hw:=hk.get hown.1 rfl
  have hc:w.cell? a=some cs[a.off]:=by
   unfold World.cell?
   rw[hw]
   simp[h2,h5]
  have hf:w.frozen? a=false:=by
   unfold World.frozen?
   rw[hw]
   exact h6
  have hlt:=m_ hw
  have hnc:(Obj.cells cs e (lo,hi)).isChan=false:=rfl
  have hnc':(Obj.cells (cs.setIfInBounds a.off v) e (lo,hi)).isChan=false:=rfl
  have hsz:(w.setCell a v).heap.size=w.heap.size:=by simp[World.setCell]
  have hat:(w.setCell a v).heap[a.block]? =some (.cells (cs.setIfInBounds a.off v) e (lo,hi)):=by
   simp[World.setCell,Array.getElem?_modify,hw,h2]
  have hoth:∀b,b≠a.block→(w.setCell a v).heap[b]? =w.heap[b]? :=fun b hb=>by
   simp[World.setCell,Array.getElem?_modify,Ne.symm hb]
  have g:dX k M w (w.setCell a v) #[⟨.cell a,true,false⟩]:=
   ⟨by rw[hsz];exact Nat.le_refl _,fun b _ hb=>hoth b (by rintro rfl;exact hb hown.2.1),fun b o ho hc=>by rw[hoth b (by rintro rfl;rw[hw]at ho;cases ho;cases hc)];exact ho,fun b o hb ho _=>(by rw[Array.getElem?_eq_none (by rw[hsz];exact hb)]at ho;cases ho),fun b o o' ho hc ho'=>(by
    by_cases hba:b=a.block
    ·subst hba;rw[hat]at ho';cases ho';rfl
    ·rw[hoth b hba,ho]at ho';cases ho';exact hc),rfl,rfl,rfl,fun x hx=>by
    obtain rfl:x=⟨.cell a,true,false⟩:=by simpa using hx
    exact⟨rfl,.inl ⟨by simp[hown.1],by simp[hown.1,isC,Obj.isChan],fun _=>hown.2.1⟩⟩⟩
  have run:(Sem.store Mode.plain a v c).runT P w gB=c.runT P (w.setCell a v) (gB++ #[⟨.cell a,true,false⟩]):=by
   have e1:(Mode.plain==Mode.atomic)=false:=rfl
   cases v <;>first | (cases h3;done) | simp[Sem.runT,hc,hf,e1]
  rw[run]
  exact on hk g (Fr.turn _ _ _ _ _ fun b h=>.inl h) (ih _ h7 (S.turn hk hnc hnc' hsz hat hoth) (qZ hk g) (u_ hk hM g.size))
 | new o c ih=>
  intro F Q k M w gB H S hk hM
  obtain⟨S',h1,h2⟩:=S.grow (o:=o) hk
  have g:dX k M w {w with heap:=w.heap.push o} #[]:=⟨by simp,fun b hb _=>by simp[Array.getElem?_push,Nat.ne_of_lt hb],fun b o ho _=>by simp[Array.getElem?_push,Nat.ne_of_lt (m_ ho),ho],fun b o' hb ho' hc=>(by
   rw[Array.getElem?_push]at ho'
   split at ho'
   ·cases ho';exact H.1 hc
   ·rw[Array.getElem?_eq_none hb]at ho';cases ho'),fun b o₁ o₂ ho hc ho'=>(by
   simp only[Array.getElem?_push,Nat.ne_of_lt (m_ ho),if_false,ho]at ho'
   cases ho';exact hc),rfl,rfl,rfl,fun x hx=>by simp at hx⟩
  have run:(Sem.new o c).runT P w gB=(c w.heap.size).runT P {w with heap:=w.heap.push o} (gB++ #[]):=by simp[Sem.runT]
  rw[run]
  refine on hk g (fun b hb hF=>⟨.inl hb,fun o' ho'=>?_⟩) (ih _ _ (H.2 _ h1 h2) S' (qZ hk g) (u_ hk hM g.size))
  rcases List.mem_cons.1 ho' with e | ho'
  ·cases e
   obtain⟨x,hx⟩:=Option.isSome_iff_exists.1 (hM _ hb)
   exact absurd (hk.lt hx) (by omega)
  ·exact hF o' ho'
 | shape r c ih=>
  intro F Q k M w gB ⟨o,h1,h2⟩ S hk hM
  have:w.shape? r=(shapeOf o):=by
   unfold World.shape?
   obtain⟨o',e,f⟩:=hk _ _ (S.look h1)
   rw[e]
   rcases f with rfl | ⟨f1,f2⟩
   ·cases o' <;>rfl
   ·cases o <;>first | (cases f1;done) | (cases o' <;>first | rfl | (cases f2;done))
  simp only[Sem.runT,this]
  exact ih _ _ h2 S hk hM
 | freeze a n c ih=>exact fun _ H=>H.elim
 | frozen a c ih=>
  intro F Q k M w gB ⟨o,h1,h2⟩ S hk hM
  have:w.frozen? a=(frozenAt a.off o):=by
   unfold World.frozen?
   obtain⟨o',e,f⟩:=hk _ _ (S.look h1)
   rw[e]
   rcases f with rfl | ⟨f1,f2⟩
   ·cases o' <;>rfl
   ·cases o <;>first | (cases f1;done) | (cases o' <;>first | rfl | (cases f2;done))
  simp only[Sem.runT,this]
  exact ih _ _ h2 S hk hM
 | getObj r c ih=>
  intro F Q k M w gB ⟨o,h1,h2,h3,h4⟩ S hk hM
  have hw:=hk.get (S.look h1) h3
  have run:(Sem.getObj r c).runT P w gB=(c o).runT P w (gB.push ⟨.obj r,false,o.isChan⟩):=by
   simp only[Sem.runT,hw]
  rw[run]
  exact still (F:=F) (fun _=>⟨h3,.inl ⟨by simp[S.look h1],by simp[S.look h1,isC,h3],by simp⟩⟩) (ih o _ h4 S hk hM)
 | setObj r o c ih=>
  intro F Q k M w gB ⟨o₀,F1,F2,h1,h2,h3,h4⟩ S hk hM
  subst h1
  have hown:=S.own r _ (List.mem_append_right _ (List.mem_cons_self ..))
  rw[Bool.or_eq_false_iff]at h3
  obtain⟨hnc,h3⟩:=h3
  have hnc':=h3
  have hw:=hk.get hown.1 hnc
  have hlt:=m_ hw
  have hsz:({w with heap:=w.heap.setIfInBounds r o}:World).heap.size=w.heap.size:=by simp
  have hat:({w with heap:=w.heap.setIfInBounds r o}:World).heap[r]? =some o:=by simp[hlt]
  have hoth:∀b,b≠r→({w with heap:=w.heap.setIfInBounds r o}:World).heap[b]? =w.heap[b]? :=fun b hb=>by simp[Ne.symm hb]
  have g:dX k M w {w with heap:=w.heap.setIfInBounds r o} #[⟨.obj r,true,o.isChan⟩]:=
   ⟨by rw[hsz];exact Nat.le_refl _,fun b _ hb=>hoth b (by rintro rfl;exact hb hown.2.1),fun b o ho hc=>by rw[hoth b (by rintro rfl;rw[hw]at ho;cases ho;rw[hnc]at hc;cases hc)];exact ho,fun b o' hb ho _=>(by rw[Array.getElem?_eq_none (by rw[hsz];exact hb)]at ho;cases ho),fun b o₁ o₂ ho hc ho'=>(by
    by_cases hba:b=r
    ·subst hba;rw[hat]at ho';cases ho';exact h3
    ·rw[hoth b hba,ho]at ho';cases ho';exact hc),rfl,rfl,rfl,fun x hx=>by
    obtain rfl:x=⟨.obj r,true,o.isChan⟩:=by simpa using hx
    exact⟨h3,.inl ⟨by simp[hown.1],by simp[hown.1,isC,hnc],fun _=>hown.2.1⟩⟩⟩
  have run:(Sem.setObj r o c).runT P w gB=c.runT P {w with heap:=w.heap.setIfInBounds r o} (gB++ #[⟨.obj r,true,o.isChan⟩]):=by
   simp only[Sem.runT,hw]
   cases o₀ <;>first | exact absurd rfl (h2 _ _ _) | simp
  rw[run]
  exact on hk g (Fr.turn _ _ _ _ _ fun b h=>.inl h) (ih _ h4 (S.turn hk hnc hnc' hsz hat hoth) (qZ hk g) (u_ hk hM g.size))
 | choose q c ih=>
  intro F Q k M w gB H S hk hM
  simp only[tr]at H
  simp only[Sem.runT]
  split
  ·rename_i hf;simp only[hf,if_true]at H;exact ih _ _ H S hk hM
  ·rename_i hf
   simp only[hf]at H
   have H':=H (q.cut (w.tape w.drawn q)) ⟨_,rfl⟩
   have e1:snap k w {w with drawn:=w.drawn+1}=k:=AB hk
   have e2:grown M w {w with drawn:=w.drawn+1}=M:=qY
   have g:dX k M w {w with drawn:=w.drawn+1} #[]:=dX.heap rfl rfl rfl rfl
   have:=on (F:=F) (qp:=F) (gB:=gB) hk g (by rw[e2];exact .refl) (ih _ _ H' (by rw[e1,e2];exact S) (qZ hk g) (u_ hk hM g.size))
   simpa using this
 | sys c f ih=>exact fun _ H=>H.elim
 | program c ih=>
  intro F Q k M w gB H S hk hM
  simp only[Sem.runT]
  exact ih _ _ H S hk hM
 | mark m c ih=>
  intro F Q k M w gB ⟨h1,h2⟩ S hk hM
  simp only[Sem.runT]
  exact still (F:=F) (fun _=>h1) (ih _ h2 S hk hM)
 | halt x=>exact fun _ H=>H.elim

end Go.aS

/- The judgement on code ('W'), and its rules of control. Conditions: none; over any program. -/
namespace Go.aS
abbrev Env:=List (Nat×Value)
def look:Env→Nat→Option Value
 | [],_=>none
 | (t,v)::r,s=>bif Nat.beq s t then some v else look r s
def dQ(ρ:Env)(tmps:Array Value):Prop:=∀t v,look ρ t=some v→tmps[t]? =some v
def Sub:Env→Env→Prop
 | [],_=>True
 | (t,v)::r,ρ=>look ρ t=some v∧Sub r ρ

theorem Sub.look{ρ:Env}:∀{ρ':Env},Sub ρ' ρ→∀t v,look ρ' t=some v→look ρ t=some v
 | [],_,t,v,h=>by cases h
 | (s,x)::r,⟨h1,h2⟩,t,v,h=>by
  unfold aS.look at h
  cases e:Nat.beq t s with
  | true=>rw[e]at h;simp only[cond_true,Option.some.injEq]at h;subst h;rw[Nat.eq_of_beq_eq_true e];exact h1
  | false=>rw[e]at h;exact Sub.look h2 t v h

theorem dQ.sub{ρ ρ':Env}{tmps:Array Value}(h:dQ ρ tmps)(s:Sub ρ' ρ):dQ ρ' tmps:=fun t v x=>h t v (s.look t v x)

theorem dQ.put{ρ:Env}{tmps:Array Value}(h:dQ ρ tmps){d:Nat}(hd:d<tmps.size)(v:Value):dQ ((d,v)::ρ) (tmps.setIfInBounds d v):=by
 intro t x ht
 unfold look at ht
 cases e:Nat.beq t d with
 | true=>
  rw[e]at ht
  simp only[cond_true,Option.some.injEq]at ht
  subst ht
  rw[Nat.eq_of_beq_eq_true e]
  simp[hd]
 | false=>
  rw[e]at ht
  have hne:t≠d:=fun e'=>by rw[e',Nat.beq_refl]at e;cases e
  simp only[cond_false]at ht
  rw[Array.getElem?_setIfInBounds]
  simp only[Ne.symm hne,if_false]
  exact h t x ht

def ev(ρ:Env):Operand→Option Value
 | .tmp t=>look ρ t
 | .const v=>some v
 | .global g=>some (.pointer (some ⟨g,0,none⟩))
 | .func f=>some (.func (.func f) #[] #[])

theorem dQ.ev{ρ:Env}{tmps:Array Value}(h:dQ ρ tmps){x:Operand}{v:Value}(hx:ev ρ x=some v){b:Frame}{ds:List Deferred}{k:List Item}:(bW b tmps ds k).eval x=v:=by
 cases x with
 | tmp t=>simp[Frame.eval,bW,h t v hx]
 | const c=>simpa[aS.ev,Frame.eval]using hx
 | global g=>simpa[aS.ev,Frame.eval]using hx
 | func f=>simpa[aS.ev,Frame.eval]using hx

structure Side where
 b:Bool
 ok:(Goroutine→Hp→(Nat→Prop)→Prop)→Prop

def Less(k:Hp)(M' M:Nat→Prop):Prop:=(∀b,M' b→M b)∧∀b o,M b→¬M' b→k b=some o→opn o=false
def BJ(S:Goroutine→Hp→(Nat→Prop)→Prop):Prop:=∀g k M M',Less k M' M→S g k M'→S g k M
def Stops(s:Side):={S:Goroutine→Hp→(Nat→Prop)→Prop // s.ok S∧BJ S}
abbrev Gs(P:Program)(s:Side)(Stop:Stops s)(g:Goroutine)(hk:Hp)(M:Nat→Prop):Prop:=CJ P s.b Stop.1 g hk M

structure Cx where
 P:Program
 main:Side
 fn:FuncId
 n:Nat
 ro:Option Nat
 h:Hp

def KOK(b:Frame)(cs:List Frame):Prop:=b.kind≠ .early∧∀fr:Frame,fr.kind=b.kind→tryRecover fr cs=none
theorem KOK.normal{b:Frame}{cs:List Frame}(h:b.kind= .normal):KOK b cs:=⟨by rw[h];simp,fun fr e=>by unfold tryRecover;rw[e,h]⟩
theorem KOK.deferred{b c:Frame}{cs:List Frame}(h:b.kind= .deferred)(hc:c.mode= .returning∨c.mode= .panicking [goexitEntry]):KOK b (c::cs):=⟨by rw[h];simp,fun fr e=>by
 unfold tryRecover
 rw[e,h]
 rcases hc with hc | hc <;>simp only[hc,goexitEntry]⟩
def After(P:Program)(main:Side)(Stop:Stops main)(b:Frame)(k:List Item)(cs:List Frame)(e:Exit)(tmps:Array Value)(ds:List Deferred)(hk:Hp)(M:Nat→Prop):Prop:=
 match e with
 | .normal=>Gs P main Stop (G (bW b tmps ds k) cs) hk M
 | .exit id=>(∃k',exitTo id k=some k'∧Gs P main Stop (G (bW b tmps ds k') cs) hk M)∨(exitTo id k=none∧∀k',exitTo id k'=none→Stp P main.b (Gs P main Stop) (G (bW b tmps ds (.code (.exit id)::k')) cs) hk M)
 | .goto l=>(∃k',gotoIn l k=some k'∧Gs P main Stop (G (bW b tmps ds k') cs) hk M)∨(gotoIn l k=none∧∀k',gotoIn l k'=none→Stp P main.b (Gs P main Stop) (G (bW b tmps ds (.code (.goto l)::k')) cs) hk M)
 | .ret=>∀k',Stp P main.b (Gs P main Stop) (G (bW b tmps ds (.code .ret::k')) cs) hk M
 | _=>False

abbrev Post:=Exit→Env→List Deferred→eG→Prop

def W(x:Cx)(c:Code)(Q:Post)(ρ:Env)(ds:List Deferred)(F:eG):Prop:=
 ∀(b:Frame) (k:List Item) (cs:List Frame) (Stop:Stops x.main) (tmps:Array Value) (hk:Hp) (M:Nat→Prop),b.fn=x.fn→b.roundOf=x.ro→KOK b cs→dQ ρ tmps→tmps.size=x.n→Sat x.h F hk M→
  (∀e ρ' ds' F' aZ hk' M',Q e ρ' ds' F'→dQ ρ' aZ→aZ.size=x.n→Sat x.h F' hk' M'→Fr M F M' F'→After x.P x.main Stop b k cs e aZ ds' hk' M')→
  Gs x.P x.main Stop (G (bW b tmps ds (.code c::k)) cs) hk M

def Ops(x:Cx)(ops:Array Oper)(todo:List Nat)(Q:Post)(ρ:Env)(ds:List Deferred)(F:eG):Prop:=
 ∀(b:Frame) (k:List Item) (cs:List Frame) (Stop:Stops x.main) (tmps:Array Value) (hk:Hp) (M:Nat→Prop),b.fn=x.fn→b.roundOf=x.ro→KOK b cs→dQ ρ tmps→tmps.size=x.n→Sat x.h F hk M→
  (∀e ρ' ds' F' aZ hk' M',Q e ρ' ds' F'→dQ ρ' aZ→aZ.size=x.n→Sat x.h F' hk' M'→Fr M F M' F'→After x.P x.main Stop b k cs e aZ ds' hk' M')→
  Gs x.P x.main Stop (G (bW b tmps ds (.inRegion ops todo::k)) cs) hk M

section rules
variable{x:Cx}{Q Q':Post}{ρ ρ':Env}{ds:List Deferred}{F F':eG}
theorem W.mono{c:Code}(H:W x c Q ρ ds F)(hq:∀e ρ ds F,Q e ρ ds F→Q' e ρ ds F):W x c Q' ρ ds F:=
 fun b k cs Stop tmps hk M h1 h0 h2 h3 h4 h5 hc=>H b k cs Stop tmps hk M h1 h0 h2 h3 h4 h5 fun e ρ' ds' F' aZ hk' M' q=>hc e ρ' ds' F' aZ hk' M' (hq _ _ _ _ q)

theorem Ops.mono{ops:Array Oper}{todo:List Nat}(H:Ops x ops todo Q ρ ds F)(hq:∀e ρ ds F,Q e ρ ds F→Q' e ρ ds F):Ops x ops todo Q' ρ ds F:=
 fun b k cs Stop tmps hk M h1 h0 h2 h3 h4 h5 hc=>H b k cs Stop tmps hk M h1 h0 h2 h3 h4 h5 fun e ρ' ds' F' aZ hk' M' q=>hc e ρ' ds' F' aZ hk' M' (hq _ _ _ _ q)

theorem W.env{c:Code}(s:Sub ρ' ρ)(H:W x c Q ρ' ds F):W x c Q ρ ds F:=
 fun b k cs Stop tmps hk M h1 h0 h2 h3 h4 h5 hc=>H b k cs Stop tmps hk M h1 h0 h2 (h3.sub s) h4 h5 hc

theorem Sat.perm{h:Hp}{k:Hp}{M:Nat→Prop}(S:Sat h F k M)(s:F'.Perm F):Sat h F' k M:=
 ⟨S.sub,fun b o x=>S.own b o (s.subset x),((s.map _).nodup_iff).2 S.nodup,fun b o h1 h2 h3=>(S.all b o h1 h2 h3).imp (fun h=>s.symm.subset h) id,S.CO⟩

theorem Fr.sub{M M':Nat→Prop}{F F' G:eG}(s:∀x,x∈F'→x∈F)(f:Fr M F' M' G):Fr M F M' G:=fun b hb hF=>f b hb fun o ho=>hF o (s _ ho)

def Shut(A:eG):Prop:=∀p∈A,opn p.2=false
theorem Shut.app{A B:eG}(h:Shut A)(h':Shut B):Shut (A++B):=fun p hp=>(List.mem_append.1 hp).elim (h p) (h' p)
theorem Shut.nil:Shut []:=fun p hp=>by cases hp
theorem Shut.cons{y:Nat×Obj}{A:eG}(h:opn y.2=false)(h':Shut A):Shut (y::A):=fun p hp=>by
 rcases List.mem_cons.1 hp with rfl | hp
 ·exact h
 ·exact h' p hp

def Sb(B A:eG):Prop:=∃C,(B++C).Perm A∧Shut C
theorem Sb.refl{A:eG}:Sb A A:=⟨[],by simp,.nil⟩
theorem Sb.dF{A B:eG}(p:B.Perm A):Sb B A:=⟨[],by simpa using p,.nil⟩
theorem Sb.trans{A B C:eG}(h:Sb A B)(h':Sb B C):Sb A C:=by
 obtain⟨X,p,x⟩:=h
 obtain⟨Y,q,y⟩:=h'
 exact⟨X++Y,by rw[←List.append_assoc];exact(p.append_right Y).trans q,x.app y⟩
theorem Sb.right{A B C:eG}(h:Sb A B)(hc:Shut C):Sb A (B++C):=h.trans ⟨C,.refl _,hc⟩
theorem Sb.left{A B C:eG}(h:Sb A B)(hc:Shut C):Sb A (C++B):=h.trans ⟨C,List.perm_append_comm,hc⟩
theorem Sb.skip{A B:eG}{y:Nat×Obj}(hy:opn y.2=false)(h:Sb A B):Sb A (y::B):=h.left (C:=[y]) (.cons hy .nil)
theorem Sb.cons{A B:eG}{y:Nat×Obj}(h:Sb A B):Sb (y::A) (y::B):=by
 obtain⟨X,p,x⟩:=h
 exact⟨X,p.cons y,x⟩
theorem Sb.app{A B C D:eG}(h:Sb A B)(h':Sb C D):Sb (A++C) (B++D):=by
 obtain⟨X,p,x⟩:=h
 obtain⟨Y,q,y⟩:=h'
 refine⟨X++Y,?_,x.app y⟩
 have e:(A++C++(X++Y)).Perm (A++X++(C++Y)):=by
  rw[List.append_assoc,List.append_assoc]
  refine List.Perm.append_left A ?_
  rw[←List.append_assoc,←List.append_assoc]
  exact List.perm_append_comm.append_right Y
 exact e.trans (p.append q)
theorem Sb.nil{A:eG}(h:Shut A):Sb [] A:=⟨A,by simp,h⟩
theorem Sb.shut{A:eG}(h:Sb [] A):Shut A:=by
 obtain⟨C,p,x⟩:=h
 exact fun y hy=>x y (by simpa using p.symm.subset hy)
theorem Sb.mem{A B:eG}(h:Sb A B):∀x∈A,x∈B:=by
 obtain⟨C,p,_⟩:=h
 exact fun x hx=>p.subset (List.mem_append_left _ hx)
theorem Sat.sb{h:Hp}{A B:eG}{k:Hp}{M:Nat→Prop}(S:Sat h B k M)(s:Sb A B):Sat h A k M:=by
 obtain⟨C,p,hC⟩:=s
 have S':=S.perm p
 refine⟨S'.sub,fun b o x=>S'.own b o (List.mem_append_left _ x),(((List.sublist_append_left A C).map _).nodup S'.nodup),fun b o h1 h2 h3=>?_,S'.CO⟩
 rcases S'.all b o h1 h2 h3 with h4 | h4
 ·rcases List.mem_append.1 h4 with h4 | h4
  ·exact .inl h4
  ·have:=hC _ h4;rw[h3]at this;cases this
 ·exact .inr h4
theorem Fr.sb{M M':Nat→Prop}{F A B:eG}(f:Fr M F M' B)(s:Sb A B):Fr M F M' A:=fun b hb hF=>let⟨x,y⟩:=f b hb hF;⟨x,fun o ho=>y o (s.mem _ ho)⟩
theorem W.sb{c:Code}(s:Sb F' F)(H:W x c Q ρ ds F'):W x c Q ρ ds F:=
 fun b k cs Stop tmps hk M h1 h0 h2 h3 h4 h5 hc=>H b k cs Stop tmps hk M h1 h0 h2 h3 h4 (h5.sb s) fun e ρ' ds' G aZ hk' M' q a1 a2 a3 a4=>hc e ρ' ds' G aZ hk' M' q a1 a2 a3 (a4.sub fun _ y=>s.mem _ y)
theorem Ops.sb{ops:Array Oper}{todo:List Nat}(s:Sb F' F)(H:Ops x ops todo Q ρ ds F'):Ops x ops todo Q ρ ds F:=
 fun b k cs Stop tmps hk M h1 h0 h2 h3 h4 h5 hc=>H b k cs Stop tmps hk M h1 h0 h2 h3 h4 (h5.sb s) fun e ρ' ds' G aZ hk' M' q a1 a2 a3 a4=>hc e ρ' ds' G aZ hk' M' q a1 a2 a3 (a4.sub fun _ y=>s.mem _ y)
theorem W.perm{c:Code}(s:F'.Perm F)(H:W x c Q ρ ds F'):W x c Q ρ ds F:=
 fun b k cs Stop tmps hk M h1 h0 h2 h3 h4 h5 hc=>H b k cs Stop tmps hk M h1 h0 h2 h3 h4 (h5.perm s) fun e ρ' ds' G aZ hk' M' q a1 a2 a3 a4=>hc e ρ' ds' G aZ hk' M' q a1 a2 a3 (a4.sub fun _ y=>s.subset y)
theorem Ops.perm{ops:Array Oper}{todo:List Nat}(s:F'.Perm F)(H:Ops x ops todo Q ρ ds F'):Ops x ops todo Q ρ ds F:=
 fun b k cs Stop tmps hk M h1 h0 h2 h3 h4 h5 hc=>H b k cs Stop tmps hk M h1 h0 h2 h3 h4 (h5.perm s) fun e ρ' ds' G aZ hk' M' q a1 a2 a3 a4=>hc e ρ' ds' G aZ hk' M' q a1 a2 a3 (a4.sub fun _ y=>s.subset y)

theorem W.skip(H:Q .normal ρ ds F):W x .skip Q ρ ds F:=
 fun b k cs Stop tmps hk M h1 h0 h2 h3 h4 h5 hc=>.idle rfl (fun _=>MK) (hc .normal ρ ds F tmps hk M H h3 h4 h5 .refl)
theorem W.label{l:Nat}(H:Q .normal ρ ds F):W x (.label l) Q ρ ds F:=
 fun b k cs Stop tmps hk M h1 h0 h2 h3 h4 h5 hc=>.idle rfl (fun _=>OG) (hc .normal ρ ds F tmps hk M H h3 h4 h5 .refl)
theorem W.ret(H:Q .ret ρ ds F):W x .ret Q ρ ds F:=
 fun b k cs Stop tmps hk M h1 h0 h2 h3 h4 h5 hc=>.oN (hc .ret ρ ds F tmps hk M H h3 h4 h5 .refl k)
theorem W.exit{id:Nat}(H:Q (.exit id) ρ ds F):W x (.exit id) Q ρ ds F:=
 fun b k cs Stop tmps hk M h1 h0 h2 h3 h4 h5 hc=>by
  rcases hc (.exit id) ρ ds F tmps hk M H h3 h4 h5 .refl with⟨k',e,g⟩ | ⟨e,g⟩
  ·exact .idle rfl (fun _=>S9 e) g
  ·exact .oN (g k e)
theorem W.goto{l:Nat}(H:Q (.goto l) ρ ds F):W x (.goto l) Q ρ ds F:=
 fun b k cs Stop tmps hk M h1 h0 h2 h3 h4 h5 hc=>by
  rcases hc (.goto l) ρ ds F tmps hk M H h3 h4 h5 .refl with⟨k',e,g⟩ | ⟨e,g⟩
  ·exact .idle rfl (fun _=>S_ e) g
  ·exact .oN (g k e)

def thn(K:Env→List Deferred→eG→Prop)(Q:Post):Post:=fun e ρ ds F=>match e with | .normal=>K ρ ds F | e=>Q e ρ ds F

theorem After.push{P:Program}{main:Side}{Stop:Stops main}{b:Frame}{x:Item}{k:List Item}{cs:List Frame}{e:Exit}{tmps:Array Value}{ds:List Deferred}{hk:Hp}{M:Nat→Prop}(hx:x.plain=true)(he:e≠ .normal)
  (H:After P main Stop b k cs e tmps ds hk M):After P main Stop b (x::k) cs e tmps ds hk M:=by
 cases e with
 | normal=>exact absurd rfl he
 | exit id=>
  have e1:exitTo id (x::k)=exitTo id k:=by cases x <;>simp_all[exitTo,Item.plain]
  simp only[After,e1]at H⊢
  exact H
 | goto l=>
  have e1:gotoIn l (x::k)=gotoIn l k:=by cases x <;>simp_all[gotoIn,Item.plain]
  simp only[After,e1]at H⊢
  exact H
 | ret=>exact H
 | panic ch=>exact H
 | outgrown=>exact H

theorem W.seq{y z:Code}(H:W x y (thn (fun ρ' ds' F'=>W x z Q ρ' ds' F') Q) ρ ds F):W x (.seq y z) Q ρ ds F:=by
 intro b k cs Stop tmps hk M h1 h0 h2 h3 h4 h5 hc
 refine .idle rfl (fun _=>Iz) (H b (.code z::k) cs Stop tmps hk M h1 h0 h2 h3 h4 h5 fun e ρ' ds' F' aZ hk' M' q a1 a2 a3 a4=>?_)
 cases e with
 | normal=>exact q b k cs Stop aZ hk' M' h1 h0 h2 a1 a2 a3 fun e tC ds₂ kP ng hk₂ jr q₂ c1 c2 c3 c4=>hc e tC ds₂ kP ng hk₂ jr q₂ c1 c2 c3 (a4.trans c4)
 | exit id=>exact(hc _ _ _ _ _ _ _ q a1 a2 a3 a4).push rfl (by simp)
 | goto l=>exact(hc _ _ _ _ _ _ _ q a1 a2 a3 a4).push rfl (by simp)
 | ret=>exact(hc _ _ _ _ _ _ _ q a1 a2 a3 a4).push (x:=.code z) rfl (by simp)
 | panic ch=>exact hc _ _ _ _ _ _ _ q a1 a2 a3 a4
 | outgrown=>exact hc _ _ _ _ _ _ _ q a1 a2 a3 a4

theorem W.cond{c:Operand}{y z:Code}{v:Bool}(hv:ev ρ c=some (.bool v))(ht:v=true→W x y Q ρ ds F)(hf:v=false→W x z Q ρ ds F):W x (.cond c y z) Q ρ ds F:=by
 intro b k cs Stop tmps hk M h1 h0 h2 h3 h4 h5 hc
 refine .idle rfl (fun _=>SX (h3.ev hv)) ?_
 cases v with
 | true=>exact ht rfl b k cs Stop tmps hk M h1 h0 h2 h3 h4 h5 hc
 | false=>exact hf rfl b k cs Stop tmps hk M h1 h0 h2 h3 h4 h5 hc

theorem W.bC{c:Operand}{y z:Code}{p:Prop}[Decidable p](hv:ev ρ c=some (.bool (decide p)))(ht:p→W x y Q ρ ds F)(hf:¬p→W x z Q ρ ds F):W x (.cond c y z) Q ρ ds F:=
 W.cond hv (fun e=>ht (of_decide_eq_true e)) (fun e=>hf (of_decide_eq_false e))

def blk(id:Nat)(Q:Post):Post:=fun e ρ ds F=>match e with | .exit id'=>bif Nat.beq id' id then Q .normal ρ ds F else Q (.exit id') ρ ds F | e=>Q e ρ ds F

theorem W.block{id:Nat}{c:Code}(H:W x c (blk id Q) ρ ds F):W x (.block id c) Q ρ ds F:=by
 intro b k cs Stop tmps hk M h1 h0 h2 h3 h4 h5 hc
 refine .idle rfl (fun _=>OH) (H b (.inBlock id::k) cs Stop tmps hk M h1 h0 h2 h3 h4 h5 fun e ρ' ds' F' aZ hk' M' q a1 a2 a3 a4=>?_)
 cases e with
 | normal=>exact .idle rfl (fun _=>Iy) (hc .normal _ _ _ _ _ _ q a1 a2 a3 a4)
 | exit id'=>
  cases hid:Nat.beq id' id with
  | true=>
   have e:id'=id:=Nat.eq_of_beq_eq_true hid
   simp only[blk,hid,cond_true]at q
   exact .inl ⟨k,by simp[exitTo,e],hc .normal _ _ _ _ _ _ q a1 a2 a3 a4⟩
  | false=>
   simp only[blk,hid,cond_false]at q
   have e1:exitTo id' (.inBlock id::k)=exitTo id' k:=by
    have:id≠id':=fun e=>by subst e;rw[Nat.beq_refl]at hid;cases hid
    simp[exitTo,this]
   have:=hc (.exit id') _ _ _ _ _ _ q a1 a2 a3 a4
   simp only[After,e1]at this⊢
   exact this
 | goto l=>
  have e1:gotoIn l (.inBlock id::k)=gotoIn l k:=by simp[gotoIn]
  have:=hc (.goto l) _ _ _ _ _ _ q a1 a2 a3 a4
  simp only[After,e1]at this⊢
  exact this
 | ret=>exact hc .ret _ _ _ _ _ _ q a1 a2 a3 a4
 | panic ch=>exact hc (.panic ch) _ _ _ _ _ _ q a1 a2 a3 a4
 | outgrown=>exact hc .outgrown _ _ _ _ _ _ q a1 a2 a3 a4

theorem W.loop{σ:Type}{c:Code}(C:σ→Prop)(E:σ→Env)(D:σ→eG)(μ:σ→Nat)(s₀:σ)(h₀:C s₀)(he:Sub (E s₀) ρ)(hF:Sb (D s₀) F)
  (round:∀s,C s→W x c (thn (fun ρ' ds' F'=>ds'=ds∧∃s',C s'∧μ s'<μ s∧Sub (E s') ρ'∧Sb (D s') F') Q) (E s) ds (D s)):W x (.loop c) Q ρ ds F:=by
 refine W.env he (W.sb hF ?_)
 intro b k cs Stop tmps hk M h1 h0 h2 h3 h4 h5 hc
 refine .idle rfl (fun _=>SY) ?_
 have key:∀N s,μ s=N→C s→∀tmps hk M,dQ (E s) tmps→tmps.size=x.n→Sat x.h (D s) hk M→(∀e ρ' ds' F' aZ hk' M',Q e ρ' ds' F'→dQ ρ' aZ→aZ.size=x.n→Sat x.h F' hk' M'→Fr M (D s) M' F'→After x.P x.main Stop b k cs e aZ ds' hk' M')→
   Gs x.P x.main Stop (G (bW b tmps ds (.code c:: .inLoop c::k)) cs) hk M:=by
  intro N
  induction N using Nat.strongRecOn with
  | _ N ih=>
   intro s hN hs tmps hk M h3 h4 h5 hc
   refine round s hs b (.inLoop c::k) cs Stop tmps hk M h1 h0 h2 h3 h4 h5 fun e ρ' ds' F' aZ hk' M' q a1 a2 a3 a4=>?_
   cases e with
   | normal=>
    obtain⟨rfl,s',c1,c2,c3,c4⟩:=q
    exact .idle rfl (fun _=>Lj) (ih (μ s') (hN▸c2) s' rfl c1 aZ hk' M' (a1.sub c3) a2 (a3.sb c4) fun e tC ds₂ kP ng hk₂ jr q₂ e1 e2 e3 e4=>hc e tC ds₂ kP ng hk₂ jr q₂ e1 e2 e3 (a4.trans (e4.sub fun _ y=>c4.mem _ y)))
   | exit id=>exact(hc _ _ _ _ _ _ _ q a1 a2 a3 a4).push rfl (by simp)
   | goto l=>exact(hc _ _ _ _ _ _ _ q a1 a2 a3 a4).push rfl (by simp)
   | ret=>exact(hc _ _ _ _ _ _ _ q a1 a2 a3 a4).push (x:=.inLoop c) rfl (by simp)
   | panic ch=>exact hc _ _ _ _ _ _ _ q a1 a2 a3 a4
   | outgrown=>exact hc _ _ _ _ _ _ _ q a1 a2 a3 a4
 exact key _ s₀ rfl h₀ tmps hk M h3 h4 h5 hc

theorem W.region{id:Nat}{ops:Array Oper}{todo:List Nat}(ht:List.range ops.size=todo)(H:Ops x ops todo Q ρ ds F):W x (.region id ops false) Q ρ ds F:=
 fun b k cs Stop tmps hk M h1 h0 h2 h3 h4 h5 hc=>.idle rfl (fun _=>Ll) (by rw[ht];exact H b k cs Stop tmps hk M h1 h0 h2 h3 h4 h5 hc)

theorem Ops.nil{ops:Array Oper}(H:Q .normal ρ ds F):Ops x ops [] Q ρ ds F:=
 fun b k cs Stop tmps hk M h1 h0 h2 h3 h4 h5 hc=>.idle rfl (fun _=>uq) (hc .normal ρ ds F tmps hk M H h3 h4 h5 .refl)

end rules
end Go.aS

/- Operations, calls and returns. Conditions: none; over any program. -/
namespace Go.aS
def put(ρ:Env)(d:Option Tmp)(v:Value):Env:=match d with | some d=>(d,v)::ρ | none=>ρ
def d_(d:Option Tmp)(n:Nat):Bool:=match d with | some d=>Nat.blt d n | none=>true

def dV(P:Program)(main:Side)(f:FuncId)(args:Array Value)(h:Hp)(F:eG)(R:Value→eG→Prop):Prop:=
 ∀(c:Frame) (cs:List Frame) (Stop:Stops main) (hk:Hp) (M:Nat→Prop),Sat h F hk M→
  (∀v F' hk' M',R v F'→Sat h F' hk' M'→Fr M F M' F'→Gs P main Stop (G (c.finish v) cs) hk' M')→
  Gs P main Stop (G (Frame.enter P f args .normal) (c::cs)) hk M

def Y8(P:Program)(main:Side)(f:FuncId)(args:Array Value)(h:Hp)(F:eG)(R:eG→Prop):Prop:=
 ∀(c:Frame) (cs:List Frame) (Stop:Stops main) (hk:Hp) (M:Nat→Prop),c.mode= .returning→Sat h F hk M→
  (∀F' hk' M',R F'→Sat h F' hk' M'→Fr M F M' F'→Gs P main Stop (G c cs) hk' M')→
  Gs P main Stop (G (Frame.enter P f args .deferred) (c::cs)) hk M

def Rnd(P:Program)(main:Side)(l:Nat)(f:FuncId)(tmps:Array Value)(assign body:Code)(h:Hp)(F:eG)(R:Value→eG→Prop):Prop:=
 ∀(c:Frame) (cs:List Frame) (Stop:Stops main) (hk:Hp) (M:Nat→Prop),Sat h F hk M→
  (∀v F' hk' M',R v F'→Sat h F' hk' M'→Fr M F M' F'→Gs P main Stop (G (c.finish v) cs) hk' M')→
  Gs P main Stop (G (Frame.round l f tmps assign body .normal) (c::cs)) hk M

def ni(P:Program)(main:Side)(h:Hp)(R:Value→eG→Prop):Next→eG→Prop
 | .value v,F=>R v F
 | .skip,F=>R undef F
 | .enter f args,F=>dV P main f args h F R
 | .round l f tmps assign body,F=>Rnd P main l f tmps assign body h F R
 | _,_=>False

def Inv(P:Program)(main:Side)(t:Target)(args:Array Value)(h:Hp)(F:eG)(R:Value→eG→Prop):Prop:=tr P h (invoke t args) F (ni P main h R)

section
variable{P:Program}{main:Side}{h:Hp}{F:eG}
theorem dV.mono{f:FuncId}{args:Array Value}{R R':Value→eG→Prop}(H:dV P main f args h F R)(hr:∀v F,R v F→R' v F):dV P main f args h F R':=
 fun c cs Stop hk M S hc=>H c cs Stop hk M S fun v F' hk' M' r=>hc v F' hk' M' (hr _ _ r)
theorem Rnd.mono{l:Nat}{f:FuncId}{tmps:Array Value}{a b:Code}{R R':Value→eG→Prop}(H:Rnd P main l f tmps a b h F R)(hr:∀v F,R v F→R' v F):Rnd P main l f tmps a b h F R':=
 fun c cs Stop hk M S hc=>H c cs Stop hk M S fun v F' hk' M' r=>hc v F' hk' M' (hr _ _ r)
theorem Y8.mono{f:FuncId}{args:Array Value}{R R':eG→Prop}(H:Y8 P main f args h F R)(hr:∀F,R F→R' F):Y8 P main f args h F R':=
 fun c cs Stop hk M m S hc=>H c cs Stop hk M m S fun F' hk' M' r=>hc F' hk' M' (hr _ r)
theorem ni.mono{R R':Value→eG→Prop}{nx:Next}(H:ni P main h R nx F)(hr:∀v F,R v F→R' v F):ni P main h R' nx F:=by
 cases nx <;>first | exact hr _ _ H | exact dV.mono H hr | exact Rnd.mono H hr | exact H.elim
theorem Inv.mono{t:Target}{args:Array Value}{R R':Value→eG→Prop}(H:Inv P main t args h F R)(hr:∀v F,R v F→R' v F):Inv P main t args h F R':=lM H fun _ _ x=>x.mono hr
end
def Ext(h h':Hp):Prop:=(∀b o,h b=some o→h' b=some o)∧∀b,h.z b→h'.z b
def fF(Fr:eG)(h':Hp):Prop:=∀b o,(b,o)∈Fr→h' b=some o

def lend(h:Hp)(F:eG):Hp:=⟨fun b=>match h b with | some o=>some o | none=>F.lookup b,h.z⟩

theorem BK:∀{F:eG} {b:Nat} {o:Obj},(F.map (·.1)).Nodup→(b,o)∈F→F.lookup b=some o
 | [],_,_,_,hm=>by cases hm
 | (c,x)::F,b,o,hn,hm=>by
  simp only[List.map_cons,List.nodup_cons]at hn
  rcases List.mem_cons.1 hm with e | hm
  ·cases e;simp[List.lookup]
  ·have hne:b≠c:=fun e=>hn.1 (e▸List.mem_map.2 ⟨_,hm,rfl⟩)
   have:(b==c)=false:=by simpa using hne
   simp only[List.lookup,this]
   exact BK hn.2 hm

theorem o7:∀{F:eG} {b:Nat} {o:Obj},F.lookup b=some o→(b,o)∈F
 | [],_,_,h=>by cases h
 | (c,x)::F,b,o,h=>by
  simp only[List.lookup]at h
  split at h
  ·rename_i e;cases h;rw[show b=c by simpa using e];simp
  ·exact List.mem_cons_of_mem _ (o7 h)

theorem Sat.lend{h:Hp}{A B:eG}{k:Hp}{M:Nat→Prop}(S:Sat h (A++B) k M):Sat (lend h B) A k M∧Ext h (lend h B)∧fF B (lend h B):=by
 have hnd:=S.nodup
 rw[List.map_append,List.nodup_append]at hnd
 have e1:Ext h (aS.lend h B):=⟨fun b o hb=>by simp[aS.lend,hb],fun _ z=>z⟩
 have e2:fF B (aS.lend h B):=fun b o hb=>by
  have:=(S.own b o (List.mem_append_right _ hb)).2.2
  simp only[aS.lend,this]
  exact BK hnd.2.1 hb
 refine⟨⟨fun b o hb=>?_,fun b o hb=>?_,hnd.1,fun b o h1 h2 h3=>?_,S.CO⟩,e1,e2⟩
 ·simp only[aS.lend]at hb
  split at hb
  ·rename_i x hx;cases hb;exact S.sub b _ hx
  ·exact(S.own b o (List.mem_append_right _ (o7 hb))).1
 ·have:=S.own b o (List.mem_append_left _ hb)
  refine⟨this.1,this.2.1,?_⟩
  simp only[aS.lend,this.2.2]
  cases hl:B.lookup b with
  | none=>rfl
  | some x=>exact absurd rfl (hnd.2.2 b (List.mem_map.2 ⟨_,hb,rfl⟩) b (List.mem_map.2 ⟨_,o7 hl,rfl⟩))
 ·rcases S.all b o h1 h2 h3 with h4 | h4
  ·rcases List.mem_append.1 h4 with h4 | h4
   ·exact .inl h4
   ·exact .inr (e2 b o h4)
  ·exact .inr (e1.1 b o h4)

theorem Sat.back{h:Hp}{A B A':eG}{k k':Hp}{M M':Nat→Prop}(S:Sat h (A++B) k M)(S':Sat (aS.lend h B) A' k' M')(f:Fr M A M' A'):Sat h (A'++B) k' M'∧Fr M (A++B) M' (A'++B):=by
 obtain⟨_,e1,e2⟩:=S.lend
 have hnd:=S.nodup
 rw[List.map_append,List.nodup_append]at hnd
 have hB:∀b o,(b,o)∈B→M' b∧∀o',(b,o')∉A':=fun b o hb=>f b (S.own b o (List.mem_append_right _ hb)).2.1 fun o' ho'=>hnd.2.2 b (List.mem_map.2 ⟨_,ho',rfl⟩) b (List.mem_map.2 ⟨_,hb,rfl⟩) rfl
 refine⟨⟨fun b o hb=>S'.sub b o (e1.1 b o hb),fun b o hb=>?_,?_,fun b o h1 h2 h3=>?_,S'.CO⟩,fun b hb hF=>?_⟩
 ·rcases List.mem_append.1 hb with hb | hb
  ·have:=S'.own b o hb
   refine⟨this.1,this.2.1,?_⟩
   cases hh:h b with
   | none=>rfl
   | some x=>have:=e1.1 b x hh;rw[(S'.own b o hb).2.2]at this;cases this
  ·exact⟨S'.sub b o (e2 b o hb),(hB b o hb).1,(S.own b o (List.mem_append_right _ hb)).2.2⟩
 ·rw[List.map_append,List.nodup_append]
  refine⟨S'.nodup,hnd.2.1,fun b hb c hc e=>?_⟩
  subst e
  obtain⟨⟨x,o⟩,hx,rfl⟩:=List.mem_map.1 hb
  obtain⟨⟨y,o'⟩,hy,hyx⟩:=List.mem_map.1 hc
  simp only at hyx
  subst hyx
  exact(hB _ _ hy).2 _ hx
 ·rcases S'.all b o h1 h2 h3 with h4 | h4
  ·exact .inl (List.mem_append_left _ h4)
  ·simp only[aS.lend]at h4
   split at h4
   ·rename_i x hx;cases h4;exact .inr hx
   ·exact .inl (List.mem_append_right _ (o7 h4))
 ·have:=f b hb fun o ho=>hF o (List.mem_append_left _ ho)
  exact⟨this.1,fun o ho=>by
   rcases List.mem_append.1 ho with ho | ho
   ·exact this.2 o ho
   ·exact hF o (List.mem_append_right _ ho)⟩

theorem dV.frame{P:Program}{main:Side}{f:FuncId}{args:Array Value}{h:Hp}{A B:eG}{R:Value→eG→Prop}(H:∀h',Ext h h'→fF B h'→dV P main f args h' A R):
  dV P main f args h (A++B) fun v F'=>∃A',R v A'∧F'=A'++B:=by
 intro c cs Stop hk M S hc
 obtain⟨S1,e1,e2⟩:=S.lend
 refine H _ e1 e2 c cs Stop hk M S1 fun v A' hk' M' r S' f=>?_
 obtain⟨a,b⟩:=S.back S' f
 exact hc v _ hk' M' ⟨A',r,rfl⟩ a b

theorem dV.perm{P:Program}{main:Side}{f:FuncId}{args:Array Value}{h:Hp}{A B:eG}{R:Value→eG→Prop}(p:A.Perm B)(H:dV P main f args h A R):dV P main f args h B R:=
 fun c cs Stop hk M S hc=>H c cs Stop hk M (S.perm p) fun v F' hk' M' r S' f=>hc v F' hk' M' r S' (f.sub fun _ x=>p.subset x)

theorem dV.sb{P:Program}{main:Side}{f:FuncId}{args:Array Value}{h:Hp}{A B:eG}{R:Value→eG→Prop}(p:Sb A B)(H:dV P main f args h A R):dV P main f args h B R:=
 fun c cs Stop hk M S hc=>H c cs Stop hk M (S.sb p) fun v F' hk' M' r S' f=>hc v F' hk' M' r S' (f.sub fun _ x=>p.mem _ x)

section rules
variable{x:Cx}{P:Program}{main:Side}{n:Nat}{Q:Post}{ρ:Env}{ds:List Deferred}{F:eG}{ops:Array Oper}{i:Nat}{rest:List Nat}
def want(ops:Array Oper)(ρ:Env)(o:Oper):Prop:=
 match o.guard with
 | none=>True
 | some (j,w)=>∃d,(ops[j]?).bind (·.dst)=some d∧look ρ d=some (.bool w)

theorem want.wanted{o:Oper}{tmps:Array Value}(hw:want ops ρ o)(he:dQ ρ tmps):Region.wanted o (yielded ops tmps)=true:=by
 unfold want at hw
 unfold Region.wanted
 cases hg:o.guard with
 | none=>rfl
 | some jw=>
  obtain⟨j,w⟩:=jw
  rw[hg]at hw
  obtain⟨d,h1,h2⟩:=hw
  simp[yielded,h1,he d _ h2]

theorem eY{b:Frame}{t:Array Value}{ds:List Deferred}{k:List Item}{cs:List Frame}{o:Oper}(ho:ops[i]? =some o)(v:Value):
  (bW b t ds (.inRegion ops (i::rest)::k)).finish v=bW b (match o.dst with | some d=>t.setIfInBounds d v | none=>t) ds (.inRegion ops rest::k):=by
 simp only[Frame.finish,bW,ho,Option.bind_some]
 cases o.dst <;>rfl

theorem AL{b:Frame}{t:Array Value}{k:List Item}{cs:List Frame}{w:World}{o:Oper}(ho:ops[i]? =some o)(hw:Region.wanted o (yielded ops t)=true)(hd:∀c,o.op≠ .defer c):
  stepG P main.b (G (bW b t ds (.inRegion ops (i::rest)::k)) cs) w=stepG.apply P true (bW b t ds (.inRegion ops (i::rest)::k)) cs none (execOp (bW b t ds (.inRegion ops (i::rest)::k)).eval o) w:=by
 obtain⟨dst,op,type,pos,bK,guard⟩:=o
 simp only at hd
 simp only[Conc.G,stepG,stepG.exec,stepG.oper,Frame.oper?,bW,ho,hw,Option.map_some,Option.getD_some,if_true]
 split
 ·exact absurd rfl (hd _)
 ·rfl

theorem lZ{fr:Frame}{cs:List Frame}{s:Sem Next}{w w':World}{v:Value}{es:Array Event}(r:s.runT P w #[]=(.ok (.value v) w',es))(hk:(fr.kind==CallKind.early)=false):
  stepG.apply P true fr cs none s w= .go (G (fr.finish v) cs) w' (seen P fr.fn es):=by
 unfold stepG.apply
 simp only[r,hk,if_true]
 rfl
theorem CP{fr:Frame}{cs:List Frame}{s:Sem Next}{w w':World}{es:Array Event}(r:s.runT P w #[]=(.ok .skip w',es))(hk:(fr.kind==CallKind.early)=false):
  stepG.apply P true fr cs none s w= .go (G (fr.finish undef) cs) w' (seen P fr.fn es):=by
 unfold stepG.apply
 simp only[r,hk,if_true]
 rfl
theorem yY{fr:Frame}{cs:List Frame}{s:Sem Next}{w w':World}{f:FuncId}{args:Array Value}{es:Array Event}(r:s.runT P w #[]=(.ok (.enter f args) w',es))(hk:(fr.kind==CallKind.early)=false)
  (ht:∃ops l k,fr.todo= .inRegion ops l::k):stepG.apply P true fr cs none s w= .go (G (Frame.enter P f args .normal) (fr::cs)) w' (seen P fr.fn es):=by
 obtain⟨ops,l,k,ht⟩:=ht
 unfold stepG.apply
 simp only[r,hk,if_true,ht]
 rfl
theorem Gq{fr:Frame}{cs:List Frame}{s:Sem Next}{w w':World}{l:Nat}{f:FuncId}{tm:Array Value}{us bd:Code}{es:Array Event}(r:s.runT P w #[]=(.ok (.round l f tm us bd) w',es))(hk:(fr.kind==CallKind.early)=false):
  stepG.apply P true fr cs none s w= .go (G (Frame.round l f tm us bd .normal) (fr::cs)) w' (seen P fr.fn es):=by
 unfold stepG.apply
 simp only[r,hk,if_true]
 rfl

theorem yZ{b:Frame}{t:Array Value}{k:List Item}{cs:List Frame}{w:World}{o:Oper}(ho:ops[i]? =some o)(hw:Region.wanted o (yielded ops t)=false):
  stepG P main.b (G (bW b t ds (.inRegion ops (i::rest)::k)) cs) w= .go (G ((bW b t ds (.inRegion ops (i::rest)::k)).finish undef) cs) w:=by
 simp[Conc.G,stepG,stepG.exec,bW,ho,hw]

theorem mem_seen{fn:FuncId}{es:Array Event}{e:Event}(hm:e∈seen P fn es):e∈es:=Conc.mem_seen hm

theorem dQ.put'{o:Oper}{tmps:Array Value}(h3:dQ ρ tmps)(h4:tmps.size=n)(hd:d_ o.dst n=true)(v:Value):
  dQ (aS.put ρ o.dst v) (match o.dst with | some d=>tmps.setIfInBounds d v | none=>tmps)∧(match o.dst with | some d=>tmps.setIfInBounds d v | none=>tmps).size=n:=by
 cases hds:o.dst with
 | none=>exact⟨by simpa[aS.put]using h3,by simpa using h4⟩
 | some d=>
  rw[hds]at hd
  have:d<tmps.size:=by rw[h4];exact Nat.le_of_ble_eq_true hd
  exact⟨by simpa[aS.put]using h3.put this v,by simpa using h4⟩

def Dx(x:Cx)(o:Oper)(e:Operand→Value)(F:eG)(R:Value→eG→Prop):Prop:=
 ∃A B,(A++B).Perm F∧∀h',Ext x.h h'→fF B h'→tr x.P h' (execOp e o) A (ni x.P x.main h' fun v A'=>R v (A'++B))

theorem Dx.mono{o:Oper}{e:Operand→Value}{R R':Value→eG→Prop}(H:Dx x o e F R)(hr:∀v F,R v F→R' v F):Dx x o e F R':=by
 obtain⟨A,B,h1,h2⟩:=H
 exact⟨A,B,h1,fun h' e1 e2=>lM (h2 h' e1 e2) fun _ _ y=>y.mono fun v F=>hr v _⟩

theorem Ops.op{o:Oper}(ho:ops[i]? =some o)(hw:want ops ρ o)(hd:d_ o.dst x.n=true)(hdf:∀c,o.op≠ .defer c)
  (H:∀e:Operand→Value,(∀y v,ev ρ y=some v→e y=v)→Dx x o e F fun v F'=>Ops x ops rest Q (put ρ o.dst v) ds F'):
  Ops x ops (i::rest) Q ρ ds F:=by
 intro b k cs Stop tmps hk M h1 h0 h2 h3 h4 h5 hc
 refine .oN ⟨rfl,fun w hw' hM=>?_⟩
 obtain⟨A,B,hp,H'⟩:=H (bW b tmps ds (.inRegion ops (i::rest)::k)).eval fun _ _ hx=>h3.ev hx
 have S0:=h5.perm hp
 obtain⟨S1,e1,e2⟩:=S0.lend
 obtain⟨nx,F',w',es,r1,r2,r3,r4,r5⟩:=jR _ #[] (H' _ e1 e2) S1 hw' hM
 rw[Array.empty_append]at r1
 have hk':(b.kind==CallKind.early)=false:=by simpa using h2.1
 have hgo:dX hk M w w' (seen x.P b.fn es):=r2.mem fun _=>mem_seen
 rw[AL ho (hw.wanted h3) hdf]
 
 have on:∀v G (hk₂:Hp) (jr:Nat→Prop),Ops x ops rest Q (put ρ o.dst v) ds (G++B)→Sat (lend x.h B) G hk₂ jr→Fr M A jr G→Gs x.P x.main Stop (aS.G ((bW b tmps ds (.inRegion ops (i::rest)::k)).finish v) cs) hk₂ jr:=by
  intro v G hk₂ jr r IB f₂
  obtain⟨p1,p2⟩:=h3.put' h4 hd v
  obtain⟨aeu,aa_⟩:=S0.back IB f₂
  rw[eY (cs:=cs) ho v]
  exact r b k cs Stop _ _ _ h1 h0 h2 p1 p2 aeu fun e ρ' ds' G aZ hk' M' q a1 a2 a3 a4=>hc e ρ' ds' G aZ hk' M' q a1 a2 a3 ((aa_.sub fun _ y=>hp.subset y).trans a4)
 cases nx with
 | value v=>exact⟨_,w',_,lZ r1 hk',hgo,on v F' _ _ r5 r3 r4⟩
 | skip=>exact⟨_,w',_,CP r1 hk',hgo,on undef F' _ _ r5 r3 r4⟩
 | enter f args=>exact⟨_,w',_,yY r1 hk' ⟨_,_,_,rfl⟩,hgo,r5 _ cs Stop _ _ r3 fun v G hk₂ jr r IB f₂=>on v G hk₂ jr r IB (r4.trans f₂)⟩
 | round l f tm us bd=>exact⟨_,w',_,Gq r1 hk',hgo,r5 _ cs Stop _ _ r3 fun v G hk₂ jr r IB f₂=>on v G hk₂ jr r IB (r4.trans f₂)⟩
 | _=>exact r5.elim

theorem Ops.unwanted{o:Oper}{j d:Nat}{w v:Bool}(ho:ops[i]? =some o)(hg:o.guard=some (j,w))(hj:(ops[j]?).bind (·.dst)=some d)(hv:look ρ d=some (.bool v))(hne:(v==w)=false)(hd:d_ o.dst x.n=true)
  (H:Ops x ops rest Q (put ρ o.dst undef) ds F):Ops x ops (i::rest) Q ρ ds F:=by
 intro b k cs Stop tmps hk M h1 h0 h2 h3 h4 h5 hc
 have hw:Region.wanted o (yielded ops tmps)=false:=by
  simp only[Region.wanted,hg,yielded,hj,Option.bind_some,h3 d _ hv]
  cases v <;>cases w <;>simp_all
 obtain⟨p1,p2⟩:=h3.put' h4 hd undef
 refine .idle rfl (fun _=>yZ ho hw) ?_
 rw[eY (cs:=cs) ho undef]
 exact H b k cs Stop _ _ _ h1 h0 h2 p1 p2 h5 hc

theorem Ops.split{d:Nat}{v:Bool}(_hv:look ρ d=some (.bool v))(ht:v=true→Ops x ops (i::rest) Q ρ ds F)(hf:v=false→Ops x ops (i::rest) Q ρ ds F):Ops x ops (i::rest) Q ρ ds F:=by
 cases v with
 | true=>exact ht rfl
 | false=>exact hf rfl

end rules
/-! ### Returns -/
def iC(b:Frame)(tmps:Array Value)(ds:List Deferred)(todo:List Item):Frame:={bW b tmps ds todo with mode:=.returning}

def Tc(P:Program)(main:Side)(h:Hp):List Deferred→eG→(eG→Prop)→Prop
 | [],F,K=>K F
 | d::ds,F,K=>
  match d.target with
  | .collected r=>tr P h (Instr.takeDeferred r) F fun l F'=>l=[]∧Tc P main h ds F' K
  | .fn (.func f) cap=>tr P h (callFunc f (d.args++cap)) F fun nx qp=>∃g args,nx= .enter g args∧∃A B,(A++B).Perm qp∧∀h',Ext h h'→fF B h'→Y8 P main g args h' A fun A'=>Tc P main h ds (A'++B) K
  | _=>False

def leave(P:Program)(main:Side)(fn:Func)(h:Hp)(R:Value→eG→Prop):Post:=fun e ρ ds F=>
 (e= .ret∨e= .normal)∧Tc P main h ds F fun F'=>∀tmps,dQ ρ tmps→tr P h (results fn tmps) F' R

section returns
variable{P:Program}{main:Side}{h:Hp}{b:Frame}{t:Array Value}{ds:List Deferred}{k:List Item}{cs:List Frame}{w:World}
theorem Fj(hr:b.roundOf=none):stepG P main.b (G (bW b t ds (.code .ret::k)) cs) w= .go (G (iC b t ds (.code .ret::k)) cs) w:=by simp[Conc.G,stepG,stepG.exec,bW,iC,hr]
theorem Fp(hr:b.roundOf=none):stepG P main.b (G (bW b t ds []) cs) w= .go (G (iC b t ds []) cs) w:=by simp[Conc.G,stepG,stepG.exec,bW,iC,hr]

theorem Td{fn:Func}{c:Frame}{cs:List Frame}{v:Value}{w':World}{es:Array Event}{todo:List Item}(hf:P.funcs[b.fn]? =some fn)(r:(results fn t).runT P w #[]=(.ok v w',es))(hk:b.kind= .normal):
  stepG P main.b (G (iC b t [] todo) (c::cs)) w= .go (G (c.finish v) cs) w' (seen P b.fn es):=by
 have e:stepG P main.b (G (iC b t [] todo) (c::cs)) w=unwind P main.b (iC b t [] todo) (c::cs) none w:=rfl
 rw[e]
 unfold unwind
 have h1:(iC b t [] todo).defers=[]:=rfl
 have h2:(iC b t [] todo).mode= .returning:=rfl
 have h3:(iC b t [] todo).fn=b.fn:=rfl
 have h4:(iC b t [] todo).tmps=t:=rfl
 have h5:(iC b t [] todo).kind= .normal:=hk
 simp only[h1,h2,h3,h4,hf,r,doReturn,h5]
 rfl
theorem Wi{fn:Func}{c:Frame}{cs:List Frame}{v:Value}{w':World}{es:Array Event}{todo:List Item}(hf:P.funcs[b.fn]? =some fn)(r:(results fn t).runT P w #[]=(.ok v w',es))(hk:b.kind= .deferred)(hm:c.mode= .returning):
  stepG P main.b (G (iC b t [] todo) (c::cs)) w= .go (G c cs) w' (seen P b.fn es):=by
 have e:stepG P main.b (G (iC b t [] todo) (c::cs)) w=unwind P main.b (iC b t [] todo) (c::cs) none w:=rfl
 rw[e]
 unfold unwind
 have h1:(iC b t [] todo).defers=[]:=rfl
 have h2:(iC b t [] todo).mode= .returning:=rfl
 have h3:(iC b t [] todo).fn=b.fn:=rfl
 have h4:(iC b t [] todo).tmps=t:=rfl
 have h5:(iC b t [] todo).kind= .deferred:=hk
 simp only[h1,h2,h3,h4,hf,r,doReturn,h5,hm]
 rfl
theorem Dy{r:Nat}{dargs:Array Value}{ds:List Deferred}{w':World}{es:Array Event}{todo:List Item}(hr:(Instr.takeDeferred r).runT P w #[]=(.ok [] w',es)):
  stepG P main.b (G (iC b t ({target:=.collected r,args:=dargs}::ds) todo) cs) w= .go (G (iC b t ds todo) cs) w' (seen P b.fn es):=by
 have e:stepG P main.b (G (iC b t ({target:=.collected r,args:=dargs}::ds) todo) cs) w=unwind P main.b (iC b t ({target:=.collected r,args:=dargs}::ds) todo) cs none w:=rfl
 rw[e]
 unfold unwind
 have h1:(iC b t ({target:=.collected r,args:=dargs}::ds) todo).defers={target:=.collected r,args:=dargs}::ds:=rfl
 have h3:(iC b t ({target:=.collected r,args:=dargs}::ds) todo).fn=b.fn:=rfl
 simp only[h1,h3,hr]
 rfl
theorem OI{f g:FuncId}{cap dargs args:Array Value}{ds:List Deferred}{w':World}{es:Array Event}{todo:List Item}(hr:(callFunc f (dargs++cap)).runT P w #[]=(.ok (.enter g args) w',es)):
  stepG P main.b (G (iC b t ({target:=.fn (.func f) cap,args:=dargs}::ds) todo) cs) w= .go (G (Frame.enter P g args .deferred) (iC b t ds todo::cs)) w' (seen P b.fn es):=by
 have e:stepG P main.b (G (iC b t ({target:=.fn (.func f) cap,args:=dargs}::ds) todo) cs) w=unwind P main.b (iC b t ({target:=.fn (.func f) cap,args:=dargs}::ds) todo) cs none w:=rfl
 rw[e]
 unfold unwind
 have h1:(iC b t ({target:=.fn (.func f) cap,args:=dargs}::ds) todo).defers={target:=.fn (.func f) cap,args:=dargs}::ds:=rfl
 have h2:(invoke (.fn (.func f) cap) dargs).runT P w #[]=(.ok (.enter g args) w',es):=hr
 simp only[h1,callDeferred,h2]
 rfl

theorem Gt{fn:Func}{R:Value→eG→Prop}{Stop:Stops main}(hf:P.funcs[b.fn]? =some fn){ρ:Env}:∀{ds:List Deferred} {F:eG} {hk:Hp} {M:Nat→Prop} (todo:List Item),Sat h F hk M→dQ ρ t→
  Tc P main h ds F (fun F'=>∀tmps,dQ ρ tmps→tr P h (results fn tmps) F' R)→
  (∀v F' hk' M',R v F'→Sat h F' hk' M'→Fr M F M' F'→(b.kind= .normal→∃c cs',cs=c::cs'∧Gs P main Stop (G (c.finish v) cs') hk' M')∧(b.kind= .deferred→∃c cs',cs=c::cs'∧c.mode= .returning∧Gs P main Stop (G c cs') hk' M'))→
  (b.kind= .normal∨b.kind= .deferred)→
  Gs P main Stop (G (iC b t ds todo) cs) hk M:=by
 intro ds
 induction ds with
 | nil=>
  intro F hk M todo S he hu hc hkd
  refine .oN ⟨rfl,fun w hw hM=>?_⟩
  obtain⟨v,F',w',es,r1,r2,r3,r4,r5⟩:=jR _ #[] (hu t he) S hw hM
  rw[Array.empty_append]at r1
  have hg:dX hk M w w' (seen P b.fn es):=r2.mem fun _=>mem_seen
  obtain⟨c1,c2⟩:=hc v F' _ _ r5 r3 r4
  rcases hkd with hkd | hkd
  ·obtain⟨c,cs',rfl,g⟩:=c1 hkd
   refine⟨G (c.finish v) cs',w',seen P b.fn es,?_,hg,g⟩
   exact Td hf r1 hkd
  ·obtain⟨c,cs',rfl,hm,g⟩:=c2 hkd
   refine⟨G c cs',w',seen P b.fn es,?_,hg,g⟩
   exact Wi hf r1 hkd hm
 | cons d ds ih=>
  intro F hk M todo S he hu hc hkd
  obtain⟨target,dargs⟩:=d
  unfold Tc at hu
  refine .oN ⟨rfl,fun w hw hM=>?_⟩
  split at hu
  ·rename_i r heq
   simp only at heq
   subst heq
   obtain⟨l,F',w',es,r1,r2,r3,r4,rfl,r5⟩:=jR _ #[] hu S hw hM
   rw[Array.empty_append]at r1
   have hg:dX hk M w w' (seen P b.fn es):=r2.mem fun _=>mem_seen
   refine⟨G (iC b t ds todo) cs,w',seen P b.fn es,?_,hg,ih todo r3 he r5 (fun v Lp hk'' M'' q a1 a2=>hc v Lp hk'' M'' q a1 (r4.trans a2)) hkd⟩
   exact Dy r1
  ·rename_i f cap heq
   simp only at heq
   subst heq
   obtain⟨nx,F',w',es,r1,r2,r3,r4,g,args,rfl,A,B,hp,hfn⟩:=jR _ #[] hu S hw hM
   rw[Array.empty_append]at r1
   have hg:dX hk M w w' (seen P b.fn es):=r2.mem fun _=>mem_seen
   refine⟨G (Frame.enter P g args .deferred) (iC b t ds todo::cs),w',seen P b.fn es,?_,hg,?_⟩
   ·exact OI r1
   ·have r3':=r3.perm hp
    obtain⟨S1,e1,e2⟩:=r3'.lend
    refine hfn _ e1 e2 (iC b t ds todo) cs Stop _ _ rfl S1 fun A' hk' M' q S' f'=>?_
    obtain⟨a,a'⟩:=r3'.back S' f'
    exact ih todo a he q (fun v Lp hk'' M'' q a1 a2=>hc v Lp hk'' M'' q a1 ((r4.trans (a'.sub fun _ x=>hp.subset x)).trans a2)) hkd
  ·exact hu.elim

def G9:Env→Array Value→Prop
 | [],_=>True
 | (t,v)::r,args=>args[t]? =some v∧G9 r args

theorem G9.ok{args:Array Value}{m:Nat}:∀{ρ:Env},G9 ρ args→dQ ρ (args++Array.replicate m undef)
 | [],_,t,v,h=>by cases h
 | (
    s,x)::r,⟨h1,h2⟩,t,v,h=>by
  unfold aS.look at h
  cases e:Nat.beq t s with
  | true=>
   rw[e]at h
   simp only[cond_true,Option.some.injEq]at h
   subst h
   rw[Nat.eq_of_beq_eq_true e]
   have hlt:s<args.size:=by
    rcases Nat.lt_or_ge s args.size with h' | h'
    ·exact h'
    ·rw[Array.getElem?_eq_none h']at h1;cases h1
   rw[Array.getElem?_append_left hlt]
   exact h1
  | false=>rw[e]at h;exact G9.ok h2 t v h

theorem dV.aG{f:FuncId}{fn:Func}{c:Code}{args:Array Value}{F:eG}{R:Value→eG→Prop}(hf:P.funcs[f]? =some fn)(hb:fn.body=some c)(ha:args.size≤fn.ntmps)(ρ:Env)(hρ:G9 ρ args)
  (H:W ⟨P,main,f,fn.ntmps,none,h⟩ c (leave P main fn h R) ρ [] F):dV P main f args h F R:=by
 intro c' cs Stop hk M S hc
 have e:Frame.enter P f args .normal=bW {(default:Frame)with fn:=f,kind:=.normal} (args++Array.replicate (fn.ntmps-args.size) undef) [] [.code c]:=by
  simp[Frame.enter,bW,hf,hb];rfl
 rw[e]
 refine H _ [] (c'::cs) Stop _ hk M rfl rfl (.normal rfl) hρ.ok (by simp;omega) S fun ex ρ' ds' F' aZ hk' M' q a1 a2 a3 a4=>?_
 obtain⟨hex,hu⟩:=q
 have go:∀todo,Gs P main Stop (G (iC {(default:Frame)with fn:=f,kind:=.normal} aZ ds' todo) (c'::cs)) hk' M':=fun todo=>
  Gt (ρ:=ρ') (fn:=fn) hf todo a3 a1 hu (fun v Lp hk'' M'' r b1 b2=>⟨fun _=>⟨c',cs,rfl,hc v Lp hk'' M'' r b1 (a4.trans b2)⟩,(fun hh=>(by cases hh))⟩) (.inl rfl)
 rcases hex with rfl | rfl
 ·exact fun k'=>.idle rfl (fun _=>Fj rfl) (go _)
 ·exact .idle rfl (fun _=>Fp rfl) (go _)

theorem Y8.aG{f:FuncId}{fn:Func}{c:Code}{args:Array Value}{F:eG}{R:eG→Prop}(hf:P.funcs[f]? =some fn)(hb:fn.body=some c)(ha:args.size≤fn.ntmps)(ρ:Env)(hρ:G9 ρ args)
  (H:W ⟨P,main,f,fn.ntmps,none,h⟩ c (leave P main fn h fun _ F=>R F) ρ [] F):Y8 P main f args h F R:=by
 intro c' cs Stop hk M hm S hc
 have e:Frame.enter P f args .deferred=bW {(default:Frame)with fn:=f,kind:=.deferred} (args++Array.replicate (fn.ntmps-args.size) undef) [] [.code c]:=by
  simp[Frame.enter,bW,hf,hb];rfl
 rw[e]
 refine H _ [] (c'::cs) Stop _ hk M rfl rfl (.deferred rfl (.inl hm)) hρ.ok (by simp;omega) S fun ex ρ' ds' F' aZ hk' M' q a1 a2 a3 a4=>?_
 obtain⟨hex,hu⟩:=q
 have go:∀todo,Gs P main Stop (G (iC {(default:Frame)with fn:=f,kind:=.deferred} aZ ds' todo) (c'::cs)) hk' M':=fun todo=>
  Gt (ρ:=ρ') (fn:=fn) hf todo a3 a1 hu (fun v Lp hk'' M'' r b1 b2=>⟨(fun hh=>(by cases hh)),fun _=>⟨c',cs,rfl,hm,hc Lp hk'' M'' r b1 (a4.trans b2)⟩⟩) (.inr rfl)
 rcases hex with rfl | rfl
 ·exact fun k'=>.idle rfl (fun _=>Fj rfl) (go _)
 ·exact .idle rfl (fun _=>Fp rfl) (go _)
end returns
/-! ### Rounds: the body of a loop over a function -/
def MN:Exit→Option (Option Code)
 | .normal=>some none
 | .exit id=>some (some (.exit id))
 | .goto l=>some (some (.goto l))
 | .ret=>some (some .ret)
 | _=>none

section rounds
variable{P:Program}{main:Side}{h:Hp}{b:Frame}{t:Array Value}{k:List Item}{c:Frame}{cs:List Frame}{w w':World}{l:Nat}
theorem Ko{es:Array Event}(hr:b.roundOf=some l)(hk:(b.kind==CallKind.early)=false)(hb:(Sem.bind (Instr.beginRound l) fun _=>.pure Next.skip).runT P w #[]=(.ok .skip w',es)):
  stepG P main.b (G (bW b t [] (.beginRound::k)) cs) w= .go (G (bW b t [] k) cs) w' (seen P b.fn es):=by
 have e:stepG P main.b (G (bW b t [] (.beginRound::k)) cs) w=stepG.apply P true (bW b t [] (.beginRound::k)) cs none (Sem.bind ((bW b t [] (.beginRound::k)).roundOf.elim (stuck "beginRound: no round") Instr.beginRound) fun _=>.pure Next.skip) w:=rfl
 rw[e]
 have e2:(bW b t [] (.beginRound::k)).roundOf=some l:=hr
 rw[e2]
 exact CP (fr:=bW b t [] (.beginRound::k)) hb hk

theorem tH{e:Exit}{j:Option Code}{es:Array Event}{v:Value}(hr:b.roundOf=some l)(hk:b.kind= .normal)(hj:MN e=some j)(hb:(Instr.endRound l j).runT P w #[]=(.ok v w',es)):
  (e= .normal→stepG P main.b (G (bW b t [] []) (c::cs)) w= .go (G (c.finish v) cs) w' (seen P b.fn es))∧
  (∀id k',e= .exit id→exitTo id k'=none→stepG P main.b (G (bW b t [] (.code (.exit id)::k')) (c::cs)) w= .go (G (c.finish v) cs) w' (seen P b.fn es))∧
  (∀id k',e= .goto id→gotoIn id k'=none→stepG P main.b (G (bW b t [] (.code (.goto id)::k')) (c::cs)) w= .go (G (c.finish v) cs) w' (seen P b.fn es))∧
  (∀k',e= .ret→stepG P main.b (G (bW b t [] (.code .ret::k')) (c::cs)) w= .go (G (c.finish v) cs) w' (seen P b.fn es)):=by
 refine⟨?_,?_,?_,?_⟩
 ·rintro rfl
  cases hj
  simp only[Conc.G,stepG,stepG.exec,bW,hr,hb,doReturn,hk]
  rfl
 ·rintro id k' rfl hx
  cases hj
  simp only[Conc.G,stepG,stepG.exec,bW,hr,hx,Option.elim,hb,doReturn,hk]
  rfl
 ·rintro id k' rfl hx
  cases hj
  simp only[Conc.G,stepG,stepG.exec,bW,hr,hx,Option.elim,hb,doReturn,hk]
  rfl
 ·rintro k' rfl
  cases hj
  simp only[Conc.G,stepG,stepG.exec,bW,hr,hb,doReturn,hk]
  rfl

theorem Rnd.aG{f:FuncId}{tmps:Array Value}{us bd:Code}{F:eG}{R:Value→eG→Prop}(ρ:Env)(hρ:dQ ρ tmps)
  (
   H:W ⟨P,main,f,tmps.size,some l,h⟩ us (fun e xP xQ qp=>e= .normal∧xQ=[]∧tr P h (Instr.beginRound l) qp fun _ kP=>
   W ⟨P,main,f,tmps.size,some l,h⟩ bd (fun e _ ds₂ QN=>ds₂=[]∧∃j,MN e=some j∧tr P h (Instr.endRound l j) QN R) xP [] kP) ρ [] F):Rnd P main l f tmps us bd h F R:=by
 intro c cs Stop hk M S hc
 have e:Frame.round l f tmps us bd .normal=bW {(default:Frame)with fn:=f,kind:=.normal,roundOf:=some l} tmps [] [.code us,.beginRound,.code bd]:=rfl
 rw[e]
 refine H _ [.beginRound,.code bd] (c::cs) Stop _ hk M rfl rfl (.normal rfl) hρ rfl S fun ex ρ' ds' F' aZ hk' M' q a1 a2 a3 a4=>?_
 obtain⟨rfl,rfl,q⟩:=q
 refine .oN ⟨rfl,fun w hw hM=>?_⟩
 obtain⟨v,kP,w',es,r1,r2,r3,r4,rfl,r5⟩:=jR _ #[] (bJ (f:=fun _=>.pure Next.skip) (Q:=fun nx kP=>nx= .skip∧W ⟨P,main,f,tmps.size,some l,h⟩ bd (fun e _ ds₂ QN=>ds₂=[]∧∃j,MN e=some j∧tr P h (Instr.endRound l j) QN R) ρ' [] kP) (lM q fun _ _ x=>⟨rfl,x⟩)) a3 hw hM
 rw[Array.empty_append]at r1
 refine⟨_,w',_,Ko rfl rfl r1,r2.mem fun _=>mem_seen,?_⟩
 refine r5 _ [] (c::cs) Stop _ _ _ rfl rfl (.normal rfl) a1 a2 r3 fun ex afM afN QN aed acG Zc q₃ b1 b2 b3 b4=>?_
 obtain⟨rfl,j,hj,q₃⟩:=q₃
 have key:∀g:Goroutine,g.status= .running→(∀(w w':World) (v:Value) (es:Array Event),(Instr.endRound l j).runT P w #[]=(.ok v w',es)→stepG P main.b g w= .go (G (c.finish v) cs) w' (seen P f es))→Stp P main.b (Gs P main Stop) g acG Zc:=by
  intro g hs hg
  refine⟨hs,fun w hw hM=>?_⟩
  obtain⟨v,UJ,w',es,r1,s2,s3,s4,s5⟩:=jR _ #[] q₃ b3 hw hM
  rw[Array.empty_append]at r1
  exact⟨_,w',_,hg _ _ _ _ r1,s2.mem fun _=>mem_seen,hc v UJ _ _ s5 s3 (((a4.trans r4).trans b4).trans s4)⟩
 cases ex with
 | normal=>exact .oN (key _ rfl fun w w' v es hr=>(tH rfl rfl hj hr).1 rfl)
 | exit id=>exact .inr ⟨rfl,fun k' hk'=>key _ rfl fun w w' v es hr=>(tH rfl rfl hj hr).2.1 id k' rfl hk'⟩
 | goto id=>exact .inr ⟨rfl,fun k' hk'=>key _ rfl fun w w' v es hr=>(tH rfl rfl hj hr).2.2.1 id k' rfl hk'⟩
 | ret=>exact fun k'=>key _ rfl fun w w' v es hr=>(tH rfl rfl hj hr).2.2.2 k' rfl
 | panic ch=>cases hj
 | outgrown=>cases hj
end rounds
end Go.aS
