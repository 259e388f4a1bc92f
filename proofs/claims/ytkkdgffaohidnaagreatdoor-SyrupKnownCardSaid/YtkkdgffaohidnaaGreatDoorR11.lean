/- Iterators whose elements lie in blocks of their own: what is handed out is read while it is lent, and may be kept where the iterator ends. Conditions: none; over any program. (And 10 texts more.) -/
import Derived.Test.YtkkdgffaohidnaaGreatDoorR10
import Derived.Test.YtkkdgffaohidnaaGreatDoorR08
import Derived.Test.YtkkdgffaohidnaaGreatDoorR09
set_option linter.unusedVariables false
set_option linter.unusedSimpArgs false
set_option linter.unusedSectionVars false

/- Iterators whose elements lie in blocks of their own: what is handed out is read while it is lent, and may be kept where the iterator ends. Conditions: none; over any program. -/
namespace Go.aS
def Vw(P:Program)(main:Side)(yv:Value)(h:Hp){X:Type}(Val:X→Value→ah→Prop)(xs:List X)(J:Nat→ah→Prop)(K:Nat→Value→ah→Prop):Prop:=
 ∀h',Ext h h'→∀k x v S A,xs[k]? =some x→Val x v S→fF S h'→J k A→gZ P main yv [v] h' A fun r A'=>(r= .bool true∧∃B,J (k+1) B∧Sb B A')∨(r= .bool false∧∃B,K k v B∧Sb B A')
def adE{X:Type}(Val:X→Value→ah→Prop)(xs:List X)(J:Nat→ah→Prop)(K:Nat→Value→ah→Prop)(A':ah):Prop:=
 (∃B,J xs.length B∧Sb B A')∨∃k x v S B,xs[k]? =some x∧Val x v S∧K k v B∧Sb (B++S) A'
def Me(P:Program)(main:Side)(fv:Value){X:Type}(Val:X→Value→ah→Prop)(xs:List X)(h:Hp):Prop:=
 ∀h',Ext h h'→∀(yv:Value),one yv=true→∀(J:Nat→ah→Prop) (K:Nat→Value→ah→Prop),Vw P main yv h' Val xs J K→∀A,J 0 A→gZ P main fv [yv] h' A fun _ A'=>adE Val xs J K A'
theorem Vw.ext{P:Program}{main:Side}{yv:Value}{h h':Hp}{X:Type}{Val:X→Value→ah→Prop}{xs:List X}{J:Nat→ah→Prop}{K:Nat→Value→ah→Prop}(H:Vw P main yv h Val xs J K)(e:Ext h h'):Vw P main yv h' Val xs J K:=
 fun h'' e'=>H h'' (e.trans e')
theorem Me.ext{P:Program}{main:Side}{fv:Value}{X:Type}{Val:X→Value→ah→Prop}{xs:List X}{h h':Hp}(H:Me P main fv Val xs h)(e:Ext h h'):Me P main fv Val xs h':=
 fun h'' e'=>H h'' (e.trans e')

theorem W.abV{x:Cx}{Q:Post}{ρ:Env}{ds:List Deferred}{F:ah}{f:Operand}{t:Tmp}{us bd:Code}{fv:Value}{X:Type}{Val:X→Value→ah→Prop}{xs:List X}(hf:ev ρ f=some fv)(hro:x.ro=none)(ht:Nat.blt t x.n=true)
  (D:Nat→ah→Prop) (DX:Nat→Value→Exit→ah→Prop) {A₀:ah} {g_:ah→ah} (hs:Seg A₀ F g_) (h0:D 0 A₀)
  (hi:∀h',Ext x.h h'→fF (g_ []) h'→Me x.P x.main fv Val xs h')
  (
   body:∀k p v S A,xs[k]? =some p→Val p v S→D k A→∀l h',Ext x.h h'→fF (g_ []) h'→fF S h'→W {x with ro:=some l,h:=h'} us (fun e xP xQ qp=>e= .normal∧xQ=[]∧∀h',Ext x.h h'→fF (g_ []) h'→fF S h'→
   W {x with ro:=some l,h:=h'} bd (fun e _ ds₂ kP=>ds₂=[]∧((e= .normal∧∃B,D (k+1) B∧Sb B kP)∨((tK e).isSome=true∧∃B,DX k v e B∧Sb B kP))) xP [] qp) ((t,v)::ρ) [] A)
  (after:∀A,D xs.length A→∀d,Q .normal ρ (mark d::ds) ((d,.deferred (some []))::g_ A))
  (afterX:∀k p v S e B,xs[k]? =some p→Val p v S→DX k v e B→∀d,Q e ρ (mark d::ds) ((d,.deferred (some []))::g_ (B++S))):W x (.rangeFunc f #[t] us bd) Q ρ ds F:=by
 refine W.rangeFunc hf hro fun tmps hρ hsz l d=>?_
 let L (s:LoopState) (pd:Option Code):Obj:=.loop {state:=s,pending:=pd,fn:=x.fn,tmps,params:= #[t],assign:=us,body:=bd,defers:=d}
 let J:Nat→ah→Prop:=fun k A=>∃B,D k B∧A=B++[(l,L .ready none)]
 let K:Nat→Value→ah→Prop:=fun k v A=>∃B e c,DX k v e B∧tK e=some c∧A=B++[(l,L .done (some c))]
 refine⟨A₀++[(l,L .ready none)],(d,.deferred (some []))::g_ [],fun _ A'=>adE Val xs J K A',?_,?_,?_⟩
 ·refine(List.perm_append_comm.append_right _).trans ?_
  refine List.Perm.cons _ ?_
  exact List.perm_middle.trans (hs.perm.1.cons _)
 ·intro h' e1 e2
  have e3:fF (g_ []) h':=fun b o hb=>e2 b o (List.mem_cons_of_mem _ hb)
  refine hi h' e1 e3 h' ⟨fun _ _ z=>z,fun _ z=>z⟩ _ rfl J K ?_ _ ⟨A₀,h0,rfl⟩
  rintro h'' e4 k p v S A hp hV hS ⟨B,hB,rfl⟩
  have hE:Ext x.h h'':=e1.trans e4
  have hL:fF (g_ []) h'':=fun b o hb=>e4.1 _ _ (e3 b o hb)
  refine⟨_,_,_,rfl,?_⟩
  simp only[invoke,Instr.yield,Instr.getLoop,bind_eq,au,bind_assoc]
  refine⟨L .ready none,.inr (List.mem_append_right _ (List.mem_cons_self ..)),(fun _ _ _=>by simp[L]),rfl,?_⟩
  have ez:Array.foldl (fun(tmps:Array Value) (x:Tmp×Value)=>tmps.setIfInBounds x.1 x.2) tmps (#[t].zip #[v])=tmps.setIfInBounds t v:=by simp
  show ni x.P x.main h'' _ (.round l x.fn (Array.foldl (fun(tmps:Array Value) (x:Tmp×Value)=>tmps.setIfInBounds x.1 x.2) tmps (#[t].zip #[v])) us bd) _
  rw[ez]
  have hlt:t<tmps.size:=by rw[hsz];exact Nat.le_of_ble_eq_true ht
  have WG:dQ ((t,v)::ρ) (tmps.setIfInBounds t v):=hρ.put hlt _
  have hsz':(tmps.setIfInBounds t v).size=x.n:=by simpa using hsz
  show Rnd x.P x.main l x.fn (tmps.setIfInBounds t v) us bd h'' _ _
  refine Rnd.aG _ WG ?_
  rw[hsz']
  refine(W.frame (x:={x with ro:=some l,h:=h''}) fun h₃ e5 _=>body k p v S B hp hV hB l h₃ (hE.trans e5) (fun b o hb=>e5.1 _ _ (hL b o hb)) (fun b o hb=>e5.1 _ _ (hS b o hb))).mono ?_
  rintro e xP xQ qp ⟨A',⟨rfl,rfl,hbd⟩,rfl⟩
  refine⟨rfl,rfl,?_⟩
  simp only[Instr.beginRound,Instr.getLoop,bind_eq,au,bind_assoc]
  refine⟨L .ready none,.inr (List.mem_append_right _ (List.mem_cons_self ..)),(fun _ _ _=>by simp[L]),rfl,?_⟩
  refine⟨L .ready none,A',[],rfl,(fun _ _ _=>by simp[L]),rfl,?_⟩
  show W _ _ _ _ _ (A'++[(l,L .busy none)])
  refine(W.frame (x:={x with ro:=some l,h:=h''}) fun h₃ e5 _=>hbd h₃ (hE.trans e5) (fun b o hb=>e5.1 _ _ (hL b o hb)) (fun b o hb=>e5.1 _ _ (hS b o hb))).mono ?_
  rintro e tC ds₂ kP ⟨A₂,⟨rfl,hcase⟩,rfl⟩
  rcases hcase with⟨rfl,Bg,BO,hsb⟩ | ⟨hj,Bg,BO,hsb⟩
  ·refine⟨rfl,none,rfl,?_⟩
   simp only[Instr.endRound,Instr.getLoop,bind_eq,au,bind_assoc]
   refine⟨L .busy none,.inr (List.mem_append_right _ (List.mem_cons_self ..)),(fun _ _ _=>by simp[L]),rfl,?_⟩
   refine⟨L .busy none,A₂,[],rfl,(fun _ _ _=>by simp[L]),rfl,?_⟩
   exact .inl ⟨rfl,Bg++[(l,L .ready none)],⟨Bg,BO,rfl⟩,hsb.app .refl⟩
  ·obtain⟨c,hc⟩:=Option.isSome_iff_exists.1 hj
   refine⟨rfl,some c,?_,?_⟩
   ·have:=uy (e:=some e) (fun x hx=>by cases hx;exact hj)
    rw[←hc];exact this
   simp only[Instr.endRound,Instr.getLoop,bind_eq,au,bind_assoc]
   refine⟨L .busy none,.inr (List.mem_append_right _ (List.mem_cons_self ..)),(fun _ _ _=>by simp[L]),rfl,?_⟩
   refine⟨L .busy none,A₂,[],rfl,(fun _ _ _=>by simp[L]),rfl,?_⟩
   exact .inr ⟨rfl,Bg++[(l,L .done (some c))],⟨Bg,e,c,BO,hc,rfl⟩,hsb.app .refl⟩
 ·rintro _ A' (⟨B,⟨A,hA,rfl⟩,hsub⟩ | ⟨k,p,v,S,B,hp,hV,⟨A,e,c,hA,hc,rfl⟩,hsub⟩)
  ·refine⟨A++[(l,L .ready none)],hsub,?_⟩
   simp only[Instr.endLoop,Instr.getLoop,bind_eq,au,bind_assoc]
   refine⟨L .ready none,.inr (List.mem_append_left _ (List.mem_append_right _ (List.mem_cons_self ..))),(fun _ _ _=>by simp[L]),rfl,?_⟩
   refine⟨L .ready none,A,(d,.deferred (some []))::g_ [],by simp,(fun _ _ _=>by simp[L]),rfl,?_⟩
   refine⟨(d,.deferred (some []))::g_ A,?_,after A hA d⟩
   refine Sb.trans (Sb.dF ((hs.perm.2 A).cons _)) ?_
   refine(Sb.dF List.perm_middle.symm).trans (Sb.app .refl (Sb.skip rfl .refl))
  ·refine⟨A++[(l,L .done (some c))]++S,hsub,?_⟩
   simp only[Instr.endLoop,Instr.getLoop,bind_eq,au,bind_assoc]
   refine⟨L .done (some c),.inr (by simp),(fun _ _ _=>by simp[L]),rfl,?_⟩
   refine⟨L .done (some c),A,S++(d,.deferred (some []))::g_ [],by simp,(fun _ _ _=>by simp[L]),rfl,?_⟩
   show W x c Q ρ (mark d::ds) _
   refine W.sb (F':=(d,.deferred (some []))::g_ (A++S)) ?_ ?_
   ·refine Sb.trans (Sb.dF ((hs.perm.2 (A++S)).cons _)) ?_
    refine(Sb.dF (List.Perm.symm (List.perm_middle (l₁:=A++S)))).trans ?_
    rw[List.append_assoc]
    exact Sb.app .refl (Sb.skip rfl .refl)
   ·have q:=afterX k p v S e A hp hV hA d
    cases e <;>simp only[tK,Option.some.injEq]at hc <;>first | (cases hc;done) | subst hc
    ·exact W.exit q
    ·exact W.goto q
    ·exact W.ret q
end Go.aS
namespace Go.aS
theorem W.abW{x:Cx}{Q:Post}{ρ:Env}{ds:List Deferred}{F:ah}{f:Operand}{t:Tmp}{us bd:Code}{fv:Value}{X:Type}{Val:X→Value→ah→Prop}{xs:List X}(hf:ev ρ f=some fv)(hro:x.ro=none)(ht:Nat.blt t x.n=true)
  (D:Nat→ah→Prop) (DX:Nat→Value→Exit→ah→Prop) {A₀:ah} {g_:ah→ah} (hs:Seg A₀ F g_) (h0:D 0 A₀)
  (hi:∀h',Ext x.h h'→fF (g_ []) h'→Me x.P x.main fv Val xs h')
  (
   body:∀k p v S A,xs[k]? =some p→Val p v S→D k A→∀l h',Ext x.h h'→fF (g_ []) h'→fF S h'→W {x with ro:=some l,h:=h'} us (fun e xP xQ qp=>e= .normal∧xQ=[]∧∀h',Ext x.h h'→fF (g_ []) h'→fF S h'→
   W {x with ro:=some l,h:=h'} bd (fun e _ ds₂ kP=>ds₂=[]∧((e= .normal∧∃B,D (k+1) B∧Sb B kP)∨((tK e).isSome=true∧∃B,DX k v e B∧Sb B kP))) xP [] qp) ((t,v)::ρ) [] A)
  (after:∀e A,((e= .normal∧D xs.length A)∨∃k p v S B,xs[k]? =some p∧Val p v S∧DX k v e B∧A=B++S)→∀d,Q e ρ (mark d::ds) ((d,.deferred (some []))::g_ A)):W x (.rangeFunc f #[t] us bd) Q ρ ds F:=
 W.abV hf hro ht D DX hs h0 hi body (fun A hA d=>after _ A (.inl ⟨rfl,hA⟩) d) (fun k p v S e B h1 h2 h3 d=>after e _ (.inr ⟨k,p,v,S,B,h1,h2,h3,rfl⟩) d)
end Go.aS

/- Ways in memory; a search in breadth, step by step. Conditions: none. -/
namespace Go.aS
set_option linter.unusedVariables false
def ES{α β:Type}(R:α→β→Prop):List α→List β→Prop
 | [],[]=>True
 | a::l,b::m=>R a b∧ES R l m
 | _,_=>False
theorem ES.mono{α β:Type}{R R':α→β→Prop}(h:∀a b,R a b→R' a b):∀{l:List α} {m:List β},ES R l m→ES R' l m
 | [],[],_=>trivial
 | a::l,b::m,⟨h1,h2⟩=>⟨h _ _ h1,ES.mono h h2⟩
 | [],_::_,h=>h.elim
 | _::_,[],h=>h.elim
theorem ES.snoc{α β:Type}{R:α→β→Prop}{a:α}{b:β}(hr:R a b):∀{l:List α} {m:List β},ES R l m→ES R (l++[a]) (m++[b])
 | [],[],_=>⟨hr,trivial⟩
 | x::l,y::m,⟨h1,h2⟩=>⟨h1,ES.snoc hr h2⟩
 | [],_::_,h=>h.elim
 | _::_,[],h=>h.elim
theorem ES.len{α β:Type}{R:α→β→Prop}:∀{l:List α} {m:List β},ES R l m→l.length=m.length
 | [],[],_=>rfl
 | x::l,y::m,⟨h1,h2⟩=>by rw[List.length_cons,List.length_cons,ES.len h2]
 | [],_::_,h=>h.elim
 | _::_,[],h=>h.elim

def Vx(S:ah)(v:Value)(l:List Int):Prop:=Shut S∧∀h,fF S h→Sl h fH v l
theorem fF.left{A B:ah}{h:Hp}(H:fF (A++B) h):fF A h:=fun b o hb=>H b o (List.mem_append_left _ hb)
theorem fF.right{A B:ah}{h:Hp}(H:fF (A++B) h):fF B h:=fun b o hb=>H b o (List.mem_append_right _ hb)
theorem Vx.more{S S':ah}{v:Value}{l:List Int}(H:Vx S v l)(h':Shut S'):Vx (S'++S) v l:=⟨h'.app H.1,fun h hl=>H.2 h hl.right⟩
theorem Vx.adF{S:ah}{v:Value}{l:List Int}{E:TypeId}(H:Os E fH v l S):Vx S v l:=⟨H.shut,fun h hl=>H.sl hl⟩
theorem Vx.left{S S':ah}{v:Value}{l:List Int}(H:Vx S v l)(h':Shut S'):Vx (S++S') v l:=⟨H.1.app h',fun h hl=>H.2 h hl.left⟩
theorem Sl.one{h:Hp}{α:Type}{row:α→List Value}{w:Nat}[Rw row w]{v:Value}{l:List α}(H:Sl h row v l):one v=true:=by
 obtain⟨a,cap,rfl⟩:=H.dA;rfl
def SG(a:Value×Nat):List Value:=[if one a.1=true then a.1 else .bool false,I a.2]
instance:Rw SG 2:=⟨fun _=>rfl,fun a=>by
 simp only[SG]
 split
 ·rename_i h;simp[ones,h];rfl
 ·rfl⟩
theorem Yj{v:Value}{n:Nat}(h:one v=true):SG (v,n)=[v,I n]:=by simp[SG,h]
def adG(w:Wy)(v:Value)(S:ah):Prop:=∃vw,v= .agg #[vw,I w.2]∧one vw=true∧Vx S vw (zs w.1)
def QOK(S:ah)(a:Value×Nat)(w:Wy):Prop:=a.2=w.2∧one a.1=true∧Vx S a.1 (zs w.1)

theorem adH{A B C X:ah}:(A++(B++(C++X))).Perm (C++(A++(B++X))):=by
 have sw:∀{B C X:ah},(B++(C++X)).Perm (C++(B++X)):=fun{B C X}=>by
  rw[←List.append_assoc,←List.append_assoc]
  exact List.perm_append_comm.append_right _
 exact(List.Perm.append_left A sw).trans sw

theorem Yk{A R:ah}{x y:Nat×Obj}:(A++(x::y::R)).Perm (x::y::(A++R)):=List.perm_middle.trans (List.Perm.cons _ List.perm_middle)
theorem adI{A B C D E:ah}{x y:Nat×Obj}:(x::y::(A++(B++((C++D)++E)))).Perm (C++(x::y::(A++(B++(D++E))))):=by
 refine .trans ?_ Yk.symm
 rw[List.append_assoc C D E]
 exact(adH.cons _).cons _
theorem Sb.in{S A R:ah}{x y:Nat×Obj}(h:Sb S A):Sb (x::y::(S++R)) (A++(x::y::R)):=.trans (.dF Yk.symm) (.app h .refl)
def Oi(met:List Nat):Int→Option Value:=fun x=>if x∈zs met then some (.bool true)else none
theorem Yl{o:Nat}{l:List Nat}:(o:Int)∈zs l↔o∈l:=by
 simp only[zs,List.mem_map]
 constructor
 ·rintro⟨a,h,e⟩
  have:a=o:=by omega
  exact this▸h
 ·exact fun h=>⟨o,h,rfl⟩
theorem aak{o:Nat}{l:List Nat}:(Oi l (o:Int)).getD (.bool false)= .bool (decide (o∈l)):=by
 unfold Oi
 by_cases h:o∈l
 ·rw[if_pos (Yl.2 h)];simp[h]
 ·rw[if_neg (fun h'=>h (Yl.1 h'))];simp[h]
theorem Vy{o:Nat}{l:List Nat}:(fun x=>if x=(o:Int)then some (Value.bool true)else Oi l x)=Oi (o::l):=by
 funext x
 unfold Oi
 by_cases h:x=(o:Int)
 ·rw[if_pos h,if_pos (by simp[zs,h])]
 ·rw[if_neg h]
  have:(x∈zs (o::l))↔x∈zs l:=by simp[zs,h]
  by_cases h':x∈zs l
  ·rw[if_pos h',if_pos (this.2 h')]
  ·rw[if_neg h',if_neg (fun h=>h' (this.1 h))]
end Go.aS

/- The search in breadth, as an iterator. Conditions: none; over the given program. -/
namespace Go.aS
set_option maxRecDepth 100000
set_option maxHeartbeats 4000000
theorem Gh(main:Side)(h:Hp)(ss:List Int)(vs:Value)(hs:Sl h fH vs ss)(hn:ss.length≤1000):dV prog main rW #[vs] h [] (fun v A=>∃S,Os dL fH v ss S∧Sb S A):=by
 obtain⟨a,cap,rfl⟩:=hs.dA
 refine dV.aG Bv rfl (by show 1≤8;decide) [(0,.slice a ss.length cap)] ⟨rfl,trivial⟩ ?_
 refine W.seq<|W.region rfl<|agb rfl rfl rfl<|pq<|W.seq<|W.seq<|W.region rfl<|qm rfl rfl rfl ?_
 refine agW (aae rfl rfl) rfl ?_
 refine pq ?_
 refine W.cond rfl (fun c4=>?_) (fun c4=>?_)
 ·refine W.seq<|W.region rfl<|agb rfl rfl rfl<|pq<|W.ret<|aY ?_
  have:ss=[]:=by
   cases a with
   | some a=>cases c4
   | none=>
    rcases hss:ss with _ | ⟨x,r⟩
    ·rfl
    ·obtain⟨b,off,c,E,fz,e,_⟩:=hs.at (i:=0) (p:=x) (by rw[hss];rfl)
     cases e
  subst this
  exact mg (vs:=[.slice none 0 0]) ⟨[],.nil .nil,.refl⟩
 ·refine W.skip<|aA<|W.seq<|W.region rfl ?_
  refine Ops.aeO (fun mZ=>?_) rfl
  refine qm rfl rfl rfl ?_
  have hO:Os dL fH (.slice (some ⟨mZ,0,none⟩) 0 0) ([]:List Int) [(mZ,.cells #[] dL (0,0))]:=.inr ⟨mZ, #[],0,[],rfl,rfl,rfl,Nat.le_refl _,Part.all [],.nil⟩
  refine oe rfl wn rfl rfl (iW (row:=fH) (l:=[]) (l':=ss) rfl rfl rfl hO .all (fun h2 hE hl=>hs.ext hE) (by simp;omega) (by decide) rfl (fun v' S' hS'=>?_))
  rw[List.nil_append]at hS'
  refine agb rfl rfl rfl<|pq<|W.ret ?_
  exact mg (vs:=[v']) ⟨S',hS',.refl⟩

structure QS where
 k:Nat
 fuel:Nat
 met:List Nat
 todo:List Wy
 vq:Value
 Sq:ah
 es:Array MapEntry
 ck:Nat
 qv:List (Value×Nat)
 Sw:ah
 B:ah
structure QS.Mem(s:QS):Prop where
 oq:Oq jB SG s.vq s.qv s.Sq
 all:ES (QOK s.Sw) s.qv s.todo
 map:ER s.es (Oi s.met)
 sw:Shut s.Sw
 nd:s.met.Nodup
 lo:∀x∈s.met,x<13
 en:∀w∈s.todo,w.2<13
 ln:∀w∈s.todo,w.1.length+s.fuel≤41
 le:Cm 13 s.met s.todo≤40

theorem Qm(main:Side)(h:Hp)(ps:List Pn)(vp:Value)(c q b1 b2:Nat)(E1 E2:TypeId)(z1 z2:Nat×Nat)(hf:Sl h Pn.row vp ps)(hok:iP ps)(hc:c<16)(hq:q<13)(hb1:h b1=some (.cells #[I q] E1 z1))(hb2:h b2=some (.cells #[vp,U8 c] E2 z2)):
  Me prog main (.func (.func fZ) #[] #[.pointer (some ⟨b1,0,none⟩),.pointer (some ⟨b2,0,none⟩)]) adG (Ah (dO ps c) q) h:=by
 obtain⟨a,cap,rfl⟩:=hf.dA
 intro h' hE0 yv hy1 J K hY A hJ
 have hb1:=hE0.1 _ _ hb1
 have hb2:=hE0.1 _ _ hb2
 have hf:=hf.ext hE0
 clear hE0
 refine gZ.zh (f:=fZ) (fi:=[]) (ca:=[.pointer (some ⟨b1,0,none⟩),.pointer (some ⟨b2,0,none⟩)]) ?_
 refine dV.aG uN rfl (by show 3≤59;decide) [(0,yv),(1,.pointer (some ⟨b1,0,none⟩)),(2,.pointer (some ⟨b2,0,none⟩))] ⟨rfl,rfl,rfl,trivial⟩ ?_
 refine W.seq<|W.region rfl ?_
 refine oe rfl wn rfl rfl (Md rfl (fun Oj hn hm=>?_))
 refine agb rfl rfl rfl<|pq<|W.seq<|W.region rfl ?_
 refine agX rfl ?_
 refine agW (eH rfl rfl rfl) rfl ?_
 refine Ops.NK (cs:= #[.slice none 0 0,I q]) (fun X5=>?_) rfl
 refine agb rfl rfl rfl<|pq<|W.block ?_
 refine W.loop (σ:=QS) (fun s=>s.Mem∧(∃pre,Ah (dO ps c) q=pre++RY (dO ps c) s.fuel s.met s.todo∧pre.length=s.k)∧Cm 13 s.met s.todo<s.fuel∧s.fuel≤40∧J s.k s.B) (fun s=>[(0,yv),(1,.pointer (some ⟨b1,0,none⟩)),(2,.pointer (some ⟨b2,0,none⟩)),(4,.map (some Oj)),(5,s.vq)])
  (fun s=>(Oj,.map s.es s.ck)::(s.Sq++(s.Sw++s.B))) (fun s=>s.fuel) ⟨0,40,[],[([],q)],.slice (some ⟨X5,0,none⟩) 1 1,[(X5,.cells #[.slice none 0 0,I q] jB (0,0))], #[],0,[(.slice none 0 0,q)],[],A⟩
  ⟨⟨.inr ⟨X5,_,0,1,[],rfl,rfl,Nat.le_of_ble_eq_true rfl,Nat.le_of_ble_eq_true rfl,Part.all [.slice none 0 0,I q],.nil⟩,⟨⟨rfl,rfl,.nil,fun _ _=>.nil⟩,trivial⟩,by show ER _ (Oi []);exact(show Oi []=fun _=>none from by funext x;simp[Oi,zs])▸ER.nil,.nil,List.nodup_nil,(fun x h=>by cases h),(fun w hw=>by rw[List.mem_singleton.1 hw];exact hq),(fun w hw=>by rw[List.mem_singleton.1 hw];exact Nat.le_of_ble_eq_true rfl),Nat.le_of_ble_eq_true rfl⟩,⟨[],rfl,rfl⟩,by simp[Cm],Nat.le_refl _,hJ⟩ ⟨rfl,rfl,rfl,rfl,rfl,trivial⟩ (Sb.dF (List.Perm.swap ..)) ?_
 rintro⟨k,fuel,met,todo,vq,Sq,es,ck,qv,Sw,B⟩ ⟨hM,hpre,hleft,afa,hJk⟩
 obtain⟨hO,hA2,hMp,hSw,hnd,hlo,hen,hln,hle⟩:=hM
 simp only at hO hA2 hMp hSw hnd hlo hen hln hle hpre hleft afa hJk⊢
 have RF:=hA2.len
 obtain⟨a5,cap5,rfl⟩:=hO.dA
 refine W.seq<|W.seq<|W.region rfl<|qm rfl rfl rfl ?_
 refine agW (dM rfl rfl) rfl ?_
 refine agW (rC rfl rfl rfl) rfl ?_
 refine pq ?_
 refine W.bC rfl (fun c16=>?_) (fun c16=>?_)
 ·obtain⟨x,qv,rfl⟩:∃x r,qv=x::r:=by
   cases qv with
   | nil=>simp at c16
   | cons x r=>exact⟨x,r,rfl⟩
  obtain⟨w,todo,rfl⟩:∃x r,todo=x::r:=by
   cases todo with
   | nil=>cases RF
   | cons x r=>exact⟨x,r,rfl⟩
  obtain⟨vx,ex⟩:=x
  obtain⟨⟨rfl,hx1,hxR⟩,hA2⟩:=hA2
  simp only at hx1 hxR
  obtain⟨f,rfl⟩:∃f,fuel=f+1:=⟨fuel-1,by omega⟩
  have afc:w.2<13:=hen w (List.mem_cons_self ..)
  have hwl:=hln w (List.mem_cons_self ..)
  rcases id hO with⟨he,-⟩ | ⟨βq,cq,oq0,agi,Jq,he,rfl,hq1,hq2,hq3,hq4⟩
  ·cases he
  cases he
  have hrow:SG (vx,w.2)=[vx,I w.2]:=Yj hx1
  have hxe:cq.extract (oq0+0*2) (oq0+0*2+2)= #[vx,I w.2]:=by
   have:=(Part.abd hq3 (i:=0) rfl).1
   rw[hrow]at this;exact this
  have hxn:oq0+0*2+2≤cq.size:=(Part.abd hq3 (i:=0) rfl).2
  have hpop:=hO.pop
  refine W.skip<|aA<|W.block<|W.seq<|W.region rfl<|qm rfl rfl rfl ?_
  refine ag3 rfl ?_
  refine ag2 rfl ?_
  refine Ops.new (fun yC=>?_)
  refine Ops.jP (vs:= #[vx,I w.2]) ?_ (h1:=by show(one vx&&true)=true;rw[hx1];rfl)
  refine pq<|W.seq<|W.region rfl<|qm rfl rfl rfl ?_
  refine agW (SA (m:=1) rfl rfl rfl (by simp) (by simpa using hq2)) rfl ?_
  refine agb rfl rfl rfl<|pq<|W.seq<|W.seq<|W.region rfl<|qm rfl rfl rfl ?_
  refine ag2 rfl ?_
  refine cgv (A:=B) (.tail (.tail (.app (.app .all)))) (fun h2 hE hL=>hY h2 hE k w _ Sw B ?_ ⟨vx,rfl,hx1,hxR⟩ ?_ hJk) (fun v A' hv=>?_)
  ·obtain⟨pre,h1,h2⟩:=hpre
   rw[h1,←h2,RY];simp
  ·exact fun b o hb=>hL b o (.tail _ (.tail _ (List.mem_append_right _ (List.mem_append_left _ hb))))
  obtain⟨r,rfl,hr⟩:∃r:Bool,v= .bool r∧((r=true∧∃B,J (k+1) B∧Sb B A')∨(r=false∧∃B,K k (.agg #[vx,I w.2]) B∧Sb B A')):=by
   rcases hv with⟨rfl,hB⟩ | ⟨rfl,hB⟩
   ·exact⟨true,rfl,.inl ⟨rfl,hB⟩⟩
   ·exact⟨false,rfl,.inr ⟨rfl,hB⟩⟩
  refine agW (xU rfl rfl) rfl ?_
  refine pq ?_
  refine W.cond rfl (fun c25=>?_) (fun c25=>?_)
  ·refine W.ret<|aY<|cZ<|aY<|cZ ?_
   rcases hr with⟨rfl,-⟩ | ⟨rfl,B',hK,hsb⟩
   ·cases c25
   refine mg (vs:=[]) (.inr ⟨k,w,_,Sw,B',?_,⟨vx,rfl,hx1,hxR⟩,hK,?_⟩)
   ·obtain⟨pre,h1,h2⟩:=hpre
    rw[h1,←h2,RY];simp
   ·refine .skip rfl (.skip rfl (.left ?_ hO.shut))
    exact .trans (.dF List.perm_append_comm) (.app .refl hsb)
  ·obtain⟨rfl,B',afe,hsb⟩:r=true∧∃B,J (k+1) B∧Sb B A':=by
    rcases hr with h | ⟨rfl,-⟩
    ·exact h
    ·cases c25
   refine W.sb (F':=(yC,.cells #[vx,I w.2] jB (0,0))::(Oj,.map es ck)::((((βq,.cells cq jB (0,0))::Jq))++(Sw++B'))) (.cons (.cons (.app .refl (.app .refl hsb)))) ?_
   clear hsb hr c25
   refine W.skip<|aA<|W.seq<|W.region rfl ?_
   refine ag2 rfl ?_
   refine agY rfl ?_
   refine agX rfl ?_
   refine c0 (fun h' hE hL=>EM _ h' ps _ c w.2 (hf.ext hE) hok.len hc) (fun v A2 hv=>?_)
   obtain⟨S1,hS1,Ym⟩:=hv
   refine Ops.sb (F':=(yC,.cells #[vx,I w.2] jB (0,0))::(Oj,.map es ck)::(S1++((((βq,.cells cq jB (0,0))::Jq))++(Sw++B')))) Ym.in ?_
   obtain⟨a1,cap1,rfl⟩:=hS1.dA
   rw[kT]at hS1⊢
   have hol:(bQ ps c w.2).length≤4:=wB
   refine agW (dM rfl rfl) rfl ?_
   refine qm rfl rfl rfl<|pq<|W.block ?_
   refine W.loop (σ:=Nat×QS) (fun s=>s.1≤(bQ ps c w.2).length∧s.2.Mem∧s.2.fuel=f∧s.2.k=k+1∧s.2.B=B'∧nU w.1 ((dO ps c w.2).drop s.1) s.2.met s.2.todo=nU w.1 (dO ps c w.2) met todo∧Vx s.2.Sw vx (zs w.1))
    (fun s=>[(31,I s.1),(30,I (bQ ps c w.2).length),(29,.slice a1 (bQ ps c w.2).length cap1),(0,yv),(1,.pointer (some ⟨b1,0,none⟩)),(2,.pointer (some ⟨b2,0,none⟩)),(4,.map (some Oj)),(5,s.2.vq),(6,.pointer (some ⟨yC,0,none⟩))])
    (fun s=>(yC,.cells #[vx,I w.2] jB (0,0))::(Oj,.map s.2.es s.2.ck)::(S1++(s.2.Sq++(s.2.Sw++s.2.B)))) (fun s=>(bQ ps c w.2).length-s.1) (0,⟨k+1,f,met,todo,_,_,es,ck,qv,Sw,B'⟩)
    ⟨Nat.zero_le _,⟨hpop,hA2,hMp,hSw,hnd,hlo,fun u hu=>hen u (List.mem_cons_of_mem _ hu),fun u hu=>by have:=hln u (List.mem_cons_of_mem _ hu);show u.1.length+f≤41;omega,by simp only[Cm,List.length_cons]at hle⊢;omega⟩,rfl,rfl,rfl,rfl,hxR⟩ ⟨rfl,rfl,rfl,rfl,rfl,rfl,rfl,rfl,rfl,trivial⟩ .refl ?_
   rintro⟨j,⟨k1,f1,Yn,Yo,vq1,Sq1,es1,ck1,qv1,Sw1,B1⟩⟩ ⟨hj,hM1,hf1,hk1,hB1,hgr,aal⟩
   simp only at hf1 hk1 hB1 hj hgr aal
   subst hf1 hk1 hB1
   obtain⟨hO1,Yp,Yq,Yr,hnd1,hlo1,aam,aan,hle1⟩:=hM1
   simp only at hO1 Yp Yq Yr hnd1 hlo1 aam aan hle1⊢
   have agj:=Yp.len
   obtain⟨a6,cap6,rfl⟩:=hO1.dA
   refine W.seq<|W.region rfl ?_
   refine agW (fO rfl rfl rfl) rfl ?_
   refine pq<|W.seq ?_
   refine W.bC rfl (fun c32=>?_) (fun c32=>?_)
   ·have hjl:j<(bQ ps c w.2).length:=by omega
    obtain⟨i,hp,hdr⟩:=has hjl
    have hi:=EL (List.mem_of_getElem? hp)
    have hi4:=(Ak.1 (List.mem_of_getElem? hp)).1
    have hgd:(dO ps c w.2).drop j=(i,gy ps i w.2)::(dO ps c w.2).drop (j+1):=by
     rw[dO,←List.map_drop,←List.map_drop,hdr];rfl
    rw[hgd,nU]at hgr
    rcases id hS1 with⟨he,-⟩ | ⟨βo,cc,cap',Jo,he,rfl,hcs,hle2,hpt,hJo⟩
    ·rw[zs,List.map_eq_nil_iff]at he
     rw[he]at hjl;cases hjl
    rw[kT]at he
    cases he
    have hcv:cc[0+j*1]? =some (I i):=Part.Bo hpt (i:=j) (p:=(i:Int)) (by rw[zs,List.getElem?_map,hp];rfl) 0 (by decide)
    refine W.skip<|aA<|W.seq<|W.block<|W.seq<|W.region rfl ?_
    refine ag3 rfl ?_
    refine agX rfl ?_
    refine agb rfl rfl rfl<|pq<|W.seq<|W.region rfl ?_
    refine agY rfl ?_
    refine ag2 rfl ?_
    refine qm rfl rfl rfl ?_
    refine agY rfl ?_
    refine agX rfl ?_
    refine cp (fun h' hE hL=>Dl _ h' ps _ i w.2 (hf.ext hE) hok hi afc) ?_
    refine agb rfl rfl rfl<|pq<|W.seq<|W.region rfl<|qm rfl rfl rfl<|qm rfl rfl rfl ?_
    refine oe rfl wn rfl rfl (aaj rfl rfl rfl (.tail .head) Yq ?_)
    rw[aak]
    refine agW (xU rfl rfl) rfl ?_
    refine pq ?_
    refine W.cond rfl (fun c44=>?_) (fun c44=>?_)
    ·have hom:gy ps i w.2∉Yn:=by simpa using c44
     rw[if_neg hom]at hgr
     have SH:gy ps i w.2<13:=AZ
     refine W.seq<|W.region rfl<|qm rfl rfl rfl<|qm rfl rfl rfl ?_
     refine oe rfl wn rfl rfl (SE rfl rfl rfl rfl (.tail .head) Yq (fun es2 ck2 adL=>?_))
     rw[Vy]at adL
     refine pq<|W.region rfl<|qm rfl rfl rfl ?_
     refine agY rfl ?_
     refine agX rfl ?_
     refine c0 (fun h' hE hL=>Gh _ h' (zs w.1) vx (aal.2 _ fun b o hb=>hL b o (.tail _ (.tail _ (List.mem_append_right _ (List.mem_append_right _ (List.mem_append_left _ hb)))))) (by rw[kT];omega)) (fun v A3 hv=>?_)
     obtain⟨S2,hS2,Oh⟩:=hv
     refine Ops.sb (Oh.app .refl) ?_
     refine qm rfl rfl rfl ?_
     refine Ops.NK (cs:= #[I i]) (fun afi=>?_) rfl
     refine oe rfl wn rfl rfl (iW (row:=fH) (l':=[(i:Int)]) rfl rfl rfl hS2 (.tail .head) (fun h2 _ hl=>Sl.mk (hl afi _ (.head _)) rfl (Part.all [I i])) (by rw[kT];simp;omega) (by decide) rfl (fun v' S3 hS3=>?_))
     obtain⟨a3,cap3,rfl⟩:=hS3.dA
     have hn3:(zs w.1++[(i:Int)])=zs (w.1++[i]):=by simp[zs]
     rw[hn3]at hS3⊢
     refine qm rfl rfl rfl ?_
     refine agW (eH rfl rfl rfl) rfl ?_
     refine Ops.NK (cs:= #[.slice a3 (zs (w.1++[i])).length cap3,I (gy ps i w.2)]) (fun afj=>?_) rfl
     refine oe rfl wn rfl rfl (Vu (row:=SG) (l':=[(.slice a3 (zs (w.1++[i])).length cap3,gy ps i w.2)]) rfl rfl rfl hO1 (.tail (.tail (.app (.tail (.tail (.app .head)))))) (fun h2 _ hl=>Sl.mk (hl afj _ (.head _)) rfl (Part.all [.slice a3 (zs (w.1++[i])).length cap3,I (gy ps i w.2)])) (by simp only[Cm]at hle1;simp;omega) (by decide) rfl (fun v5 S4 hO4=>?_))
     refine agb rfl rfl rfl<|Ops.nil<|dI<|aA<|W.region rfl ?_
     refine ag1 rfl ?_
     refine qm rfl rfl rfl<|pq ?_
     refine⟨rfl,(j+1,⟨k+1,f1,gy ps i w.2::Yn,Yo++[(w.1++[i],gy ps i w.2)],v5,S4,es2,ck2,qv1++[(.slice a3 (zs (w.1++[i])).length cap3,gy ps i w.2)],S3++Sw1,B1⟩),⟨hjl,⟨hO4,?_,adL,hS3.shut.app Yr,List.nodup_cons.2 ⟨hom,hnd1⟩,?_,?_,?_,?_⟩,rfl,rfl,rfl,hgr,aal.more hS3.shut⟩,by simp only;omega,⟨rfl,rfl,rfl,rfl,rfl,rfl,rfl,rfl,rfl,trivial⟩,.skip rfl (.skip rfl (.dF adI))⟩
     ·exact ES.snoc ⟨rfl,rfl,(Vx.adF hS3).left Yr⟩ (Yp.mono fun a b h=>⟨h.1,h.2.1,h.2.2.more hS3.shut⟩)
     ·intro x hx
      rcases List.mem_cons.1 hx with rfl | hx
      ·exact SH
      ·exact hlo1 x hx
     ·intro u hu
      rcases List.mem_append.1 hu with hu | hu
      ·exact aam u hu
      ·rw[List.mem_singleton.1 hu];exact SH
     ·intro u hu
      rcases List.mem_append.1 hu with hu | hu
      ·exact aan u hu
      ·rw[List.mem_singleton.1 hu];simp only[List.length_append,List.length_cons,List.length_nil];omega
     ·have:=JH (n:=13) (List.nodup_cons.2 ⟨hom,hnd1⟩) (fun x hx=>by
       rcases List.mem_cons.1 hx with rfl | hx
       ·exact SH
       ·exact hlo1 x hx)
      simp only[Cm,List.length_cons,List.length_append,List.length_nil]at this hle1⊢
      omega
    ·refine W.skip<|dI<|aA<|W.region rfl ?_
     refine ag1 rfl ?_
     refine qm rfl rfl rfl<|pq ?_
     have hom:gy ps i w.2∈Yn:=by simpa using c44
     rw[if_pos hom]at hgr
     exact⟨rfl,(j+1,⟨k+1,f1,Yn,Yo,_,Sq1,es1,ck1,qv1,Sw1,B1⟩),⟨hjl,⟨hO1,Yp,Yq,Yr,hnd1,hlo1,aam,aan,hle1⟩,rfl,rfl,rfl,hgr,aal⟩,by simp only;omega,⟨rfl,rfl,rfl,rfl,rfl,rfl,rfl,rfl,rfl,trivial⟩,.refl⟩
   ·refine W.exit<|bP<|bP<|gG<|dI<|aA ?_
    obtain rfl:j=(bQ ps c w.2).length:=by omega
    have hgz:(dO ps c w.2).drop (bQ ps c w.2).length=[]:=by rw[dO];simp
    rw[hgz,nU]at hgr
    obtain⟨pre,h1,h2⟩:=hpre
    rw[RY,←hgr]at h1
    obtain⟨hl1,-,-⟩:=Dk (way:=w.1) (n:=13) (r:=dO ps c w.2) (met:=met) (todo:=todo) (fun p o h=>F9 _ p o h) hnd hlo
    rw[←hgr]at hl1
    refine⟨rfl,⟨k+1,f1,Yn,Yo,_,Sq1,es1,ck1,qv1,Sw1,B1⟩,⟨⟨hO1,Yp,Yq,Yr,hnd1,hlo1,aam,aan,hle1⟩,⟨pre++[w],by rw[h1];simp,by simp[h2]⟩,?_,by simp only;omega,afe⟩,by simp only;omega,⟨rfl,rfl,rfl,rfl,rfl,trivial⟩,.skip rfl (.cons (.left .refl hS1.shut))⟩
    simp only[Cm,List.length_cons]at hl1 hleft⊢
    omega
 ·have h0:qv.length=0:=by omega
  obtain rfl:qv=[]:=List.length_eq_zero_iff.1 h0
  obtain rfl:todo=[]:=List.length_eq_zero_iff.1 (by omega)
  refine W.exit<|bP<|bP<|gG ?_
  refine mg (vs:=[]) (.inl ⟨B,?_,.skip rfl (.left (.left .refl hSw) hO.shut)⟩)
  obtain⟨pre,h1,h2⟩:=hpre
  have h3:RY (dO ps c) fuel met []=[]:=by cases fuel <;>rfl
  rw[h3,List.append_nil]at h1
  rw[h1,h2];exact hJk
end Go.aS

/- Rings; the shortest ways. Conditions: none; over the given program. -/
namespace Go.aS
set_option maxRecDepth 100000
set_option maxHeartbeats 4000000
abbrev abX(b1 b2:Nat):Value:=.func (.func fZ) #[] #[.pointer (some ⟨b1,0,none⟩),.pointer (some ⟨b2,0,none⟩)]
theorem Yt(main:Side)(h:Hp)(vp:Value)(c q:Nat)(h1:one vp=true):dV prog main ou #[xJ vp c,I q] h [] (fun v A=>∃b1 b2,v=abX b1 b2∧A=[(b1,.cells #[I q] dL (0,0)),(b2,.cells #[vp,U8 c] bG (0,0))]):=by
 refine dV.aG wZ rfl (by show 2≤6;decide) [(0,xJ vp c),(1,I q)] ⟨rfl,rfl,trivial⟩ ?_
 refine W.seq<|W.region rfl ?_
 refine oe rfl wn rfl rfl (eBA rfl rfl (fun yR=>?_))
 refine Ops.box (fun uU=>?_)
 refine agb rfl rfl rfl<|pq<|W.seq<|W.region rfl ?_
 refine agW (y7 rfl rfl rfl) rfl ?_
 refine agb rfl rfl rfl<|pq<|W.ret ?_
 exact mg (vs:=[_]) ⟨_,_,rfl,rfl⟩

theorem Qn{α:Type}{p:α→Bool}{l:List α}{k:Nat}{x:α}(hx:l[k]? =some x)(h:∀y∈l.take k,p y=false)(hp:p x=false):∀y∈l.take (k+1),p y=false:=by
 intro y hy
 rw[List.take_add_one,hx]at hy
 rcases List.mem_append.1 hy with hy | hy
 ·exact h y hy
 ·simp at hy;rw[hy];exact hp
theorem Ut{α:Type}{p:α→Bool}:∀{l:List α} {k:Nat} {x:α},l[k]? =some x→(∀y∈l.take k,p y=false)→p x=true→l.find? p=some x
 | [],k,x,hx,_,_=>by simp at hx
 | a::l,0,x,hx,_,hp=>by
  simp at hx;subst hx
  rw[List.find?_cons,hp]
 | a::l,k+1,x,hx,h,hp=>by
  rw[List.find?_cons,h a (by simp)]
  exact Ut (by simpa using hx) (fun y hy=>h y (by simp[hy])) hp
theorem Vz{α:Type}{p:α→Bool}{l:List α}(h:∀y∈l.take l.length,p y=false):l.find? p=none:=by
 rw[List.take_length]at h
 rw[List.find?_eq_none]
 intro x hx;rw[h x hx];decide

def isRing(q:Nat):Wy→Bool:=fun w=>decide (1≤w.1.length)&&decide (w.2=q)
def ET(ps:List Pn)(q:Int):List Nat×Int:=
 if kU ps [q]≠0 then([],kU ps [q])else
  match(Ah (dO ps 0) q.toNat).find? (isRing q.toNat)with
  | some w=>(w.1,0)
  | none=>([],11)

theorem aao(main:Side)(h:Hp)(ps:List Pn)(vp:Value)(q:Int)(hf:Sl h Pn.row vp ps):dV prog main Eh #[vp,I q] h [] (fun v A=>∃w S,v= .tuple #[w,I (ET ps q).2]∧Vx S w (zs (ET ps q).1)∧Sb S A):=by
 obtain⟨a,cap,rfl⟩:=hf.dA
 refine dV.aG Kz rfl (by show 2≤35;decide) [(0,.slice a ps.length cap),(1,I q)] ⟨rfl,rfl,trivial⟩ ?_
 refine W.seq<|W.region rfl ?_
 refine Ops.box (fun uU=>?_)
 refine Ops.new (fun wC=>?_)
 refine Ops.new (fun mZ=>?_)
 refine pq<|W.seq<|W.region rfl<|qm rfl rfl rfl ?_
 refine agX rfl ?_
 refine Ops.NK (cs:= #[I q]) (fun Yf=>?_) rfl
 refine cp (fun h' hE hL=>Am _ h' ps _ [q] _ (hf.ext hE) (Sl.mk (hL Yf _ (.head _)) rfl (Part.all [I q])) (by simp)) ?_
 refine qm rfl rfl rfl<|oq (bD rfl rfl rfl) rfl wn rfl rfl<|oq (bD rfl rfl rfl) rfl wn rfl rfl ?_
 have hcs:∃cs:Array Value,(if kU ps [q]=0 then xJ (.slice a ps.length cap) 0 else LZ)= .agg cs∧cs.size=2∧ones cs.toList=true:=by
  split <;>exact⟨_,rfl,rfl,rfl⟩
 obtain⟨cs,hcs,hcs2,hcs1⟩:=hcs
 rw[hcs]
 refine Ops.new (fun yC=>?_)
 refine Ops.jP (n:=2) (vs:=cs) ?_ (hy:=by rfl) (hn:=hcs2) (h1:=hcs1)
 refine agb rfl rfl rfl<|pq<|W.seq<|W.seq<|W.region rfl<|qm rfl rfl rfl ?_
 refine agW (nG rfl rfl rfl) rfl ?_
 refine pq ?_
 refine W.bC rfl (fun c17=>?_) (fun c17=>?_)
 ·have e:ET ps q=([],kU ps [q]):=by rw[ET,if_pos (by simpa using c17)]
  refine W.seq<|W.region rfl<|qm rfl rfl rfl ?_
  refine Ops.yG ?_
  refine Ops.yG ?_
  refine pq<|W.ret<|aY ?_
  refine QJ (hv:=rSc (rSc zJ)) ?_
  rw[e]
  exact⟨_,[],rfl,⟨.nil,fun _ _=>.nil⟩,.nil (by repeat(first | exact Shut.nil | refine Shut.cons rfl ?_))⟩
 ·have h0:kU ps [q]=0:=by simpa using c17
  obtain⟨hok,hq0,hq12⟩:=Sj h0
  rw[if_pos h0]at hcs
  cases hcs
  obtain⟨q,rfl⟩:∃n:Nat,q=n:=⟨q.toNat,by omega⟩
  have e:ET ps q=match(Ah (dO ps 0) q).find? (isRing q)with | some w=>(w.1,0) | none=>([],11):=by rw[ET,if_neg (by simpa using h0),Int.toNat_natCast]
  refine W.skip<|aA<|W.seq<|W.seq<|W.region rfl ?_
  refine ag2 rfl ?_
  refine agX rfl ?_
  refine c0 (fun h' hE hL=>Yt _ h' _ 0 q rfl) (fun v A' hv=>?_)
  obtain⟨b1,b2,rfl,rfl⟩:=hv
  refine pq<|W.block ?_
  refine W.abW (Val:=adG) (xs:=Ah (dO ps 0) q) rfl rfl rfl
   (fun k A=>(∀y∈(Ah (dO ps 0) q).take k,isRing q y=false)∧A=[(yC,.cells #[.slice a ps.length cap,U8 0] bG (0,0)),(Yf,.cells #[I q] dL (0,0)),(mZ,.cells #[I 0] Uf (0,0)),(wC,.cells #[.slice none 0 0] nS (0,0)),(uU,.cells #[I q] dL (0,0))])
   (fun k v e A=>e= .ret∧∃w vw,(Ah (dO ps 0) q)[k]? =some w∧(∀y∈(Ah (dO ps 0) q).take k,isRing q y=false)∧isRing q w=true∧v= .agg #[vw,I w.2]∧A=[(mZ,.cells #[I 0] Uf (0,0)),(wC,.cells #[vw] nS (0,0))])
   (.tail (.tail .all)) ⟨by simp,rfl⟩ (fun h' hE hL=>Qm _ h' ps _ 0 q b1 b2 _ _ _ _ (hf.ext hE) hok (by decide) (by omega) (hL b1 _ (.head _)) (hL b2 _ (.tail _ (.head _)))) ?_ ?_
  ·rintro k p v S A1 hp ⟨vw,rfl,hv1,hvR⟩ ⟨hno,rfl⟩ l h1 hE1 hL1 hS1
   obtain⟨av,cv,rfl⟩:=(hvR.2 _ hS1).dA
   have hlen:(zs p.1).length=p.1.length:=kT _
   refine W.region rfl ?_
   refine Ops.new (fun yD=>?_)
   refine Ops.jP (vs:= #[.slice av (zs p.1).length cv,I p.2]) ?_
   refine Ops.nil ?_
   refine⟨rfl,rfl,fun h0 hE0 hL0=>?_⟩
   intro hS0
   refine W.block<|W.seq<|W.region rfl ?_
   refine agY rfl ?_
   refine agX rfl ?_
   refine agW (dM rfl rfl) rfl ?_
   refine agW (rC rfl rfl rfl) rfl ?_
   refine qm rfl rfl rfl ?_
   refine Ops.ask (fun abY=>?_) (fun abY=>?_)
   ·refine oq (ay rfl rfl) rfl (ak rfl rfl rfl) rfl rfl ?_
    refine oq (iQ rfl rfl) rfl (ak rfl rfl rfl) rfl rfl ?_
    refine oq (iQ rfl rfl) rfl (ak rfl rfl rfl) rfl rfl ?_
    refine oq (nD rfl rfl rfl) rfl (ak rfl rfl rfl) rfl rfl ?_
    refine agW (dG rfl rfl rfl) rfl ?_
    refine pq ?_
    refine W.bC rfl (fun c32=>?_) (fun c32=>?_)
    ·refine W.seq<|W.region rfl ?_
     refine agY rfl ?_
     refine agX rfl ?_
     refine Ops.yG ?_
     refine Ops.yG ?_
     refine pq<|W.ret<|cZ ?_
     have hr:isRing q p=true:=by simp only[isRing,Bool.and_eq_true,decide_eq_true_eq];omega
     exact⟨rfl,.inr ⟨rfl,_,⟨rfl,p,_,hp,hno,hr,rfl,rfl⟩,.skip rfl (.skip rfl (.skip rfl (.cons (.cons (.nil (.cons rfl .nil))))))⟩⟩
    ·refine W.skip<|dI ?_
     have hr:isRing q p=false:=by simp only[isRing,Bool.and_eq_false_iff,decide_eq_false_iff_not];omega
     exact⟨rfl,.inl ⟨rfl,_,⟨Qn hp hno hr,rfl⟩,.skip rfl .refl⟩⟩
   ·refine Ops.no ?_
    refine Ops.no ?_
    refine Ops.no ?_
    refine Ops.no ?_
    refine agW (iH rfl rfl rfl) rfl ?_
    refine pq ?_
    refine W.bZ ?_
    refine W.skip<|dI ?_
    have hr:isRing q p=false:=by simp only[isRing,Bool.and_eq_false_iff,decide_eq_false_iff_not];omega
    exact⟨rfl,.inl ⟨rfl,_,⟨Qn hp hno hr,rfl⟩,.skip rfl .refl⟩⟩
  ·rintro e2 A2 (⟨rfl,hno,rfl⟩ | ⟨k,p,v,S,B,hp,⟨vw,rfl,hv1,hvR⟩,⟨rfl,w,vw',hw,hno,hr,hv,rfl⟩,rfl⟩) d
   ·refine dI<|aA<|W.seq<|W.region rfl ?_
    refine Ops.yG ?_
    refine Ops.yG ?_
    refine pq<|W.ret ?_
    have e3:ET ps q=([],11):=by rw[e,Vz hno]
    refine lvm (hl:=At.head) (QJ (hv:=rSc (rSc zJ)) ?_)
    rw[e3]
    exact⟨_,[],rfl,⟨.nil,fun _ _=>.nil⟩,.nil (by repeat(first | exact Shut.nil | refine Shut.cons rfl ?_))⟩
   ·obtain rfl:=Option.some.inj (hp.symm.trans hw)
    obtain rfl:vw=vw':=by simpa using hv
    have e3:ET ps q=(p.1,0):=by rw[e,Ut hp hno hr]
    refine cZ<|aY ?_
    refine lvm (hl:=At.head) (QJ (hv:=rSc (rSc zJ)) ?_)
    rw[e3]
    exact⟨_,S,rfl,hvR,.skip rfl (.skip rfl (.skip rfl (.skip rfl (.skip rfl .refl))))⟩
end Go.aS

/- How long, and how many, ways are: the sums on the way. Conditions: none. -/
namespace Go.aS
set_option linter.unusedVariables false
abbrev KW(p:Nat×Nat):Value:=.agg #[I p.1,I p.2]
def yE(F:Nat→Nat×Nat)(a:Nat×Nat)(po:Nat×Nat):Nat×Nat:=(max a.1 ((F po.2).1+1),a.2+(F po.2).2)
theorem Qo{F:Nat→Nat×Nat}:∀(l:List (Nat×Nat)) (a:Nat×Nat),a.1≤(l.foldl (yE F) a).1∧a.2≤(l.foldl (yE F) a).2
 | [],a=>⟨Nat.le_refl _,Nat.le_refl _⟩
 | b::l,a=>by
  obtain⟨h1,h2⟩:=Qo (F:=F) l (yE F a b)
  rw[List.foldl_cons]
  simp only[yE]at h1 h2⊢
  exact⟨by omega,by omega⟩
def oh(g:yV)(T:Nat→Bool)(q j:Nat):Nat×Nat:=((g q).take j).foldl (yE (og g T)) (0,if T q then 1 else 0)
theorem Yu{g:yV}{T:Nat→Bool}{q:Nat}:oh g T q 0=(0,if T q then 1 else 0):=rfl
theorem A8{g:yV}{T:Nat→Bool}{q j p o:Nat}(h:(g q)[j]? =some (p,o)):oh g T q (j+1)=yE (og g T) (oh g T q j) (p,o):=by
 rw[oh,List.take_add_one,h,List.foldl_append];rfl
theorem JZ{g:yV}{T:Nat→Bool}{q n:Nat}(h:dD g (n+1) q=false)(hn:n≤12):oh g T q (g q).length=og g T q:=by
 rw[oh,List.take_length,XV h hn];rfl
theorem xM{g:yV}{T:Nat→Bool}{q n j:Nat}(h4:∀k,(g k).length≤4)(h:dD g (n+1) q=false)(hn:n≤12):(oh g T q j).1≤13∧(oh g T q j).2≤1220703125:=by
 have h1:=Qo (F:=og g T) ((g q).drop j) (oh g T q j)
 rw[oh,←List.foldl_append,List.take_append_drop]at h1
 have h2:=JZ (T:=T) h hn
 rw[oh,List.take_length]at h2
 rw[h2]at h1
 have h3:=xH (T:=T) h4 (f:=13) (q:=q)
 rw[oh]
 exact⟨Nat.le_trans h1.1 h3.1,Nat.le_trans h1.2 h3.2⟩
def KX(g:yV)(T:Nat→Bool)(f:Int→Option Value):Prop:=∀x v,f x=some v→∃k:Nat,x=k∧v=KW (og g T k)
theorem KX.nil{g:yV}{T:Nat→Bool}:KX g T fun _=>none:=fun x v h=>by cases h
theorem KX.put{g:yV}{T:Nat→Bool}{f:Int→Option Value}{q:Nat}(h:KX g T f):KX g T fun x=>if x=(q:Int)then some (KW (og g T q))else f x:=fun x v hv=>by
 by_cases e:x=(q:Int)
 ·simp only[if_pos e,Option.some.injEq]at hv
  exact⟨q,e,hv.symm⟩
 ·simp only[if_neg e]at hv
  exact h x v hv
end Go.aS

/- How long, and how many, ways are. Conditions: none; over the given program. -/
namespace Go.aS
set_option maxRecDepth 100000
set_option maxHeartbeats 4000000
abbrev af8:TypeId:=170
abbrev fromV(b1 b2 b3:Nat):Value:=.func (.func iF) #[] #[.pointer (some ⟨b1,0,none⟩),.pointer (some ⟨b2,0,none⟩),.pointer (some ⟨b3,0,none⟩)]
def KnM(g:yV)(T:Nat→Bool)(Fe:Nat)(A:ah):Prop:=∃es ck f,A=[(Fe,.map es ck)]∧ER es f∧KX g T f
theorem Qp(main:Side)(ps:List Pn)(a:Option Addr)(cap:Nat)(c b1 b2 b3 Fe:Nat)(E1 E2 E3:TypeId)(z1 z2 z3:Nat×Nat)(hok:iP ps)(hc:c<16):∀(n q:Nat) (h:Hp),Sl h Pn.row (.slice a ps.length cap) ps→h b1=some (.cells #[.map (some Fe)] E1 z1)→h b2=some (.cells #[.slice a ps.length cap,U8 c] E2 z2)→h b3=some (.cells #[fromV b1 b2 b3] E3 z3)→
  q<13→n≤13→dD (dO ps c) n q=false→∀A,KnM (dO ps c) (fun k=>dY ps k) Fe A→gZ prog main (fromV b1 b2 b3) [I q] h A (fun v A'=>v=KW (og (dO ps c) (fun k=>dY ps k) q)∧∃B,KnM (dO ps c) (fun k=>dY ps k) Fe B∧Sb B A'):=by
 intro n
 induction n with
 | zero=>intro q h hf h1 h2 h3 hq hm hw;cases hw
 | succ m ih=>
  intro q h hf hb1 hb2 hb3 hq hm hw A hA
  obtain⟨es,ck,f,rfl,hM,hK⟩:=hA
  have h4:=hok.len
  refine gZ.zh (f:=iF) (fi:=[]) (ca:=[.pointer (some ⟨b1,0,none⟩),.pointer (some ⟨b2,0,none⟩),.pointer (some ⟨b3,0,none⟩)]) ?_
  refine dV.aG sD rfl (by show 4≤56;decide) [(0,I q),(1,.pointer (some ⟨b1,0,none⟩)),(2,.pointer (some ⟨b2,0,none⟩)),(3,.pointer (some ⟨b3,0,none⟩))] ⟨rfl,rfl,rfl,rfl,trivial⟩ ?_
  refine W.seq<|W.region rfl ?_
  refine Ops.new (fun mZ=>?_)
  refine pq<|W.seq<|W.seq<|W.region rfl ?_
  refine agX rfl ?_
  refine qm rfl rfl rfl ?_
  refine oe rfl wn rfl rfl (Yh rfl rfl rfl (.tail .head) hM ?_)
  obtain⟨cs,hcs,hcs2,hcs1,hcs3⟩:∃cs:Array Value,(f (q:Int)).getD (.agg #[I 0,I 0])= .agg cs∧cs.size=2∧ones cs.toList=true∧((f (q:Int)).isSome=true→Value.agg cs=KW (og (dO ps c) (fun k=>dY ps k) q)):=by
   cases hfq:f (q:Int)with
   | none=>exact⟨_,rfl,rfl,rfl,fun h=>by cases h⟩
   | some v=>
    obtain⟨k,hk,rfl⟩:=hK _ _ hfq
    obtain rfl:k=q:=by omega
    exact⟨_,rfl,rfl,rfl,fun _=>rfl⟩
  rw[hcs]
  refine qm rfl rfl rfl<|oq (bD rfl rfl rfl) rfl wn rfl rfl<|oq (bD rfl rfl rfl) rfl wn rfl rfl ?_
  refine Ops.new (fun yC=>?_)
  refine Ops.jP (n:=2) (vs:=cs) ?_ (hn:=hcs2) (h1:=hcs1)
  refine agb rfl rfl rfl<|pq<|W.seq<|W.region rfl<|qm rfl rfl rfl<|pq ?_
  refine W.cond rfl (fun c18=>?_) (fun c18=>?_)
  ·refine W.seq<|W.region rfl ?_
   refine ag2 rfl ?_
   first | refine Ops.jP ?_ | refine Ops.nY ?_
   refine pq<|W.ret<|aY ?_
   refine QJ (vs:=[.agg cs]) (hv:=D_ zJ (hn:=hcs2)) ⟨hcs3 c18,_,⟨es,ck,f,rfl,hM,hK⟩,.skip rfl (.skip rfl .refl)⟩
  ·refine W.skip<|aA<|W.seq<|W.region rfl ?_
   refine Ops.new (fun yD=>?_)
   refine pq<|W.seq<|W.seq<|W.region rfl ?_
   refine ag2 rfl ?_
   refine qm rfl rfl rfl ?_
   refine cp (fun h' hE hL=>Si _ h' ps _ c _ (hf.ext hE) h4) ?_
   refine pq ?_
   refine W.cond rfl (fun Qc=>?_) (fun Qc=>?_)
   ·refine W.region rfl ?_
    refine agY rfl ?_
    refine Ops.yG ?_
    refine pq<|W.seq<|W.seq<|W.region rfl ?_
    refine ag2 rfl ?_
    refine qm rfl rfl rfl ?_
    refine c0 (fun h' hE hL=>EM _ h' ps _ c q (hf.ext hE) hok.len hc) (fun v A2 hv=>?_)
    obtain⟨S1,hS1,Ym⟩:=hv
    obtain⟨a1,cap1,rfl⟩:=hS1.dA
    rw[kT]at hS1⊢
    have hol:(bQ ps c q).length≤4:=wB
    refine agW (dM rfl rfl) rfl ?_
    refine qm rfl rfl rfl<|pq<|W.block ?_
    have hF0:Sb ((yD,.cells #[I (oh (dO ps c) (fun k=>dY ps k) q 0).1,I (oh (dO ps c) (fun k=>dY ps k) q 0).2] aV (0,0))::(mZ,.cells #[I 0,I 0] aV (0,0))::(Fe,.map es ck)::S1) (A2++[(yD,.cells #[I 0,if dY ps q=true then I 1 else I 0] aV (0,0)),(yC,.cells cs aV (0,0)),(mZ,.cells #[I 0,I 0] aV (0,0)),(Fe,.map es ck)]):=by
     rw[Yu]
     refine .trans (B:=[(yD,.cells #[I 0,if dY ps q=true then I 1 else I 0] aV (0,0)),(yC,.cells cs aV (0,0)),(mZ,.cells #[I 0,I 0] aV (0,0)),(Fe,.map es ck)]++S1) ?_ (.trans (.dF List.perm_append_comm) (.app Ym .refl))
     have e1:(if dY ps q=true then I 1 else I 0:Value)=I ((if dY ps q=true then 1 else 0:Nat):Int):=by split <;>rfl
     rw[e1]
     exact .cons (.skip rfl .refl)
    refine W.Js (σ:=Nat) (τ:=Array MapEntry×Nat) (υ:=Int→Option Value) (fun j s f=>j≤(bQ ps c q).length∧ER s.1 f∧KX (dO ps c) (fun k=>dY ps k) f) (fun j _ _=>[(28,I j),(27,I (bQ ps c q).length),(26,.slice a1 (bQ ps c q).length cap1),(8,.pointer (some ⟨yD,0,none⟩)),(5,.pointer (some ⟨mZ,0,none⟩)),(0,I q),(1,.pointer (some ⟨b1,0,none⟩)),(2,.pointer (some ⟨b2,0,none⟩)),(3,.pointer (some ⟨b3,0,none⟩))])
     (fun j s _=>(yD,.cells #[I (oh (dO ps c) (fun k=>dY ps k) q j).1,I (oh (dO ps c) (fun k=>dY ps k) q j).2] aV (0,0))::(mZ,.cells #[I 0,I 0] aV (0,0))::(Fe,.map s.1 s.2)::S1) (fun j _ _=>(bQ ps c q).length-j) 0 (es,ck) f ⟨Nat.zero_le _,hM,hK⟩ ⟨rfl,rfl,rfl,rfl,rfl,rfl,rfl,rfl,rfl,trivial⟩ (by first | exact hF0 | (simp only[Qc,if_true,if_false,Bool.false_eq_true]at hF0;exact hF0)) ?_
    rintro j ⟨es,ck⟩ f ⟨hj,hM,hK⟩
    simp only at hM
    have hac:=xM (T:=fun k=>dY ps k) (j:=j) (fun k=>EK) hw (by omega)
    refine W.seq<|W.region rfl ?_
    refine agW (fO rfl rfl rfl) rfl ?_
    refine pq<|W.seq ?_
    refine W.bC rfl (fun c29=>?_) (fun c29=>?_)
    ·have hjl:j<(bQ ps c q).length:=by omega
     obtain⟨i,hp,hdr⟩:=has hjl
     have hi:=EL (List.mem_of_getElem? hp)
     have SH:gy ps i q<13:=AZ
     have V8:(dO ps c q)[j]? =some (i,gy ps i q):=by rw[dO,List.getElem?_map,hp];rfl
     have hwo:dD (dO ps c) m (gy ps i q)=false:=wz hw (List.mem_of_getElem? V8)
     have Yw:=xM (T:=fun k=>dY ps k) (j:=j+1) (fun k=>EK) hw (by omega)
     rw[A8 V8]at Yw
     simp only[yE]at Yw
     rcases id hS1 with⟨he,-⟩ | ⟨βo,cc,cap',Jo,he,rfl,afk,hle2,hpt,hJo⟩
     ·rw[zs,List.map_eq_nil_iff]at he
      rw[he]at hjl;cases hjl
     rw[kT]at he
     cases he
     have hcv:cc[0+j*1]? =some (I i):=Part.Bo hpt (i:=j) (p:=(i:Int)) (by rw[zs,List.getElem?_map,hp];rfl) 0 (by decide)
     have hrec:∀h',Ext h h'→∀A,KnM (dO ps c) (fun k=>dY ps k) Fe A→gZ prog main (fromV b1 b2 b3) [I (gy ps i q)] h' A (fun v A'=>v=KW (og (dO ps c) (fun k=>dY ps k) (gy ps i q))∧∃B,KnM (dO ps c) (fun k=>dY ps k) Fe B∧Sb B A'):=fun h' hE A hA=>
      ih (gy ps i q) h' (hf.ext hE) (hE.1 _ _ hb1) (hE.1 _ _ hb2) (hE.1 _ _ hb3) SH (by omega) hwo A hA
     refine W.skip<|aA<|W.seq<|W.block<|W.seq<|W.region rfl ?_
     refine ag3 rfl ?_
     refine agX rfl ?_
     refine agb rfl rfl rfl<|pq<|W.seq ?_
     refine W.mono (Q:=(fun e ρ' ds' F'=>e= .normal∧ds'=[]∧∃KY es2 ck2 f2,ER es2 f2∧KX (dO ps c) (fun k=>dY ps k) f2∧Sub [(11,.pointer (some ⟨KY,0,none⟩)),(28,I j),(27,I (bQ ps c q).length),(26,.slice (some ⟨βo,0,none⟩) (bQ ps c q).length cap1),(8,.pointer (some ⟨yD,0,none⟩)),(5,.pointer (some ⟨mZ,0,none⟩)),(0,I q),(1,.pointer (some ⟨b1,0,none⟩)),(2,.pointer (some ⟨b2,0,none⟩)),(3,.pointer (some ⟨b3,0,none⟩))] ρ'∧
       Sb ((KY,.cells #[I (og (dO ps c) (fun k=>dY ps k) (gy ps i q)).1,I (og (dO ps c) (fun k=>dY ps k) (gy ps i q)).2] aV (0,0))::(yD,.cells #[I (oh (dO ps c) (fun k=>dY ps k) q j).1,I (oh (dO ps c) (fun k=>dY ps k) q j).2] aV (0,0))::(mZ,.cells #[I 0,I 0] aV (0,0))::(Fe,.map es2 ck2)::(βo,.cells cc dL (0,0))::Jo) F')) ?_ ?_
     ·refine W.DR [] (n:=9) rfl ?_
      refine xq 0 (iQ rfl rfl) rfl ?_
      refine xq 1 (ay rfl rfl) rfl ?_
      refine xq 2 (ady rfl rfl) rfl ?_
      refine xq 3 (aN rfl rfl) rfl ?_
      refine xq 4 (aN rfl rfl) rfl ?_
      refine Any.WB (i:=5) (j:=7) (by kernel_rfl) (aU rfl) (aU rfl) an an rfl rfl rfl rfl ?_ ?_
      ·refine lQ (args:=[_,_,_]) rfl rfl (fun h' hE hL=>Dl _ h' ps _ i q (hf.ext hE) hok hi hq) (fun v A' hv=>?_)
       obtain⟨rfl,hsh⟩:=hv
       refine⟨.inr Keeps.nil,Any.sb (Sb.left .refl hsh) ?_⟩
       refine Any.WB (i:=6) (j:=7) (by kernel_rfl) (aU rfl) (aU rfl) an an rfl rfl rfl rfl ?_ ?_
       ·refine tJ (args:=[_]) (A:=[(Fe,.map es ck)]) rfl rfl rfl (.tail (.tail .head)) (fun h' hE hL=>hrec h' hE _ ⟨es,ck,f,rfl,hM,hK⟩) (fun v A' hv=>?_)
        obtain⟨rfl,B,⟨es2,ck2,f2,rfl,hM2,hK2⟩,hsb⟩:=hv
        refine⟨.inr Keeps.nil,Any.sb (.cons (.cons (hsb.app .refl))) ?_⟩
        refine ae (i:=7) rfl an rfl rfl (wJ rfl fun β _ _=>⟨.inr Keeps.nil,?_⟩)
        first | refine ae (i:=8) rfl an rfl rfl (eSW rfl rfl rfl ?_) | refine ae (i:=8) rfl an rfl rfl (eSA rfl rfl rfl ?_)
        refine⟨.inr Keeps.nil,az ?_⟩
        exact⟨rfl,rfl,β,es2,ck2,f2,hM2,hK2,⟨rfl,rfl,rfl,rfl,rfl,rfl,rfl,rfl,rfl,rfl,trivial⟩,.refl⟩
       ·refine wJ rfl fun β _ _=>⟨.inr Keeps.nil,?_⟩
        refine ae (i:=6) rfl an rfl rfl (tJ (args:=[_]) (A:=[(Fe,.map es ck)]) rfl rfl rfl (.tail (.tail (.tail .head))) (fun h' hE hL=>hrec h' hE _ ⟨es,ck,f,rfl,hM,hK⟩) (fun v A' hv=>?_))
        obtain⟨rfl,B,⟨es2,ck2,f2,rfl,hM2,hK2⟩,hsb⟩:=hv
        refine⟨.inr Keeps.nil,Any.sb (.cons (.cons (.cons (hsb.app .refl)))) ?_⟩
        first | refine ae (i:=8) rfl an rfl rfl (eSW rfl rfl rfl ?_) | refine ae (i:=8) rfl an rfl rfl (eSA rfl rfl rfl ?_)
        refine⟨.inr Keeps.nil,az ?_⟩
        exact⟨rfl,rfl,β,es2,ck2,f2,hM2,hK2,⟨rfl,rfl,rfl,rfl,rfl,rfl,rfl,rfl,rfl,rfl,trivial⟩,.refl⟩
      ·refine wJ rfl fun β _ _=>⟨.inr Keeps.nil,?_⟩
       refine Va (i:=5) (fun h' hE hL=>Dl _ h' ps _ i q (hf.ext hE) hok hi hq) ?_ (hS:=.inr Keeps.nil)
       refine ae (i:=6) rfl an rfl rfl (tJ (args:=[_]) (A:=[(Fe,.map es ck)]) rfl rfl rfl (.tail (.tail (.tail .head))) (fun h' hE hL=>hrec h' hE _ ⟨es,ck,f,rfl,hM,hK⟩) (fun v A' hv=>?_))
       obtain⟨rfl,B,⟨es2,ck2,f2,rfl,hM2,hK2⟩,hsb⟩:=hv
       refine⟨.inr Keeps.nil,Any.sb (.cons (.cons (.cons (hsb.app .refl)))) ?_⟩
       first | refine ae (i:=8) rfl an rfl rfl (eSW rfl rfl rfl ?_) | refine ae (i:=8) rfl an rfl rfl (eSA rfl rfl rfl ?_)
       refine⟨.inr Keeps.nil,az ?_⟩
       exact⟨rfl,rfl,β,es2,ck2,f2,hM2,hK2,⟨rfl,rfl,rfl,rfl,rfl,rfl,rfl,rfl,rfl,rfl,trivial⟩,.refl⟩
     rintro e ρ' ds' F' ⟨rfl,rfl,KY,es2,ck2,f2,hM2,hK2,ab1,Yx⟩
     refine aA (W.env ab1 (W.sb Yx ?_))
     refine W.region rfl ?_
     refine agY rfl ?_
     refine agX rfl ?_
     refine agY rfl ?_
     refine agX rfl ?_
     refine ag1 rfl ?_
     refine agW (y8 rfl rfl rfl) rfl ?_
     refine agY rfl ?_
     refine agX rfl ?_
     refine agY rfl ?_
     refine agX rfl ?_
     refine ag1 rfl ?_
     refine KU (eH rfl rfl rfl) (u:=KW (yE (og (dO ps c) (fun k=>dY ps k)) (oh (dO ps c) (fun k=>dY ps k) q j) (i,gy ps i q))) (by
      show Value.agg #[I _,I _]=Value.agg #[I _,I _]
      simp only[yE]
      congr 4 <;>omega) rfl wn rfl rfl ?_
     first | refine Ops.jP ?_ | refine Ops.nY ?_
     refine Ops.nil<|dI<|aA<|W.region rfl ?_
     refine ag1 rfl ?_
     refine qm rfl rfl rfl<|pq ?_
     refine⟨rfl,j+1,(es2,ck2),f2,⟨hjl,hM2,hK2⟩,by omega,⟨rfl,rfl,rfl,rfl,rfl,rfl,rfl,rfl,rfl,trivial⟩,?_⟩
     rw[A8 V8]
     exact .skip rfl .refl
    ·obtain rfl:j=(bQ ps c q).length:=by omega
     have hall:oh (dO ps c) (fun k=>dY ps k) q (bQ ps c q).length=og (dO ps c) (fun k=>dY ps k) q:=by
      have:=JZ (T:=fun k=>dY ps k) hw (by omega)
      rwa[show(dO ps c q).length=(bQ ps c q).length by simp[dO]]at this
     rw[hall]
     refine W.exit<|bP<|bP<|gG<|aA<|W.seq<|W.region rfl ?_
     refine agX rfl ?_
     refine qm rfl rfl rfl ?_
     refine ag2 rfl ?_
     refine oe rfl wn rfl rfl (SE rfl rfl rfl rfl (.tail (.tail .head)) hM (fun es3 ck3 hM3=>?_))
     refine pq<|W.seq<|W.region rfl ?_
     refine ag2 rfl ?_
     first | refine Ops.jP ?_ | refine Ops.nY ?_
     refine pq<|W.ret ?_
     refine QJ (hv:=D_ zJ) ⟨rfl,_,⟨es3,ck3,_,rfl,hM3,hK.put⟩,.skip rfl (.skip rfl (.cons (.nil hS1.shut)))⟩
   ·refine W.skip<|aA<|W.seq<|W.seq<|W.region rfl ?_
    refine ag2 rfl ?_
    refine qm rfl rfl rfl ?_
    refine c0 (fun h' hE hL=>EM _ h' ps _ c q (hf.ext hE) hok.len hc) (fun v A2 hv=>?_)
    obtain⟨S1,hS1,Ym⟩:=hv
    obtain⟨a1,cap1,rfl⟩:=hS1.dA
    rw[kT]at hS1⊢
    have hol:(bQ ps c q).length≤4:=wB
    refine agW (dM rfl rfl) rfl ?_
    refine qm rfl rfl rfl<|pq<|W.block ?_
    have hF0:Sb ((yD,.cells #[I (oh (dO ps c) (fun k=>dY ps k) q 0).1,I (oh (dO ps c) (fun k=>dY ps k) q 0).2] aV (0,0))::(mZ,.cells #[I 0,I 0] aV (0,0))::(Fe,.map es ck)::S1) (A2++[(yD,.cells #[I 0,if dY ps q=true then I 1 else I 0] aV (0,0)),(yC,.cells cs aV (0,0)),(mZ,.cells #[I 0,I 0] aV (0,0)),(Fe,.map es ck)]):=by
     rw[Yu]
     refine .trans (B:=[(yD,.cells #[I 0,if dY ps q=true then I 1 else I 0] aV (0,0)),(yC,.cells cs aV (0,0)),(mZ,.cells #[I 0,I 0] aV (0,0)),(Fe,.map es ck)]++S1) ?_ (.trans (.dF List.perm_append_comm) (.app Ym .refl))
     have e1:(if dY ps q=true then I 1 else I 0:Value)=I ((if dY ps q=true then 1 else 0:Nat):Int):=by split <;>rfl
     rw[e1]
     exact .cons (.skip rfl .refl)
    refine W.Js (σ:=Nat) (τ:=Array MapEntry×Nat) (υ:=Int→Option Value) (fun j s f=>j≤(bQ ps c q).length∧ER s.1 f∧KX (dO ps c) (fun k=>dY ps k) f) (fun j _ _=>[(28,I j),(27,I (bQ ps c q).length),(26,.slice a1 (bQ ps c q).length cap1),(8,.pointer (some ⟨yD,0,none⟩)),(5,.pointer (some ⟨mZ,0,none⟩)),(0,I q),(1,.pointer (some ⟨b1,0,none⟩)),(2,.pointer (some ⟨b2,0,none⟩)),(3,.pointer (some ⟨b3,0,none⟩))])
     (fun j s _=>(yD,.cells #[I (oh (dO ps c) (fun k=>dY ps k) q j).1,I (oh (dO ps c) (fun k=>dY ps k) q j).2] aV (0,0))::(mZ,.cells #[I 0,I 0] aV (0,0))::(Fe,.map s.1 s.2)::S1) (fun j _ _=>(bQ ps c q).length-j) 0 (es,ck) f ⟨Nat.zero_le _,hM,hK⟩ ⟨rfl,rfl,rfl,rfl,rfl,rfl,rfl,rfl,rfl,trivial⟩ (by first | exact hF0 | (simp only[Qc,if_true,if_false,Bool.false_eq_true]at hF0;exact hF0)) ?_
    rintro j ⟨es,ck⟩ f ⟨hj,hM,hK⟩
    simp only at hM
    have hac:=xM (T:=fun k=>dY ps k) (j:=j) (fun k=>EK) hw (by omega)
    refine W.seq<|W.region rfl ?_
    refine agW (fO rfl rfl rfl) rfl ?_
    refine pq<|W.seq ?_
    refine W.bC rfl (fun c29=>?_) (fun c29=>?_)
    ·have hjl:j<(bQ ps c q).length:=by omega
     obtain⟨i,hp,hdr⟩:=has hjl
     have hi:=EL (List.mem_of_getElem? hp)
     have SH:gy ps i q<13:=AZ
     have V8:(dO ps c q)[j]? =some (i,gy ps i q):=by rw[dO,List.getElem?_map,hp];rfl
     have hwo:dD (dO ps c) m (gy ps i q)=false:=wz hw (List.mem_of_getElem? V8)
     have Yw:=xM (T:=fun k=>dY ps k) (j:=j+1) (fun k=>EK) hw (by omega)
     rw[A8 V8]at Yw
     simp only[yE]at Yw
     rcases id hS1 with⟨he,-⟩ | ⟨βo,cc,cap',Jo,he,rfl,afk,hle2,hpt,hJo⟩
     ·rw[zs,List.map_eq_nil_iff]at he
      rw[he]at hjl;cases hjl
     rw[kT]at he
     cases he
     have hcv:cc[0+j*1]? =some (I i):=Part.Bo hpt (i:=j) (p:=(i:Int)) (by rw[zs,List.getElem?_map,hp];rfl) 0 (by decide)
     have hrec:∀h',Ext h h'→∀A,KnM (dO ps c) (fun k=>dY ps k) Fe A→gZ prog main (fromV b1 b2 b3) [I (gy ps i q)] h' A (fun v A'=>v=KW (og (dO ps c) (fun k=>dY ps k) (gy ps i q))∧∃B,KnM (dO ps c) (fun k=>dY ps k) Fe B∧Sb B A'):=fun h' hE A hA=>
      ih (gy ps i q) h' (hf.ext hE) (hE.1 _ _ hb1) (hE.1 _ _ hb2) (hE.1 _ _ hb3) SH (by omega) hwo A hA
     refine W.skip<|aA<|W.seq<|W.block<|W.seq<|W.region rfl ?_
     refine ag3 rfl ?_
     refine agX rfl ?_
     refine agb rfl rfl rfl<|pq<|W.seq ?_
     refine W.mono (Q:=(fun e ρ' ds' F'=>e= .normal∧ds'=[]∧∃KY es2 ck2 f2,ER es2 f2∧KX (dO ps c) (fun k=>dY ps k) f2∧Sub [(11,.pointer (some ⟨KY,0,none⟩)),(28,I j),(27,I (bQ ps c q).length),(26,.slice (some ⟨βo,0,none⟩) (bQ ps c q).length cap1),(8,.pointer (some ⟨yD,0,none⟩)),(5,.pointer (some ⟨mZ,0,none⟩)),(0,I q),(1,.pointer (some ⟨b1,0,none⟩)),(2,.pointer (some ⟨b2,0,none⟩)),(3,.pointer (some ⟨b3,0,none⟩))] ρ'∧
       Sb ((KY,.cells #[I (og (dO ps c) (fun k=>dY ps k) (gy ps i q)).1,I (og (dO ps c) (fun k=>dY ps k) (gy ps i q)).2] aV (0,0))::(yD,.cells #[I (oh (dO ps c) (fun k=>dY ps k) q j).1,I (oh (dO ps c) (fun k=>dY ps k) q j).2] aV (0,0))::(mZ,.cells #[I 0,I 0] aV (0,0))::(Fe,.map es2 ck2)::(βo,.cells cc dL (0,0))::Jo) F')) ?_ ?_
     ·refine W.DR [] (n:=9) rfl ?_
      refine xq 0 (iQ rfl rfl) rfl ?_
      refine xq 1 (ay rfl rfl) rfl ?_
      refine xq 2 (ady rfl rfl) rfl ?_
      refine xq 3 (aN rfl rfl) rfl ?_
      refine xq 4 (aN rfl rfl) rfl ?_
      refine Any.WB (i:=5) (j:=7) (by kernel_rfl) (aU rfl) (aU rfl) an an rfl rfl rfl rfl ?_ ?_
      ·refine lQ (args:=[_,_,_]) rfl rfl (fun h' hE hL=>Dl _ h' ps _ i q (hf.ext hE) hok hi hq) (fun v A' hv=>?_)
       obtain⟨rfl,hsh⟩:=hv
       refine⟨.inr Keeps.nil,Any.sb (Sb.left .refl hsh) ?_⟩
       refine Any.WB (i:=6) (j:=7) (by kernel_rfl) (aU rfl) (aU rfl) an an rfl rfl rfl rfl ?_ ?_
       ·refine tJ (args:=[_]) (A:=[(Fe,.map es ck)]) rfl rfl rfl (.tail (.tail .head)) (fun h' hE hL=>hrec h' hE _ ⟨es,ck,f,rfl,hM,hK⟩) (fun v A' hv=>?_)
        obtain⟨rfl,B,⟨es2,ck2,f2,rfl,hM2,hK2⟩,hsb⟩:=hv
        refine⟨.inr Keeps.nil,Any.sb (.cons (.cons (hsb.app .refl))) ?_⟩
        refine ae (i:=7) rfl an rfl rfl (wJ rfl fun β _ _=>⟨.inr Keeps.nil,?_⟩)
        first | refine ae (i:=8) rfl an rfl rfl (eSW rfl rfl rfl ?_) | refine ae (i:=8) rfl an rfl rfl (eSA rfl rfl rfl ?_)
        refine⟨.inr Keeps.nil,az ?_⟩
        exact⟨rfl,rfl,β,es2,ck2,f2,hM2,hK2,⟨rfl,rfl,rfl,rfl,rfl,rfl,rfl,rfl,rfl,rfl,trivial⟩,.refl⟩
       ·refine wJ rfl fun β _ _=>⟨.inr Keeps.nil,?_⟩
        refine ae (i:=6) rfl an rfl rfl (tJ (args:=[_]) (A:=[(Fe,.map es ck)]) rfl rfl rfl (.tail (.tail (.tail .head))) (fun h' hE hL=>hrec h' hE _ ⟨es,ck,f,rfl,hM,hK⟩) (fun v A' hv=>?_))
        obtain⟨rfl,B,⟨es2,ck2,f2,rfl,hM2,hK2⟩,hsb⟩:=hv
        refine⟨.inr Keeps.nil,Any.sb (.cons (.cons (.cons (hsb.app .refl)))) ?_⟩
        first | refine ae (i:=8) rfl an rfl rfl (eSW rfl rfl rfl ?_) | refine ae (i:=8) rfl an rfl rfl (eSA rfl rfl rfl ?_)
        refine⟨.inr Keeps.nil,az ?_⟩
        exact⟨rfl,rfl,β,es2,ck2,f2,hM2,hK2,⟨rfl,rfl,rfl,rfl,rfl,rfl,rfl,rfl,rfl,rfl,trivial⟩,.refl⟩
      ·refine wJ rfl fun β _ _=>⟨.inr Keeps.nil,?_⟩
       refine Va (i:=5) (fun h' hE hL=>Dl _ h' ps _ i q (hf.ext hE) hok hi hq) ?_ (hS:=.inr Keeps.nil)
       refine ae (i:=6) rfl an rfl rfl (tJ (args:=[_]) (A:=[(Fe,.map es ck)]) rfl rfl rfl (.tail (.tail (.tail .head))) (fun h' hE hL=>hrec h' hE _ ⟨es,ck,f,rfl,hM,hK⟩) (fun v A' hv=>?_))
       obtain⟨rfl,B,⟨es2,ck2,f2,rfl,hM2,hK2⟩,hsb⟩:=hv
       refine⟨.inr Keeps.nil,Any.sb (.cons (.cons (.cons (hsb.app .refl)))) ?_⟩
       first | refine ae (i:=8) rfl an rfl rfl (eSW rfl rfl rfl ?_) | refine ae (i:=8) rfl an rfl rfl (eSA rfl rfl rfl ?_)
       refine⟨.inr Keeps.nil,az ?_⟩
       exact⟨rfl,rfl,β,es2,ck2,f2,hM2,hK2,⟨rfl,rfl,rfl,rfl,rfl,rfl,rfl,rfl,rfl,rfl,trivial⟩,.refl⟩
     rintro e ρ' ds' F' ⟨rfl,rfl,KY,es2,ck2,f2,hM2,hK2,ab1,Yx⟩
     refine aA (W.env ab1 (W.sb Yx ?_))
     refine W.region rfl ?_
     refine agY rfl ?_
     refine agX rfl ?_
     refine agY rfl ?_
     refine agX rfl ?_
     refine ag1 rfl ?_
     refine agW (y8 rfl rfl rfl) rfl ?_
     refine agY rfl ?_
     refine agX rfl ?_
     refine agY rfl ?_
     refine agX rfl ?_
     refine ag1 rfl ?_
     refine KU (eH rfl rfl rfl) (u:=KW (yE (og (dO ps c) (fun k=>dY ps k)) (oh (dO ps c) (fun k=>dY ps k) q j) (i,gy ps i q))) (by
      show Value.agg #[I _,I _]=Value.agg #[I _,I _]
      simp only[yE]
      congr 4 <;>omega) rfl wn rfl rfl ?_
     first | refine Ops.jP ?_ | refine Ops.nY ?_
     refine Ops.nil<|dI<|aA<|W.region rfl ?_
     refine ag1 rfl ?_
     refine qm rfl rfl rfl<|pq ?_
     refine⟨rfl,j+1,(es2,ck2),f2,⟨hjl,hM2,hK2⟩,by omega,⟨rfl,rfl,rfl,rfl,rfl,rfl,rfl,rfl,rfl,trivial⟩,?_⟩
     rw[A8 V8]
     exact .skip rfl .refl
    ·obtain rfl:j=(bQ ps c q).length:=by omega
     have hall:oh (dO ps c) (fun k=>dY ps k) q (bQ ps c q).length=og (dO ps c) (fun k=>dY ps k) q:=by
      have:=JZ (T:=fun k=>dY ps k) hw (by omega)
      rwa[show(dO ps c q).length=(bQ ps c q).length by simp[dO]]at this
     rw[hall]
     refine W.exit<|bP<|bP<|gG<|aA<|W.seq<|W.region rfl ?_
     refine agX rfl ?_
     refine qm rfl rfl rfl ?_
     refine ag2 rfl ?_
     refine oe rfl wn rfl rfl (SE rfl rfl rfl rfl (.tail (.tail .head)) hM (fun es3 ck3 hM3=>?_))
     refine pq<|W.seq<|W.region rfl ?_
     refine ag2 rfl ?_
     first | refine Ops.jP ?_ | refine Ops.nY ?_
     refine pq<|W.ret ?_
     refine QJ (hv:=D_ zJ) ⟨rfl,_,⟨es3,ck3,_,rfl,hM3,hK.put⟩,.skip rfl (.skip rfl (.cons (.nil hS1.shut)))⟩
end Go.aS

/- The longest way, and how many there are, as they are asked for. Conditions: none; over the given program. -/
namespace Go.aS
set_option maxRecDepth 100000
set_option maxHeartbeats 4000000
theorem SI(main:Side)(h:Hp)(ps:List Pn)(vp:Value)(c q:Nat)(hf:Sl h Pn.row vp ps)(hok:iP ps)(hc:c<16)(hq:q<13)(hw:dD (dO ps c) 13 q=false):Pu prog main mF #[xJ vp c,I q] h (KW (og (dO ps c) (fun k=>dY ps k) q)):=by
 obtain⟨a,cap,rfl⟩:=hf.dA
 refine dV.aG uO rfl (by show 2≤15;decide) [(0,xJ (.slice a ps.length cap) c),(1,I q)] ⟨rfl,rfl,trivial⟩ ?_
 refine W.seq<|W.region rfl ?_
 refine Ops.box (cs:= #[.slice a ps.length cap,U8 c]) (fun yR=>?_)
 refine Ops.new (fun wC=>?_)
 refine pq<|W.seq<|W.region rfl ?_
 refine oe rfl wn rfl rfl (Md rfl (fun Fe hn hm=>?_))
 refine Ops.new (fun mZ=>?_)
 refine Ops.yG ?_
 refine pq<|W.seq<|W.region rfl ?_
 refine Ops.new (fun yC=>?_)
 refine pq<|W.seq<|W.region rfl ?_
 refine agW (y7 rfl rfl rfl) rfl ?_
 refine Ops.yG ?_
 refine pq<|W.seq<|W.region rfl ?_
 refine agX rfl ?_
 refine qm rfl rfl rfl ?_
 refine cgv (A:=[(Fe,.map #[] 0)]) (.tail (.tail .head)) (fun h2 hE hL=>Qp main ps a cap c mZ yR yC Fe _ _ _ _ _ _ hok hc 13 q h2 (hf.ext hE) (hL mZ _ (.tail _ (.head _))) (hL yR _ (.tail _ (.tail _ (.tail _ (.head _))))) (hL yC _ (.head _)) hq (Nat.le_refl _) hw _ ⟨#[],0,_,rfl,.nil,.nil⟩) (fun v A' hv=>?_)
 obtain⟨rfl,B,⟨es,ck,f,rfl,hM,hK⟩,hsb⟩:=hv
 refine Ops.sb (.cons (.cons (hsb.app .refl))) ?_
 refine Ops.new (fun Vo=>?_)
 first | refine Ops.jP ?_ | refine Ops.nY ?_
 refine pq<|W.seq<|W.region rfl ?_
 refine agX rfl ?_
 refine oe rfl wn rfl rfl (Yi rfl rfl (.tail (.tail (.tail .head))) ?_)
 refine pq<|W.seq<|W.region rfl ?_
 refine ag2 rfl ?_
 first | refine Ops.jP ?_ | refine Ops.nY ?_
 refine pq<|W.ret ?_
 exact QJ (hv:=D_ zJ) ⟨rfl,by repeat(first | exact Shut.nil | refine Shut.cons rfl ?_)⟩

def qh(ps:List Pn)(q:Int):(Nat×Nat)×Int:=
 if kU ps [q]≠0 then((0,0),kU ps [q])else if dD (dO ps 0) 13 q.toNat=true then((0,0),9)else(og (dO ps 0) (fun k=>dY ps k) q.toNat,0)
theorem Uu(main:Side)(h:Hp)(ps:List Pn)(vp:Value)(q:Int)(hf:Sl h Pn.row vp ps):Pu prog main Eo #[vp,I q] h (.tuple #[KW (qh ps q).1,I (qh ps q).2]):=by
 obtain⟨a,cap,rfl⟩:=hf.dA
 refine dV.aG KN rfl (by show 2≤27;decide) [(0,.slice a ps.length cap),(1,I q)] ⟨rfl,rfl,trivial⟩ ?_
 refine W.seq<|W.region rfl ?_
 refine Ops.new (fun wC=>?_)
 refine agb rfl rfl rfl<|pq<|W.seq<|W.region rfl<|qm rfl rfl rfl<|qm rfl rfl rfl ?_
 refine Ops.NK (cs:= #[I q]) (fun KY=>?_) rfl
 refine cp (fun h' hE hL=>Am _ h' ps _ [q] _ (hf.ext hE) (Sl.mk (hL KY _ (.head _)) rfl (Part.all [I q])) (by simp)) ?_
 refine qm rfl rfl rfl<|oq (bD rfl rfl rfl) rfl wn rfl rfl<|oq (bD rfl rfl rfl) rfl wn rfl rfl ?_
 have hcs:∃cs:Array Value,(if kU ps [q]=0 then xJ (.slice a ps.length cap) 0 else LZ)= .agg cs∧cs.size=2∧ones cs.toList=true:=by
  split <;>exact⟨_,rfl,rfl,rfl⟩
 obtain⟨cs,hcs,hcs2,hcs1⟩:=hcs
 rw[hcs]
 refine Ops.new (fun yC=>?_)
 refine Ops.jP (n:=2) (vs:=cs) ?_ (hy:=by rfl) (hn:=hcs2) (h1:=hcs1)
 refine agb rfl rfl rfl<|pq<|W.seq<|W.seq<|W.region rfl<|qm rfl rfl rfl ?_
 refine agW (nG rfl rfl rfl) rfl ?_
 refine pq ?_
 refine W.bC rfl (fun c16=>?_) (fun c16=>?_)
 ·have e:qh ps q=((0,0),kU ps [q]):=by rw[qh,if_pos (by simpa using c16)]
  refine W.seq<|W.region rfl ?_
  refine agW (eH rfl rfl rfl) rfl ?_
  refine qm rfl rfl rfl ?_
  first | refine Ops.jP ?_ | refine Ops.nY ?_
  refine agb rfl rfl rfl<|pq<|W.ret<|aY ?_
  refine QJ (hv:=D_ (RN zJ)) ?_
  rw[e]
  exact⟨rfl,by repeat(first | exact Shut.nil | refine Shut.cons rfl ?_)⟩
 ·have h0:kU ps [q]=0:=by simpa using c16
  obtain⟨hok,hq0,hq12⟩:=Sj h0
  rw[if_pos h0]at hcs
  cases hcs
  obtain⟨q,rfl⟩:∃n:Nat,q=n:=⟨q.toNat,by omega⟩
  have hb:(bA fun k=>dD (dO ps 0) 13 k)[q]? =some (.bool (dD (dO ps 0) 13 q)):=L9 (by omega)
  refine W.skip<|aA<|W.seq<|W.seq<|W.region rfl ?_
  refine ag2 rfl ?_
  refine cp (fun h' hE hL=>Uo _ h' ps _ 0 (hf.ext hE) hok (by decide)) ?_
  refine qm rfl rfl rfl ?_
  refine agW (Ti (n:=q) (v:=.bool (dD (dO ps 0) 13 q)) rfl rfl rfl (by omega) (by omega) (by rw[Int.toNat_natCast,Nat.mul_one];exact hb)) rfl ?_
  refine pq ?_
  refine W.cond rfl (fun Qc=>?_) (fun Qc=>?_)
  ·have e:qh ps q=((0,0),9):=by rw[qh,if_neg (by simpa using h0),Int.toNat_natCast,if_pos Qc]
   refine W.seq<|W.region rfl ?_
   refine agW (eH rfl rfl rfl) rfl ?_
   first | refine Ops.jP ?_ | refine Ops.nY ?_
   refine agb rfl rfl rfl<|pq<|W.ret<|aY ?_
   refine QJ (hv:=D_ (RN zJ)) ?_
   rw[e]
   exact⟨rfl,by repeat(first | exact Shut.nil | refine Shut.cons rfl ?_)⟩
  ·have e:qh ps q=(og (dO ps 0) (fun k=>dY ps k) q,0):=by rw[qh,if_neg (by simpa using h0),Int.toNat_natCast,if_neg (by simpa using Qc)]
   refine W.skip<|aA<|W.seq<|W.region rfl ?_
   refine ag2 rfl ?_
   refine qm rfl rfl rfl ?_
   refine cp (fun h' hE hL=>SI _ h' ps _ 0 q (hf.ext hE) hok (by decide) (by omega) Qc) ?_
   first | refine Ops.jP ?_ | refine Ops.nY ?_
   refine agb rfl rfl rfl<|pq<|W.ret ?_
   refine QJ (hv:=D_ (RN zJ)) ?_
   rw[e]
   exact⟨rfl,by repeat(first | exact Shut.nil | refine Shut.cons rfl ?_)⟩
theorem J3(main:Side)(h:Hp)(ps:List Pn)(vp:Value)(q:Int)(hf:Sl h Pn.row vp ps):Pu prog main yh #[vp,I q] h (.tuple #[I (qh ps q).1.1,I (qh ps q).2]):=by
 obtain⟨a,cap,rfl⟩:=hf.dA
 refine dV.aG FM rfl (by show 2≤17;decide) [(0,.slice a ps.length cap),(1,I q)] ⟨rfl,rfl,trivial⟩ ?_
 refine W.seq<|W.region rfl<|agb rfl rfl rfl<|agb rfl rfl rfl<|pq<|W.seq<|W.region rfl<|qm rfl rfl rfl<|qm rfl rfl rfl ?_
 refine cp (fun h' hE hL=>Uu _ h' ps _ q (hf.ext hE)) ?_
 refine qm rfl rfl rfl<|oq (bD rfl rfl rfl) rfl wn rfl rfl<|oq (bD rfl rfl rfl) rfl wn rfl rfl ?_
 refine Ops.new (fun yC=>?_)
 first | refine Ops.jP ?_ | refine Ops.nY ?_
 refine agb rfl rfl rfl<|pq<|W.seq<|W.region rfl ?_
 refine agY rfl ?_
 refine agX rfl ?_
 refine qm rfl rfl rfl<|agb rfl rfl rfl<|agb rfl rfl rfl<|pq<|W.ret ?_
 exact uZ rfl
theorem Yy(main:Side)(h:Hp)(ps:List Pn)(vp:Value)(q:Int)(hf:Sl h Pn.row vp ps):Pu prog main B_ #[vp,I q] h (.tuple #[I (qh ps q).1.2,I (qh ps q).2]):=by
 obtain⟨a,cap,rfl⟩:=hf.dA
 refine dV.aG Jy rfl (by show 2≤17;decide) [(0,.slice a ps.length cap),(1,I q)] ⟨rfl,rfl,trivial⟩ ?_
 refine W.seq<|W.region rfl<|agb rfl rfl rfl<|agb rfl rfl rfl<|pq<|W.seq<|W.region rfl<|qm rfl rfl rfl<|qm rfl rfl rfl ?_
 refine cp (fun h' hE hL=>Uu _ h' ps _ q (hf.ext hE)) ?_
 refine qm rfl rfl rfl<|oq (bD rfl rfl rfl) rfl wn rfl rfl<|oq (bD rfl rfl rfl) rfl wn rfl rfl ?_
 refine Ops.new (fun yC=>?_)
 first | refine Ops.jP ?_ | refine Ops.nY ?_
 refine agb rfl rfl rfl<|pq<|W.seq<|W.region rfl ?_
 refine agY rfl ?_
 refine agX rfl ?_
 refine qm rfl rfl rfl<|agb rfl rfl rfl<|agb rfl rfl rfl<|pq<|W.ret ?_
 exact uZ rfl
end Go.aS

/- Lists of numbers beside each other; which set of pans is better. Conditions: none. -/
namespace Go.aS
set_option linter.unusedVariables false
def VA(a b:Int):Int:=if a<b then -1 else if b<a then 1 else 0
def cmpL:List Int→List Int→Int
 | [],[]=>0
 | [],_::_=> -1
 | _::_,[]=>1
 | a::l,b::m=>if VA a b≠0 then VA a b else cmpL l m
def Ol(s:Nat):Nat:=(JL s).length
theorem better:∀s,s<16→∀b,b<16→((Ol s<Ol b∨Ol s=Ol b∧cmpL (zs (JL s)) (zs (JL b))<0)↔tu s<tu b):=by decide
theorem SK{all j:Nat}{l:List Nat}(hl:∀s∈all::j::l,s<16):eF all (j::l)=if tu j<tu (eF all l)then j else eF all l:=by
 have hp:(j::l).Perm (l++[j]):=List.perm_append_comm (l₁:=[j])
 rw[JM hp hl]
 rw[eF,List.foldl_append];rfl
theorem Qq{all:Nat}{l:List Nat}(hl:∀s∈all::l,s<16):eF all l<16:=hl _ (xI (l:=l) (all:=all)).1
end Go.aS

/- Numbers of pans, lists beside each other. Conditions: none; over the given program. -/
namespace Go.aS
set_option maxRecDepth 100000
set_option maxHeartbeats 4000000
theorem adN{x:Cx}{ρ:Env}{S:ah→Prop}{o:Oper}{v:Value}(h:∀e:Operand→Value,(∀y v,ev ρ y=some v→e y=v)→J_ x.P (execOp e o)=some (.value v)):Yv x S ρ o v:=fun e he F hF h' hE=>oU (h e he) ⟨rfl,rfl⟩
theorem Yz{x:Cx}{ρ:Env}{S:ah→Prop}{o:Oper}{t:TypeId}{c v:Value}{ix:Operand}{u:Value}(ho:o.op= .index t (.const c) ix)(hi:ev ρ ix=some u)(h:J_ x.P (Instr.index t c u)=some v):Yv x S ρ o v:=adN fun e he=>by
 have e1:e (.const c)=c:=he _ _ rfl
 simp only[execOp,ho,e1,he ix u hi,bind_eq,au]
 have:∀{s:Sem Value},J_ x.P s=some v→J_ x.P (s.bind fun v=>.pure (Next.value v))=some (.value v):=by
  intro s hs
  induction s with
  | pure a=>simp only[J_,Option.some.injEq]at hs;subst hs;rfl
  | program k ih=>exact ih _ hs
  | _=>cases hs
 exact this h

theorem YA(main:Side)(h:Hp)(m:Nat)(hm:m<16):Pu prog main nM #[U8 m] h (I (Ol m)):=by
 refine dV.aG vU rfl (by show 1≤6;decide) [(0,U8 m)] ⟨rfl,trivial⟩ ?_
 refine W.seq<|W.region rfl<|agb rfl rfl rfl<|pq<|W.seq<|W.region rfl<|qm rfl rfl rfl ?_
 have hix:J_ prog (Instr.index 9 (.string (ByteArray.mk (List.append (List.append [0,1,1,2,1,2,2,3,1,2,2,3,2,3,3,4,1,2,2,3,2,3,3,4,2,3,3,4,3,4,4,5,1,2,2,3,2,3,3,4,2,3,3,4,3,4,4,5,2,3,3,4,3,4,4,5,3,4,4,5,4,5,5,6] [1,2,2,3,2,3,3,4,2,3,3,4,3,4,4,5,2,3,3,4,3,4,4,5,3,4,4,5,4,5,5,6,2,3,3,4,3,4,4,5,3,4,4,5,4,5,5,6,3,4,4,5,4,5,5,6,4,5,5,6,5,6,6,7]) (List.append [1,2,2,3,2,3,3,4,2,3,3,4,3,4,4,5,2,3,3,4,3,4,4,5,3,4,4,5,4,5,5,6,2,3,3,4,3,4,4,5,3,4,4,5,4,5,5,6,3,4,4,5,4,5,5,6,4,5,5,6,5,6,6,7] [2,3,3,4,3,4,4,5,3,4,4,5,4,5,5,6,3,4,4,5,4,5,5,6,4,5,5,6,5,6,6,7,3,4,4,5,4,5,5,6,4,5,5,6,5,6,6,7,4,5,5,6,5,6,6,7,5,6,6,7,6,7,7,8])).toArray)) (U8 m))=some (.int .u8 (Ol m:Int)):=by
  rcases(by omega:m=0∨m=1∨m=2∨m=3∨m=4∨m=5∨m=6∨m=7∨m=8∨m=9∨m=10∨m=11∨m=12∨m=13∨m=14∨m=15)with rfl | rfl | rfl | rfl | rfl | rfl | rfl | rfl | rfl | rfl | rfl | rfl | rfl | rfl | rfl | rfl <;>kernel_rfl
 refine agW (Yz rfl rfl hix) rfl ?_
 have hc4:Ol m≤4:=Nat.le_trans (List.length_filter_le ..) (by simp)
 refine KU (FC rfl rfl) (congrArg (Value.int .i64) (nC (n:=(Ol m:Int)) (by omega) (by omega))) rfl wn rfl rfl ?_
 refine agb rfl rfl rfl<|pq<|W.ret ?_
 exact uZ rfl
theorem uo(main:Side)(h:Hp)(m:Nat)(hm:m<16):Pu prog main jO #[U8 m] h (I (Ol m)):=by
 refine dV.aG CV rfl (by show 1≤5;decide) [(0,U8 m)] ⟨rfl,trivial⟩ ?_
 refine W.seq<|W.region rfl<|agb rfl rfl rfl<|pq<|W.seq<|W.region rfl<|qm rfl rfl rfl ?_
 refine cp (fun h' hE hL=>YA _ h' m hm) ?_
 refine agb rfl rfl rfl<|pq<|W.ret ?_
 exact uZ rfl
theorem Qr(main:Side)(h:Hp)(a:Int):Pu prog main yu #[I a] h (.bool false):=by
 refine dV.aG FX rfl (by show 1≤6;decide) [(0,I a)] ⟨rfl,trivial⟩ ?_
 refine W.seq<|W.region rfl<|agb rfl rfl rfl<|pq<|W.seq<|W.region rfl<|qm rfl rfl rfl<|qm rfl rfl rfl ?_
 refine agW (nG rfl rfl rfl) rfl ?_
 refine agb rfl rfl rfl<|pq<|W.ret ?_
 refine uZ ?_
 exact congrArg Value.bool (decide_eq_false (by simp))
theorem aap(main:Side)(h:Hp)(a b:Int):Pu prog main uj #[I a,I b] h (I (VA a b)):=by
 refine dV.aG C_ rfl (by show 2≤20;decide) [(0,I a),(1,I b)] ⟨rfl,rfl,trivial⟩ ?_
 refine W.seq<|W.region rfl<|agb rfl rfl rfl<|pq<|W.seq<|W.region rfl<|qm rfl rfl rfl ?_
 refine cp (fun h' hE hL=>Qr _ h' _) ?_
 refine agb rfl rfl rfl<|pq<|W.seq<|W.region rfl<|qm rfl rfl rfl ?_
 refine cp (fun h' hE hL=>Qr _ h' _) ?_
 refine agb rfl rfl rfl<|pq<|W.seq<|W.seq<|W.region rfl<|qm rfl rfl rfl<|pq ?_
 refine W.bZ ?_
 refine W.skip<|aA<|W.seq<|W.seq<|W.region rfl<|qm rfl rfl rfl<|pq ?_
 refine W.bZ ?_
 refine W.skip<|aA<|W.seq<|W.seq<|W.region rfl<|qm rfl rfl rfl<|qm rfl rfl rfl ?_
 refine agW (fO rfl rfl rfl) rfl ?_
 refine pq ?_
 refine W.bC rfl (fun c16=>?_) (fun c16=>?_)
 ·refine W.seq<|W.region rfl<|agb rfl rfl rfl<|pq<|W.ret<|aY ?_
  refine uZ ?_
  rw[VA,if_pos c16];rfl
 ·refine W.skip<|aA<|W.seq<|W.seq<|W.region rfl<|qm rfl rfl rfl<|qm rfl rfl rfl ?_
  refine agW (rC rfl rfl rfl) rfl ?_
  refine pq ?_
  refine W.bC rfl (fun c19=>?_) (fun c19=>?_)
  ·refine W.seq<|W.region rfl<|agb rfl rfl rfl<|pq<|W.ret<|aY ?_
   refine uZ ?_
   rw[VA,if_neg c16,if_pos c19];rfl
  ·refine W.skip<|aA<|W.seq<|W.region rfl<|agb rfl rfl rfl<|pq<|W.ret ?_
   refine uZ ?_
   rw[VA,if_neg c16,if_neg c19];rfl
theorem SL(main:Side)(h:Hp)(l m:List Int)(vl vm:Value)(hl:Sl h fH vl l)(hm:Sl h fH vm m)(hn:l.length≤1000):Pu prog main pV #[vl,vm] h (I (cmpL l m)):=by
 obtain⟨a,cap,rfl⟩:=hl.dA
 obtain⟨a2,cap2,rfl⟩:=hm.dA
 refine dV.aG yM rfl (by show 2≤36;decide) [(0,.slice a l.length cap),(1,.slice a2 m.length cap2)] ⟨rfl,rfl,trivial⟩ ?_
 refine W.seq<|W.region rfl<|agb rfl rfl rfl<|pq<|W.seq<|W.seq<|W.region rfl<|qm rfl rfl rfl ?_
 refine agW (dM rfl rfl) rfl ?_
 refine qm rfl rfl rfl<|pq<|W.block ?_
 refine W.loop (σ:=Nat) (fun k=>k≤l.length∧k≤m.length∧cmpL l m=cmpL (l.drop k) (m.drop k)) (fun k=>[(11,I k),(10,I l.length),(9,.slice a l.length cap),(0,.slice a l.length cap),(1,.slice a2 m.length cap2)]) (fun _=>[]) (fun k=>l.length-k) 0 ⟨Nat.zero_le _,Nat.zero_le _,rfl⟩ ⟨rfl,rfl,rfl,rfl,rfl,trivial⟩ .refl ?_
 rintro k ⟨hk,hk2,hd⟩
 refine W.seq<|W.region rfl ?_
 refine agW (fO rfl rfl rfl) rfl ?_
 refine pq<|W.seq ?_
 refine W.bC rfl (fun c12=>?_) (fun c12=>?_)
 ·obtain⟨p,hp,hdr⟩:=has (show k<l.length by omega)
  rw[hdr]at hd
  obtain⟨b,off,c,E,fz,he,hb,hx,hy,hz⟩:=hl.at hp
  have hx':c[off+k*1]? =some (I p):=hz 0 (by decide)
  clear hx hz
  cases he
  refine W.skip<|aA<|W.seq<|W.block<|W.seq<|W.region rfl<|qm rfl rfl rfl ?_
  refine ag3 rfl ?_
  refine agX rfl ?_
  refine agb rfl rfl rfl<|agb rfl rfl rfl<|pq<|W.seq<|W.seq<|W.region rfl<|qm rfl rfl rfl<|qm rfl rfl rfl ?_
  refine agW (dM rfl rfl) rfl ?_
  refine agW (IJ rfl rfl rfl) rfl ?_
  refine pq ?_
  refine W.bC rfl (fun c19=>?_) (fun c19=>?_)
  ·refine W.seq<|W.region rfl<|agb rfl rfl rfl<|pq<|W.ret<|aY<|cZ<|aY<|aY ?_
   refine cZ<|aY ?_
   refine uZ ?_
   rw[hd,show List.drop k m=[]from List.drop_eq_nil_of_le (by omega)];rfl
  ·obtain⟨q,hq,hdq⟩:=has (show k<m.length by omega)
   rw[hdq,cmpL]at hd
   obtain⟨b',off',c',E',fz',he',hb',hx2,hy',hz'⟩:=hm.at hq
   have hx'':c'[off'+k*1]? =some (I q):=hz' 0 (by decide)
   clear hx2 hz'
   cases he'
   refine W.skip<|aA<|W.seq<|W.region rfl<|qm rfl rfl rfl<|qm rfl rfl rfl ?_
   refine ag3 rfl ?_
   refine agX rfl ?_
   refine agb rfl rfl rfl<|pq<|W.seq<|W.region rfl<|qm rfl rfl rfl<|qm rfl rfl rfl ?_
   refine cp (fun h' hE hL=>aap _ h' _ _) ?_
   refine agb rfl rfl rfl<|pq<|W.seq<|W.region rfl<|qm rfl rfl rfl ?_
   refine agW (nG rfl rfl rfl) rfl ?_
   refine pq ?_
   refine W.bC rfl (fun c28=>?_) (fun c28=>?_)
   ·refine W.seq<|W.region rfl<|qm rfl rfl rfl<|agb rfl rfl rfl<|pq<|W.ret<|cZ<|aY<|aY ?_
    refine cZ<|aY ?_
    refine uZ ?_
    rw[hd,if_pos c28];rfl
   ·refine W.skip<|dI<|aA<|W.region rfl ?_
    refine ag1 rfl ?_
    refine qm rfl rfl rfl<|pq ?_
    rw[if_neg c28]at hd
    exact⟨rfl,k+1,⟨by omega,by omega,hd⟩,by omega,⟨rfl,rfl,rfl,rfl,rfl,trivial⟩,TW⟩
 ·obtain rfl:k=l.length:=by omega
  rw[List.drop_length]at hd
  refine W.exit<|bP<|bP<|gG<|aA<|W.seq<|W.seq<|W.region rfl<|qm rfl rfl rfl ?_
  refine agW (dM rfl rfl) rfl ?_
  refine qm rfl rfl rfl ?_
  refine agW (dM rfl rfl) rfl ?_
  refine agW (fO rfl rfl rfl) rfl ?_
  refine pq ?_
  refine W.bC rfl (fun c35=>?_) (fun c35=>?_)
  ·refine W.seq<|W.region rfl<|agb rfl rfl rfl<|pq<|W.ret<|aY ?_
   refine uZ ?_
   obtain⟨q,hq,hdq⟩:=has (show l.length<m.length by omega)
   rw[hd,hdq];rfl
  ·refine W.skip<|aA<|W.seq<|W.region rfl<|agb rfl rfl rfl<|pq<|W.ret ?_
   refine uZ ?_
   rw[hd,show List.drop l.length m=[]from List.drop_eq_nil_of_le (by omega)];rfl
end Go.aS

/- Short forms: Add, Wait, Lock, go, defer in a group. Conditions: none; over any program. -/
namespace Go.aS
section
variable{x:Cx}{Q:Post}{ρ:Env}{ds:List Deferred}{F:ah}{ops:Array Oper}{i:Nat}{rest:List Nat}{d:Tmp}{ty:TypeId}{pos:String}{bK:Array Edge}{f:FuncId}{args:List Operand}{ts:Array TypeId}{vs:List Value}{γ:GP}{j left:Nat}{U:Obj→ah}
theorem Om(ho:cO ops.toList i=some ⟨some d,.call ⟨.value (.func f),args.toArray,ts⟩,ty,pos,bK,none⟩)[FB x.P f](hv:evs ρ args=some vs):∀e,Kn1 ρ e→∃es,seen x.P x.fn es= #[]∧∀w,(execOp e ⟨some d,.call ⟨.value (.func f),args.toArray,ts⟩,ty,pos,bK,none⟩).runT x.P w #[]=(.ok (.enter f vs.toArray) w,es):=fun ee he=>⟨#[],rfl,fun w=>by
  obtain⟨fn,h1,h2,h3⟩:=FB.out (inferInstance:FB x.P f)
  rw[rV he rfl hv]
  simp only[callFunc,program,bind_eq,au,Sem.bind,Sem.runT,h1,h2,h3,Bool.false_eq_true,if_false]⟩
theorem owa(γ:GP)(hS:∀S,x.main.ok S→∃Ex,S=wO x.P γ Ex)(hb:x.main.b=true)(ho:cO ops.toList i=some ⟨some d,.call ⟨.value (.func f),args.toArray,ts⟩,ty,pos,bK,none⟩)[FB x.P f](hv:evs ρ args=some vs)(hd:Nat.blt d x.n=true)
  (hL:iK x.P true (aJ γ.toGrp) f vs.toArray (.wg (.add 0) 0) fun v s=>v= .tuple #[]∧s= .wg (.add 1) 0) (hl:At γ.Wg (sK 0 j left) F U) (H:Ops x ops rest Q ((d,.tuple #[])::ρ) ds (U (sK 1 j left))):Ops x ops (i::rest) Q ρ ds F:=
 Ops.add (o:=⟨some d,.call ⟨.value (.func f),args.toArray,ts⟩,ty,pos,bK,none⟩) hS hb (aU ho) wn hd (fun c h=>by cases h) (Om ho hv) hL hl H
theorem owt(γ:GP)(hS:∀S,x.main.ok S→∃Ex,S=wO x.P γ Ex)(hb:x.main.b=true)(ho:cO ops.toList i=some ⟨some d,.call ⟨.value (.func f),args.toArray,ts⟩,ty,pos,bK,none⟩)[FB x.P f](hv:evs ρ args=some vs)(hd:Nat.blt d x.n=true)
  (hL:iK x.P true (aJ γ.toGrp) f vs.toArray (.wg (.add 0) 0) fun v s=>v= .tuple #[]∧s= .wg .out 0) (hl:At γ.Wg (sK 0 j left) F U)
  (H:∀l c As,As.length=j→(∀(i:Nat) (A:ah),As[i]? =some A→γ.R i A)→(γ.mu≠none→γ.J l c∧l.Perm ((List.range j).filterMap γ.tag))→Ops x ops rest Q ((d,.tuple #[])::ρ) ds (back γ c As++U Bj)):Ops x ops (i::rest) Q ρ ds F:=
 Ops.wait (o:=⟨some d,.call ⟨.value (.func f),args.toArray,ts⟩,ty,pos,bK,none⟩) hS hb (aU ho) wn hd (fun c h=>by cases h) (Om ho hv) hL hl H
theorem owl(γ:GP)(hS:∀S,x.main.ok S→S=Wk x.P γ j)(hb:x.main.b=false)(hm:γ.mu≠none)(hcc:∀l c,γ.J l c→c.isChan=false)(ho:cO ops.toList i=some ⟨some d,.call ⟨.value (.func f),args.toArray,ts⟩,ty,pos,bK,none⟩)[FB x.P f](hv:evs ρ args=some vs)(hd:Nat.blt d x.n=true)
  (hL:∀B,iK x.P false (aJ γ.toGrp) f vs.toArray (.mu .out none B 0 0) fun v s=>v= .tuple #[]∧∃o B,s= .mu .hold o B 0 1) (hl:At γ.Mu (gK .out) F U)
  (H:∀l c,γ.J l c→Ops x ops rest Q ((d,.tuple #[])::ρ) ds ((γ.C,c)::U (gK (.hold l)))):Ops x ops (i::rest) Q ρ ds F:=
 Ops.lock (o:=⟨some d,.call ⟨.value (.func f),args.toArray,ts⟩,ty,pos,bK,none⟩) hS hb hm hcc (aU ho) wn hd (fun c h=>by cases h) (Om ho hv) hL hl H
theorem owg(γ:GP){A:ah}{y:Operand}{fi ca:Array Value}(hS:∀S,x.main.ok S→∃Ex,S=wO x.P γ Ex)(hb:x.main.b=true)(ho:cO ops.toList i=some ⟨none,.go ⟨.value y,args.toArray,ts⟩,ty,pos,bK,none⟩)(hy:ev ρ y=some (.func (.func f) fi ca))(hv:evs ρ args=some vs)(hA:∀b o,(b,o)∈A→o.isChan=false)(htm:γ.tag j≠none→γ.mu≠none)(hl:At γ.Wg (sK 1 j (left+1)) F U)
  (hc:∀kc M,Sat (zI x.h) (Ku γ j++A) kc M→Wk x.P γ j (wV x.P {target:=.fn (.func f) ca,args:=fi++vs.toArray}) kc M) (H:Ops x ops rest Q ρ ds (U (sK 0 (j+1) left))):Ops x ops (i::rest) Q ρ ds (A++F):=
 Ops.abH (o:=⟨none,.go ⟨.value y,args.toArray,ts⟩,ty,pos,bK,none⟩) hS hb (aU ho) rfl wn rfl hy hv hA htm hl hc H
theorem owd(hro:x.ro=none)(ho:cO ops.toList i=some ⟨none,.defer ⟨.value (.func f),args.toArray,ts⟩,ty,pos,bK,none⟩)(hv:evs ρ args=some vs)(H:Ops x ops rest Q ρ ({target:=.fn (.func f) #[],args:=vs.toArray}::ds) F):Ops x ops (i::rest) Q ρ ds F:=
 Ops.defer (o:=⟨none,.defer ⟨.value (.func f),args.toArray,ts⟩,ty,pos,bK,none⟩) hro (aU ho) rfl wn rfl (fun e he=>by
  have e1:e (.func f)= .func (.func f) #[] #[]:=he _ _ rfl
  simp only[resolve,e1,List.map_toArray]
  rw[lN he hv]
  simp[Deferred.ofValue];rfl) H
end
section
variable{x:Cx}{Q:Post}{ρ:Env}{ds:List Deferred}{F:ah}{ops:Array Oper}{L:ah}{i:Nat}{d:Tmp}{op:Op}{ty:TypeId}{pos:String}{bK:Array Edge}
theorem apU{fuel listed j d':Nat}{w:Bool}(ho:cO ops.toList i=some ⟨some d,op,ty,pos,bK,some (j,w)⟩)(hj:(cO ops.toList j).bind (·.dst)=some d')(hv:look ρ d'=some undef)(hd:Nat.blt d x.n=true)(hn:cu op=true)(H:Any x ops L fuel (listed||| 2 ^ i) Q ((d,undef)::ρ) ds F)(hr:(Fq ops listed i&&xR ops listed i&&DJ ops)=true:=by kernel_rfl)(hS:Keeps L F:=by first | exact fun _ h=>h | exact fun _ h=>absurd h List.not_mem_nil | ((repeat(first | exact fun _ h=>h | apply Keeps.cons | apply Keeps.app)) <;>fail) | (repeat(first | exact Keeps.nil | refine Keeps.one (by repeat(first | exact List.Mem.head _ | apply List.Mem.tail)) ?_))):Any x ops L (fuel+1) listed Q ρ ds F:=by
 simp only[Bool.and_eq_true]at hr
 exact Any.pass (o:=⟨some d,op,ty,pos,bK,some (j,w)⟩) H hr.1.1 hr.1.2 (aU ho) hr.2 (Q7 rfl (by rw[AO]at hj;simpa using hj) hv) hd hn hS
end
theorem PE.of{P:Program}{γ:GP}{fn f:FuncId}{vs:List Value}[FB P f](hL:Y9 P false (aJ γ.toGrp) f vs.toArray (.dn .live 0) fun s=>s= .dn .gone 0):PE P γ fn {target:=.fn (.func f) #[],args:=vs.toArray}:=
 ⟨fun r h=>(by cases h),f,vs.toArray, #[],fun w=>(by
  obtain⟨fn,h1,h2,h3⟩:=FB.out (inferInstance:FB P f)
  simp only[invoke,callFunc,program,bind_eq,au,Sem.bind,Sem.runT,h1,h2,h3,Bool.false_eq_true,if_false,Array.append_empty]),rfl,hL⟩
theorem Io.of{P:Program}{γ:GP}{fn f:FuncId}{vs:List Value}[FB P f](hL:∀B,Y9 P false (aJ γ.toGrp) f vs.toArray (.mu .hold none B 0 1) fun s=>∃o B,s= .mu .fin o B 0 2):Io P γ fn {target:=.fn (.func f) #[],args:=vs.toArray}:=
 ⟨fun r h=>(by cases h),f,vs.toArray, #[],fun w=>(by
  obtain⟨fn,h1,h2,h3⟩:=FB.out (inferInstance:FB P f)
  simp only[invoke,callFunc,program,bind_eq,au,Sem.bind,Sem.runT,h1,h2,h3,Bool.false_eq_true,if_false,Array.append_empty]),rfl,hL⟩

/-! ### A group that opens between two parts of a text -/
def W2(x:Cx)(y z:Code)(Q:Post)(ρ:Env)(ds:List Deferred)(F:ah):Prop:=
 ∀(b:Frame) (k:List Item) (cs:List Frame) (Stop:Stops x.main) (tmps:Array Value) (hk:Hp) (M:Nat→Prop),b.fn=x.fn→b.roundOf=x.ro→b.kind≠ .early→dQ ρ tmps→tmps.size=x.n→Sat x.h F hk M→
  (∀e ρ' ds' F' aZ hk' M',Q e ρ' ds' F'→dQ ρ' aZ→aZ.size=x.n→Sat x.h F' hk' M'→Fr M F M' F'→After x.P x.main Stop b k cs e aZ ds' hk' M')→
  Gs x.P x.main Stop (G (bW b tmps ds (.code y:: .code z::k)) cs) hk M
section
variable{x:Cx}{Q:Post}{ρ:Env}{ds:List Deferred}{F:ah}{a y z:Code}
theorem W.two(H:W x y (thn (fun ρ' ds' F'=>W x z Q ρ' ds' F') Q) ρ ds F):W2 x y z Q ρ ds F:=by
 intro b k cs Stop tmps hk M h1 h0 h2 h3 h4 h5 hc
 refine H b (.code z::k) cs Stop tmps hk M h1 h0 h2 h3 h4 h5 fun e ρ' ds' F' aZ hk' M' q a1 a2 a3 a4=>?_
 cases e with
 | normal=>exact q b k cs Stop aZ hk' M' h1 h0 h2 a1 a2 a3 fun e tC ds₂ kP ng hk₂ jr q₂ c1 c2 c3 c4=>hc e tC ds₂ kP ng hk₂ jr q₂ c1 c2 c3 (a4.trans c4)
 | exit id=>exact(hc _ _ _ _ _ _ _ q a1 a2 a3 a4).push rfl (by simp)
 | goto l=>exact(hc _ _ _ _ _ _ _ q a1 a2 a3 a4).push rfl (by simp)
 | ret=>exact(hc _ _ _ _ _ _ _ q a1 a2 a3 a4).push (x:=.code z) rfl (by simp)
 | panic ch=>exact hc _ _ _ _ _ _ _ q a1 a2 a3 a4
 | outgrown=>exact hc _ _ _ _ _ _ _ q a1 a2 a3 a4
theorem W.seq2(H:W x a (thn (fun ρ' ds' F'=>W2 x y z Q ρ' ds' F') Q) ρ ds F):W x (.seq (.seq a y) z) Q ρ ds F:=by
 intro b k cs Stop tmps hk M h1 h0 h2 h3 h4 h5 hc
 refine .idle rfl (fun _=>Iz) (.idle rfl (fun _=>Iz) (H b (.code y:: .code z::k) cs Stop tmps hk M h1 h0 h2 h3 h4 h5 fun e ρ' ds' F' aZ hk' M' q a1 a2 a3 a4=>?_))
 cases e with
 | normal=>exact q b k cs Stop aZ hk' M' h1 h0 h2 a1 a2 a3 fun e tC ds₂ kP ng hk₂ jr q₂ c1 c2 c3 c4=>hc e tC ds₂ kP ng hk₂ jr q₂ c1 c2 c3 (a4.trans c4)
 | exit id=>exact((hc _ _ _ _ _ _ _ q a1 a2 a3 a4).push (x:=.code z) rfl (by simp)).push rfl (by simp)
 | goto l=>exact((hc _ _ _ _ _ _ _ q a1 a2 a3 a4).push (x:=.code z) rfl (by simp)).push rfl (by simp)
 | ret=>exact((hc _ _ _ _ _ _ _ q a1 a2 a3 a4).push (x:=.code z) rfl (by simp)).push (x:=.code y) rfl (by simp)
 | panic ch=>exact hc _ _ _ _ _ _ _ q a1 a2 a3 a4
 | outgrown=>exact hc _ _ _ _ _ _ _ q a1 a2 a3 a4
theorem W2.sb{F':ah}(s:Sb F' F)(H:W2 x y z Q ρ ds F'):W2 x y z Q ρ ds F:=
 fun b k cs Stop tmps hk M h1 h0 h2 h3 h4 h5 hc=>H b k cs Stop tmps hk M h1 h0 h2 h3 h4 (h5.sb s) fun e ρ' ds' F' aZ hk' M' q a1 a2 a3 a4=>hc e ρ' ds' F' aZ hk' M' q a1 a2 a3 (a4.sub fun _ y=>s.mem _ y)
theorem W2.group(γ:GP)(N:Nat)(co:Obj)(hS:∀S,x.main.ok S→∃Fin,S=Mo x.P Fin)(hb:x.main.b=true)(hN:N≤63)(hJ:γ.mu≠none→γ.J [] co)(hjc:∀l c,γ.J l c→c.isChan=false)
  (H:x.h γ.Wg=none→W2 {x with main:=aeI x.P γ} y z (fun e ρ' ds' F'=>(e= .normal∨e= .ret)∧∃G,F'=(γ.Wg,Bj)::G∧Q e ρ' ds' G) ρ ds ((γ.Wg,sK 0 0 N)::F)):W2 x y z Q ρ ds ((γ.Wg,zo γ.tW ⟨0,0,0⟩)::(Za γ co++F)):=by
 intro b k cs Stop tmps hk M h1 h0 h2 h3 h4 h5 hc
 obtain⟨Fin,eS⟩:=hS _ Stop.2.1
 obtain⟨O,S',f'⟩:=h5.opens hN hJ hjc
 have eG:Gs x.P x.main Stop=CJ x.P true (Mo x.P Fin):=by funext g k M;unfold Gs;rw[hb,eS]
 have hE:BJ (CJ x.P true (Mo x.P Fin)):=CJ.x9 (eS▸Stop.2.2)
 have:=H (h5.own _ _ (List.mem_cons_self ..)).2.2 b k cs ⟨wO x.P γ (CJ x.P true (Mo x.P Fin)),⟨_,rfl⟩,wO.x9 hE⟩ tmps _ _ h1 h0 h2 h3 h4 S' fun e ρ' ds' F' aZ hk' M' q a1 a2 a3 a4=>?_
 ·rw[eG]
  exact .stop (.grp γ N co O _ (wO.rQ this) fun g k M h=>Mo.rQ h)
 ·obtain⟨he,G,rfl,q⟩:=q
  have hw:=a3.own _ _ (List.mem_cons_self ..)
  have hh:=hc e ρ' ds' G aZ _ _ q a1 a2 a3.drop (f'.trans a4.drop)
  rcases he with rfl | rfl
  ·have hh:Gs x.P x.main Stop _ _ _:=hh
   rw[eG]at hh
   exact .stop (.exit hw.1 hh)
  ·have hh:∀k',Stp x.P x.main.b (Gs x.P x.main Stop) _ _ _:=hh
   rw[eG,hb]at hh
   exact fun k'=>(hh k').inside hw.1 hw.2.1
end
end Go.aS

/- Which pans to close so that nothing goes round for ever. Conditions: none; over the given program. -/
namespace Go.aS
set_option maxRecDepth 100000
set_option maxHeartbeats 4000000
def CB(ps:List Pn)(s:Nat):Bool:=(List.range 13).all fun k=> !dD (dO ps s) 13 k
theorem VB{ps:List Pn}{s:Nat}:CB ps s=decide ((bL fun k=>dD (dO ps s) 13 k)=bL fun _=>false):=by
 rw[Bool.eq_iff_iff,decide_eq_true_iff,abT,CB,List.all_eq_true]
 exact⟨fun h i hi=>by simpa using h i (List.mem_range.2 hi),fun h i hi=>by simpa using h i (List.mem_range.1 hi)⟩
abbrev bI(b:Nat):Value:=.pointer (some ⟨b,0,none⟩)
abbrev G5:TypeId:=132
def jC(ps:List Pn)(all b7 b8 b9:Nat):GP:={Wg:=b8,tW:=wo,mu:=some (b7,G5),C:=b9,J:=fun l c=>c= .cells #[U8 (eF all l)] bU (0,0)∧∀s∈all::l,s<16,tag:=fun j=>if CB ps j then some j else none,R:=fun _ A=>A=[]}
theorem Os.more{α:Type}{row:α→List Value}{w:Nat}[Rw row w]{E:TypeId}{v:Value}{l:List α}{A B:ah}(H:Os E row v l A)(hB:Shut B):Os E row v l (A++B):=by
 rcases H with⟨rfl,rfl,h⟩ | ⟨β,c,cap,J,rfl,rfl,h1,h2,h3,h⟩
 ·exact .nil (h.app hB)
 ·exact .inr ⟨β,c,cap,J++B,rfl,rfl,h1,h2,h3,h.app hB⟩
theorem A_{ps:List Pn}{all b7 b8 b9 s:Nat}{l:List Nat}{fn:FuncId}{h:Hp}{x y:Nat×Obj}{u:Nat}(ht:(jC ps all b7 b8 b9).tag s=some s)(hl:∀x∈all::s::l,x<16)(hu:u=eF all (s::l)):
  Xw prog (jC ps all b7 b8 b9) s fn h [{target:=.fn (.func kR) #[],args:= #[bI b7]},{target:=.fn (.func jK) #[],args:= #[bI b8]}] [(b9,.cells #[U8 u] bU (0,0)),x,y,(b7,gK (.hold l))]:=by
 have hm:(jC ps all b7 b8 b9).mu≠none:=fun h=>by cases h
 subst hu
 refine .inr (.inl ⟨Io.of (vs:=[bI b7]) fun B=>Vj hm,hm,l,.cells #[U8 (eF all (s::l))] bU (0,0),s,[x,y],.cons _ (List.perm_append_comm (l₁:=[_,_]) (l₂:=[_])),ht,⟨rfl,hl⟩,?_⟩)
 exact .inr (.inr ⟨PE.of (vs:=[bI b8]) Uh,rfl,[],_,.refl _,fun _ _ h=>(by cases h),rfl,.inr ⟨hm,List.mem_cons_self ..⟩⟩)
theorem closer(h:Hp)(ps:List Pn)(vp:Value)(all s b4 b6 b7 b8 b9 b10:Nat)(E4 E6:TypeId)(z4 z6:Nat×Nat)(kc:Hp)(M:Nat→Prop)(hf:Sl h Pn.row vp ps)(hok:iP ps)(hs:s<16)(h4:h b4=some (.cells #[vp,U8 0] E4 z4))(h6:h b6=some (.cells #[.func (.func jO) #[] #[]] E6 z6))
  (S:Sat h (Ku (jC ps all b7 b8 b9) s++[(b10,.cells #[U8 s] bU (0,0))]) kc M):Wk prog (jC ps all b7 b8 b9) s (wV prog {target:=.fn (.func qA) #[bI b8,bI b4,bI b10,bI b7,bI b6,bI b9],args:= #[]}) kc M:=by
 obtain⟨a,cap,rfl⟩:=hf.dA
 have hm:(jC ps all b7 b8 b9).mu≠none:=fun h=>by cases h
 refine Wk.start (f:=qA) FQ rfl rfl (by show 6≤40;decide) [(0,bI b8),(1,bI b4),(2,bI b10),(3,bI b7),(4,bI b6),(5,bI b9)] ⟨rfl,rfl,rfl,rfl,rfl,rfl,trivial⟩ (S.perm (F':=(b10,.cells #[U8 s] bU (0,0))::Ku (jC ps all b7 b8 b9) s) (List.perm_append_comm (l₁:=[_]))) ?_
 refine W.seq<|W.region rfl ?_
 refine owd (vs:=[bI b8]) rfl rfl rfl ?_
 refine pq<|W.seq<|W.region rfl ?_
 refine ag2 rfl ?_
 refine Ops.new (fun yC=>?_)
 first | refine Ops.jP ?_ | refine Ops.nY ?_
 refine pq<|W.seq<|W.region rfl ?_
 refine agX rfl ?_
 refine agY rfl ?_
 refine Ops.yG ?_
 refine pq<|W.seq<|W.seq<|W.region rfl ?_
 refine ag2 rfl ?_
 refine cp (fun h' hE hL=>Uo _ h' ps _ s (hf.ext hE) hok hs) ?_
 refine agW (Xx rfl) rfl ?_
 refine KU (aa8 (bL fun k=>dD (dO ps s) 13 k) (bL fun _=>false) rfl rfl rfl rfl rfl Oe Oe) (congrArg (fun b=>Value.bool (!b)) VB.symm) rfl wn rfl rfl ?_
 refine pq ?_
 refine W.cond rfl (fun c13=>?_) (fun c13=>?_)
 ·have hb:CB ps s=false:=by simpa using c13
  refine W.ret<|aY ?_
  have ht:(jC ps all b7 b8 b9).tag s=none:=by simp[jC,hb]
  exact⟨.inl rfl,.inr (.inr ⟨PE.of Uh,rfl,[],_,.refl _,fun _ _ h=>(by cases h),rfl,.inl ht⟩)⟩
 ·have hb:CB ps s=true:=by simpa using c13
  have ht:(jC ps all b7 b8 b9).tag s=some s:=by simp[jC,hb]
  have htf:Ku (jC ps all b7 b8 b9) s=[(b7,gK .out)]:=by rw[Ku,if_neg (by rw[ht];simp)];rfl
  rw[htf]
  refine W.skip<|aA<|W.seq<|W.region rfl ?_
  refine owl (jC ps all b7 b8 b9) (j:=s) (fun _ h=>h) rfl hm (fun l c h=>by rw[h.1];rfl) rfl rfl rfl (fun B=>Z5 hm) (.tail (.tail .head)) (fun l c hJ=>?_)
  obtain⟨rfl,hl⟩:=hJ
  have hl':∀x∈all::s::l,x<16:=fun x hx=>by
   rcases List.mem_cons.1 hx with rfl | hx
   ·exact hl _ (List.mem_cons_self ..)
   ·rcases List.mem_cons.1 hx with rfl | hx
    ·exact hs
    ·exact hl _ (List.mem_cons_of_mem _ hx)
  have hbl:eF all l<16:=Qq hl
  have hbt:=better s hs (eF all l) hbl
  have hcs:=SK hl'
  refine pq<|W.seq<|W.region rfl ?_
  refine owd (vs:=[bI b7]) rfl rfl rfl ?_
  refine pq<|W.seq ?_
  refine W.rE (n:=24) rfl ?_
  refine xq 0 (iQ rfl rfl) rfl ?_
  refine xq 1 (iQ rfl rfl) rfl ?_
  refine xq 3 (iQ rfl rfl) rfl ?_
  refine xq 4 (iQ rfl rfl) rfl ?_
  refine acv (i:=2) (fun h' hE hL=>gZ.zh (fi:=[]) (args:=[_]) (ca:=[]) (uo _ h' s hs)) ?_
  refine acv (i:=5) (fun h' hE hL=>gZ.zh (fi:=[]) (args:=[_]) (ca:=[]) (uo _ h' (eF all l) hbl)) ?_
  refine xq 6 (fO rfl rfl rfl) rfl ?_
  refine xq 7 (aN rfl rfl) rfl ?_
  refine Any.ask (d':=22) (fun abO=>?_) (fun abO=>?_)
  ·refine ap (i:=8) rfl rfl rfl rfl rfl rfl ?_
   refine ap (i:=9) rfl rfl rfl rfl rfl rfl ?_
   refine ap (i:=11) rfl rfl rfl rfl rfl rfl ?_
   refine ap (i:=12) rfl rfl rfl rfl rfl rfl ?_
   refine ap (i:=10) rfl rfl rfl rfl rfl rfl ?_
   refine ap (i:=13) rfl rfl rfl rfl rfl rfl ?_
   refine ap (i:=14) rfl rfl rfl rfl rfl rfl ?_
   refine ap (i:=15) rfl rfl rfl rfl rfl rfl ?_
   refine apU (i:=16) rfl rfl rfl rfl rfl ?_
   refine apU (i:=18) rfl rfl rfl rfl rfl ?_
   refine apU (i:=17) rfl rfl rfl rfl rfl ?_
   refine apU (i:=19) rfl rfl rfl rfl rfl ?_
   refine apU (i:=20) rfl rfl rfl rfl rfl ?_
   refine apU (i:=21) rfl rfl rfl rfl rfl ?_
   refine ap (i:=22) rfl rfl rfl rfl rfl rfl ?_
   refine xq 23 (dG rfl rfl rfl) rfl ?_
   refine az ?_
   refine aA ?_
   refine W.dW ?_
   have hnew:s=eF all (s::l):=by
    rw[hcs,if_pos]
    apply hbt.1
    first | exact .inl (by omega) | exact .inr ⟨by omega,c38⟩
   try refine W.sb (F':=[(b9,.cells #[U8 (eF all l)] bU (0,0)),(yC,.cells #[.slice a ps.length cap,U8 s] bG (0,0)),(b10,.cells #[U8 s] bU (0,0)),(b7,gK (.hold l))]) (.left (.left .refl hv1.shut) hv2.shut) ?_
   refine W.region rfl ?_
   refine agX rfl ?_
   refine Ops.yG ?_
   refine Ops.nil ?_
   exact⟨.inr rfl,A_ ht hl' hnew⟩
  ·refine aq (i:=8) (iQ rfl rfl) rfl (b_ rfl rfl rfl rfl) rfl rfl ?_
   refine aq (i:=9) (iQ rfl rfl) rfl (b_ rfl rfl rfl rfl) rfl rfl ?_
   refine aq (i:=11) (iQ rfl rfl) rfl (b_ rfl rfl rfl rfl) rfl rfl ?_
   refine aq (i:=12) (iQ rfl rfl) rfl (b_ rfl rfl rfl rfl) rfl rfl ?_
   refine acv (i:=10) (fun h' hE hL=>gZ.zh (fi:=[]) (args:=[_]) (ca:=[]) (uo _ h' s hs)) ?_
   refine acv (i:=13) (fun h' hE hL=>gZ.zh (fi:=[]) (args:=[_]) (ca:=[]) (uo _ h' (eF all l) hbl)) ?_
   refine aq (i:=14) (nD rfl rfl rfl) rfl (b_ rfl rfl rfl rfl) rfl rfl ?_
   refine aq (i:=15) (aN rfl rfl) rfl (b_ rfl rfl rfl rfl) rfl rfl ?_
   refine Any.ask (d':=30) (fun adP=>?_) (fun adP=>?_)
   ·refine aq (i:=16) (iQ rfl rfl) rfl (b_ rfl rfl rfl rfl) rfl rfl ?_
    refine aq (i:=18) (iQ rfl rfl) rfl (b_ rfl rfl rfl rfl) rfl rfl ?_
    refine ae (i:=17) rfl (b_ rfl rfl rfl rfl) rfl rfl (lQ (args:=[_]) rfl rfl (fun h' hE hL=>list_fn _ h' s hs) (fun v1 A1 hv1=>?_))
    refine⟨.inr (Keeps.app Keeps.refl),?_⟩
    refine ae (i:=19) rfl (b_ rfl rfl rfl rfl) rfl rfl (lQ (args:=[_]) rfl rfl (fun h' hE hL=>list_fn _ h' (eF all l) hbl) (fun v2 A2 hv2=>?_))
    refine⟨.inr (Keeps.app (Keeps.app Keeps.refl)),?_⟩
    refine Va (i:=20) (fun h' hE hL=>SL _ h' (zs (JL s)) (zs (JL (eF all l))) v1 v2 (hv1.sl fun b o hb=>hL b o (List.mem_append_right _ (List.mem_append_left _ hb))) (hv2.sl fun b o hb=>hL b o (List.mem_append_left _ hb)) (by rw[kT];exact Nat.le_trans (List.length_filter_le ..) (by simp))) ?_
    refine aq (i:=21) (fO rfl rfl rfl) rfl (b_ rfl rfl rfl rfl) rfl rfl ?_
    refine aq (i:=22) (dG rfl rfl rfl) rfl (b_ rfl rfl rfl rfl) rfl rfl ?_
    refine xq 23 (iH rfl rfl rfl) rfl ?_
    refine az ?_
    refine aA ?_
    refine W.bC rfl (fun c38=>?_) (fun c38=>?_)
    ·have hnew:s=eF all (s::l):=by
      rw[hcs,if_pos]
      apply hbt.1
      first | exact .inl (by omega) | exact .inr ⟨by omega,c38⟩
     try refine W.sb (F':=[(b9,.cells #[U8 (eF all l)] bU (0,0)),(yC,.cells #[.slice a ps.length cap,U8 s] bG (0,0)),(b10,.cells #[U8 s] bU (0,0)),(b7,gK (.hold l))]) (.left (.left .refl hv1.shut) hv2.shut) ?_
     refine W.region rfl ?_
     refine agX rfl ?_
     refine Ops.yG ?_
     refine Ops.nil ?_
     exact⟨.inr rfl,A_ ht hl' hnew⟩
    ·have hnew:eF all l=eF all (s::l):=by
      rw[hcs,if_neg]
      intro hh
      rcases hbt.2 hh with h1 | ⟨h1,h2⟩
      ·omega
      ·first | exact c38 h2 | omega
     try refine W.sb (F':=[(b9,.cells #[U8 (eF all l)] bU (0,0)),(yC,.cells #[.slice a ps.length cap,U8 s] bG (0,0)),(b10,.cells #[U8 s] bU (0,0)),(b7,gK (.hold l))]) (.left (.left .refl hv1.shut) hv2.shut) ?_
     refine W.skip ?_
     exact⟨.inr rfl,A_ ht hl' hnew⟩
   ·refine ap (i:=16) rfl rfl rfl rfl rfl rfl ?_
    refine ap (i:=18) rfl rfl rfl rfl rfl rfl ?_
    refine ap (i:=17) rfl rfl rfl rfl rfl rfl ?_
    refine ap (i:=19) rfl rfl rfl rfl rfl rfl ?_
    refine ap (i:=20) rfl rfl rfl rfl rfl rfl ?_
    refine ap (i:=21) rfl rfl rfl rfl rfl rfl ?_
    refine aq (i:=22) (iH rfl rfl rfl) rfl (b_ rfl rfl rfl rfl) rfl rfl ?_
    refine xq 23 (iH rfl rfl rfl) rfl ?_
    refine az ?_
    refine aA ?_
    refine W.bZ ?_
    have hnew:eF all l=eF all (s::l):=by
     rw[hcs,if_neg]
     intro hh
     rcases hbt.2 hh with h1 | ⟨h1,h2⟩
     ·omega
     ·first | exact c38 h2 | omega
    try refine W.sb (F':=[(b9,.cells #[U8 (eF all l)] bU (0,0)),(yC,.cells #[.slice a ps.length cap,U8 s] bG (0,0)),(b10,.cells #[U8 s] bU (0,0)),(b7,gK (.hold l))]) (.left (.left .refl hv1.shut) hv2.shut) ?_
    refine W.skip ?_
    exact⟨.inr rfl,A_ ht hl' hnew⟩

def Oo(ps:List Pn):List Nat:=JL (eF (2 ^ ps.length-1) ((List.range (2 ^ ps.length-1)).filter (CB ps)))
theorem KZ{ps:List Pn}{l:List Nat}:l.filterMap (fun j=>if CB ps j then some j else none)=l.filter (CB ps):=by
 induction l with
 | nil=>rfl
 | cons a l ih=>by_cases h:CB ps a <;>simp[h,ih,List.filterMap_cons,List.filter_cons]
theorem aaq{n:Nat}(hn:n≤4):IntKind.u8.wrap (IntKind.u8.wrap (1*2 ^ (min ((n:Int)).toNat IntKind.u8.bits))-1)=((2 ^ n-1:Nat):Int):=by
 rcases(by omega:n=0∨n=1∨n=2∨n=3∨n=4)with rfl | rfl | rfl | rfl | rfl <;>rfl
theorem ab2{n:Nat}(hn:n≤4):2 ^ n-1<16:=by
 rcases(by omega:n=0∨n=1∨n=2∨n=3∨n=4)with rfl | rfl | rfl | rfl | rfl <;>decide
theorem aar:∀s:Nat,s<16→IntKind.u8.wrap ((s:Int)+1)=((s+1:Nat):Int):=by decide
theorem YB(main:Side)(h:Hp)(ps:List Pn)(vp:Value)(hS:∀S,main.ok S→∃Fin,S=Mo prog Fin)(hmb:main.b=true)(hf:Sl h Pn.row vp ps)(hz:Zs h vp):dV prog main BZ #[vp] h [] (fun v A=>∃l,v= .tuple #[l,I (nV ps)]∧Os dL fH l (if nV ps=0 then zs (Oo ps)else[]) A):=by
 obtain⟨a,cap,rfl⟩:=hf.dA
 refine dV.aG Jw rfl (by show 1≤33;decide) [(0,(.slice a ps.length cap))] ⟨rfl,trivial⟩ ?_
 have hbe:kU ps []=nV ps:=by unfold kU;split <;>simp_all
 refine W.seq<|W.region rfl<|agb rfl rfl rfl<|agb rfl rfl rfl<|pq<|W.seq<|W.region rfl<|qm rfl rfl rfl ?_
 refine cp (fun h' hE hL=>Am _ h' ps (.slice a ps.length cap) [] _ (hf.ext hE) .nil (by simp)) ?_
 refine qm rfl rfl rfl<|oq (bD rfl rfl rfl) rfl wn rfl rfl<|oq (bD rfl rfl rfl) rfl wn rfl rfl ?_
 have hcs:∃cs:Array Value,(if kU ps []=0 then xJ (.slice a ps.length cap) 0 else LZ)= .agg cs∧cs.size=2∧ones cs.toList=true:=by
  split
  ·exact⟨_,rfl,rfl,rfl⟩
  ·exact⟨_,rfl,rfl,rfl⟩
 obtain⟨cs,hcs,hcs2,hcs1⟩:=hcs
 rw[hcs,hbe]
 refine Ops.new (fun wC=>?_)
 refine Ops.jP (n:=2) (vs:=cs) ?_ (hy:=by rfl) (hn:=hcs2) (h1:=hcs1)
 refine agb rfl rfl rfl<|pq<|W.seq<|W.seq<|W.region rfl<|qm rfl rfl rfl ?_
 refine agW (nG rfl rfl rfl) rfl ?_
 refine pq ?_
 refine W.bC rfl (fun c17=>?_) (fun c17=>?_)
 ·refine W.seq<|W.region rfl<|qm rfl rfl rfl<|agb rfl rfl rfl<|agb rfl rfl rfl<|pq<|W.ret<|aY ?_
  refine mg (vs:=[_,_]) ?_
  refine⟨_,rfl,?_⟩
  rw[if_neg (by simpa using c17)]
  exact .nil (by repeat(first | exact Shut.nil | refine Shut.cons rfl ?_))
 ·have h0:nV ps=0:=by simpa using c17
  have hok:=iP.yB h0
  have h4:=hok.len
  rw[hbe,if_pos h0]at hcs
  cases hcs
  refine W.skip<|aA<|W.seq<|W.region rfl ?_
  refine Ops.new (fun yC=>?_)
  refine Ops.yG ?_
  refine pq<|W.seq<|W.region rfl ?_
  refine Ops.new (fun Vo=>?_)
  refine pq<|W.seq<|W.region rfl ?_
  refine Ops.new (fun yD=>?_)
  refine pq<|W.seq<|W.region rfl<|qm rfl rfl rfl ?_
  refine agW (dM rfl rfl) rfl ?_
  refine agW (Wx rfl rfl rfl (by omega)) rfl ?_
  refine KU (M_ rfl rfl rfl) (congrArg (Value.int .u8) (aaq h4)) rfl wn rfl rfl ?_
  refine Ops.new (fun Uw=>?_)
  refine Ops.yG ?_
  refine pq ?_
  obtain⟨all,hall⟩:∃n,2 ^ ps.length-1=n:=⟨_,rfl⟩
  have hal:all<16:=hall▸ab2 h4
  rw[hall]
  have hm:(jC ps all Vo yD Uw).mu≠none:=fun h=>by cases h
  refine W.sb (F':=(wC,.cells #[.slice a ps.length cap,U8 0] bG (0,0))::(yC,.cells #[.func (.func jO) #[] #[]] 124 (0,0))::(yD,zo wo ⟨0,0,0⟩)::(Vo,BQ G5 ⟨0,0,0,0,0⟩)::(Uw,.cells #[U8 all] bU (0,0))::[]) (.dF ?_) ?_
  ·exact(List.reverse_perm [(wC,_),(yC,_),(yD,_),(Vo,_),(Uw,_)]).symm.trans (.cons _ (.swap _ _ _))
  refine W.freeze (b:=wC) rfl (fun h5 hE5 hb4 hz4=>?_)
  refine W.freeze (b:=yC) rfl (fun h6 hE6 hb6 hz6=>?_)
  refine W.seq2 ?_
  refine W.region rfl ?_
  refine agX rfl ?_
  refine qm rfl rfl rfl<|pq ?_
  refine W2.group (F:=[]) (jC ps all Vo yD Uw) all (.cells #[U8 all] bU (0,0)) hS hmb (by omega) (fun _=>⟨rfl,fun s hs=>by rcases List.mem_singleton.1 hs with rfl;exact hal⟩) (fun l c h=>by rw[h.1];rfl) (fun hno=>?_)
  refine W.two ?_
  refine W.block ?_
  refine W.aa1 (fun s left=>s+left=all) (fun s _=>[(24,U8 s),(23,U8 all),(4,bI wC),(6,bI yC),(7,bI Vo),(8,bI yD),(9,bI Uw)]) (fun s left=>[(yD,sK 0 s left)]) (fun _ left=>left) 0 all (by omega) ⟨rfl,rfl,rfl,rfl,rfl,rfl,rfl,trivial⟩ .refl ?_
  rintro s left hsl
  refine W.seq<|W.region rfl ?_
  refine agW (fO rfl rfl rfl) rfl ?_
  refine pq<|W.seq ?_
  refine W.bC rfl (fun c25=>?_) (fun c25=>?_)
  ·obtain⟨left,rfl⟩:∃n,left=n+1:=⟨left-1,by omega⟩
   refine W.skip<|aA<|W.seq<|W.block<|W.seq<|W.region rfl<|qm rfl rfl rfl ?_
   refine Ops.new (fun Oj=>?_)
   refine Ops.yG ?_
   refine pq<|W.seq<|W.region rfl ?_
   refine owa (jC ps all Vo yD Uw) (vs:=[bI yD,I 1]) (fun _ h=>h) rfl rfl rfl rfl ZV (.tail .head) ?_
   refine pq<|W.region rfl ?_
   refine agW (y7 rfl rfl rfl) rfl ?_
   have hEa:Ext h h6:=hE5.trans hE6
   refine owg (jC ps all Vo yD Uw) (A:=[(Oj,.cells #[U8 s] bU (0,0))]) (fun _ h=>h) rfl rfl rfl rfl (fun b o hb=>by cases List.mem_singleton.1 hb;rfl) (fun _=>hm) .head (fun kc M afp=>?_) ?_
   ·exact closer (zI h6) ps (.slice a ps.length cap) all s wC yC Vo yD Uw Oj _ _ _ _ kc M ((hf.ext hEa).told (hz.ext hEa)) hok (by omega) (Ji (hE6.2 _ hz4) (hE6.1 _ _ hb4) rfl) (Ji hz6 hb6 rfl) afp
   refine Ops.nil<|dI<|aA<|W.region rfl ?_
   refine KU (MZ rfl rfl rfl) (congrArg (Value.int .u8) (aar s (by omega))) rfl wn rfl rfl ?_
   refine qm rfl rfl rfl<|pq ?_
   refine⟨rfl,s+1,left,by omega,by omega,⟨rfl,rfl,rfl,rfl,rfl,rfl,rfl,trivial⟩,.refl⟩
  ·obtain rfl:left=0:=by omega
   obtain rfl:s=all:=by omega
   refine W.exit<|bP<|bP<|gG<|aA<|W.seq<|W.region rfl ?_
   refine owt (jC ps s Vo yD Uw) (vs:=[bI yD]) (fun _ h=>h) rfl rfl rfl rfl ZX .head (fun l c As hlen hR hJ=>?_)
   obtain⟨⟨rfl,adQ⟩,hp⟩:=hJ hm
   have hfl:As.flatten=[]:=List.flatten_eq_nil_iff.2 fun A hA=>by obtain⟨i,hi⟩:=List.getElem?_of_mem hA;exact hR i A hi
   have hbk:back (jC ps s Vo yD Uw) (.cells #[U8 (eF s l)] bU (0,0)) As=[(Uw,.cells #[U8 (eF s l)] bU (0,0))]:=by unfold back;rw[if_neg hm,hfl];rfl
   rw[hbk]
   have hbl:eF s l<16:=Qq adQ
   have afq:JL (eF s l)=Oo ps:=by
    have hp2:l.Perm ((List.range s).filter (CB ps)):=by rw[←KZ];exact hp
    rw[Oo,hall,JM hp2 adQ]
   refine pq<|W.seq<|W.region rfl ?_
   refine agX rfl ?_
   refine c0 (fun h' hE hL=>list_fn _ h' (eF s l) hbl) (fun v A hv=>?_)
   rw[afq]at hv
   refine Ops.sb (F':=(yD,Bj)::(A++[(Uw,.cells #[U8 (eF s l)] bU (0,0))])) (.dF (List.Perm.trans (List.perm_append_comm (l₁:=[_]) (l₂:=A++[_])) (.of_eq (List.append_assoc ..)))) ?_
   refine agb rfl rfl rfl<|agb rfl rfl rfl<|pq<|W.ret ?_
   refine⟨.inr rfl,_,rfl,?_⟩
   refine mg (vs:=[_,_]) ?_
   refine⟨v,by rw[h0];rfl,?_⟩
   rw[if_pos h0]
   exact hv.more (.cons rfl .nil)
end Go.aS
