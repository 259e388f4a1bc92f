/- Lots of syrup, room, and who gets what. Conditions: none; no program in sight. (And 13 texts more.) -/
import Derived.Test.YtkkdgffaohidnaaGreatDoorR10
import Derived.Test.YtkkdgffaohidnaaGreatDoorR11
set_option linter.unusedVariables false
set_option linter.unusedSimpArgs false
set_option linter.unusedSectionVars false

/- Lots of syrup, room, and who gets what. Conditions: none; no program in sight. -/
namespace Go.aS
set_option linter.unusedVariables false
def Ar(l:Lt):Bool:=decide (outs l.qu 0 12)|| decide (outs l.po 1 9)
def Ig(ls:List Lt):Int:=if 4<ls.length then 6 else if ls.any Ar then 1 else 0
def K_(n:Nat)(rs:List Int):Int:=if rs.length<n then 7 else if n<rs.length then 6 else if rs.any (fun r=>decide (outs r 0 20))then 1 else 0
def ji(ps:List Pn)(ls:List Lt)(rs:List Int):Int:=if nV ps≠0 then nV ps else if Ig ls≠0 then Ig ls else K_ ps.length rs
structure Au(ls:List Lt):Prop where
 len:ls.length≤4
 lot:∀l∈ls,0≤l.qu∧l.qu≤12∧1≤l.po∧l.po≤9
theorem Au.yB{ls:List Lt}(h:Ig ls=0):Au ls:=by
 unfold Ig at h
 split at h
 ·cases h
 split at h
 ·cases h
 ·rename_i h1 h2
  refine⟨by omega,fun l hl=>?_⟩
  have:Ar l=false:=by
   rw[Bool.not_eq_true,List.any_eq_false]at h2
   simpa using h2 l hl
  have h3:¬outs l.qu 0 12∧¬outs l.po 1 9:=by simpa[Ar]using this
  unfold outs at h3
  omega
structure Aw(n:Nat)(rs:List Int):Prop where
 len:rs.length=n
 room:∀r∈rs,0≤r∧r≤40
theorem Aw.yB{n:Nat}{rs:List Int}(h:K_ n rs=0):Aw n rs:=by
 unfold K_ at h
 split at h
 ·cases h
 split at h
 ·cases h
 split at h
 ·cases h
 ·rename_i h1 h2 h3
  refine⟨by omega,fun r hr=>?_⟩
  rw[Bool.not_eq_true,List.any_eq_false]at h3
  have h4:¬outs r 0 20:=by simpa using h3 r hr
  unfold outs at h4
  omega

def fits(l:Lt)(rs:List Int)(p:Nat):Bool:= !decide (rs.getD p 0<l.po)
def less(l:Lt)(rs:List Int)(p:Nat):List Int:=rs.set p (rs.getD p 0-l.po)
def Dv(ps:List Pn):List Lt→List Int→List Int→List (List Int)
 | [],_,pre=>[pre]
 | l::ls,rs,pre=>Dv ps ls rs (pre++[-1])++(bQ ps 0 l.qu.toNat).flatMap fun p=>if fits l rs p then Dv ps ls (less l rs p) (pre++[(p:Int)])else[]
def Ba:List Lt→List Int→Int
 | l::ls,a::s=>(if 0≤a then l.po else 0)+Ba ls s
 | _,_=>0
theorem Qs{l:Lt}{rs:List Int}{p:Nat}:(less l rs p).length=rs.length:=by simp[less]
theorem aas{l:Lt}{rs:List Int}{p:Nat}(h:∀r∈rs,0≤r∧r≤40)(hl:1≤l.po∧l.po≤9)(hp:p<rs.length)(hf:fits l rs p=true):∀r∈less l rs p,0≤r∧r≤40:=by
 intro r hr
 simp only[fits,Bool.not_eq_true',decide_eq_false_iff_not]at hf
 rcases List.mem_or_eq_of_mem_set hr with h1 | h1
 ·exact h r h1
 ·have h2:rs.getD p 0∈rs:=by
   rw[List.getD_eq_getElem?_getD,List.getElem?_eq_getElem hp];exact List.getElem_mem hp
  have:=h _ h2
  omega
theorem Ot{ps:List Pn}:∀{ls:List Lt} {rs pre s:List Int},s∈Dv ps ls rs pre→s.length=pre.length+ls.length∧s.take pre.length=pre∧∀a∈s.drop pre.length,-1≤a∧a<4
 | [],rs,pre,s,h=>by
  have:s=pre:=by simpa[Dv]using h
  subst this;simp
 | l::ls,rs,pre,s,h=>by
  have key:∀(a:Int) (rs':List Int),-1≤a→a<4→s∈Dv ps ls rs' (pre++[a])→s.length=pre.length+(l::ls).length∧s.take pre.length=pre∧∀a∈s.drop pre.length,-1≤a∧a<4:=by
   intro a rs' h0 h1 hs
   obtain⟨q1,q2,q3⟩:=Ot hs
   rw[List.length_append,List.length_singleton]at q1 q2 q3
   have e:s=(pre++[a])++s.drop (pre.length+1):=by
    conv=>lhs;rw[←List.take_append_drop (pre.length+1) s,q2]
   refine⟨by simp only[List.length_cons];omega,?_,?_⟩
   ·rw[e,List.append_assoc,List.take_left]
   ·rw[e,List.append_assoc,List.drop_left]
    intro b hb
    rcases List.mem_append.1 hb with hb | hb
    ·rw[List.mem_singleton.1 hb];exact⟨h0,h1⟩
    ·exact q3 b hb
  simp only[Dv,List.mem_append,List.mem_flatMap]at h
  rcases h with h | ⟨p,hp,h⟩
  ·exact key _ _ (by omega) (by omega) h
  ·split at h
   ·have:=(Ak.1 hp).1
    exact key _ _ (by omega) (by omega) h
   ·cases h
theorem Ou{ps:List Pn}:∀{ls:List Lt} {rs pre:List Int},Dv ps ls rs pre≠[]
 | [],_,_=>by simp[Dv]
 | l::ls,rs,pre=>by
  simp only[Dv]
  intro h
  exact Ou (List.append_eq_nil_iff.1 h).1
theorem qX{ps:List Pn}:∀{ls:List Lt} {rs pre:List Int},(Dv ps ls rs pre).Nodup
 | [],_,_=>by simp[Dv]
 | l::ls,rs,pre=>by
  have hat:∀{a:Int} {rs' s:List Int},s∈Dv ps ls rs' (pre++[a])→s[pre.length]? =some a:=by
   intro a rs' s hs
   obtain⟨q1,q2,_⟩:=Ot hs
   rw[List.length_append,List.length_singleton]at q2
   have:(s.take (pre.length+1))[pre.length]? =some a:=by rw[q2];simp
   rwa[List.getElem?_take_of_lt (by omega)]at this
  rw[Dv,List.nodup_append]
  refine⟨qX,?_,?_⟩
  ·have hpw:(bQ ps 0 l.qu.toNat).Pairwise (· < ·):=List.pairwise_lt_range.filter _
   have gen:∀os:List Nat,os.Pairwise (· < ·)→(os.flatMap fun p=>if fits l rs p then Dv ps ls (less l rs p) (pre++[(p:Int)])else[]).Nodup:=by
    intro os
    induction os with
    | nil=>simp
    | cons p os ih=>
     intro hp
     rw[List.pairwise_cons]at hp
     rw[List.flatMap_cons,List.nodup_append]
     refine⟨by split;exact qX;simp,ih hp.2,fun s hs t ht e=>?_⟩
     subst e
     split at hs
     ·obtain⟨p',hp',ht⟩:=List.mem_flatMap.1 ht
      split at ht
      ·have h1:=hat hs
       have h2:=hat ht
       rw[h1]at h2
       have h3:=hp.1 p' hp'
       injection h2 with h2
       omega
      ·cases ht
     ·cases hs
   exact gen _ hpw
  ·intro s hs t ht e
   subst e
   obtain⟨p,hp,ht⟩:=List.mem_flatMap.1 ht
   split at ht
   ·have h1:=hat hs
    have h2:=hat ht
    rw[h1]at h2
    injection h2 with h2
    omega
   ·cases ht
theorem ab3{ls:List Lt}(h:∀l∈ls,0≤l.qu∧l.qu≤12∧1≤l.po∧l.po≤9):∀{s:List Int},0≤Ba ls s∧Ba ls s≤9*ls.length:=by
 induction ls with
 | nil=>intro s;simp[Ba]
 | cons l ls ih=>
  intro s
  cases s with
  | nil=>simp only[Ba,List.length_cons];omega
  | cons a s=>
   have:=ih (fun l hl=>h l (List.mem_cons_of_mem _ hl)) (s:=s)
   have:=h l (List.mem_cons_self ..)
   simp only[Ba,List.length_cons]
   split <;>omega

def jQ{X:Type}[DecidableEq X](s:Int×List X)(x:X)(n:Int):Int×List X:=
 if s.2≠[]∧n<s.1 then s else
 let l:=if s.1<n then[]else s.2
 (n,if x∈l then l else l++[x])
def wE{X:Type}[DecidableEq X](f:X→Int)(xs:List X):Int×List X:=xs.foldl (fun s x=>jQ s x (f x)) (0,[])
theorem J4{X:Type}[DecidableEq X]{f:X→Int}{xs:List X}{k:Nat}{x:X}(h:xs[k]? =some x):wE f (xs.take (k+1))=jQ (wE f (xs.take k)) x (f x):=by
 rw[wE,List.take_add_one,h,List.foldl_append];rfl
structure lY{X:Type}(f:X→Int)(xs:List X)(r:Int×List X):Prop where
 le:∀x∈xs,f x≤r.1
 eq:r.2=xs.filter fun x=>decide (f x=r.1)
 ne:xs≠[]→r.2≠[]
theorem lY.add{X:Type}[DecidableEq X]{f:X→Int}{xs:List X}{r:Int×List X}{x:X}(H:lY f xs r)(hx:x∉xs):lY f (xs++[x]) (jQ r x (f x)):=by
  obtain⟨h1,h2,h3⟩:=H
  obtain⟨m,l⟩:=r
  simp only at h1 h2 h3
  have hxl:x∉l:=by rw[h2];exact fun h=>hx (List.mem_filter.1 h).1
  simp only[jQ]
  by_cases hc:l≠[]∧f x<m
  ·rw[if_pos hc]
   refine⟨fun y hy=>?_,?_,fun _=>hc.1⟩
   ·rcases List.mem_append.1 hy with hy | hy
    ·exact h1 y hy
    ·rw[List.mem_singleton.1 hy];exact Int.le_of_lt hc.2
   ·rw[List.filter_append,←h2]
    have:f x≠m:=by omega
    simp[this]
  ·rw[if_neg hc]
   by_cases hm:m<f x
   ·simp only[if_pos hm,List.not_mem_nil,if_false,List.nil_append]
    refine⟨fun y hy=>?_,?_,fun _=>by simp⟩
    ·rcases List.mem_append.1 hy with hy | hy
     ·have:=h1 y hy;show f y≤f x;omega
     ·rw[List.mem_singleton.1 hy];exact Int.le_refl _
    ·rw[List.filter_append]
     have:xs.filter (fun y=>decide (f y=f x))=[]:=by
      rw[List.filter_eq_nil_iff]
      intro y hy
      have:=h1 y hy
      simp;omega
     simp[this]
   ·simp only[if_neg hm,if_neg hxl]
    have hxs:xs=[]∨f x=m:=by
     by_cases hxs:xs=[]
     ·exact .inl hxs
     ·have:=h3 hxs
      exact .inr (by by_cases h:f x<m;exact absurd ⟨this,h⟩ hc;omega)
    rcases hxs with rfl | hfm
    ·have hl:l=[]:=by rw[h2];rfl
     subst hl
     have h9:∀y∈[]++[x],f y≤f x:=fun y hy=>by
      have hy':y=x:=List.mem_singleton.1 hy
      rw[hy'];exact Int.le_refl _
     exact⟨h9,by simp,fun _=>by simp⟩
    ·rw[hfm]
     refine⟨fun y hy=>?_,?_,fun _=>by simp⟩
     ·rcases List.mem_append.1 hy with hy | hy
      ·exact h1 y hy
      ·rw[List.mem_singleton.1 hy,hfm];exact Int.le_refl _
     ·rw[List.filter_append,←h2]
      simp[hfm]
theorem MB{X:Type}[DecidableEq X]{f:X→Int}:∀{ys xs:List X} {r:Int×List X},lY f xs r→(xs++ys).Nodup→lY f (xs++ys) (ys.foldl (fun s x=>jQ s x (f x)) r)
 | [],xs,r,h,_=>by simpa using h
 | y::ys,xs,r,h,hn=>by
  have hy:y∉xs:=fun hy=>(List.nodup_append.1 hn).2.2 y hy y (List.mem_cons_self ..) rfl
  have:=MB (ys:=ys) (h.add hy) (by simpa using hn)
  simpa using this
theorem EU{X:Type}[DecidableEq X]{f:X→Int}{xs:List X}(h:xs.Nodup):lY f xs (wE f xs):=
 MB (xs:=[]) ⟨fun x h=>(by cases h),rfl,fun h=>absurd rfl h⟩ h
theorem lY.one{X:Type}{f:X→Int}{xs:List X}{r r':Int×List X}(h:lY f xs r)(h':lY f xs r')(hx:xs≠[]):r=r':=by
 have key:∀{r r':Int×List X},lY f xs r→lY f xs r'→r.1≤r'.1:=by
  intro r r' h h'
  obtain⟨x,hm⟩:=List.exists_mem_of_ne_nil _ (h.ne hx)
  rw[h.eq]at hm
  obtain⟨q1,q2⟩:=List.mem_filter.1 hm
  have:=h'.le x q1
  simp only[decide_eq_true_eq]at q2
  omega
 have e:r.1=r'.1:=Int.le_antisymm (key h h') (key h' h)
 exact Prod.ext e (by rw[h.eq,h'.eq,e])

def yS(ps:List Pn)(ls:List Lt)(rs:List Int):List (List Int):=Dv ps ls rs []
def oZ(ps:List Pn)(ls:List Lt)(rs:List Int):Int×List (List Int):=wE (Ba ls) (yS ps ls rs)
end Go.aS

/- Iterators that work on a part that is handed to them, and hand it back as it was. Conditions: none; over any program. -/
namespace Go.aS
def adR{X:Type}(Val:X→Value→ah→Prop)(xs:List X)(J:Nat→ah→Prop)(K:Nat→Value→ah→Prop)(R:ah)(A':ah):Prop:=
 (∃B,J xs.length B∧Sb (B++R) A')∨∃k x v S B,xs[k]? =some x∧Val x v S∧K k v B∧Sb (B++S++R) A'
def Qu(P:Program)(main:Side)(fv:Value){X:Type}(Val:X→Value→ah→Prop)(xs:List X)(R:ah)(h:Hp):Prop:=
 ∀h',Ext h h'→∀(yv:Value),one yv=true→∀(J:Nat→ah→Prop) (K:Nat→Value→ah→Prop),Vw P main yv h' Val xs J K→∀A,J 0 A→gZ P main fv [yv] h' (A++R) fun _ A'=>adR Val xs J K R A'
theorem Qu.ext{P:Program}{main:Side}{fv:Value}{X:Type}{Val:X→Value→ah→Prop}{xs:List X}{R:ah}{h h':Hp}(H:Qu P main fv Val xs R h)(e:Ext h h'):Qu P main fv Val xs R h':=
 fun h'' e'=>H h'' (e.trans e')

theorem W.rangeS{x:Cx}{Q:Post}{ρ:Env}{ds:List Deferred}{F:ah}{f:Operand}{t:Tmp}{us bd:Code}{fv:Value}{X:Type}{Val:X→Value→ah→Prop}{xs:List X}(R:ah)(hf:ev ρ f=some fv)(hro:x.ro=none)(ht:Nat.blt t x.n=true)
  (D:Nat→ah→Prop) (DX:Nat→Value→Exit→ah→Prop) {A₀:ah} {g_:ah→ah} (hs:Seg (A₀++R) F g_) (h0:D 0 A₀)
  (hi:∀h',Ext x.h h'→fF (g_ []) h'→Qu x.P x.main fv Val xs R h')
  (
   body:∀k p v S A,xs[k]? =some p→Val p v S→D k A→∀l h',Ext x.h h'→fF (g_ []) h'→fF S h'→W {x with ro:=some l,h:=h'} us (fun e xP xQ qp=>e= .normal∧xQ=[]∧∀h',Ext x.h h'→fF (g_ []) h'→fF S h'→
   W {x with ro:=some l,h:=h'} bd (fun e _ ds₂ kP=>ds₂=[]∧((e= .normal∧∃B,D (k+1) B∧Sb B kP)∨((tK e).isSome=true∧∃B,DX k v e B∧Sb B kP))) xP [] qp) ((t,v)::ρ) [] A)
  (after:∀e A,((e= .normal∧D xs.length A)∨∃k p v S B,xs[k]? =some p∧Val p v S∧DX k v e B∧A=B++S)→∀d,Q e ρ (mark d::ds) ((d,.deferred (some []))::g_ (A++R))):W x (.rangeFunc f #[t] us bd) Q ρ ds F:=by
 refine W.rangeFunc hf hro fun tmps hρ hsz l d=>?_
 let L (s:LoopState) (pd:Option Code):Obj:=.loop {state:=s,pending:=pd,fn:=x.fn,tmps,params:= #[t],assign:=us,body:=bd,defers:=d}
 let J:Nat→ah→Prop:=fun k A=>∃B,D k B∧A=B++[(l,L .ready none)]
 let K:Nat→Value→ah→Prop:=fun k v A=>∃B e c,DX k v e B∧tK e=some c∧A=B++[(l,L .done (some c))]
 refine⟨(A₀++[(l,L .ready none)])++R,(d,.deferred (some []))::g_ [],fun _ A'=>adR Val xs J K R A',?_,?_,?_⟩
 ·have p1:((A₀++[(l,L .ready none)])++R).Perm ((l,L .ready none)::(A₀++R)):=by
   rw[List.append_assoc]
   exact List.perm_middle
  refine(p1.append_right _).trans ?_
  refine List.Perm.cons _ ?_
  exact List.perm_middle.trans (hs.perm.1.cons _)
 ·intro h' e1 e2
  have e3:fF (g_ []) h':=fun b o hb=>e2 b o (List.mem_cons_of_mem _ hb)
  refine hi h' e1 e3 h' ⟨fun _ _ z=>z,fun _ z=>z⟩ _ rfl J K ?_ _ ⟨A₀,h0,rfl⟩
  rintro h'' e4 k p v S A hp hV hS ⟨B,hB,rfl⟩
  have hE:Ext x.h h'':=e1.trans e4
  have hL:fF (g_ []) h'':=fun b o hb=>e4.1 _ _ (e3 b o hb)
  refine⟨_,_,_,rfl,?_⟩
  simp only[invoke,Instr.yield,Instr.getLoop,bind_eq,au,bind_assoc]
  refine⟨L .ready none,.inr (List.mem_append_right _ (List.mem_cons_self ..)),(fun _ _ _=>by simp[L]),rfl,?_⟩
  have ez:Array.foldl (fun(tmps:Array Value) (x:Tmp×Value)=>tmps.setIfInBounds x.1 x.2) tmps (#[t].zip #[v])=tmps.setIfInBounds t v:=by simp
  show ni x.P x.main h'' _ (.round l x.fn (Array.foldl (fun(tmps:Array Value) (x:Tmp×Value)=>tmps.setIfInBounds x.1 x.2) tmps (#[t].zip #[v])) us bd) _
  rw[ez]
  have hlt:t<tmps.size:=by rw[hsz];exact Nat.le_of_ble_eq_true ht
  have WG:dQ ((t,v)::ρ) (tmps.setIfInBounds t v):=hρ.put hlt _
  have hsz':(tmps.setIfInBounds t v).size=x.n:=by simpa using hsz
  show Rnd x.P x.main l x.fn (tmps.setIfInBounds t v) us bd h'' _ _
  refine Rnd.aG _ WG ?_
  rw[hsz']
  refine(W.frame (x:={x with ro:=some l,h:=h''}) fun h₃ e5 _=>body k p v S B hp hV hB l h₃ (hE.trans e5) (fun b o hb=>e5.1 _ _ (hL b o hb)) (fun b o hb=>e5.1 _ _ (hS b o hb))).mono ?_
  rintro e xP xQ qp ⟨A',⟨rfl,rfl,hbd⟩,rfl⟩
  refine⟨rfl,rfl,?_⟩
  simp only[Instr.beginRound,Instr.getLoop,bind_eq,au,bind_assoc]
  refine⟨L .ready none,.inr (List.mem_append_right _ (List.mem_cons_self ..)),(fun _ _ _=>by simp[L]),rfl,?_⟩
  refine⟨L .ready none,A',[],rfl,(fun _ _ _=>by simp[L]),rfl,?_⟩
  show W _ _ _ _ _ (A'++[(l,L .busy none)])
  refine(W.frame (x:={x with ro:=some l,h:=h''}) fun h₃ e5 _=>hbd h₃ (hE.trans e5) (fun b o hb=>e5.1 _ _ (hL b o hb)) (fun b o hb=>e5.1 _ _ (hS b o hb))).mono ?_
  rintro e tC ds₂ kP ⟨A₂,⟨rfl,hcase⟩,rfl⟩
  rcases hcase with⟨rfl,Bg,BO,hsb⟩ | ⟨hj,Bg,BO,hsb⟩
  ·refine⟨rfl,none,rfl,?_⟩
   simp only[Instr.endRound,Instr.getLoop,bind_eq,au,bind_assoc]
   refine⟨L .busy none,.inr (List.mem_append_right _ (List.mem_cons_self ..)),(fun _ _ _=>by simp[L]),rfl,?_⟩
   refine⟨L .busy none,A₂,[],rfl,(fun _ _ _=>by simp[L]),rfl,?_⟩
   exact .inl ⟨rfl,Bg++[(l,L .ready none)],⟨Bg,BO,rfl⟩,hsb.app .refl⟩
  ·obtain⟨c,hc⟩:=Option.isSome_iff_exists.1 hj
   refine⟨rfl,some c,?_,?_⟩
   ·have:=uy (e:=some e) (fun x hx=>by cases hx;exact hj)
    rw[←hc];exact this
   simp only[Instr.endRound,Instr.getLoop,bind_eq,au,bind_assoc]
   refine⟨L .busy none,.inr (List.mem_append_right _ (List.mem_cons_self ..)),(fun _ _ _=>by simp[L]),rfl,?_⟩
   refine⟨L .busy none,A₂,[],rfl,(fun _ _ _=>by simp[L]),rfl,?_⟩
   exact .inr ⟨rfl,Bg++[(l,L .done (some c))],⟨Bg,e,c,BO,hc,rfl⟩,hsb.app .refl⟩
 ·have p2:∀(A:ah) (o:Obj),((d,Obj.deferred (some []))::g_ (A++R)).Perm ((A++R)++(d,.deferred (some []))::g_ []):=fun A o=>((hs.perm.2 (A++R)).cons _).trans (List.perm_middle (l₁:=A++R)).symm
  have p3:∀(A:ah) (y z:Nat×Obj) (G:ah),((A++[y])++R++G).Perm (y::((A++R)++G)):=fun A y z G=>by
   rw[List.append_assoc,List.append_assoc,List.append_assoc]
   exact List.perm_middle
  rintro _ A' (⟨B,⟨A,hA,rfl⟩,hsub⟩ | ⟨k,p,v,S,B,hp,hV,⟨A,e,c,hA,hc,rfl⟩,hsub⟩)
  ·refine⟨A++[(l,L .ready none)]++R,hsub,?_⟩
   simp only[Instr.endLoop,Instr.getLoop,bind_eq,au,bind_assoc]
   refine⟨L .ready none,.inr (by simp),(fun _ _ _=>by simp[L]),rfl,?_⟩
   refine⟨L .ready none,A,R++(d,.deferred (some []))::g_ [],by simp,(fun _ _ _=>by simp[L]),rfl,?_⟩
   refine⟨(d,.deferred (some []))::g_ (A++R),?_,after _ A (.inl ⟨rfl,hA⟩) d⟩
   refine Sb.trans (Sb.dF (p2 A (L .ready none))) ?_
   rw[List.append_assoc]
   exact Sb.app .refl (Sb.skip rfl .refl)
  ·refine⟨A++[(l,L .done (some c))]++S++R,hsub,?_⟩
   simp only[Instr.endLoop,Instr.getLoop,bind_eq,au,bind_assoc]
   refine⟨L .done (some c),.inr (by simp),(fun _ _ _=>by simp[L]),rfl,?_⟩
   refine⟨L .done (some c),A,S++(R++(d,.deferred (some []))::g_ []),by simp,(fun _ _ _=>by simp[L]),rfl,?_⟩
   show W x c Q ρ (mark d::ds) _
   refine W.sb (F':=(d,.deferred (some []))::g_ ((A++S)++R)) ?_ ?_
   ·refine Sb.trans (Sb.dF (p2 (A++S) (L .ready none))) ?_
    rw[List.append_assoc,List.append_assoc]
    exact Sb.app .refl (Sb.skip rfl .refl)
   ·have q:=after e (A++S) (.inr ⟨k,p,v,S,A,hp,hV,hA,rfl⟩) d
    cases e <;>simp only[tK,Option.some.injEq]at hc <;>first | (cases hc;done) | subst hc
    ·exact W.exit q
    ·exact W.goto q
    ·exact W.ret q
end Go.aS

/- Sharing out: what is asked is checked. Conditions: none; over the given program. -/
namespace Go.aS
set_option maxRecDepth 100000
set_option maxHeartbeats 4000000
theorem Ov(main:Side)(h:Hp)(ls:List Lt)(vl:Value)(hf:Sl h Lt.row vl ls):Pu prog main ug #[vl] h (I (Ig ls)):=by
 obtain⟨a,cap,rfl⟩:=hf.dA
 refine dV.aG CZ rfl (by show 1≤23;decide) [(0,.slice a ls.length cap)] ⟨rfl,trivial⟩ ?_
 refine W.seq<|W.region rfl<|agb rfl rfl rfl<|pq<|W.seq<|W.seq<|W.region rfl<|qm rfl rfl rfl ?_
 refine agW (dM rfl rfl) rfl ?_
 refine agW (rC rfl rfl rfl) rfl ?_
 refine pq ?_
 refine W.bC rfl (fun c7=>?_) (fun c7=>?_)
 ·refine W.seq<|W.region rfl<|agb rfl rfl rfl<|pq<|W.ret<|aY ?_
  refine uZ ?_
  show I _=I _;congr 1;simp only[Ig];rw[if_pos (by omega)]
 ·refine W.skip<|aA<|W.seq<|W.seq<|W.region rfl<|qm rfl rfl rfl ?_
  refine agW (dM rfl rfl) rfl ?_
  refine qm rfl rfl rfl<|pq<|W.block ?_
  refine W.loop (σ:=Nat) (fun k=>k≤ls.length∧ls.any Ar=(ls.drop k).any Ar) (fun k=>[(10,I k),(9,I ls.length),(8,.slice a ls.length cap)]) (fun _=>[]) (fun k=>ls.length-k) 0 ⟨Nat.zero_le _,rfl⟩ ⟨rfl,rfl,rfl,trivial⟩ .refl ?_
  rintro k ⟨hk,hd⟩
  refine W.seq<|W.region rfl ?_
  refine agW (fO rfl rfl rfl) rfl ?_
  refine pq<|W.seq ?_
  refine W.bC rfl (fun c11=>?_) (fun c11=>?_)
  ·obtain⟨p,hp,hdr⟩:=has (show k<ls.length by omega)
   rw[hdr,List.any_cons]at hd
   obtain⟨b,off,c,E,fz,rfl,hb,hx,hy,hz⟩:=hf.at hp
   have hx':c.extract (off+k*2) (off+k*2+2)= #[I p.qu,I p.po]:=hx
   clear hx hz
   refine W.skip<|aA<|W.seq<|W.block<|W.seq<|W.region rfl ?_
   refine ag3 rfl ?_
   refine ag2 rfl ?_
   refine Ops.new (fun wC=>?_)
   first | refine Ops.jP ?_ | refine Ops.nY ?_
   refine pq<|W.seq<|W.region rfl ?_
   refine agY rfl ?_
   refine agX rfl ?_
   refine cp (fun h' hE hL=>jo _ h' _ _ _) ?_
   refine qm rfl rfl rfl ?_
   refine Ops.ask (fun abR=>?_) (fun abR=>?_)
   ·refine Ops.no ?_
    refine Ops.no ?_
    refine Ops.no ?_
    refine agW (dG rfl rfl rfl) rfl ?_
    refine pq ?_
    refine W.dW ?_
    refine W.seq<|W.region rfl<|agb rfl rfl rfl<|pq<|W.ret<|cZ<|aY<|aY<|cZ ?_
    refine aY ?_
    refine uZ ?_
    have hc:Ar p=true:=by
     simp only[Ar,Bool.or_eq_true,decide_eq_true_eq]
     first | exact .inl ‹outs p.qu 0 12› | exact .inr ‹outs p.po 1 9›
    show I _=I _;congr 1;simp only[Ig];rw[if_neg (by omega),hd,hc];rfl
   ·refine oq (ay rfl rfl) rfl (ak rfl rfl rfl) rfl rfl ?_
    refine oq (iQ rfl rfl) rfl (ak rfl rfl rfl) rfl rfl ?_
    refine cp (fun h' hE hL=>jo _ h' _ _ _) ?_
    refine agW (iH rfl rfl rfl) rfl ?_
    refine pq ?_
    refine W.bC rfl (fun c21=>?_) (fun c21=>?_)
    ·refine W.seq<|W.region rfl<|agb rfl rfl rfl<|pq<|W.ret<|cZ<|aY<|aY<|cZ ?_
     refine aY ?_
     refine uZ ?_
     have hc:Ar p=true:=by
      simp only[Ar,Bool.or_eq_true,decide_eq_true_eq]
      first | exact .inl ‹outs p.qu 0 12› | exact .inr ‹outs p.po 1 9›
     show I _=I _;congr 1;simp only[Ig];rw[if_neg (by omega),hd,hc];rfl
    ·refine W.skip<|dI<|aA<|W.region rfl ?_
     refine ag1 rfl ?_
     refine qm rfl rfl rfl<|pq ?_
     have hc:Ar p=false:=by
      simp only[Ar,Bool.or_eq_false_iff,decide_eq_false_iff_not]
      exact⟨‹¬outs p.qu 0 12›,‹¬outs p.po 1 9›⟩
     rw[hc,Bool.false_or]at hd
     exact⟨rfl,k+1,⟨by omega,hd⟩,by omega,⟨rfl,rfl,rfl,trivial⟩,TW⟩
  ·have:k=ls.length:=by omega
   subst this
   refine W.exit<|bP<|bP<|gG<|aA<|W.seq<|W.region rfl<|agb rfl rfl rfl<|pq ?_
   refine W.ret ?_
   refine uZ ?_
   show I _=I _;congr 1;simp only[Ig];rw[if_neg (by omega),hd];simp
theorem La(main:Side)(h:Hp)(ps:List Pn)(rs:List Int)(vp vr:Value)(hp:Sl h Pn.row vp ps)(hf:Sl h fH vr rs)(h4:ps.length≤4):Pu prog main su #[vp,vr] h (I (K_ ps.length rs)):=by
 obtain⟨a,cap,rfl⟩:=hf.dA
 obtain⟨a2,cap2,rfl⟩:=hp.dA
 refine dV.aG BD rfl (by show 2≤26;decide) [(0,.slice a2 ps.length cap2),(1,.slice a rs.length cap)] ⟨rfl,rfl,trivial⟩ ?_
 refine W.seq<|W.region rfl<|agb rfl rfl rfl<|pq<|W.seq<|W.seq<|W.region rfl<|qm rfl rfl rfl ?_
 refine agW (dM rfl rfl) rfl ?_
 refine qm rfl rfl rfl ?_
 refine agW (dM rfl rfl) rfl ?_
 refine agW (fO rfl rfl rfl) rfl ?_
 refine pq ?_
 refine W.bC rfl (fun c11=>?_) (fun c11=>?_)
 ·refine W.seq<|W.region rfl<|agb rfl rfl rfl<|pq<|W.ret<|aY ?_
  refine uZ ?_
  show I _=I _;congr 1;simp only[K_];rw[if_pos (by omega)]
 ·refine W.skip<|aA<|W.seq<|W.seq<|W.region rfl<|qm rfl rfl rfl ?_
  refine agW (dM rfl rfl) rfl ?_
  refine qm rfl rfl rfl ?_
  refine agW (dM rfl rfl) rfl ?_
  refine agW (rC rfl rfl rfl) rfl ?_
  refine pq ?_
  refine W.bC rfl (fun c16=>?_) (fun c16=>?_)
  ·refine W.seq<|W.region rfl<|agb rfl rfl rfl<|pq<|W.ret<|aY ?_
   refine uZ ?_
   show I _=I _;congr 1;simp only[K_];rw[if_neg (by omega),if_pos (by omega)]
  ·refine W.skip<|aA<|W.seq<|W.seq<|W.region rfl<|qm rfl rfl rfl ?_
   refine agW (dM rfl rfl) rfl ?_
   refine qm rfl rfl rfl<|pq<|W.block ?_
   refine W.loop (σ:=Nat) (fun k=>k≤rs.length∧rs.any (fun r=>decide (outs r 0 20))=(rs.drop k).any (fun r=>decide (outs r 0 20))) (fun k=>[(19,I k),(18,I rs.length),(17,.slice a rs.length cap)]) (fun _=>[]) (fun k=>rs.length-k) 0 ⟨Nat.zero_le _,rfl⟩ ⟨rfl,rfl,rfl,trivial⟩ .refl ?_
   rintro k ⟨hk,hd⟩
   refine W.seq<|W.region rfl ?_
   refine agW (fO rfl rfl rfl) rfl ?_
   refine pq<|W.seq ?_
   refine W.bC rfl (fun c20=>?_) (fun c20=>?_)
   ·obtain⟨p,hp,hdr⟩:=has (show k<rs.length by omega)
    rw[hdr,List.any_cons]at hd
    obtain⟨b,off,c,E,fz,rfl,hb,hx,hy,hz⟩:=hf.at hp
    have hx':c[off+k*1]? =some (I p):=hz 0 (by decide)
    clear hx hz
    refine W.skip<|aA<|W.seq<|W.block<|W.seq<|W.region rfl ?_
    refine ag3 rfl ?_
    refine agX rfl ?_
    refine agb rfl rfl rfl<|pq<|W.seq<|W.region rfl<|qm rfl rfl rfl ?_
    refine cp (fun h' hE hL=>jo _ h' _ _ _) ?_
    refine pq ?_
    refine W.bC rfl (fun c24=>?_) (fun c24=>?_)
    ·refine W.seq<|W.region rfl<|agb rfl rfl rfl<|pq<|W.ret<|cZ<|aY<|aY<|cZ ?_
     refine aY ?_
     refine uZ ?_
     show I _=I _;congr 1;simp only[K_];rw[if_neg (by omega),if_neg (by omega),hd,decide_eq_true c24];rfl
    ·refine W.skip<|dI<|aA<|W.region rfl ?_
     refine ag1 rfl ?_
     refine qm rfl rfl rfl<|pq ?_
     rw[decide_eq_false c24,Bool.false_or]at hd
     exact⟨rfl,k+1,⟨by omega,hd⟩,by omega,⟨rfl,rfl,rfl,trivial⟩,TW⟩
   ·have:k=rs.length:=by omega
    subst this
    refine W.exit<|bP<|bP<|gG<|aA<|W.seq<|W.region rfl<|agb rfl rfl rfl<|pq ?_
    refine W.ret ?_
    refine uZ ?_
    show I _=I _;congr 1;simp only[K_];rw[if_neg (by omega),if_neg (by omega),hd];simp
theorem VD(main:Side)(h:Hp)(ps:List Pn)(ls:List Lt)(rs:List Int)(vp vl vr:Value)(hp:Sl h Pn.row vp ps)(hl:Sl h Lt.row vl ls)(hr:Sl h fH vr rs):dV prog main zV #[vp,vl,vr] h []
  (fun v A=>(ji ps ls rs≠0∧v= .tuple #[.pointer none,I (ji ps ls rs)]∧Shut A)∨(ji ps ls rs=0∧∃bl R vm,v= .tuple #[bI bl,I 0]∧Os dL fH vm rs R∧Sb ((bl,.cells #[vp,U8 0,vl,vm] xE (0,0))::R) A)):=by
 obtain⟨a,cap,rfl⟩:=hp.dA
 obtain⟨a2,cap2,rfl⟩:=hl.dA
 obtain⟨a3,cap3,rfl⟩:=hr.dA
 refine dV.aG H7 rfl (by show 3≤37;decide) [(0,.slice a ps.length cap),(1,.slice a2 ls.length cap2),(2,.slice a3 rs.length cap3)] ⟨rfl,rfl,rfl,trivial⟩ ?_
 have hbe:kU ps []=nV ps:=by unfold kU;split <;>simp_all
 refine W.seq<|W.region rfl<|agb rfl rfl rfl<|agb rfl rfl rfl<|pq<|W.seq<|W.region rfl<|qm rfl rfl rfl ?_
 refine cp (fun h' hE hL=>Am _ h' ps _ [] _ (hp.ext hE) .nil (by simp)) ?_
 refine qm rfl rfl rfl<|oq (bD rfl rfl rfl) rfl wn rfl rfl<|oq (bD rfl rfl rfl) rfl wn rfl rfl ?_
 have hcs:∃cs:Array Value,(if kU ps []=0 then xJ (.slice a ps.length cap) 0 else LZ)= .agg cs∧cs.size=2∧ones cs.toList=true:=by
  split <;>exact⟨_,rfl,rfl,rfl⟩
 obtain⟨cs,hcs,hcs2,hcs1⟩:=hcs
 rw[hcs,hbe]
 refine Ops.new (fun yD=>?_)
 refine Ops.jP (n:=2) (vs:=cs) ?_ (hy:=by rfl) (hn:=hcs2) (h1:=hcs1)
 refine agb rfl rfl rfl<|pq<|W.seq<|W.seq<|W.region rfl<|qm rfl rfl rfl ?_
 refine agW (nG rfl rfl rfl) rfl ?_
 refine pq ?_
 refine W.bC rfl (fun c18=>?_) (fun c18=>?_)
 ·refine W.seq<|W.region rfl<|qm rfl rfl rfl<|agb rfl rfl rfl<|agb rfl rfl rfl<|pq<|W.ret<|aY ?_
  have e:ji ps ls rs=nV ps:=by rw[ji,if_pos c18]
  refine mg (vs:=[_,_]) (.inl ⟨by rw[e];exact c18,by rw[e];rfl,by repeat(first | exact Shut.nil | refine Shut.cons rfl ?_)⟩)
 ·have h0:nV ps=0:=by simpa using c18
  rw[hbe,if_pos h0]at hcs
  cases hcs
  refine W.skip<|aA<|W.seq<|W.seq<|W.region rfl<|qm rfl rfl rfl ?_
  refine cp (fun h' hE hL=>Ov _ h' ls _ (hl.ext hE)) ?_
  refine agb rfl rfl rfl<|pq<|W.seq<|W.region rfl<|qm rfl rfl rfl ?_
  refine agW (nG rfl rfl rfl) rfl ?_
  refine pq ?_
  refine W.bC rfl (fun c23=>?_) (fun c23=>?_)
  ·refine W.seq<|W.region rfl<|qm rfl rfl rfl<|agb rfl rfl rfl<|agb rfl rfl rfl<|pq<|W.ret<|aY ?_
   have e:ji ps ls rs=Ig ls:=by rw[ji,if_neg (by simpa using h0),if_pos c23]
   refine mg (vs:=[_,_]) (.inl ⟨by rw[e];exact c23,by rw[e];rfl,by repeat(first | exact Shut.nil | refine Shut.cons rfl ?_)⟩)
  ·refine W.skip<|aA<|W.seq<|W.seq<|W.region rfl<|qm rfl rfl rfl<|qm rfl rfl rfl ?_
   refine cp (fun h' hE hL=>La _ h' ps rs _ _ (hp.ext hE) (hr.ext hE) (iP.yB h0).len) ?_
   refine agb rfl rfl rfl<|pq<|W.seq<|W.region rfl<|qm rfl rfl rfl ?_
   refine agW (nG rfl rfl rfl) rfl ?_
   refine pq ?_
   refine W.bC rfl (fun c29=>?_) (fun c29=>?_)
   ·refine W.seq<|W.region rfl<|qm rfl rfl rfl<|agb rfl rfl rfl<|agb rfl rfl rfl<|pq<|W.ret<|aY ?_
    have h1:Ig ls=0:=by simpa using c23
    have e:ji ps ls rs=K_ ps.length rs:=by rw[ji,if_neg (by simpa using h0),if_neg (by simpa using h1)]
    refine mg (vs:=[_,_]) (.inl ⟨by rw[e];exact c29,by rw[e];rfl,by repeat(first | exact Shut.nil | refine Shut.cons rfl ?_)⟩)
   ·have h1:Ig ls=0:=by simpa using c23
    have h2:K_ ps.length rs=0:=by simpa using c29
    have e:ji ps ls rs=0:=by rw[ji,if_neg (by simpa using h0),if_neg (by simpa using h1)];exact h2
    have hok:=Aw.yB h2
    have hpk:=iP.yB h0
    refine W.skip<|aA<|W.seq ?_
    refine W.rE (n:=8) rfl ?_
    first | refine xq 0 (Bf rfl rfl) rfl ?_ | refine xq 0 (zi rfl rfl) rfl ?_
    refine xq 1 (aN rfl rfl) rfl ?_
    refine xq 2 (aN rfl rfl) rfl ?_
    refine ae (i:=3) rfl an rfl rfl (lQ (args:=[_]) rfl rfl (fun h' hE hL=>Gh _ h' rs _ (hr.ext hE) (by have:=hok.len;have:=hpk.len;omega)) (fun v A' hv=>?_))
    refine⟨.inr (Keeps.app Keeps.refl),?_⟩
    obtain⟨R,hR,hsb⟩:=hv
    obtain⟨a4,cap4,rfl⟩:=hR.dA
    refine xq 4 (eH (cs:= #[.slice a ps.length cap,U8 0,.slice a2 ls.length cap2,.slice a4 rs.length cap4]) rfl rfl rfl) rfl ?_
    refine ae (i:=5) rfl an rfl rfl (eBA rfl rfl (fun afr=>?_))
    refine⟨.inr (by first | exact Keeps.refl | exact Keeps.nil | ((repeat(first | exact fun _ h=>h | apply Keeps.cons | apply Keeps.app)) <;>fail) | (repeat(first | exact Keeps.nil | refine Keeps.one (by repeat(first | exact List.Mem.head _ | apply List.Mem.tail)) ?_))),?_⟩
    refine xq 6 (jS rfl rfl) rfl ?_
    refine xq 7 (jS rfl rfl) rfl ?_
    refine az ?_
    refine aA<|W.ret ?_
    refine mg (vs:=[_,_]) (.inr ⟨e,afr,R,_,rfl,hR,.cons (.right hsb (.cons rfl .nil))⟩)
end Go.aS

/- A share as it lies in memory while it is made; room as it lies there. Conditions: none; no program in sight. -/
namespace Go.aS
set_option linter.unusedVariables false
def kC(s:List Int):List Int:=s++List.replicate (4-s.length) 0
def uV(q:List Int):Array Value:=(q.map fun n=>I n).toArray
abbrev shV(s:List Int):Value:=.agg (uV (kC s))
theorem qj{q:List Int}:(uV q).size=q.length:=by simp[uV]
theorem Qv{q:List Int}:ones (uV q).toList=true:=by
 have:∀l:List Int,ones (l.map fun n=>I n)=true:=fun l=>by
  induction l with
  | nil=>rfl
  | cons a l ih=>simpa[ones,one]using ih
 simpa[uV]using this q
theorem ab4{q:List Int}{i:Nat}{a:Int}(h:q[i]? =some a):(uV q)[0+i*1]? =some (I a):=by
 simp[uV,h]
theorem Ux{q:List Int}{i:Nat}{a:Int}:(uV q).setIfInBounds (0+i*1) (I a)=uV (q.set i a):=by
 simp[uV,List.map_set]
theorem Qw{s:List Int}(h:s.length≤4):(kC s).length=4:=by simp[kC];omega
structure Gi(n:Nat)(pre q:List Int):Prop where
 len:q.length=4
 pre:q.take pre.length=pre
 tl:q.drop n=List.replicate (4-n) 0
theorem Gi.start{n:Nat}(hn:n≤4):Gi n [] [0,0,0,0]:=by
 refine⟨rfl,rfl,?_⟩
 rcases(by omega:n=0∨n=1∨n=2∨n=3∨n=4)with rfl | rfl | rfl | rfl | rfl <;>rfl
theorem Gi.full{n:Nat}{pre q:List Int}(h:Gi n pre q)(he:pre.length=n):q=kC pre:=by
 have:q=q.take pre.length++q.drop n:=by rw[he,List.take_append_drop]
 rw[this,h.pre,h.tl,kC,he]
theorem Gi.set{n:Nat}{pre q:List Int}{a:Int}(h:Gi n pre q)(hl:pre.length<n)(hn:n≤4):Gi n (pre++[a]) (q.set pre.length a):=by
 refine⟨by rw[List.length_set,h.len],?_,?_⟩
 ·rw[List.length_append,List.length_singleton,List.take_add_one,List.take_set_of_le (Nat.le_refl _),h.pre,List.getElem?_set_self (by rw[h.len];omega)]
  rfl
 ·rw[List.drop_set_of_lt hl];exact h.tl
theorem Gi.less{n:Nat}{pre q:List Int}{a:Int}(h:Gi n (pre++[a]) q):Gi n pre q:=by
 refine⟨h.len,?_,h.tl⟩
 have:=congrArg (List.take pre.length) h.pre
 rw[List.take_take,List.length_append,List.length_singleton,Nat.min_eq_left (by omega)]at this
 rw[this];simp

abbrev QK(tl:List Value)(rs:List Int):Obj:=.cells (((rs.map fun n=>I n)++tl).toArray) 3 (0,0)
theorem YC{tl:List Value}{rs:List Int}{p:Nat}(h:p<rs.length):(((rs.map fun n=>I n)++tl).toArray)[0+p*1]? =some (I (rs.getD p 0)):=by
 rw[List.getElem?_toArray,List.getElem?_append_left (by rw[List.length_map];omega)]
 simp[List.getD_eq_getElem?_getD,List.getElem?_eq_getElem h]
theorem YD{tl:List Value}{rs:List Int}{p:Nat}{a:Int}(h:p<rs.length):(((rs.map fun n=>I n)++tl).toArray).setIfInBounds (0+p*1) (I a)=(((rs.set p a).map fun n=>I n)++tl).toArray:=by
 apply Array.ext'
 rw[Array.toList_setIfInBounds]
 simp only[Nat.zero_add,Nat.mul_one]
 rw[List.set_append_left _ _ (by rw[List.length_map];exact h),List.map_set]
theorem Uy{tl:List Value}{rs:List Int}{p:Nat}(h:p<rs.length):0+p*1<(((rs.map fun n=>I n)++tl).toArray).size:=by simp;omega
theorem aat{l:Lt}{rs:List Int}{p:Nat}(h:p<rs.length):(less l rs p).set p ((less l rs p).getD p 0+l.po)=rs:=by
 have e:(less l rs p).getD p 0=rs.getD p 0-l.po:=by simp[less,List.getD_eq_getElem?_getD,h]
 rw[e,less,List.set_set]
 apply List.ext_getElem?
 intro i
 rw[List.getElem?_set]
 split
 ·rename_i hi;subst hi
  simp[List.getD_eq_getElem?_getD,List.getElem?_eq_getElem h,h]
 ·rfl
def Iu(o:Option (Nat×List Value))(rs:List Int):ah:=match o with
 | none=>[]
 | some y=>[(y.1,QK y.2 rs)]
def RmV(o:Option (Nat×List Value))(n:Nat)(vm:Value):Prop:=match o with
 | none=>n=0∧vm= .slice none 0 0
 | some y=>∃cap,vm= .slice (some ⟨y.1,0,none⟩) n cap
theorem RmV.dA{o:Option (Nat×List Value)}{n:Nat}{vm:Value}(h:RmV o n vm):∃a cap,vm= .slice a n cap:=by
 cases o with
 | none=>obtain⟨rfl,rfl⟩:=h;exact⟨_,_,rfl⟩
 | some y=>obtain⟨cap,rfl⟩:=h;exact⟨_,_,rfl⟩
theorem YE{l:List Int}:flat fH l=l.map fun n=>I n:=by
 induction l with
 | nil=>rfl
 | cons a l ih=>rw[iV,ih];rfl
theorem VE{c:Array Value}{l:List Value}(h:Part c 0 l):∃tl,c=(l++tl).toArray:=by
 obtain⟨pre,post,h1,h2⟩:=h
 obtain rfl:=List.length_eq_zero_iff.1 h2
 exact⟨post,Array.ext' h1⟩
theorem aau{vm:Value}{rs:List Int}{R:ah}(h:Os 3 fH vm rs R):∃o,RmV o rs.length vm∧Sb (Iu o rs) R:=by
 rcases h with⟨rfl,rfl,h⟩ | ⟨β,c,cap,J,rfl,rfl,h1,h2,h3,h⟩
 ·exact⟨none,⟨rfl,rfl⟩,.nil h⟩
 ·rw[YE]at h3
  obtain⟨tl,rfl⟩:=VE h3
  exact⟨some (β,tl),⟨cap,rfl⟩,.cons (.nil h)⟩
end Go.aS

/- Room is taken while something is done. Conditions: none; over the given program. -/
namespace Go.aS
set_option maxRecDepth 100000
set_option maxHeartbeats 4000000
theorem Qx(main:Side)(h:Hp)(ls:List Lt)(l:Lt)(rs:List Int)(i p:Nat)(vp vl:Value)(cap β bl b4 b5 b6:Nat)(tl:List Value)(El E4 E5 E6:TypeId)(zl z4 z5 z6:Nat×Nat)(hl:Sl h Lt.row vl ls)(QL:ls[i]? =some l)(hp:p<rs.length)(h0: -9≤rs.getD p 0∧rs.getD p 0≤40)(hb:1≤l.po∧l.po≤9)
  (hbl:h bl=some (.cells #[vp,U8 0,vl,.slice (some ⟨β,0,none⟩) rs.length cap] El zl)) (h4:h b4=some (.cells #[bI bl] E4 z4)) (h5:h b5=some (.cells #[I i] E5 z5)) (h6:h b6=some (.cells #[I p] E6 z6)):
  Y8 prog main iU #[bI b4,bI b6,bI b5] h [(β,QK tl rs)] (fun A=>A=[(β,QK tl (rs.set p (rs.getD p 0+l.po)))]):=by
 have hil:i<ls.length:=by
  rcases Nat.lt_or_ge i ls.length with h' | h'
  ·exact h'
  ·rw[List.getElem?_eq_none h']at QL;cases QL
 obtain⟨a9,afu,rfl⟩:=hl.dA
 obtain⟨b,off,c,E,fz,rfl,hbb,hx,hy,hz⟩:=hl.at QL
 have hz1:c[off+i*2+1]? =some (I l.po):=hz 1 (by decide)
 clear hx hz
 have hr0:=YC (tl:=tl) hp
 have hsz:=Uy (tl:=tl) hp
 refine Y8.aG Ae rfl (by show 3≤20;decide) [(0,bI b4),(1,bI b6),(2,bI b5)] ⟨rfl,rfl,rfl,trivial⟩ ?_
 refine W.rE (n:=18) rfl ?_
 refine xq 0 (iQ rfl rfl) rfl ?_
 first | refine xq 1 (bg rfl rfl) rfl ?_ | refine xq 1 (aT rfl rfl) rfl ?_
 refine xq 2 (ay rfl rfl) rfl ?_
 refine xq 3 (iQ rfl rfl) rfl ?_
 refine xq 4 (iQ rfl rfl) rfl ?_
 first | refine xq 5 (G_ rfl rfl rfl) rfl ?_ | refine xq 5 (o_ rfl rfl rfl) rfl ?_
 refine xq 6 (iQ rfl rfl) rfl ?_
 refine xq 7 (iQ rfl rfl) rfl ?_
 first | refine xq 8 (bg rfl rfl) rfl ?_ | refine xq 8 (aT rfl rfl) rfl ?_
 refine xq 9 (ay rfl rfl) rfl ?_
 refine xq 10 (iQ rfl rfl) rfl ?_
 refine xq 11 (iQ rfl rfl) rfl ?_
 first | refine xq 12 (G_ rfl rfl rfl) rfl ?_ | refine xq 12 (o_ rfl rfl rfl) rfl ?_
 refine xq 13 (ay rfl rfl) rfl ?_
 refine xq 14 (iQ rfl rfl) rfl ?_
 first | refine xq 15 (Zi rfl rfl rfl) rfl ?_ | refine xq 15 (MZ rfl rfl rfl) rfl ?_
 first | refine xq 16 (G_ rfl rfl rfl) rfl ?_ | refine xq 16 (o_ rfl rfl rfl) rfl ?_
 refine ae (i:=17) rfl an rfl rfl (eS rfl rfl rfl ?_)
 refine⟨.inl (by kernel_rfl),?_⟩
 refine az ?_
 rw[YD hp]
 exact mg rfl

theorem aav(main:Side)(h:Hp)(ls:List Lt)(l:Lt)(rs:List Int)(i p:Nat)(vp vl dov:Value)(cap β bl:Nat)(tl:List Value)(El:TypeId)(zl:Nat×Nat)(A:ah)(hl:Sl h Lt.row vl ls)(QL:ls[i]? =some l)(hp:p<rs.length)(h0:0≤rs.getD p 0∧rs.getD p 0≤40)(hb:1≤l.po∧l.po≤9)
  (hbl:h bl=some (.cells #[vp,U8 0,vl,.slice (some ⟨β,0,none⟩) rs.length cap] El zl)) (P:Value→ah→Prop)
  (hdo:∀h',Ext h h'→gZ prog main dov [] h' (A++[(β,QK tl (less l rs p))]) (fun v A1=>∃r,v= .bool r∧∃B,P (.bool r) B∧Sb (B++[(β,QK tl (less l rs p))]) A1)):
  dV prog main um #[bI bl,I i,I p,dov] h (A++[(β,QK tl rs)]) (fun v A'=>∃B,P v B∧Sb (B++[(β,QK tl rs)]) A'):=by
 have hil:i<ls.length:=by
  rcases Nat.lt_or_ge i ls.length with h' | h'
  ·exact h'
  ·rw[List.getElem?_eq_none h']at QL;cases QL
 have hl2:=hl
 obtain⟨a9,afu,rfl⟩:=hl.dA
 obtain⟨b,off,c,E,fz,rfl,hbb,hx,hy,hz⟩:=hl.at QL
 have hz1:c[off+i*2+1]? =some (I l.po):=hz 1 (by decide)
 clear hx hz
 have hr0:=YC (tl:=tl) hp
 have hsz:=Uy (tl:=tl) hp
 refine dV.perm (A:=(β,QK tl rs)::A) (List.perm_append_comm (l₁:=[_])) ?_
 refine dV.aG Dh rfl (by show 4≤29;decide) [(0,bI bl),(1,I i),(2,I p),(3,dov)] ⟨rfl,rfl,rfl,rfl,trivial⟩ ?_
 refine W.seq<|W.region rfl ?_
 refine Ops.box (fun wC=>?_)
 refine Ops.box (fun mZ=>?_)
 refine Ops.box (fun yC=>?_)
 refine agb rfl rfl rfl<|pq<|W.seq ?_
 refine W.DR [(yC,.cells #[I p] dL (0,0)),(mZ,.cells #[I i] dL (0,0)),(wC,.cells #[bI bl] fM (0,0)),(β,QK tl rs)] (n:=18) rfl ?_
 refine xq 0 (iQ rfl rfl) rfl ?_
 first | refine xq 1 (bg rfl rfl) rfl ?_ | refine xq 1 (aT rfl rfl) rfl ?_
 refine xq 2 (ay rfl rfl) rfl ?_
 refine xq 3 (iQ rfl rfl) rfl ?_
 refine xq 4 (iQ rfl rfl) rfl ?_
 first | refine xq 5 (G_ rfl rfl rfl) rfl ?_ | refine xq 5 (o_ rfl rfl rfl) rfl ?_
 refine xq 6 (iQ rfl rfl) rfl ?_
 refine xq 7 (iQ rfl rfl) rfl ?_
 first | refine xq 8 (bg rfl rfl) rfl ?_ | refine xq 8 (aT rfl rfl) rfl ?_
 refine xq 9 (ay rfl rfl) rfl ?_
 refine xq 10 (iQ rfl rfl) rfl ?_
 refine xq 11 (iQ rfl rfl) rfl ?_
 first | refine xq 12 (G_ rfl rfl rfl) rfl ?_ | refine xq 12 (o_ rfl rfl rfl) rfl ?_
 refine xq 13 (ay rfl rfl) rfl ?_
 refine xq 14 (iQ rfl rfl) rfl ?_
 first | refine xq 15 (acL rfl rfl rfl) rfl ?_ | refine xq 15 (M_ rfl rfl rfl) rfl ?_
 first | refine xq 16 (G_ rfl rfl rfl) rfl ?_ | refine xq 16 (o_ rfl rfl rfl) rfl ?_
 refine ae (i:=17) rfl an rfl rfl (eS rfl rfl rfl ?_)
 refine⟨.inl (by kernel_rfl),?_⟩
 refine az ?_
 refine aA<|W.seq ?_
 rw[YD hp,show rs.set p (rs.getD p 0-l.po)=less l rs p from rfl]
 refine W.region rfl ?_
 refine agW (y7 rfl rfl rfl) rfl ?_
 refine Ops.defer (d:={target:=.fn (.func iU) #[bI wC,bI yC,bI mZ],args:= #[]}) rfl (aU rfl) rfl wn rfl (fun e he=>?_) ?_
 ·have e3:e (.tmp 26)= .func (.func iU) #[] #[bI wC,bI yC,bI mZ]:=he _ _ rfl
  simp[resolve,Deferred.ofValue,e3,au]
 refine pq<|W.seq<|W.region rfl<|qm rfl rfl rfl ?_
 refine Ops.perm (F':=(A++[(β,QK tl (less l rs p))])++[(yC,.cells #[I p] dL (0,0)),(mZ,.cells #[I i] dL (0,0)),(wC,.cells #[bI bl] fM (0,0))]) (List.perm_append_comm.trans ((List.perm_append_comm (l₁:=A) (l₂:=[_])).append_left [_,_,_])) ?_
 refine cgv .head (fun h' hE hL=>hdo h' hE) (fun v A1 hv=>?_)
 obtain⟨r,rfl,B,hPB,hsb⟩:=hv
 refine Ops.sb (F':=[(β,QK tl (less l rs p))]++(B++[(yC,.cells #[I p] dL (0,0)),(mZ,.cells #[I i] dL (0,0)),(wC,.cells #[bI bl] fM (0,0))])) (((Sb.dF List.perm_append_comm).trans hsb).app .refl |> Sb.trans (.dF (by rw[List.append_assoc]))) ?_
 refine agb rfl rfl rfl<|pq<|W.ret ?_
 have hln:(less l rs p).length=rs.length:=Qs
 have hg:(less l rs p).getD p 0=rs.getD p 0-l.po:=by simp[less,List.getD_eq_getElem?_getD,hp]
 refine X6 (A:=[(β,QK tl (less l rs p))]) .head (fun h' hE hL=>Qx _ h' ls l (less l rs p) i p _ _ cap β bl wC mZ yC tl _ _ _ _ _ _ _ _ (hl2.ext hE) QL (by rw[hln];exact hp) (by rw[hg];omega) hb (by rw[hln];exact hE.1 _ _ hbl) (hL _ _ (List.mem_append_right [] (List.mem_append_right _ (by repeat(first | exact List.Mem.head _ | apply List.Mem.tail))))) (hL _ _ (List.mem_append_right [] (List.mem_append_right _ (by repeat(first | exact List.Mem.head _ | apply List.Mem.tail))))) (hL _ _ (List.mem_append_right [] (List.mem_append_right _ (by repeat(first | exact List.Mem.head _ | apply List.Mem.tail)))))) (fun A' hA'=>?_)
 subst hA'
 rw[aat hp]
 refine mg (vs:=[.bool r]) ⟨B,hPB,?_⟩
 refine(Sb.dF List.perm_append_comm).trans (.app .refl ?_)
 exact(show Sb B (B++[_,_,_])from .right .refl (.cons rfl (.cons rfl (.cons rfl .nil))))

theorem ab5(main:Side)(h:Hp)(fv:Value)(bf b5 k:Nat)(Ef E5:TypeId)(zf z5:Nat×Nat)(F:ah)(R:Value→ah→Prop)(hf1:one fv=true)(hk:k≤4)(hbf:h bf=some (.cells #[fv] Ef zf))(hb5:h b5=some (.cells #[I k] E5 z5))
  (H:∀h',Ext h h'→gZ prog main fv [I ((k+1:Nat):Int)] h' F R):gZ prog main (.func (.func gU) #[] #[bI bf,bI b5]) [] h F R:=by
 refine gZ.zh (f:=gU) (fi:=[]) (ca:=[bI bf,bI b5]) ?_
 refine dV.aG vW rfl (by show 2≤7;decide) [(0,bI bf),(1,bI b5)] ⟨rfl,rfl,trivial⟩ ?_
 refine W.seq<|W.region rfl<|agb rfl rfl rfl<|pq<|W.seq<|W.region rfl ?_
 refine agX rfl ?_
 refine agX rfl ?_
 refine KU (Zi rfl rfl rfl) (show I _=I ((k+1:Nat):Int) by congr 1) rfl wn rfl rfl ?_
 refine cgv .all (fun h2 hE hL=>H h2 hE) (fun v B hv=>?_)
 refine agb rfl rfl rfl<|pq<|W.ret ?_
 exact mg (vs:=[v]) hv
end Go.aS

/- All ways to share out. Conditions: none; over the given program. -/
namespace Go.aS
set_option maxRecDepth 100000
set_option maxHeartbeats 4000000
def ab6(x:List Int)(v:Value)(S:ah):Prop:=v=shV x∧S=[]
theorem Qy{α:Type}{xs a b:List α}{k:Nat}(h:xs.drop k=a++b):xs.drop (k+a.length)=b:=by
 rw[←List.drop_drop,h,List.drop_left]
theorem drop_at{α:Type}{xs b:List α}{x:α}{k:Nat}(h:xs.drop k=x::b):xs[k]? =some x:=by
 have:=congrArg (fun l=>l[0]?) h
 simpa[List.getElem?_drop]using this
theorem VF{α β:Type}{os:List α}{g:α→List β}{j:Nat}{p:α}(h:os[j]? =some p):(os.take (j+1)).flatMap g=(os.take j).flatMap g++g p:=by
 rw[List.take_add_one,h,List.flatMap_append];simp
theorem VG{α β:Type}{os:List α}{g:α→List β}{xs rest:List β}{k j:Nat}{p:α}(hx:xs.drop k=os.flatMap g++rest)(h:os[j]? =some p):xs.drop (k+((os.take j).flatMap g).length)=g p++((os.drop (j+1)).flatMap g++rest):=by
 have hj:j<os.length:=by
  rcases Nat.lt_or_ge j os.length with h' | h'
  ·exact h'
  ·rw[List.getElem?_eq_none h']at h;cases h
 obtain⟨p',hp',hd⟩:=has hj
 rw[h]at hp'
 cases hp'
 refine Qy (b:=g p++((os.drop (j+1)).flatMap g++rest)) ?_
 rw[hx]
 have e:os.flatMap g=(os.take j).flatMap g++(g p++(os.drop (j+1)).flatMap g):=
  calc os.flatMap g=(os.take j++os.drop j).flatMap g:=by rw[List.take_append_drop]
   _=_:=by rw[hd,List.flatMap_append,List.flatMap_cons]
 rw[e]
 simp only[List.append_assoc]

theorem adS{b:Bool}(h:(!b)=true):b=false:=by simpa using h
theorem adT{b:Bool}(h:(!b)=false):b=true:=by simpa using h
theorem p5{x y z:Nat×Obj}{S A:ah}:(((A++[y])++[z])++(x::S)).Perm (x::y::z::(S++A)):=by
 have e:((A++[y])++[z])++(x::S)=A++(y::z::x::S):=by simp
 rw[e]
 refine(List.perm_append_comm (l₁:=A)).trans ?_
 exact((List.Perm.swap x z _).cons y).trans (List.Perm.swap x y _)
theorem p6{x y:Nat×Obj}{R A:ah}:(((A++[y])++R)++[x]).Perm (x::y::(A++R)):=by
 have e:((A++[y])++R)++[x]=(A++(y::R))++[x]:=by simp
 rw[e]
 exact(List.perm_append_comm (l₂:=[x])).trans (.cons x List.perm_middle)
theorem p7{y:Nat×Obj}{R A:ah}:((A++[y])++R).Perm (y::(R++A)):=by
 rw[List.append_assoc]
 exact(List.perm_append_comm (l₁:=A)).trans (.refl _)
abbrev VH(b1 b2 bs b4:Nat):Value:=.func (.func jY) #[] #[bI b1,bI b2,bI bs,bI b4]
abbrev Ox(q:List Int):Obj:=.cells (uV q) dw (0,0)
def Lc(xs:List (List Int))(J:Nat→ah→Prop)(K:Nat→Value→ah→Prop)(n:Nat)(pre:List Int)(bs:Nat)(k2:Nat)(v:Value)(B':ah):Prop:=
 ∃q B,Gi n pre q∧B'=B++[(bs,Ox q)]∧((v= .bool true∧J k2 B)∨(v= .bool false∧∃k x,xs[k]? =some x∧K k (shV x) B))
theorem Lc.less{xs:List (List Int)}{J:Nat→ah→Prop}{K:Nat→Value→ah→Prop}{n:Nat}{pre:List Int}{a:Int}{bs:Nat}{k2:Nat}{v:Value}{B':ah}(h:Lc xs J K n (pre++[a]) bs k2 v B'):Lc xs J K n pre bs k2 v B':=by
 obtain⟨q,B,h1,h2,h3⟩:=h
 exact⟨q,B,h1.less,h2,h3⟩
theorem Lc.stop{xs:List (List Int)}{J:Nat→ah→Prop}{K:Nat→Value→ah→Prop}{n:Nat}{pre:List Int}{bs:Nat}{k2 k3:Nat}{B':ah}(h:Lc xs J K n pre bs k2 (.bool false) B'):Lc xs J K n pre bs k3 (.bool false) B':=by
 obtain⟨q,B,h1,h2,h3⟩:=h
 refine⟨q,B,h1,h2,.inr ?_⟩
 rcases h3 with⟨h3,_⟩ | h3
 ·cases h3
 ·exact h3
theorem Lc.bool{xs:List (List Int)}{J:Nat→ah→Prop}{K:Nat→Value→ah→Prop}{n:Nat}{pre:List Int}{bs:Nat}{k2:Nat}{v:Value}{B':ah}(h:Lc xs J K n pre bs k2 v B'):∃r,v= .bool r:=by
 obtain⟨q,B,h1,h2,⟨h3,_⟩ | ⟨h3,_⟩⟩:=h
 ·exact⟨_,h3⟩
 ·exact⟨_,h3⟩

theorem aaw(main:Side)(ps:List Pn)(ls:List Lt)(vp vl vm yv:Value)(o:Option (Nat×List Value))(bl b1 b2 bs b4:Nat)(El E1 E2 E4:TypeId)(zl z1 z2 z4:Nat×Nat)(hok:iP ps)(hlo:Au ls)(hrm:RmV o ps.length vm)(hy1:one yv=true)(xs:List (List Int))(J:Nat→ah→Prop)(K:Nat→Value→ah→Prop):
  ∀(Uz:List Lt) (pre rs q:List Int) (h:Hp) (k:Nat) (rest:List (List Int)) (A:ah),ls.drop pre.length=Uz→pre.length≤ls.length→Aw ps.length rs→Gi ls.length pre q→Sl h Pn.row vp ps→Sl h Lt.row vl ls→
   h bl=some (.cells #[vp,U8 0,vl,vm] El zl)→h b1=some (.cells #[bI bl] E1 z1)→h b2=some (.cells #[yv] E2 z2)→h b4=some (.cells #[VH b1 b2 bs b4] E4 z4)→
   Vw prog main yv h ab6 xs J K→xs.drop k=Dv ps Uz rs pre++rest→J k A→
   dV prog main jY #[I pre.length,bI b1,bI b2,bI bs,bI b4] h ((A++[(bs,Ox q)])++Iu o rs) (fun v A'=>∃B',Lc xs J K ls.length pre bs (k+(Dv ps Uz rs pre).length) v B'∧Sb (B'++Iu o rs) A'):=by
 have hl4:=hlo.len
 have Du:=hok.len
 obtain⟨am,cm,hvm⟩:=hrm.dA
 intro Uz
 induction Uz with
 | nil=>
  intro pre rs q h k rest A hd hpl hro hI hp hl hbl hb1 hb2 hb4 hy hx hJ
  have hpn:pre.length=ls.length:=by
   have:=congrArg List.length hd
   simp at this;omega
  have hq:=hI.full hpn
  have hqv:(Value.agg (uV q))=shV pre:=by rw[hq]
  have hq4:q.length=4:=hI.len
  have hsz:(uV q).size=4:=by rw[qj,hq4]
  obtain⟨a,cap,rfl⟩:=hp.dA
  obtain⟨a2,cap2,rfl⟩:=hl.dA
  subst hvm
  refine dV.perm (A:=(bs,Ox q)::(A++Iu o rs)) (by rw[List.append_assoc];exact List.perm_middle.symm) ?_
  refine dV.aG oK rfl (by show 5≤70;decide) [(0,I pre.length),(1,bI b1),(2,bI b2),(3,bI bs),(4,bI b4)] ⟨rfl,rfl,rfl,rfl,rfl,trivial⟩ ?_
  refine W.seq<|W.region rfl ?_
  refine Ops.box (fun mZ=>?_)
  refine agb rfl rfl rfl<|pq<|W.seq<|W.seq ?_
  refine W.DR [(mZ,.cells #[I pre.length] dL (0,0))] (n:=7) rfl ?_
  refine xq 0 (iQ rfl rfl) rfl ?_
  refine xq 1 (iQ rfl rfl) rfl ?_
  first | refine xq 2 (bg rfl rfl) rfl ?_ | refine xq 2 (aT rfl rfl) rfl ?_
  refine xq 3 (ay rfl rfl) rfl ?_
  refine xq 4 (iQ rfl rfl) rfl ?_
  refine xq 5 (dM rfl rfl) rfl ?_
  refine xq 6 (nD rfl rfl rfl) rfl ?_
  refine az ?_
  refine aA ?_
  refine W.bC rfl (fun c15=>?_) (fun c15=>?_)
  ·skip
   refine W.seq<|W.region rfl ?_
   refine agX rfl ?_
   refine ag2 rfl ?_
   refine Ops.perm (F':=A++((mZ,.cells #[I pre.length] dL (0,0))::(bs,Ox q)::Iu o rs)) (List.perm_middle.trans (.cons _ List.perm_middle)) ?_
   refine cgv .head (fun h2 hE hL=>hy h2 hE k pre (.agg (uV q)) [] A (drop_at hx) ⟨hqv,rfl⟩ (fun b o h=>by cases h) hJ) (fun r B1 hr1=>?_)
   refine agb rfl rfl rfl<|pq<|W.ret<|aY ?_
   have e1:(Dv ps [] rs pre).length=1:=rfl
   rw[e1]
   rcases hr1 with⟨rfl,B,hJB,hsb⟩ | ⟨rfl,B,hKB,hsb⟩
   ·refine mg (vs:=[.bool true]) ⟨B++[(bs,Ox q)],⟨q,B,hI,rfl,.inl ⟨rfl,hJB⟩⟩,?_⟩
    rw[List.append_assoc]
    exact hsb.app (.skip rfl .refl)
   ·refine mg (vs:=[.bool false]) ⟨B++[(bs,Ox q)],⟨q,B,hI,rfl,.inr ⟨rfl,k,pre,drop_at hx,hqv▸hKB⟩⟩,?_⟩
    rw[List.append_assoc]
    exact hsb.app (.skip rfl .refl)
  ·exact absurd c15 (by rw[hpn];simp)
 | cons l Uz ih=>
  intro pre rs q h k rest A hd hpl hro hI hp hl hbl hb1 hb2 hb4 hy hx hJ
  have hil:pre.length<ls.length:=by
   have:=congrArg List.length hd
   simp at this;omega
  obtain⟨l',QL,hdr⟩:=has hil
  rw[hd]at hdr
  injection hdr with e1 e2
  subst e1
  have hlb:=hlo.lot l (List.mem_of_getElem? QL)
  obtain⟨qu,po⟩:=l
  obtain⟨qn,rfl⟩:∃n:Nat,qu=n:=⟨qu.toNat,by simp only at hlb;omega⟩
  simp only at hlb
  have hq4:q.length=4:=hI.len
  have hsz:(uV q).size=4:=by rw[qj,hq4]
  obtain⟨g,hg⟩:∃g:Nat→List (List Int),g=fun p=>if fits ⟨qn,po⟩ rs p then Dv ps Uz (less ⟨qn,po⟩ rs p) (pre++[(p:Int)])else[]:=⟨_,rfl⟩
  have hsh:Dv ps (⟨qn,po⟩::Uz) rs pre=Dv ps Uz rs (pre++[-1])++(bQ ps 0 qn).flatMap g:=by rw[hg];rfl
  rw[hsh]at hx⊢
  rw[List.append_assoc]at hx
  have hx2:=Qy hx
  have hlen1:∀a:Int,(pre++[a]).length=pre.length+1:=fun a=>by simp
  obtain⟨a,cap,rfl⟩:=hp.dA
  obtain⟨a2,cap2,rfl⟩:=hl.dA
  obtain⟨b,off,c,E,fz,e3,hbb,hxx,hyy,hzz⟩:=hl.at QL
  cases e3
  have hz0:c[off+pre.length*2+0]? =some (I qn):=hzz 0 (by decide)
  have hz1:c[off+pre.length*2+1]? =some (I po):=hzz 1 (by decide)
  clear hxx hzz
  refine dV.perm (A:=(bs,Ox q)::(A++Iu o rs)) (by rw[List.append_assoc];exact List.perm_middle.symm) ?_
  refine dV.aG oK rfl (by show 5≤70;decide) [(0,I pre.length),(1,bI b1),(2,bI b2),(3,bI bs),(4,bI b4)] ⟨rfl,rfl,rfl,rfl,rfl,trivial⟩ ?_
  refine W.seq<|W.region rfl ?_
  refine Ops.box (fun mZ=>?_)
  refine agb rfl rfl rfl<|pq<|W.seq<|W.seq ?_
  refine W.DR [(mZ,.cells #[I pre.length] dL (0,0))] (n:=7) rfl ?_
  refine xq 0 (iQ rfl rfl) rfl ?_
  refine xq 1 (iQ rfl rfl) rfl ?_
  first | refine xq 2 (bg rfl rfl) rfl ?_ | refine xq 2 (aT rfl rfl) rfl ?_
  refine xq 3 (ay rfl rfl) rfl ?_
  refine xq 4 (iQ rfl rfl (.inl hbl) rfl) rfl ?_
  refine xq 5 (dM rfl rfl) rfl ?_
  refine xq 6 (nD rfl rfl rfl) rfl ?_
  refine az ?_
  refine aA ?_
  refine W.bC rfl (fun c15=>?_) (fun c15=>?_)
  ·exact absurd c15 (by omega)
  ·refine W.skip<|aA<|W.seq<|W.region rfl ?_
   refine agX rfl ?_
   first | refine agW (UN rfl rfl rfl) rfl ?_ | refine agW (Qg rfl rfl rfl) rfl ?_
   refine Ops.yG ?_
   refine pq<|W.seq<|W.seq<|W.region rfl ?_
   refine agX rfl ?_
   refine agX rfl ?_
   refine KU (Zi rfl rfl rfl) (show I _=I ((pre++[(-1:Int)]).length:Int) by rw[hlen1];congr 1) rfl wn rfl rfl ?_
   rw[Ux]
   refine Ops.perm (F':=((A++[(bs,Ox (q.set pre.length (-1)))])++Iu o rs)++[(mZ,.cells #[I pre.length] dL (0,0))]) p6 ?_
   refine cgv .head (fun h4 e4 hL=>gZ.zh (fi:=[]) (args:=[_]) (ca:=[_,_,_,_]) (ih (pre++[-1]) rs (q.set pre.length (-1)) h4 k _ A (by rw[hlen1,←List.drop_drop,hd];rfl) (by rw[hlen1];omega) hro (hI.set hil hl4) (hp.ext e4) (hl.ext e4) (e4.1 _ _ hbl) (e4.1 _ _ hb1) (e4.1 _ _ hb2) (e4.1 _ _ hb4) (hy.ext e4) hx hJ)) (fun r B1 hr1=>?_)
   obtain⟨B',hB',hsb⟩:=hr1
   have hB2:=hB'.less
   obtain⟨r,rfl⟩:=hB2.bool
   refine Ops.sb (F':=(B'++Iu o rs)++[(mZ,.cells #[I pre.length] dL (0,0))]) (hsb.app .refl) ?_
   refine agW (xU rfl rfl) rfl ?_
   refine pq ?_
   refine W.cond rfl (fun c25=>?_) (fun c25=>?_)
   ·refine W.seq<|W.region rfl<|agb rfl rfl rfl<|pq<|W.ret<|aY ?_
    obtain rfl:=adS c25
    exact mg (vs:=[.bool false]) ⟨B',hB2.stop,.right .refl (.cons rfl .nil)⟩
   ·obtain rfl:=adT c25
    obtain⟨q1,B,hI1,rfl,hJK⟩:=hB2
    have hJ1:J (k+(Dv ps Uz rs (pre++[-1])).length) B:=by
     rcases hJK with⟨_,h⟩ | ⟨h,_⟩
     ·exact h
     ·cases h
    clear hJK hB'
    refine W.sb (F':=(mZ,.cells #[I pre.length] dL (0,0))::(bs,Ox q1)::(Iu o rs++B)) (.dF (p6.trans ((List.perm_append_comm.cons _).cons _)).symm) ?_
    refine W.skip<|aA<|W.seq<|W.seq ?_
    refine W.DR [(mZ,.cells #[I pre.length] dL (0,0))] (n:=15) rfl ?_
    refine xq 0 (iQ rfl rfl) rfl ?_
    first | refine xq 1 (bg rfl rfl) rfl ?_ | refine xq 1 (aT rfl rfl) rfl ?_
    refine xq 2 (ay rfl rfl) rfl ?_
    refine xq 3 (zi (vs:= #[.slice a ps.length cap,U8 0]) rfl rfl (.inl hbl) (by show 0+0+2≤4;decide) rfl) rfl ?_
    refine xq 4 (iQ rfl rfl) rfl ?_
    first | refine xq 5 (bg rfl rfl) rfl ?_ | refine xq 5 (aT rfl rfl) rfl ?_
    refine xq 6 (ay rfl rfl) rfl ?_
    refine xq 7 (iQ rfl rfl (.inl hbl) rfl) rfl ?_
    refine xq 8 (iQ rfl rfl) rfl ?_
    first | refine xq 9 (G_ rfl rfl rfl) rfl ?_ | refine xq 9 (o_ rfl rfl rfl) rfl ?_
    refine xq 10 (ay rfl rfl) rfl ?_
    refine xq 11 (iQ rfl rfl) rfl ?_
    refine xq 14 (aN rfl rfl) rfl ?_
    refine ae (i:=12) rfl an rfl rfl (lQ (args:=[_,_]) rfl rfl (fun h' hE hL=>EM _ h' ps _ 0 qn (hp.ext hE) Du (by decide)) (fun v A' hv=>?_))
    refine⟨.inr (Keeps.app (Keeps.one (List.mem_cons_self ..) Keeps.nil)),?_⟩
    obtain⟨S,hS,Oh⟩:=hv
    obtain⟨a3,c3,rfl⟩:=hS.dA
    rw[kT]at hS⊢
    refine Any.sb (F':=(mZ,.cells #[I pre.length] dL (0,0))::(bs,Ox q1)::(Iu o rs++(S++B))) ((Sb.dF (List.perm_append_comm_assoc S ((mZ,.cells #[I pre.length] dL (0,0))::(bs,Ox q1)::Iu o rs) B).symm).trans (Oh.app .refl)) ?_
    refine xq 13 (dM rfl rfl) rfl ?_
    refine az ?_
    refine aA<|W.block ?_
    have hol:(bQ ps 0 qn).length≤4:=wB
    refine W.Js (fun(j:Nat) (q:List Int) (A:ah)=>j≤(bQ ps 0 qn).length∧Gi ls.length pre q∧J (k+(Dv ps Uz rs (pre++[-1])).length+(((bQ ps 0 qn).take j).flatMap g).length) A) (fun j _ _=>[(40,I j),(39,I (bQ ps 0 qn).length),(38,.slice a3 (bQ ps 0 qn).length c3),(5,bI mZ),(1,bI b1),(2,bI b2),(3,bI bs),(4,bI b4)])
     (fun _ q A=>(mZ,.cells #[I pre.length] dL (0,0))::(bs,Ox q)::(Iu o rs++(S++A))) (fun j _ _=>(bQ ps 0 qn).length-j) 0 q1 B ⟨Nat.zero_le _,hI1,hJ1⟩ ⟨rfl,rfl,rfl,rfl,rfl,rfl,rfl,rfl,trivial⟩ .refl ?_
    rintro j q A ⟨hj,hIq,hJq⟩
    refine W.seq<|W.region rfl ?_
    refine agW (fO rfl rfl rfl) rfl ?_
    refine pq<|W.seq ?_
    refine W.bC rfl (fun c41=>?_) (fun c41=>?_)
    ·have hjl:j<(bQ ps 0 qn).length:=by omega
     obtain⟨p,hpj,-⟩:=has hjl
     have hx3:=VG hx2 hpj
     have hpl':p<ps.length:=EL (List.mem_of_getElem? hpj)
     have agk:p<4:=(Ak.1 (List.mem_of_getElem? hpj)).1
     have hnx:=VF (g:=g) hpj
     rcases id hS with⟨he,-⟩ | ⟨β,cc,cap',J',he,rfl,hcs,hle,hpt,hJ'⟩
     ·rw[zs,List.map_eq_nil_iff]at he
      rw[he]at hjl;cases hjl
     rw[kT]at he
     cases he
     have hcv:cc[0+j*1]? =some (I p):=Part.Bo hpt (i:=j) (p:=(p:Int)) (by rw[zs,List.getElem?_map,hpj];rfl) 0 (by decide)
     rcases o with _ | ⟨β0,tl⟩
     ·exact absurd hrm.1 (by omega)
     obtain⟨cm',hcm⟩:=hrm
     subst hcm
     have hpr:p<rs.length:=by rw[hro.len];exact hpl'
     have hr0:=YC (tl:=tl) hpr
     have hrb:0≤rs.getD p 0∧rs.getD p 0≤40:=by
      refine hro.room _ ?_
      rw[List.getD_eq_getElem?_getD,List.getElem?_eq_getElem hpr];exact List.getElem_mem hpr
     have agl:(uV q).size=4:=by rw[qj,hIq.len]
     refine W.skip<|aA<|W.seq<|W.block<|W.seq<|W.region rfl ?_
     refine ag3 rfl ?_
     refine agX rfl ?_
     refine agb rfl rfl rfl<|pq<|W.seq<|W.seq ?_
     refine W.DR [(mZ,.cells #[I pre.length] dL (0,0)),(β0,QK tl rs)] (n:=16) rfl ?_
     refine xq 0 (iQ rfl rfl) rfl ?_
     first | refine xq 1 (bg rfl rfl) rfl ?_ | refine xq 1 (aT rfl rfl) rfl ?_
     refine xq 2 (ay rfl rfl) rfl ?_
     refine xq 3 (iQ rfl rfl) rfl ?_
     refine xq 4 (aN rfl rfl) rfl ?_
     first | refine xq 5 (G_ rfl rfl rfl) rfl ?_ | refine xq 5 (o_ rfl rfl rfl) rfl ?_
     refine xq 6 (iQ rfl rfl) rfl ?_
     refine xq 7 (iQ rfl rfl) rfl ?_
     first | refine xq 8 (bg rfl rfl) rfl ?_ | refine xq 8 (aT rfl rfl) rfl ?_
     refine xq 9 (ay rfl rfl) rfl ?_
     refine xq 10 (iQ rfl rfl) rfl ?_
     refine xq 11 (iQ rfl rfl) rfl ?_
     first | refine xq 12 (G_ rfl rfl rfl) rfl ?_ | refine xq 12 (o_ rfl rfl rfl) rfl ?_
     refine xq 13 (ay rfl rfl) rfl ?_
     refine xq 14 (iQ rfl rfl) rfl ?_
     refine xq 15 (fO rfl rfl rfl) rfl ?_
     refine az ?_
     refine aA ?_
     refine W.bC rfl (fun c59=>?_) (fun c59=>?_)
     ·refine W.exit<|bP<|gG<|aA<|W.region rfl ?_
      refine ag1 rfl ?_
      refine qm rfl rfl rfl<|pq ?_
      have V8:g p=[]:=by
       have hnf:fits ⟨qn,po⟩ rs p=false:=by simpa[fits]using c59
       rw[hg]
       simp only
       rw[if_neg (by rw[hnf];simp)]
      rw[V8,List.append_nil]at hnx
      exact⟨rfl,j+1,q,A,⟨hjl,hIq,by rw[hnx];exact hJq⟩,by omega,⟨rfl,rfl,rfl,rfl,rfl,rfl,rfl,rfl,trivial⟩,.refl⟩
     ·refine W.skip<|aA<|W.seq<|W.region rfl ?_
      refine agX rfl ?_
      refine qm rfl rfl rfl ?_
      first | refine agW (UN rfl rfl rfl) rfl ?_ | refine agW (Qg rfl rfl rfl) rfl ?_
      refine Ops.yG ?_
      refine pq<|W.seq<|W.region rfl ?_
      refine agX rfl ?_
      refine agX rfl ?_
      refine qm rfl rfl rfl ?_
      refine agW (y7 rfl rfl rfl) rfl ?_
      have hfit:fits ⟨qn,po⟩ rs p=true:=by simpa[fits]using c59
      have V8:g p=Dv ps Uz (less ⟨qn,po⟩ rs p) (pre++[(p:Int)]):=by
       rw[hg]
       simp only
       rw[if_pos hfit]
      rw[Ux]
      refine Ops.perm (F':=((A++[(bs,Ox (q.set pre.length p))])++[(β0,QK tl rs)])++((mZ,.cells #[I pre.length] dL (0,0))::(β,.cells cc dL (0,0))::J')) p5 ?_
      refine cg .head (fun h3 e3 hL=>aav _ h3 ls ⟨qn,po⟩ rs pre.length p _ _ (.func (.func gU) #[] #[bI b4,bI mZ]) cm' β0 bl tl _ _ (A++[(bs,Ox (q.set pre.length p))]) (hl.ext e3) QL hpr hrb ⟨hlb.2.2.1,hlb.2.2.2⟩ (by rw[hro.len];exact e3.1 _ _ hbl) (Lc xs J K ls.length pre bs (k+(Dv ps Uz rs (pre++[-1])).length+(((bQ ps 0 qn).take j).flatMap g).length+(g p).length)) (fun h5 e5=>?_)) (fun v A1 hv=>?_)
      ·refine ab5 _ h5 (VH b1 b2 bs b4) b4 mZ pre.length _ _ _ _ _ _ rfl (by omega) ((e3.trans e5).1 _ _ hb4) (e5.1 _ _ (hL mZ _ (List.mem_cons_self ..))) fun h6 e6=>?_
       have hE:=(e3.trans e5).trans e6
       have hrec:=ih (pre++[(p:Int)]) (less ⟨qn,po⟩ rs p) (q.set pre.length p) h6 _ _ A (by rw[hlen1,←List.drop_drop,hd];rfl) (by rw[hlen1];omega) ⟨by rw[Qs];exact hro.len,aas hro.room ⟨hlb.2.2.1,hlb.2.2.2⟩ hpr hfit⟩ (hIq.set hil hl4) (hp.ext hE) (hl.ext hE) (hE.1 _ _ hbl) (hE.1 _ _ hb1) (hE.1 _ _ hb2) (hE.1 _ _ hb4) (hy.ext hE) (V8▸hx3) hJq
       rw[hlen1]at hrec
       refine(gZ.zh (fi:=[]) (args:=[_]) (ca:=[_,_,_,_]) hrec).mono ?_
       rintro v A' ⟨B',hB',hsb⟩
       rw[←V8]at hB'
       obtain⟨r,rfl⟩:=hB'.bool
       exact⟨r,rfl,B',hB'.less,hsb⟩
      obtain⟨B',hB',hsb⟩:=hv
      obtain⟨r,rfl⟩:=hB'.bool
      refine Ops.sb (F':=(B'++[(β0,QK tl rs)])++((mZ,.cells #[I pre.length] dL (0,0))::(β,.cells cc dL (0,0))::J')) (hsb.app .refl) ?_
      refine agW (xU rfl rfl) rfl ?_
      refine pq ?_
      refine W.cond rfl (fun Z4=>?_) (fun Z4=>?_)
      ·refine W.seq<|W.region rfl<|agb rfl rfl rfl<|pq<|W.ret<|cZ<|aY<|aY<|cZ ?_
       refine aY ?_
       obtain rfl:=adS Z4
       exact mg (vs:=[.bool false]) ⟨B',hB'.stop,.right .refl (.cons rfl (.cons rfl hJ'))⟩
      ·refine W.skip<|dI<|aA<|W.region rfl ?_
       refine ag1 rfl ?_
       refine qm rfl rfl rfl<|pq ?_
       obtain rfl:=adT Z4
       obtain⟨q3,B3,hI3,rfl,hJK⟩:=hB'
       have hJ3:J (k+(Dv ps Uz rs (pre++[-1])).length+(((bQ ps 0 qn).take j).flatMap g).length+(g p).length) B3:=by
        rcases hJK with⟨_,h⟩ | ⟨h,_⟩
        ·exact h
        ·cases h
       exact⟨rfl,j+1,q3,B3,⟨hjl,hI3,by rw[hnx,List.length_append,←Nat.add_assoc];exact hJ3⟩,by omega,⟨rfl,rfl,rfl,rfl,rfl,rfl,rfl,rfl,trivial⟩,.dF (p5 (x:=(mZ,.cells #[I pre.length] dL (0,0))) (y:=(bs,Ox q3)) (z:=(β0,QK tl rs)) (S:=(β,.cells cc dL (0,0))::J') (A:=B3)).symm⟩
    ·obtain rfl:j=(bQ ps 0 qn).length:=by omega
     rw[List.take_length]at hJq
     refine W.exit<|bP<|bP<|gG<|aA<|W.seq<|W.region rfl<|agb rfl rfl rfl<|pq ?_
     refine W.ret ?_
     refine mg (vs:=[.bool true]) ⟨A++[(bs,Ox q)],⟨q,A,hIq,rfl,.inl ⟨rfl,by rw[List.length_append,←Nat.add_assoc];exact hJq⟩⟩,?_⟩
     refine(Sb.dF p7).trans ?_
     exact .skip rfl (.cons (.app .refl (.left .refl hS.shut)))
end Go.aS

/- The best shares, filled up. Conditions: none; no program in sight. -/
namespace Go.aS
set_option linter.unusedVariables false
def jZ(p:List Int):List Value:=[I (p.getD 0 0),I (p.getD 1 0),I (p.getD 2 0),I (p.getD 3 0)]
instance:Rw jZ 4:=⟨fun _=>rfl,fun _=>rfl⟩
theorem list4{p:List Int}(h:p.length=4):∃a b c d,p=[a,b,c,d]:=by
 match p,h with
 | [a,b,c,d],_=>exact⟨a,b,c,d,rfl⟩
theorem Qz{p:List Int}(h:p.length=4):(jZ p).toArray=uV p:=by
 obtain⟨a,b,c,d,rfl⟩:=list4 h
 rfl
theorem UA{ls:List Lt}:∀{s t:List Int},s.length=ls.length→Ba ls (s++t)=Ba ls s:=by
 induction ls with
 | nil=>intro s t h;cases s <;>rfl
 | cons l ls ih=>
  intro s t h
  cases s with
  | nil=>simp at h
  | cons a s=>simp only[List.cons_append,Ba];rw[ih (by simpa using h)]
theorem YF{s t:List Int}(hl:s.length=t.length)(h:kC s=kC t):s=t:=by
 have:=congrArg (List.take s.length) h
 rw[kC,kC,List.take_left,hl,List.take_left]at this
 exact this
theorem Az{ps:List Pn}{ls:List Lt}{rs s:List Int}(h:s∈yS ps ls rs):s.length=ls.length:=by
 have:=(Ot h).1
 simpa using this
def CG(ps:List Pn)(ls:List Lt)(rs:List Int):Int×List (List Int):=wE (Ba ls) ((yS ps ls rs).map kC)
theorem VI{α β:Type}{f:α→β}{xs:List α}(h:xs.Nodup)(hf:∀a∈xs,∀b∈xs,f a=f b→a=b):(xs.map f).Nodup:=by
 induction xs with
 | nil=>simp
 | cons a xs ih=>
  rw[List.nodup_cons]at h
  rw[List.map_cons,List.nodup_cons]
  refine⟨fun hm=>?_,ih h.2 fun x hx y hy=>hf x (List.mem_cons_of_mem _ hx) y (List.mem_cons_of_mem _ hy)⟩
  obtain⟨b,hb,e⟩:=List.mem_map.1 hm
  have:=hf b (List.mem_cons_of_mem _ hb) a (List.mem_cons_self ..) e
  exact h.1 (this▸hb)
theorem YG{ps:List Pn}{ls:List Lt}{rs:List Int}:CG ps ls rs=((oZ ps ls rs).1,(oZ ps ls rs).2.map kC):=by
 have h1:lY (Ba ls) (yS ps ls rs) (oZ ps ls rs):=EU qX
 have hn:((yS ps ls rs).map kC).Nodup:=VI qX fun a ha b hb=>YF ((Az ha).trans (Az hb).symm)
 have h2:lY (Ba ls) ((yS ps ls rs).map kC) (CG ps ls rs):=EU hn
 have hl:∀s∈yS ps ls rs,Ba ls (kC s)=Ba ls s:=fun s hs=>UA (Az hs)
 refine h2.one ⟨fun x hx=>?_,?_,fun _ h=>?_⟩ (fun h=>Ou (List.map_eq_nil_iff.1 h))
 ·obtain⟨s,hs,rfl⟩:=List.mem_map.1 hx
  rw[hl s hs];exact h1.le s hs
 ·show(oZ ps ls rs).2.map kC=_
  rw[List.filter_map,h1.eq]
  congr 1
  refine List.filter_congr fun s hs=>?_
  show decide (Ba ls s=_)=decide (Ba ls (kC s)=_)
  rw[hl s hs]
 ·exact h1.ne Ou (List.map_eq_nil_iff.1 h)
theorem G6{α β:Type}{g:α→List β}{n:Nat}:∀{l:List α},(∀a∈l,(g a).length≤n)→(l.flatMap g).length≤l.length*n
 | [],_=>by simp
 | a::l,h=>by
  have h1:=h a (List.mem_cons_self ..)
  have h2:=G6 (l:=l) fun b hb=>h b (List.mem_cons_of_mem _ hb)
  rw[List.flatMap_cons,List.length_append,List.length_cons,Nat.succ_mul];omega
theorem Oy{ps:List Pn}:∀{ls:List Lt} {rs pre:List Int},(Dv ps ls rs pre).length≤5 ^ ls.length
 | [],_,_=>by simp[Dv]
 | l::ls,rs,pre=>by
  have h1:=Oy (ps:=ps) (ls:=ls) (rs:=rs) (pre:=pre++[-1])
  have h2:=G6 (g:=fun p=>if fits l rs p then Dv ps ls (less l rs p) (pre++[(p:Int)])else[]) (n:=5 ^ ls.length) (l:=bQ ps 0 l.qu.toNat) fun p _=>by
   show(if fits l rs p then _ else _:List (List Int)).length≤_
   split
   ·exact Oy
   ·simp
  have h3:(bQ ps 0 l.qu.toNat).length*5 ^ ls.length≤4*5 ^ ls.length:=Nat.mul_le_mul_right _ wB
  rw[Dv,List.length_append,List.length_cons,Nat.pow_succ]
  omega
theorem aax{ps:List Pn}{ls:List Lt}{rs:List Int}(h:ls.length≤4):(yS ps ls rs).length≤625:=
 Nat.le_trans Oy (Nat.le_trans (Nat.pow_le_pow_right (by omega) h) (by decide))
theorem YH{X:Type}[DecidableEq X]{s:Int×List X}{x:X}{n:Int}:(jQ s x n).2.length≤s.2.length+1∧∀y∈(jQ s x n).2,y=x∨y∈s.2:=by
 have key:∀l:List X,(if x∈l then l else l++[x]).length≤l.length+1∧∀y∈(if x∈l then l else l++[x]),y=x∨y∈l:=fun l=>by
  split
  ·exact⟨by omega,fun y hy=>.inr hy⟩
  ·refine⟨by simp,fun y hy=>?_⟩
   rcases List.mem_append.1 hy with h | h
   ·exact .inr h
   ·exact .inl (List.mem_singleton.1 h)
 unfold jQ
 by_cases h1:s.2≠[]∧n<s.1
 ·rw[if_pos h1];exact⟨by omega,fun y hy=>.inr hy⟩
 ·rw[if_neg h1]
  by_cases h2:s.1<n
  ·simp only[if_pos h2]
   obtain⟨q1,q2⟩:=key []
   refine⟨Nat.le_trans q1 (by simp),fun y hy=>?_⟩
   rcases q2 y hy with h | h
   ·exact .inl h
   ·cases h
  ·simp only[if_neg h2];exact key s.2
theorem MC{X:Type}[DecidableEq X]{f:X→Int}{xs:List X}:∀{k:Nat},k≤xs.length→(wE f (xs.take k)).2.length≤k∧∀y∈(wE f (xs.take k)).2,y∈xs
 | 0,_=>by simp[wE]
 | k+1,h=>by
  obtain⟨x,hx⟩:∃x,xs[k]? =some x:=⟨xs[k],List.getElem?_eq_getElem (by omega)⟩
  obtain⟨h1,h2⟩:=MC (f:=f) (xs:=xs) (k:=k) (by omega)
  rw[J4 hx]
  obtain⟨h3,h4⟩:=YH (s:=wE f (xs.take k)) (x:=x) (n:=f x)
  refine⟨by omega,fun y hy=>?_⟩
  rcases h4 y hy with rfl | h
  ·exact List.mem_of_getElem? hx
  ·exact h2 y h
end Go.aS

/- The iterator of shares; pounds; which shares are best. Conditions: none; over the given program. -/
namespace Go.aS
set_option maxRecDepth 100000
set_option maxHeartbeats 4000000
instance:NS prog dw:=⟨by kernel_rfl,by kernel_rfl⟩
theorem VJ:V7 prog dw 4 2:=V7.array (n:=4) (w:=1) (K:=1) EqAt.int
instance:EV prog dw 4:=⟨VJ.le (by decide)⟩

theorem VK(main:Side)(h:Hp)(ps:List Pn)(ls:List Lt)(rs:List Int)(vp vl vm:Value)(o:Option (Nat×List Value))(bl b1:Nat)(El E1:TypeId)(zl z1:Nat×Nat)(hok:iP ps)(hlo:Au ls)(hro:Aw ps.length rs)(hrm:RmV o ps.length vm)(hp:Sl h Pn.row vp ps)(hl:Sl h Lt.row vl ls)
  (hbl:h bl=some (.cells #[vp,U8 0,vl,vm] El zl)) (hb1:h b1=some (.cells #[bI bl] E1 z1)):Qu prog main (.func (.func jA) #[] #[bI b1]) ab6 (yS ps ls rs) (Iu o rs) h:=by
 intro h' hE0 yv hy1 J K hy A hJ
 refine gZ.zh (f:=jA) (fi:=[]) (args:=[_]) (ca:=[bI b1]) ?_
 refine dV.aG BF rfl (by show 2≤8;decide) [(0,yv),(1,bI b1)] ⟨rfl,rfl,trivial⟩ ?_
 refine W.seq<|W.region rfl ?_
 refine Ops.box (fun yR=>?_) rfl rfl (OO hy1)
 refine pq<|W.seq<|W.region rfl ?_
 refine Ops.new (fun uU=>?_)
 refine pq<|W.seq<|W.region rfl ?_
 refine Ops.new (fun wC=>?_)
 refine pq<|W.seq<|W.region rfl ?_
 refine agW (y7 rfl rfl rfl) rfl ?_
 refine Ops.yG ?_
 refine pq<|W.region rfl ?_
 refine agX rfl ?_
 refine Ops.perm (F':=((A++[(uU,Ox [0,0,0,0])])++Iu o rs)++[(wC,.cells #[VH b1 yR uU wC] 62 (0,0)),(yR,.cells #[yv] 204 (0,0))]) (by
  have e:((A++[(uU,Ox [0,0,0,0])])++Iu o rs)++[(wC,.cells #[VH b1 yR uU wC] 62 (0,0)),(yR,.cells #[yv] 204 (0,0))]=(A++((uU,Ox [0,0,0,0])::Iu o rs))++[(wC,.cells #[VH b1 yR uU wC] 62 (0,0)),(yR,.cells #[yv] 204 (0,0))]:=by simp
  rw[e]
  refine(List.perm_append_comm (l₂:=[_,_])).trans (.cons _ ?_)
  exact(List.Perm.cons _ List.perm_middle).trans (.swap _ _ _)) ?_
 refine cgv .head (fun h2 hE hL=>gZ.zh (fi:=[]) (args:=[_]) (ca:=[_,_,_,_]) (aaw _ ps ls vp vl vm yv o bl b1 yR uU wC _ _ _ _ _ _ _ _ hok hlo hrm hy1 (yS ps ls rs) J K ls [] rs [0,0,0,0] h2 0 [] A rfl (Nat.zero_le _) hro (.start hlo.len) (hp.ext (hE0.trans hE)) (hl.ext (hE0.trans hE)) ((hE0.trans hE).1 _ _ hbl) ((hE0.trans hE).1 _ _ hb1) (hL _ _ (.tail _ (.head _))) (hL _ _ (.head _)) (hy.ext hE) (by simp[yS]) hJ)) (fun v B1 hv=>?_)
 obtain⟨B',⟨q,B,-,rfl,hJK⟩,hsb⟩:=hv
 refine Ops.nil ?_
 have hs2:Sb (B++Iu o rs) (B1++[(wC,.cells #[VH b1 yR uU wC] 62 (0,0)),(yR,.cells #[yv] 204 (0,0))]):=by
  refine Sb.trans ?_ (hsb.right (.cons rfl (.cons rfl .nil)))
  rw[List.append_assoc]
  exact Sb.app .refl (.skip rfl .refl)
 refine mg (vs:=[]) ?_
 rcases hJK with⟨_,h⟩ | ⟨_,k,x,hx,hK⟩
 ·refine .inl ⟨B,?_,hs2⟩
  rw[Nat.zero_add]at h;exact h
 ·exact .inr ⟨k,x,_,[],B,hx,⟨rfl,rfl⟩,hK,by rw[List.append_nil];exact hs2⟩

theorem ab7(main:Side)(h:Hp)(bl:Nat):dV prog main vP #[bI bl] h [] (fun v A=>∃b1,v= .func (.func jA) #[] #[bI b1]∧A=[(b1,.cells #[bI bl] fM (0,0))]):=by
 refine dV.aG Ez rfl (by show 1≤4;decide) [(0,bI bl)] ⟨rfl,trivial⟩ ?_
 refine W.seq<|W.region rfl ?_
 refine Ops.box (fun β1=>?_)
 refine agb rfl rfl rfl<|pq<|W.seq<|W.region rfl ?_
 refine agW (y7 rfl rfl rfl) rfl ?_
 refine agb rfl rfl rfl<|pq<|W.ret ?_
 exact mg ⟨_,rfl,rfl⟩

theorem YI{ls:List Lt}:∀{s:List Int} {k:Nat} {l:Lt} {a:Int},ls[k]? =some l→s[k]? =some a→Ba (ls.take (k+1)) (s.take (k+1))=Ba (ls.take k) (s.take k)+(if 0≤a then l.po else 0):=by
 induction ls with
 | nil=>intro s k l a h;cases h
 | cons m ls ih=>
  intro s k l a h1 h2
  cases s with
  | nil=>cases h2
  | cons b s=>
   cases k with
   | zero=>
    cases h1;cases h2
    simp[Ba]
   | succ k=>
    have:=ih (k:=k) h1 h2
    simp only[List.take_succ_cons,Ba]at this⊢
    rw[this];omega
theorem VL(main:Side)(h:Hp)(ls:List Lt)(p:List Int)(vp vl vm:Value)(bl:Nat)(El:TypeId)(zl:Nat×Nat)(hlo:Au ls)(Du:p.length=4)(hl:Sl h Lt.row vl ls)(hbl:h bl=some (.cells #[vp,U8 0,vl,vm] El zl)):Pu prog main qE #[bI bl,.agg (uV p)] h (I (Ba ls p)):=by
 obtain⟨a,cap,rfl⟩:=hl.dA
 have hl4:=hlo.len
 have hsz:(uV p).size=4:=by rw[qj,Du]
 refine dV.aG zW rfl (by show 2≤28;decide) [(0,bI bl),(1,.agg (uV p))] ⟨rfl,rfl,trivial⟩ ?_
 refine W.seq<|W.region rfl ?_
 refine Ops.box (fun uU=>?_)
 refine agb rfl rfl rfl<|pq<|W.seq<|W.region rfl<|agb rfl rfl rfl<|pq<|W.seq<|W.seq ?_
 refine W.region rfl<|qm rfl rfl rfl ?_
 refine ag4 rfl ?_
 refine agY rfl ?_
 refine agX rfl ?_
 refine agW (dM rfl rfl) rfl ?_
 refine qm rfl rfl rfl<|pq<|W.block ?_
 refine W.loop (σ:=Nat) (fun k=>k≤ls.length) (fun k=>[(13,I k),(12,I ls.length),(11,.slice a ls.length cap),(3,bI uU),(5,I (Ba (ls.take k) (p.take k)))]) (fun _=>[(uU,.cells (uV p) dw (0,0))]) (fun k=>ls.length-k) 0 (Nat.zero_le _) ⟨rfl,rfl,rfl,rfl,rfl,trivial⟩ .refl ?_
 rintro k hk
 refine W.seq<|W.region rfl ?_
 refine agW (fO rfl rfl rfl) rfl ?_
 refine pq<|W.seq ?_
 refine W.bC rfl (fun c14=>?_) (fun c14=>?_)
 ·obtain⟨l,QL,hdr⟩:=has (show k<ls.length by omega)
  obtain⟨x,hpx,-⟩:=has (show k<p.length by omega)
  have hlb:=hlo.lot l (List.mem_of_getElem? QL)
  obtain⟨b,off,c,E,fz,rfl,hb,hx,hy,hz⟩:=hl.at QL
  have hx':c.extract (off+k*2) (off+k*2+2)= #[I l.qu,I l.po]:=hx
  clear hx hz
  have hpa:=ab4 hpx
  have hnx:=YI QL hpx
  have hbd:=ab3 (ls:=ls.take k) (fun l hl=>hlo.lot l (List.mem_of_mem_take hl)) (s:=p.take k)
  have agm:(ls.take k).length≤4:=by simp;omega
  refine W.skip<|aA<|W.seq<|W.block<|W.seq<|W.region rfl<|qm rfl rfl rfl ?_
  refine ag3 rfl ?_
  refine ag2 rfl ?_
  refine Ops.new (fun Vo=>?_)
  refine agb rfl rfl rfl ?_
  first | refine Ops.jP ?_ | refine Ops.nY ?_
  refine pq<|W.seq<|W.region rfl<|qm rfl rfl rfl ?_
  first | refine agW (UN rfl rfl rfl) rfl ?_ | refine agW (Qg rfl rfl rfl) rfl ?_
  refine agX rfl ?_
  refine agW (IJ rfl rfl rfl) rfl ?_
  refine pq ?_
  refine W.bC rfl (fun c21=>?_) (fun c21=>?_)
  ·refine W.region rfl<|qm rfl rfl rfl ?_
   refine agY rfl ?_
   refine agX rfl ?_
   refine ag1 rfl ?_
   refine agb rfl rfl rfl<|Ops.nil<|dI<|aA<|W.region rfl ?_
   refine ag1 rfl ?_
   refine qm rfl rfl rfl<|pq ?_
   exact⟨rfl,k+1,by omega,by omega,⟨rfl,rfl,rfl,rfl,lk rfl (by rw[hnx,if_pos (by omega)]),trivial⟩,.skip rfl .refl⟩
  ·refine W.skip<|dI<|aA<|W.region rfl ?_
   refine ag1 rfl ?_
   refine qm rfl rfl rfl<|pq ?_
   exact⟨rfl,k+1,by omega,by omega,⟨rfl,rfl,rfl,rfl,lk rfl (by rw[hnx,if_neg (by omega),Int.add_zero]),trivial⟩,.skip rfl .refl⟩
 ·obtain rfl:k=ls.length:=by omega
  refine W.exit<|bP<|bP<|gG<|aA<|W.seq<|W.region rfl<|qm rfl rfl rfl<|agb rfl rfl rfl<|Ops.nil ?_
  refine aA<|W.ret ?_
  refine uZ ?_
  have e:Ba ls p=Ba (ls.take ls.length) (p.take ls.length):=by
   rw[List.take_length]
   conv=>lhs;rw[←List.take_append_drop ls.length p]
   exact UA (by simp;omega)
  rw[e];rfl

theorem YJ(main:Side)(h:Hp)(l:List (List Int))(p:List Int)(vl:Value)(hl:Sl h jZ vl l)(hp:p.length=4)(hl4:∀q∈l,q.length=4)(hn:l.length≤1000000):dV prog main pY #[vl,.agg (uV p)] h [] (fun v A=>∃n:Int,v=I n∧(0≤n↔p∈l)∧Shut A):=by
 obtain⟨a,cap,rfl⟩:=hl.dA
 have hsz:(uV p).size=4:=by rw[qj,hp]
 refine dV.aG yP rfl (by show 2≤19;decide) [(0,.slice a l.length cap),(1,.agg (uV p))] ⟨rfl,rfl,trivial⟩ ?_
 refine W.seq<|W.region rfl ?_
 refine Ops.box (fun uU=>?_)
 refine agb rfl rfl rfl<|pq<|W.seq<|W.seq<|W.region rfl<|qm rfl rfl rfl ?_
 refine agW (dM rfl rfl) rfl ?_
 refine qm rfl rfl rfl<|pq<|W.block ?_
 refine W.loop (σ:=Nat) (fun k=>k≤l.length∧p∉l.take k) (fun k=>[(8,I k),(7,I l.length),(0,.slice a l.length cap),(3,bI uU)]) (fun _=>[(uU,.cells (uV p) dw (0,0))]) (fun k=>l.length-k) 0 ⟨Nat.zero_le _,by simp⟩ ⟨rfl,rfl,rfl,rfl,trivial⟩ .refl ?_
 rintro k ⟨hk,hno⟩
 refine W.seq<|W.region rfl ?_
 refine agW (fO rfl rfl rfl) rfl ?_
 refine pq<|W.seq ?_
 refine W.bC rfl (fun c9=>?_) (fun c9=>?_)
 ·obtain⟨q,hq,-⟩:=has (show k<l.length by omega)
  have hqm:=List.mem_of_getElem? hq
  have hq4:=hl4 q hqm
  obtain⟨b,off,c,E,fz,rfl,hb,hx,hy,hz⟩:=hl.at hq
  have hx':c.extract (off+k*4) (off+k*4+4)=uV q:=by rw[←Qz hq4];exact hx
  clear hx hz
  refine W.skip<|aA<|W.seq<|W.block<|W.seq<|W.region rfl<|qm rfl rfl rfl<|agb rfl rfl rfl<|pq ?_
  refine W.seq ?_
  refine W.rE (n:=6) rfl ?_
  first | refine xq 0 (Bf rfl rfl) rfl ?_ | refine xq 0 (zi rfl rfl) rfl ?_
  refine xq 1 (aN rfl rfl) rfl ?_
  refine xq 2 (aN rfl rfl) rfl ?_
  first | refine xq 3 (G_ rfl rfl rfl) rfl ?_ | refine xq 3 (o_ rfl rfl rfl) rfl ?_
  first | refine xq 4 (Bf rfl rfl) rfl ?_ | refine xq 4 (zi rfl rfl) rfl ?_
  refine xq 5 (adA p q rfl rfl rfl rfl rfl hp hq4) rfl ?_
  refine az ?_
  refine aA ?_
  refine W.bC rfl (fun c16=>?_) (fun c16=>?_)
  ·refine W.seq<|W.region rfl<|qm rfl rfl rfl<|agb rfl rfl rfl<|pq<|W.ret<|cZ<|aY<|aY ?_
   refine cZ<|aY ?_
   refine mg (vs:=[I k]) ⟨k,rfl,⟨fun _=>by rw[c16];exact hqm,fun _=>by omega⟩,by repeat(first | exact Shut.nil | refine Shut.cons rfl ?_)⟩
  ·refine W.skip<|dI<|aA<|W.region rfl ?_
   refine ag1 rfl ?_
   refine qm rfl rfl rfl<|pq ?_
   refine⟨rfl,k+1,⟨by omega,?_⟩,by omega,⟨rfl,rfl,rfl,rfl,trivial⟩,.refl⟩
   rw[List.take_add_one,hq]
   intro hm
   rcases List.mem_append.1 hm with hm | hm
   ·exact hno hm
   ·exact c16 (by simpa using hm)
 ·obtain rfl:k=l.length:=by omega
  rw[List.take_length]at hno
  refine W.exit<|bP<|bP<|gG<|aA<|W.seq<|W.region rfl<|agb rfl rfl rfl<|pq ?_
  refine W.ret ?_
  refine mg (vs:=[I (-1)]) ⟨-1,rfl,⟨fun h=>by omega,fun h=>absurd h hno⟩,by repeat(first | exact Shut.nil | refine Shut.cons rfl ?_)⟩
theorem jq(main:Side)(h:Hp)(l:List (List Int))(p:List Int)(vl:Value)(hl:Sl h jZ vl l)(hp:p.length=4)(hl4:∀q∈l,q.length=4)(hn:l.length≤1000000):Pu prog main mQ #[vl,.agg (uV p)] h (.bool (decide (p∈l))):=by
 obtain⟨a,cap,rfl⟩:=hl.dA
 have hsz:(uV p).size=4:=by rw[qj,hp]
 refine dV.aG uT rfl (by show 2≤9;decide) [(0,.slice a l.length cap),(1,.agg (uV p))] ⟨rfl,rfl,trivial⟩ ?_
 refine W.seq<|W.region rfl ?_
 refine Ops.box (fun uU=>?_)
 refine agb rfl rfl rfl<|pq<|W.seq<|W.region rfl<|qm rfl rfl rfl ?_
 refine ag2 rfl ?_
 refine c0 (fun h' hE hL=>YJ _ h' l p _ (hl.ext hE) hp hl4 hn) (fun v A' hv=>?_)
 obtain⟨n,rfl,hin,hA⟩:=hv
 refine agW (IJ rfl rfl rfl) rfl ?_
 refine agb rfl rfl rfl<|pq<|W.ret ?_
 refine uZ ?_
 exact congrArg Value.bool (decide_eq_decide.2 hin)
end Go.aS

/- The best shares; sharing out. Conditions: none; over the given program. -/
namespace Go.aS
set_option maxRecDepth 100000
set_option maxHeartbeats 4000000
theorem xO{p:List Int}(h:p.length=4):Instr.fill (fun i=>some (i*4,4)) ((List.range (1*4)).map (fun i=>(#[I 0,I 0,I 0,I 0]:Array Value)[i % 4]!)).toArray ([0].zip [Value.agg (uV p)])=some (uV p):=by
 obtain⟨a,b,c,d,rfl⟩:=list4 h
 kernel_rfl
theorem j_{p:List Int}(h:p.length=4):Part (uV p) 0 (flat jZ [p]):=by
 rw[←Qz h]
 have e:flat jZ [p]=jZ p:=by simp[flat]
 rw[e]
 exact Part.all _
theorem aay(main:Side)(h:Hp)(bm:Nat)(c n:Int)(v:Value)(l:List (List Int))(p:List Int)(S:ah)(hO:Os dw jZ v l S)(hl:l.length≤100000)(Du:p.length=4)(hl4:∀q∈l,q.length=4):
  dV prog main vV #[bI bm,.agg (uV p),I n] h ((bm,.cells #[I c,v] iJ (0,0))::S) (fun _ A'=>∃v' S',Os dw jZ v' (jQ (c,l) p n).2 S'∧Sb ((bm,.cells #[I (jQ (c,l) p n).1,v'] iJ (0,0))::S') A'):=by
 obtain⟨a,cap,rfl⟩:=hO.dA
 have hsz:(uV p).size=4:=by rw[qj,Du]
 have hon:ones (uV p).toList=true:=Qv
 refine dV.aG EH rfl (by show 3≤50;decide) [(0,bI bm),(1,.agg (uV p)),(2,I n)] ⟨rfl,rfl,rfl,trivial⟩ ?_
 refine W.seq<|W.region rfl ?_
 refine Ops.box (fun wC=>?_)
 refine pq<|W.seq<|W.seq<|W.region rfl<|qm rfl rfl rfl ?_
 refine ag4 rfl ?_
 refine agY rfl ?_
 refine agX rfl ?_
 refine agW (dM rfl rfl) rfl ?_
 refine agW (rC rfl rfl rfl) rfl ?_
 refine qm rfl rfl rfl ?_
 refine Ops.ask (fun adW=>?_) (fun adW=>?_)
 ·refine oq (aN rfl rfl) rfl (ak rfl rfl rfl) rfl rfl ?_
  refine oq (aN rfl rfl) rfl (ak rfl rfl rfl) rfl rfl ?_
  first | refine oq (bg rfl rfl) rfl (ak rfl rfl rfl) rfl rfl ?_ | refine oq (aT rfl rfl) rfl (ak rfl rfl rfl) rfl rfl ?_
  refine oq (ay rfl rfl) rfl (ak rfl rfl rfl) rfl rfl ?_
  refine oq (iQ rfl rfl) rfl (ak rfl rfl rfl) rfl rfl ?_
  refine oq (fO rfl rfl rfl) rfl (ak rfl rfl rfl) rfl rfl ?_
  refine agW (dG rfl rfl rfl) rfl ?_
  refine pq ?_
  refine W.bC rfl (fun c19=>?_) (fun c19=>?_)
  ·refine W.ret<|aY ?_
   have hl0:l≠[]:=by rintro rfl;simp at adW
   have e:jQ (c,l) p n=(c,l):=by simp only[jQ];rw[if_pos ⟨hl0,c19⟩]
   rw[e]
   exact mg (vs:=[]) ⟨_,S,hO,.skip rfl .refl⟩
  ·refine W.skip<|aA<|W.seq<|W.seq<|W.region rfl<|qm rfl rfl rfl<|qm rfl rfl rfl ?_
   refine ag4 rfl ?_
   refine agY rfl ?_
   refine agX rfl ?_
   refine agW (rC rfl rfl rfl) rfl ?_
   refine pq ?_
   refine W.bC rfl (fun c25=>?_) (fun c25=>?_)
   ·refine W.region rfl<|qm rfl rfl rfl ?_
    refine ag4 rfl ?_
    refine agY rfl ?_
    refine Ops.yG ?_
    refine pq<|W.seq<|W.region rfl<|qm rfl rfl rfl<|qm rfl rfl rfl ?_
    refine ag4 rfl ?_
    refine agY rfl ?_
    refine Ops.yG ?_
    refine pq<|W.seq ?_
    refine W.Ap (n:=7) rfl ?_
    refine xq 0 (aN rfl rfl) rfl ?_
    first | refine xq 1 (bg rfl rfl) rfl ?_ | refine xq 1 (aT rfl rfl) rfl ?_
    refine xq 2 (ay rfl rfl) rfl ?_
    refine xq 3 (iQ rfl rfl) rfl ?_
    first | refine xq 4 (Bf rfl rfl) rfl ?_ | refine xq 4 (zi rfl rfl) rfl ?_
    first
    | refine Va (i:=5) (fun h' hE hL=>jq _ h' [] p _ .nil Du (fun q hq=>by cases hq) (by simp)) ?_ (hS:=.inr (Keeps.one (.head _) (Keeps.one (.tail _ (.head _)) Keeps.nil)))
    | refine Va (i:=5) (fun h' hE hL=>jq _ h' l p _ (hO.sl fun b o hb=>hL b o (.tail _ (.tail _ hb))) Du hl4 (by omega)) ?_ (hS:=.inr (Keeps.one (.head _) (Keeps.one (.tail _ (.head _)) Keeps.nil)))
    refine xq 6 (xU rfl rfl) rfl ?_
    refine az ?_
    refine aA ?_
    refine W.cond rfl (fun Ic=>?_) (fun Ic=>?_)
    ·refine W.Ap (n:=11) rfl ?_
     refine xq 0 (aN rfl rfl) rfl ?_
     refine xq 1 (aN rfl rfl) rfl ?_
     first | refine xq 2 (bg rfl rfl) rfl ?_ | refine xq 2 (aT rfl rfl) rfl ?_
     refine xq 3 (ay rfl rfl) rfl ?_
     refine xq 4 (iQ rfl rfl) rfl ?_
     first | refine xq 5 (Bf rfl rfl) rfl ?_ | refine xq 5 (zi rfl rfl) rfl ?_
     refine abl (i:=6) (cs:=uV p) (fun J5=>?_) rfl (hf:=by exact xO Du)
     first
     | refine ae (i:=7) rfl an rfl rfl (iW (row:=jZ) (l:=[]) (l':=[p]) rfl rfl rfl (Os.nil hO.shut) (.tail (.tail (.tail .all))) (fun h2 _ hl=>Sl.mk (hl J5 _ (.head _)) rfl (j_ Du)) (by simp) (by decide) rfl (fun v' S' Ie=>?_))
     | refine ae (i:=7) rfl an rfl rfl (iW (row:=jZ) (l':=[p]) rfl rfl rfl hO (.tail (.tail (.tail .all))) (fun h2 _ hl=>Sl.mk (hl J5 _ (.head _)) rfl (j_ Du)) (by simp;omega) (by decide) rfl (fun v' S' Ie=>?_))
     refine⟨.inr (fun q hq=>?_),?_⟩
     ·rcases List.mem_cons.1 hq with rfl | hq
      ·exact .tail _ (.head _)
      ·rcases List.mem_cons.1 hq with rfl | hq
       ·exact .tail _ (.tail _ (.head _))
       ·cases hq
     obtain⟨asl,csl,rfl⟩:=Ie.dA
     first | refine xq 8 (bg rfl rfl) rfl ?_ | refine xq 8 (aT rfl rfl) rfl ?_
     refine xq 9 (ay rfl rfl) rfl ?_
     refine ae (i:=10) rfl an rfl rfl (eS rfl rfl rfl ?_)
     refine⟨.inl (by kernel_rfl),?_⟩
     refine az ?_
     have hno:¬(l≠[]∧n<c):=by
      rintro⟨h1,h2⟩
      first | exact c19 h2 | exact h1 (List.length_eq_zero_iff.1 (by omega))
     refine mg (vs:=[]) ?_
     first
     | (
       have e:jQ (c,l) p n=(n,[p]):=by simp only[jQ];rw[if_neg hno,if_pos c25];simp
       rw[e]
       exact⟨_,S',Ie,.skip rfl (.skip rfl .refl)⟩)
     | (
       have e:jQ (c,l) p n=(n,l++[p]):=by simp only[jQ];rw[if_neg hno,if_neg c25,if_neg (by simpa using Ic)]
       rw[e]
       exact⟨_,S',Ie,.skip rfl (.skip rfl .refl)⟩)
    ·refine W.skip ?_
     first
     | (simp at Ic;done)
     | (
       have hno:¬(l≠[]∧n<c):=by
        rintro⟨h1,h2⟩
        first | exact c19 h2 | exact h1 (List.length_eq_zero_iff.1 (by omega))
       refine mg (vs:=[]) ?_
       have e:jQ (c,l) p n=(n,l):=by simp only[jQ];rw[if_neg hno,if_neg c25,if_pos (by simpa using Ic)]
       rw[e]
       exact⟨_,S,hO,.skip rfl .refl⟩)
   ·refine W.skip<|aA<|W.seq<|W.region rfl<|qm rfl rfl rfl<|qm rfl rfl rfl ?_
    refine ag4 rfl ?_
    refine agY rfl ?_
    refine Ops.yG ?_
    refine pq<|W.seq ?_
    refine W.Ap (n:=7) rfl ?_
    refine xq 0 (aN rfl rfl) rfl ?_
    first | refine xq 1 (bg rfl rfl) rfl ?_ | refine xq 1 (aT rfl rfl) rfl ?_
    refine xq 2 (ay rfl rfl) rfl ?_
    refine xq 3 (iQ rfl rfl) rfl ?_
    first | refine xq 4 (Bf rfl rfl) rfl ?_ | refine xq 4 (zi rfl rfl) rfl ?_
    first
    | refine Va (i:=5) (fun h' hE hL=>jq _ h' [] p _ .nil Du (fun q hq=>by cases hq) (by simp)) ?_ (hS:=.inr (Keeps.one (.head _) (Keeps.one (.tail _ (.head _)) Keeps.nil)))
    | refine Va (i:=5) (fun h' hE hL=>jq _ h' l p _ (hO.sl fun b o hb=>hL b o (.tail _ (.tail _ hb))) Du hl4 (by omega)) ?_ (hS:=.inr (Keeps.one (.head _) (Keeps.one (.tail _ (.head _)) Keeps.nil)))
    refine xq 6 (xU rfl rfl) rfl ?_
    refine az ?_
    refine aA ?_
    refine W.cond rfl (fun Ic=>?_) (fun Ic=>?_)
    ·refine W.Ap (n:=11) rfl ?_
     refine xq 0 (aN rfl rfl) rfl ?_
     refine xq 1 (aN rfl rfl) rfl ?_
     first | refine xq 2 (bg rfl rfl) rfl ?_ | refine xq 2 (aT rfl rfl) rfl ?_
     refine xq 3 (ay rfl rfl) rfl ?_
     refine xq 4 (iQ rfl rfl) rfl ?_
     first | refine xq 5 (Bf rfl rfl) rfl ?_ | refine xq 5 (zi rfl rfl) rfl ?_
     refine abl (i:=6) (cs:=uV p) (fun J5=>?_) rfl (hf:=by exact xO Du)
     first
     | refine ae (i:=7) rfl an rfl rfl (iW (row:=jZ) (l:=[]) (l':=[p]) rfl rfl rfl (Os.nil hO.shut) (.tail (.tail (.tail .all))) (fun h2 _ hl=>Sl.mk (hl J5 _ (.head _)) rfl (j_ Du)) (by simp) (by decide) rfl (fun v' S' Ie=>?_))
     | refine ae (i:=7) rfl an rfl rfl (iW (row:=jZ) (l':=[p]) rfl rfl rfl hO (.tail (.tail (.tail .all))) (fun h2 _ hl=>Sl.mk (hl J5 _ (.head _)) rfl (j_ Du)) (by simp;omega) (by decide) rfl (fun v' S' Ie=>?_))
     refine⟨.inr (fun q hq=>?_),?_⟩
     ·rcases List.mem_cons.1 hq with rfl | hq
      ·exact .tail _ (.head _)
      ·rcases List.mem_cons.1 hq with rfl | hq
       ·exact .tail _ (.tail _ (.head _))
       ·cases hq
     obtain⟨asl,csl,rfl⟩:=Ie.dA
     first | refine xq 8 (bg rfl rfl) rfl ?_ | refine xq 8 (aT rfl rfl) rfl ?_
     refine xq 9 (ay rfl rfl) rfl ?_
     refine ae (i:=10) rfl an rfl rfl (eS rfl rfl rfl ?_)
     refine⟨.inl (by kernel_rfl),?_⟩
     refine az ?_
     have hno:¬(l≠[]∧n<c):=by
      rintro⟨h1,h2⟩
      first | exact c19 h2 | exact h1 (List.length_eq_zero_iff.1 (by omega))
     refine mg (vs:=[]) ?_
     first
     | (
       have e:jQ (c,l) p n=(n,[p]):=by simp only[jQ];rw[if_neg hno,if_pos c25];simp
       rw[e]
       exact⟨_,S',Ie,.skip rfl (.skip rfl .refl)⟩)
     | (
       have e:jQ (c,l) p n=(n,l++[p]):=by simp only[jQ];rw[if_neg hno,if_neg c25,if_neg (by simpa using Ic)]
       rw[e]
       exact⟨_,S',Ie,.skip rfl (.skip rfl .refl)⟩)
    ·refine W.skip ?_
     first
     | (simp at Ic;done)
     | (
       have hno:¬(l≠[]∧n<c):=by
        rintro⟨h1,h2⟩
        first | exact c19 h2 | exact h1 (List.length_eq_zero_iff.1 (by omega))
       refine mg (vs:=[]) ?_
       have e:jQ (c,l) p n=(n,l):=by simp only[jQ];rw[if_neg hno,if_neg c25,if_pos (by simpa using Ic)]
       rw[e]
       exact⟨_,S,hO,.skip rfl .refl⟩)
 ·refine Ops.no ?_
  refine Ops.no ?_
  refine Ops.no ?_
  refine Ops.no ?_
  refine Ops.no ?_
  refine Ops.no ?_
  refine agW (iH rfl rfl rfl) rfl ?_
  refine pq ?_
  refine W.bZ ?_
  refine W.skip<|aA<|W.seq<|W.seq<|W.region rfl<|qm rfl rfl rfl<|qm rfl rfl rfl ?_
  refine ag4 rfl ?_
  refine agY rfl ?_
  refine agX rfl ?_
  refine agW (rC rfl rfl rfl) rfl ?_
  refine pq ?_
  refine W.bC rfl (fun c25=>?_) (fun c25=>?_)
  ·refine W.region rfl<|qm rfl rfl rfl ?_
   refine ag4 rfl ?_
   refine agY rfl ?_
   refine Ops.yG ?_
   refine pq<|W.seq<|W.region rfl<|qm rfl rfl rfl<|qm rfl rfl rfl ?_
   refine ag4 rfl ?_
   refine agY rfl ?_
   refine Ops.yG ?_
   refine pq<|W.seq ?_
   refine W.Ap (n:=7) rfl ?_
   refine xq 0 (aN rfl rfl) rfl ?_
   first | refine xq 1 (bg rfl rfl) rfl ?_ | refine xq 1 (aT rfl rfl) rfl ?_
   refine xq 2 (ay rfl rfl) rfl ?_
   refine xq 3 (iQ rfl rfl) rfl ?_
   first | refine xq 4 (Bf rfl rfl) rfl ?_ | refine xq 4 (zi rfl rfl) rfl ?_
   first
   | refine Va (i:=5) (fun h' hE hL=>jq _ h' [] p _ .nil Du (fun q hq=>by cases hq) (by simp)) ?_ (hS:=.inr (Keeps.one (.head _) (Keeps.one (.tail _ (.head _)) Keeps.nil)))
   | refine Va (i:=5) (fun h' hE hL=>jq _ h' l p _ (hO.sl fun b o hb=>hL b o (.tail _ (.tail _ hb))) Du hl4 (by omega)) ?_ (hS:=.inr (Keeps.one (.head _) (Keeps.one (.tail _ (.head _)) Keeps.nil)))
   refine xq 6 (xU rfl rfl) rfl ?_
   refine az ?_
   refine aA ?_
   refine W.cond rfl (fun Ic=>?_) (fun Ic=>?_)
   ·refine W.Ap (n:=11) rfl ?_
    refine xq 0 (aN rfl rfl) rfl ?_
    refine xq 1 (aN rfl rfl) rfl ?_
    first | refine xq 2 (bg rfl rfl) rfl ?_ | refine xq 2 (aT rfl rfl) rfl ?_
    refine xq 3 (ay rfl rfl) rfl ?_
    refine xq 4 (iQ rfl rfl) rfl ?_
    first | refine xq 5 (Bf rfl rfl) rfl ?_ | refine xq 5 (zi rfl rfl) rfl ?_
    refine abl (i:=6) (cs:=uV p) (fun J5=>?_) rfl (hf:=by exact xO Du)
    first
    | refine ae (i:=7) rfl an rfl rfl (iW (row:=jZ) (l:=[]) (l':=[p]) rfl rfl rfl (Os.nil hO.shut) (.tail (.tail (.tail .all))) (fun h2 _ hl=>Sl.mk (hl J5 _ (.head _)) rfl (j_ Du)) (by simp) (by decide) rfl (fun v' S' Ie=>?_))
    | refine ae (i:=7) rfl an rfl rfl (iW (row:=jZ) (l':=[p]) rfl rfl rfl hO (.tail (.tail (.tail .all))) (fun h2 _ hl=>Sl.mk (hl J5 _ (.head _)) rfl (j_ Du)) (by simp;omega) (by decide) rfl (fun v' S' Ie=>?_))
    refine⟨.inr (fun q hq=>?_),?_⟩
    ·rcases List.mem_cons.1 hq with rfl | hq
     ·exact .tail _ (.head _)
     ·rcases List.mem_cons.1 hq with rfl | hq
      ·exact .tail _ (.tail _ (.head _))
      ·cases hq
    obtain⟨asl,csl,rfl⟩:=Ie.dA
    first | refine xq 8 (bg rfl rfl) rfl ?_ | refine xq 8 (aT rfl rfl) rfl ?_
    refine xq 9 (ay rfl rfl) rfl ?_
    refine ae (i:=10) rfl an rfl rfl (eS rfl rfl rfl ?_)
    refine⟨.inl (by kernel_rfl),?_⟩
    refine az ?_
    have hno:¬(l≠[]∧n<c):=by
     rintro⟨h1,h2⟩
     first | exact c19 h2 | exact h1 (List.length_eq_zero_iff.1 (by omega))
    refine mg (vs:=[]) ?_
    first
    | (
      have e:jQ (c,l) p n=(n,[p]):=by simp only[jQ];rw[if_neg hno,if_pos c25];simp
      rw[e]
      exact⟨_,S',Ie,.skip rfl (.skip rfl .refl)⟩)
    | (
      have e:jQ (c,l) p n=(n,l++[p]):=by simp only[jQ];rw[if_neg hno,if_neg c25,if_neg (by simpa using Ic)]
      rw[e]
      exact⟨_,S',Ie,.skip rfl (.skip rfl .refl)⟩)
   ·refine W.skip ?_
    first
    | (simp at Ic;done)
    | (
      have hno:¬(l≠[]∧n<c):=by
       rintro⟨h1,h2⟩
       first | exact c19 h2 | exact h1 (List.length_eq_zero_iff.1 (by omega))
      refine mg (vs:=[]) ?_
      have e:jQ (c,l) p n=(n,l):=by simp only[jQ];rw[if_neg hno,if_neg c25,if_pos (by simpa using Ic)]
      rw[e]
      exact⟨_,S,hO,.skip rfl .refl⟩)
  ·refine W.skip<|aA<|W.seq<|W.region rfl<|qm rfl rfl rfl<|qm rfl rfl rfl ?_
   refine ag4 rfl ?_
   refine agY rfl ?_
   refine Ops.yG ?_
   refine pq<|W.seq ?_
   refine W.Ap (n:=7) rfl ?_
   refine xq 0 (aN rfl rfl) rfl ?_
   first | refine xq 1 (bg rfl rfl) rfl ?_ | refine xq 1 (aT rfl rfl) rfl ?_
   refine xq 2 (ay rfl rfl) rfl ?_
   refine xq 3 (iQ rfl rfl) rfl ?_
   first | refine xq 4 (Bf rfl rfl) rfl ?_ | refine xq 4 (zi rfl rfl) rfl ?_
   first
   | refine Va (i:=5) (fun h' hE hL=>jq _ h' [] p _ .nil Du (fun q hq=>by cases hq) (by simp)) ?_ (hS:=.inr (Keeps.one (.head _) (Keeps.one (.tail _ (.head _)) Keeps.nil)))
   | refine Va (i:=5) (fun h' hE hL=>jq _ h' l p _ (hO.sl fun b o hb=>hL b o (.tail _ (.tail _ hb))) Du hl4 (by omega)) ?_ (hS:=.inr (Keeps.one (.head _) (Keeps.one (.tail _ (.head _)) Keeps.nil)))
   refine xq 6 (xU rfl rfl) rfl ?_
   refine az ?_
   refine aA ?_
   refine W.cond rfl (fun Ic=>?_) (fun Ic=>?_)
   ·refine W.Ap (n:=11) rfl ?_
    refine xq 0 (aN rfl rfl) rfl ?_
    refine xq 1 (aN rfl rfl) rfl ?_
    first | refine xq 2 (bg rfl rfl) rfl ?_ | refine xq 2 (aT rfl rfl) rfl ?_
    refine xq 3 (ay rfl rfl) rfl ?_
    refine xq 4 (iQ rfl rfl) rfl ?_
    first | refine xq 5 (Bf rfl rfl) rfl ?_ | refine xq 5 (zi rfl rfl) rfl ?_
    refine abl (i:=6) (cs:=uV p) (fun J5=>?_) rfl (hf:=by exact xO Du)
    first
    | refine ae (i:=7) rfl an rfl rfl (iW (row:=jZ) (l:=[]) (l':=[p]) rfl rfl rfl (Os.nil hO.shut) (.tail (.tail (.tail .all))) (fun h2 _ hl=>Sl.mk (hl J5 _ (.head _)) rfl (j_ Du)) (by simp) (by decide) rfl (fun v' S' Ie=>?_))
    | refine ae (i:=7) rfl an rfl rfl (iW (row:=jZ) (l':=[p]) rfl rfl rfl hO (.tail (.tail (.tail .all))) (fun h2 _ hl=>Sl.mk (hl J5 _ (.head _)) rfl (j_ Du)) (by simp;omega) (by decide) rfl (fun v' S' Ie=>?_))
    refine⟨.inr (fun q hq=>?_),?_⟩
    ·rcases List.mem_cons.1 hq with rfl | hq
     ·exact .tail _ (.head _)
     ·rcases List.mem_cons.1 hq with rfl | hq
      ·exact .tail _ (.tail _ (.head _))
      ·cases hq
    obtain⟨asl,csl,rfl⟩:=Ie.dA
    first | refine xq 8 (bg rfl rfl) rfl ?_ | refine xq 8 (aT rfl rfl) rfl ?_
    refine xq 9 (ay rfl rfl) rfl ?_
    refine ae (i:=10) rfl an rfl rfl (eS rfl rfl rfl ?_)
    refine⟨.inl (by kernel_rfl),?_⟩
    refine az ?_
    have hno:¬(l≠[]∧n<c):=by
     rintro⟨h1,h2⟩
     first | exact c19 h2 | exact h1 (List.length_eq_zero_iff.1 (by omega))
    refine mg (vs:=[]) ?_
    first
    | (
      have e:jQ (c,l) p n=(n,[p]):=by simp only[jQ];rw[if_neg hno,if_pos c25];simp
      rw[e]
      exact⟨_,S',Ie,.skip rfl (.skip rfl .refl)⟩)
    | (
      have e:jQ (c,l) p n=(n,l++[p]):=by simp only[jQ];rw[if_neg hno,if_neg c25,if_neg (by simpa using Ic)]
      rw[e]
      exact⟨_,S',Ie,.skip rfl (.skip rfl .refl)⟩)
   ·refine W.skip ?_
    first
    | (simp at Ic;done)
    | (
      have hno:¬(l≠[]∧n<c):=by
       rintro⟨h1,h2⟩
       first | exact c19 h2 | exact h1 (List.length_eq_zero_iff.1 (by omega))
      refine mg (vs:=[]) ?_
      have e:jQ (c,l) p n=(n,l):=by simp only[jQ];rw[if_neg hno,if_neg c25,if_pos (by simpa using Ic)]
      rw[e]
      exact⟨_,S,hO,.skip rfl .refl⟩)

theorem aaz(main:Side)(h:Hp)(ps:List Pn)(ls:List Lt)(rs:List Int)(vp vl vm:Value)(o:Option (Nat×List Value))(bl:Nat)(El:TypeId)(zl:Nat×Nat)(hok:iP ps)(hlo:Au ls)(hro:Aw ps.length rs)(hrm:RmV o ps.length vm)(hp:Sl h Pn.row vp ps)(hl:Sl h Lt.row vl ls)
  (hbl:h bl=some (.cells #[vp,U8 0,vl,vm] El zl)):dV prog main uf #[bI bl] h (Iu o rs) (fun v A=>∃u S,v= .agg #[I (CG ps ls rs).1,u]∧Os dw jZ u (CG ps ls rs).2 S∧Sb (S++Iu o rs) A):=by
 obtain⟨xs,hxs⟩:∃xs,yS ps ls rs=xs:=⟨_,rfl⟩
 have hxl:xs.length≤625:=hxs▸aax hlo.len
 have hx4:∀s∈xs,(kC s).length=4:=fun s hs=>Qw (by have:=Az (hxs▸hs);have:=hlo.len;omega)
 refine dV.aG CX rfl (by show 1≤14;decide) [(0,bI bl)] ⟨rfl,trivial⟩ ?_
 refine W.seq<|W.region rfl ?_
 refine Ops.box (fun β1=>?_)
 refine Ops.new (fun yR=>?_)
 refine pq<|W.seq<|W.region rfl ?_
 refine Ops.new (fun uU=>?_)
 refine pq<|W.seq<|W.seq<|W.region rfl ?_
 refine agX rfl ?_
 refine c0 (fun h' hE hL=>ab7 _ h' bl) (fun v A' hv=>?_)
 obtain⟨b1,rfl,rfl⟩:=hv
 refine pq<|W.block ?_
 refine W.perm (F':=([(uU,.cells #[I 0,.slice none 0 0] iJ (0,0))]++Iu o rs)++[(b1,.cells #[bI bl] fM (0,0)),(yR,.cells #[I 0,.slice none 0 0] iJ (0,0)),(β1,.cells #[bI bl] fM (0,0))]) ((List.perm_append_comm (l₂:=[_,_,_])).trans (.cons _ (List.perm_middle (l₁:=[_,_])))) ?_
 refine W.rangeS (Val:=ab6) (xs:=yS ps ls rs) (Iu o rs) rfl rfl rfl (fun k A=>∃u Sm,A=(uU,.cells #[I (wE (Ba ls) ((xs.map kC).take k)).1,u] iJ (0,0))::Sm∧Os dw jZ u (wE (Ba ls) ((xs.map kC).take k)).2 Sm) (fun _ _ _ _=>False) .head ⟨_,[],rfl,.nil .nil⟩
  (fun h' hE hL=>VK _ h' ps ls rs vp vl vm o bl b1 _ _ _ _ hok hlo hro hrm (hp.ext hE) (hl.ext hE) (hE.1 _ _ hbl) (hL b1 _ (.head _))) ?_ ?_
 ·rintro k p v S A1 hp ⟨rfl,rfl⟩ ⟨u,Sm,rfl,hO⟩ l h1 hE1 hL1 hS1
  rw[hxs]at hp
  have hpm:=List.mem_of_getElem? hp
  have Du:=hx4 p hpm
  have hpk:k<xs.length:=by
   rcases Nat.lt_or_ge k xs.length with h' | h'
   ·exact h'
   ·rw[List.getElem?_eq_none h']at hp;cases hp
  have hpx:(xs.map kC)[k]? =some (kC p):=by rw[List.getElem?_map,hp];rfl
  have hnx:=J4 (f:=Ba ls) hpx
  obtain⟨hs1,hs2⟩:=MC (f:=Ba ls) (xs:=xs.map kC) (k:=k) (by rw[List.length_map];omega)
  have hsz:(uV (kC p)).size=4:=by rw[qj,Du]
  have hon:ones (uV (kC p)).toList=true:=Qv
  refine W.region rfl ?_
  refine Ops.new (fun wC=>?_)
  first | refine Ops.jP ?_ | refine Ops.nY ?_
  refine Ops.nil ?_
  refine⟨rfl,rfl,fun h0 hE0 hL0=>?_⟩
  intro hS0
  have hb1:=hL0 β1 _ (.tail _ (.tail _ (.head _)))
  refine W.block ?_
  refine W.DR [(wC,.cells (uV (kC p)) dw (0,0))] (n:=5) rfl ?_
  first | refine xq 0 (Bf rfl rfl) rfl ?_ | refine xq 0 (zi rfl rfl) rfl ?_
  refine xq 1 (iQ rfl rfl) rfl ?_
  first | refine xq 2 (Bf rfl rfl) rfl ?_ | refine xq 2 (zi rfl rfl) rfl ?_
  refine Va (i:=3) (fun h' hE hL=>VL _ h' ls (kC p) vp vl vm bl _ _ hlo Du (hl.ext (hE0.trans hE)) ((hE0.trans hE).1 _ _ hbl)) ?_ (hS:=.inr (Keeps.one (.head _) Keeps.nil))
  refine ae (i:=4) rfl an rfl rfl (QZ (args:=[_,_,_]) rfl rfl (.tail .all) (fun h' hE hL=>aay _ h' uU _ (Ba ls (kC p)) u _ (kC p) Sm hO (by omega) Du (fun q hq=>by obtain⟨s,hs,rfl⟩:=List.mem_map.1 (hs2 q hq);exact hx4 s hs)) (fun v A2 hv=>?_))
  refine⟨.inl (by kernel_rfl),?_⟩
  obtain⟨v',S',Ie,hsb⟩:=hv
  refine Any.sb (.cons hsb) ?_
  refine az ?_
  refine dI ?_
  exact⟨rfl,.inl ⟨rfl,_,⟨v',S',rfl,by rw[hnx];exact Ie⟩,by rw[hnx];exact .skip rfl .refl⟩⟩
 ·rintro e2 A2 h2 d
  have h3:e2= .normal∧∃u Sm,A2=(uU,.cells #[I (CG ps ls rs).1,u] iJ (0,0))::Sm∧Os dw jZ u (CG ps ls rs).2 Sm:=by
   rcases h2 with⟨rfl,u,Sm,rfl,hO⟩ | ⟨_,_,_,_,_,_,_,hX,_⟩
   ·have e:(wE (Ba ls) ((xs.map kC).take (yS ps ls rs).length))=CG ps ls rs:=by
     rw[hxs,List.take_of_length_le (by simp),CG,hxs]
    rw[e]at hO⊢
    exact⟨rfl,u,Sm,rfl,hO⟩
   ·exact hX.elim
  obtain⟨rfl,u,Sm,rfl,hO⟩:=h3
  obtain⟨ua,uc,rfl⟩:=hO.dA
  refine dI<|aA<|W.seq ?_
  refine W.sb (F':=(d,.deferred (some []))::(uU,.cells #[I (CG ps ls rs).1,.slice ua (CG ps ls rs).2.length uc] iJ (0,0))::([(b1,.cells #[bI bl] fM (0,0)),(yR,.cells #[I 0,.slice none 0 0] iJ (0,0)),(β1,.cells #[bI bl] fM (0,0))]++(Sm++Iu o rs))) (.cons (.cons (.dF List.perm_append_comm.symm))) ?_
  refine W.region rfl ?_
  refine ag2 rfl ?_
  first | refine Ops.jP ?_ | refine Ops.nY ?_
  refine pq<|W.ret ?_
  refine lvm (hl:=At.head) (QJ (hv:=D_ zJ) ⟨_,Sm,rfl,hO,?_⟩)
  exact .skip rfl (.skip rfl (.skip rfl (.skip rfl (.skip rfl .refl))))
end Go.aS

/- Sharing out. Conditions: none; over the given program. -/
namespace Go.aS
set_option maxRecDepth 100000
set_option maxHeartbeats 4000000
def AA(ps:List Pn)(ls:List Lt)(rs:List Int):List Int×Int×Int:=
 if ji ps ls rs≠0 then([],0,ji ps ls rs)else((oZ ps ls rs).2.headD [],(oZ ps ls rs).1,0)
theorem aaA{ps:List Pn}{ls:List Lt}{rs:List Int}(h:ji ps ls rs=0):iP ps∧Au ls∧Aw ps.length rs:=by
 unfold ji at h
 split at h
 ·rename_i h1;exact absurd h h1
 split at h
 ·rename_i h1;exact absurd h h1
 ·rename_i h1 h2
  exact⟨iP.yB (by simpa using h1),Au.yB (by simpa using h2),Aw.yB h⟩
theorem VN{ps:List Pn}{ls:List Lt}{rs:List Int}:(oZ ps ls rs).2≠[]:=(EU qX:lY (Ba ls) (yS ps ls rs) (oZ ps ls rs)).ne Ou
theorem SN{ps:List Pn}{ls:List Lt}{rs s:List Int}(h:s∈(oZ ps ls rs).2):s∈yS ps ls rs:=by
 have e:(oZ ps ls rs).2=(yS ps ls rs).filter fun x=>decide (Ba ls x=(oZ ps ls rs).1):=(EU qX:lY (Ba ls) (yS ps ls rs) (oZ ps ls rs)).eq
 rw[e]at h
 exact(List.mem_filter.1 h).1
theorem VO{p:List Int}(h:p.length=4):jZ p=p.map fun n=>I n:=by
 obtain⟨a,b,c,d,rfl⟩:=list4 h
 rfl
theorem YK(main:Side)(h:Hp)(ps:List Pn)(ls:List Lt)(rs:List Int)(vp vl vr:Value)(hp:Sl h Pn.row vp ps)(hl:Sl h Lt.row vl ls)(hr:Sl h fH vr rs):dV prog main Cb #[vp,vl,vr] h [] (fun v A=>∃l S,v= .tuple #[l,I (AA ps ls rs).2.1,I (AA ps ls rs).2.2]∧Os dL fH l (AA ps ls rs).1 S∧Sb S A):=by
 obtain⟨a,cap,rfl⟩:=hp.dA
 obtain⟨a2,cap2,rfl⟩:=hl.dA
 obtain⟨a3,cap3,rfl⟩:=hr.dA
 refine dV.aG Jz rfl (by show 3≤33;decide) [(0,.slice a ps.length cap),(1,.slice a2 ls.length cap2),(2,.slice a3 rs.length cap3)] ⟨rfl,rfl,rfl,trivial⟩ ?_
 refine W.seq<|W.region rfl<|agb rfl rfl rfl<|agb rfl rfl rfl<|agb rfl rfl rfl<|pq<|W.seq<|W.region rfl<|qm rfl rfl rfl ?_
 refine qm rfl rfl rfl<|qm rfl rfl rfl ?_
 refine c0 (fun h' hE hL=>VD _ h' ps ls rs _ _ _ (hp.ext hE) (hl.ext hE) (hr.ext hE)) (fun v A' hv=>?_)
 have hv2:∃pv,v= .tuple #[pv,I (ji ps ls rs)]∧(ji ps ls rs≠0→Shut A')∧(ji ps ls rs=0→∃bl R vm,pv=bI bl∧Os dL fH vm rs R∧Sb ((bl,.cells #[.slice a ps.length cap,U8 0,.slice a2 ls.length cap2,vm] xE (0,0))::R) A'):=by
  rcases hv with⟨h1,rfl,h2⟩ | ⟨h1,bl,R,vm,rfl,hR,hsb⟩
  ·exact⟨_,rfl,fun _=>h2,fun h=>absurd h h1⟩
  ·exact⟨_,by rw[h1],fun h=>absurd h1 h,fun _=>⟨bl,R,vm,rfl,hR,hsb⟩⟩
 obtain⟨pv,rfl,hv3,hv4⟩:=hv2
 clear hv
 refine qm rfl rfl rfl<|oq (bD rfl rfl rfl) rfl wn rfl rfl<|oq (bD rfl rfl rfl) rfl wn rfl rfl<|agb rfl rfl rfl<|agb rfl rfl rfl<|pq<|W.seq<|W.seq<|W.region rfl ?_
 refine qm rfl rfl rfl ?_
 refine agW (nG rfl rfl rfl) rfl ?_
 refine pq ?_
 refine W.bC rfl (fun c20=>?_) (fun c20=>?_)
 ·refine W.seq<|W.region rfl<|qm rfl rfl rfl<|agb rfl rfl rfl<|agb rfl rfl rfl<|agb rfl rfl rfl<|pq<|W.ret<|aY ?_
  have e:AA ps ls rs=([],0,ji ps ls rs):=by rw[AA,if_pos c20]
  rw[e]
  exact mg (vs:=[_,_,_]) ⟨_,[],rfl,.nil .nil,.nil (by simpa using hv3 c20)⟩
 ·have h0:ji ps ls rs=0:=by simpa using c20
  obtain⟨hok,hlo,hro⟩:=aaA h0
  obtain⟨bl,R,vm,rfl,hR,hsb⟩:=hv4 h0
  obtain⟨o,hrm,Oh⟩:=aau hR
  rw[hro.len]at hrm
  have hl4:=hlo.len
  refine W.sb (F':=(bl,.cells #[.slice a ps.length cap,U8 0,.slice a2 ls.length cap2,vm] xE (0,0))::Iu o rs) (by simpa using(Sb.cons Oh).trans hsb) ?_
  refine W.skip<|aA<|W.seq<|W.region rfl<|qm rfl rfl rfl ?_
  refine cg (.tail .all) (fun h' hE hL=>aaz _ h' ps ls rs _ _ vm o bl _ _ hok hlo hro hrm (hp.ext hE) (hl.ext hE) (hL bl _ (.head _))) (fun v A1 hv=>?_)
  obtain⟨u,S,rfl,hO,afy⟩:=hv
  rw[YG]at hO⊢
  simp only at hO
  obtain⟨s0,rest,hs0⟩:=List.exists_cons_of_ne_nil (VN (ps:=ps) (ls:=ls) (rs:=rs))
  have afz:s0.length=ls.length:=Az (SN (by rw[hs0];exact List.mem_cons_self ..))
  have hp0:(kC s0).length=4:=Qw (by omega)
  rw[hs0,List.map_cons]at hO
  rcases hO with⟨h9,-⟩ | ⟨βu,c,cp,Ju,rfl,rfl,hc1,hc2,hpt,hJu⟩
  ·cases h9
  refine Ops.sb (F':=(βu,.cells c dw (0,0))::[]) (.skip rfl (Sb.trans (.cons (.nil (hJu.app (by unfold Iu;split;exact .nil;exact .cons rfl .nil)))) afy)) ?_
  have hfl:flat jZ (kC s0::rest.map kC)=[]++(flat fH s0++(((List.replicate (4-s0.length) 0).map fun n=>I n)++flat jZ (rest.map kC))):=by
   rw[iV,VO hp0,YE,kC,List.map_append,List.nil_append,List.append_assoc]
  have Gj:Part c 0 (flat fH s0):=by
   rw[hfl]at hpt
   exact hpt.sub
  refine Ops.new (fun KY=>?_)
  first | refine Ops.jP ?_ | refine Ops.nY ?_
  refine pq<|W.seq ?_
  refine W.rE (n:=12) rfl ?_
  refine xq 0 (ay rfl rfl) rfl ?_
  refine xq 1 (iQ rfl rfl) rfl ?_
  refine xq 2 (o_ rfl rfl rfl (by omega) (by simp only[List.length_cons];omega)) rfl ?_
  refine xq 3 (aN rfl rfl) rfl ?_
  refine xq 4 (dM rfl rfl) rfl ?_
  refine xq 5 (NJ rfl rfl rfl hl4) rfl ?_
  refine xq 7 (ay rfl rfl) rfl ?_
  refine xq 8 (iQ rfl rfl) rfl ?_
  refine ae (i:=6) rfl an rfl rfl (lQ (args:=[_]) rfl rfl (fun h' hE hL=>Gh _ h' s0 _ (Sl.mk (hL βu _ (.tail _ (.head _))) afz.symm Gj) (by omega)) (fun v A' hv=>?_))
  refine⟨.inr (Keeps.app Keeps.refl),?_⟩
  obtain⟨S2,hS2,afA⟩:=hv
  refine xq 9 (jS rfl rfl) rfl ?_
  refine xq 10 (jS rfl rfl) rfl ?_
  refine xq 11 (jS rfl rfl) rfl ?_
  refine az ?_
  refine aA<|W.ret ?_
  have e:AA ps ls rs=(s0,(oZ ps ls rs).1,0):=by rw[AA,if_neg (by simpa using h0),hs0];rfl
  rw[e]
  exact mg (vs:=[_,_,_]) ⟨_,S2,rfl,hS2,.right afA (.cons rfl (.cons rfl .nil))⟩
end Go.aS

/- Numbers out of a hat. Conditions: none; over the given program. -/
namespace Go.aS
set_option maxRecDepth 100000
set_option maxHeartbeats 4000000
abbrev wF(lv:Value)(k:Nat)(s:Int):Obj:=.cells #[lv,I k,.int .u64 s] adi (0,0)

end Go.aS

/- Floors, strikes and plants out of a hat. Conditions: none; over the given program. -/
namespace Go.aS
set_option maxRecDepth 100000
set_option maxHeartbeats 4000000
end Go.aS

/- Pans, lots and room out of a hat. Conditions: none; over the given program. -/
namespace Go.aS
set_option maxRecDepth 100000
set_option maxHeartbeats 4000000
end Go.aS

/- Pans, lots and room out of a hat: how many one likes. Conditions: none; over the given program. -/
namespace Go.aS
set_option maxRecDepth 100000
set_option maxHeartbeats 4000000
theorem G7{α:Type}{row:α→List Value}{w:Nat}[rw':Rw row w]{j:Nat}{v:Value}{p p':α}(hj:j<w)(hr:row p'=(row p).set j v):∀{l:List α} {i:Nat},l[i]? =some p→(flat row l).set (i*w+j) v=flat row (l.set i p')
 | [],i,h=>by cases h
 | q::l,0,h=>by
  obtain rfl:q=p:=by simpa using h
  have hl:(row q).length=w:=Rw.len q
  rw[iV,List.set_cons_zero,iV,hr,Nat.zero_mul,Nat.zero_add,List.set_append_left _ _ (by rw[hl];exact hj)]
 | q::l,i+1,h=>by
  have hl:(row q).length=w:=Rw.len q
  have ih:=G7 (rw':=rw') hj hr (l:=l) (i:=i) h
  rw[iV,List.set_cons_succ,iV,←ih,List.set_append_right _ _ (by rw[hl,Nat.succ_mul];omega)]
  congr 2
  rw[hl,Nat.succ_mul];omega
theorem VR{α:Type}{row:α→List Value}{w:Nat}[Rw row w]{l:List α}:(flat row l).length=l.length*w:=jT ..
theorem Part.setRow{α:Type}{row:α→List Value}{w:Nat}[Rw row w]{c:Array Value}{l:List α}{i j:Nat}{v:Value}{p p':α}(h:Part c 0 (flat row l))(hi:l[i]? =some p)(hj:j<w)(hr:row p'=(row p).set j v):Part (c.setIfInBounds (i*w+j) v) 0 (flat row (l.set i p')):=by
 obtain⟨pre,post,h1,h2⟩:=h
 obtain rfl:=List.length_eq_zero_iff.1 h2
 refine⟨[],post,?_,rfl⟩
 have hil:i<l.length:=by
  rcases Nat.lt_or_ge i l.length with h' | h'
  ·exact h'
  ·rw[List.getElem?_eq_none h']at hi;cases hi
 rw[Array.toList_setIfInBounds,h1,List.nil_append,List.nil_append,←G7 hj hr hi,List.set_append_left]
 rw[VR]
 have:(i+1)*w≤l.length*w:=Nat.mul_le_mul_right _ hil
 rw[Nat.succ_mul]at this
 omega

end Go.aS
